import Derived.Test.YtmfolppncelceaaGreatDoorETG4
import Derived.Test.YtmfolppncelceaaGreatDoorEL7
import Derived.Test.YtmfolppncelceaaGreatDoorRows
import Derived.Test.YtmfolppncelceaaGreatDoorEBn
import Derived.Test.YtmfolppncelceaaGreatDoorERibNat
set_option linter.unusedVariables false
set_option linter.unusedSimpArgs false
namespace Go.Proofs.YtmfolppncelceaaGreatDoor
open Go Go.Av Go.Ev
theorem Nm:OkE Tryz.prog mc (.nat EB):=zdx Tryz.strconv_Itoa
theorem Iq:OkE Tryz.prog iD (.nat z6):=E9
theorem PC:OkE Tryz.prog oj (.nat tH):=Lo
theorem uQ:OkE Tryz.prog ky (.nat EA):=su
theorem Br:OkE Tryz.prog qG (.nat Ez):=zg
theorem OQ:Entry Tryz.prog 8 ye:=bO Tryz.func8 (by kernel_rfl)
theorem UQ:Entry Tryz.prog 23 Ks:=bO Tryz.func23 (by kernel_rfl)
theorem MC:Entry Tryz.prog 42 wl:=bO Tryz.func42 (by kernel_rfl)
theorem K8:Entry Tryz.prog 95 uB:=bO Tryz.func95 (by kernel_rfl)
theorem MB:Entry Tryz.prog 73 qS:=bO Tryz.func73 (by kernel_rfl)
theorem EQ:Entry Tryz.prog 44 nG:=bO Tryz.func44 (by kernel_rfl)
theorem R2:Entry Tryz.prog 157 AS:=bO Tryz.func157 (by kernel_rfl)
theorem UP:Entry Tryz.prog 122 Dz:=bO Tryz.func122 (by kernel_rfl)
theorem UO:Entry Tryz.prog 96 Dy:=bO Tryz.func96 (by kernel_rfl)
theorem MD:Entry Tryz.prog 74 wm:=bO Tryz.func74 (by kernel_rfl)
theorem OR:Entry Tryz.prog 48 yf:=bO Tryz.func48 (by kernel_rfl)
theorem Cj:Entry Tryz.prog 47 lc:=bO Tryz.func47 (by kernel_rfl)
theorem H0:Entry Tryz.prog 46 qR:=bO Tryz.func46 (by kernel_rfl)
theorem ER:Entry Tryz.prog 45 nH:=bO Tryz.func45 (by kernel_rfl)
theorem HZ:Entry Tryz.prog 43 qQ:=bO Tryz.func43 (by kernel_rfl)
theorem ES:Entry Tryz.prog 49 nI:=bO Tryz.func49 (by kernel_rfl)
theorem Cr:Entry Tryz.prog 98 ly:=bO Tryz.func98 (by kernel_rfl)
theorem HX:Entry Tryz.prog 212 qO:=bO Tryz.func212 (by kernel_rfl)
theorem Mz:Entry Tryz.prog 202 wj:=bO Tryz.func202 (by kernel_rfl)
theorem zO:Entry Tryz.prog 183 jy:=bO Tryz.func183 (by kernel_rfl)
theorem ya:Entry Tryz.prog 184 iQ:=bO Tryz.func184 (by kernel_rfl)
theorem AN:Entry Tryz.prog 158 kd:=bO Tryz.func158 (by kernel_rfl)
theorem AO:Entry Tryz.prog 123 ke:=bO Tryz.func123 (by kernel_rfl)
theorem we:Entry Tryz.prog 97 gM:=bO Tryz.func97 (by kernel_rfl)
theorem r6:Entry Tryz.prog 76 eC:=bO Tryz.func76 (by kernel_rfl)
theorem Sg:Entry Tryz.prog 185 Bb:=bO Tryz.func185 (by kernel_rfl)
theorem Si:Entry Tryz.prog 159 Bc:=bO Tryz.func159 (by kernel_rfl)
theorem H6:Entry Tryz.prog 124 qY:=bO Tryz.func124 (by kernel_rfl)
theorem Po:Entry Tryz.prog 99 yW:=bO Tryz.func99 (by kernel_rfl)
theorem K6:Entry Tryz.prog 125 uz:=bO Tryz.func125 (by kernel_rfl)
theorem Li:Entry Tryz.prog 187 uL:=bO Tryz.func187 (by kernel_rfl)
theorem Lj:Entry Tryz.prog 161 uM:=bO Tryz.func161 (by kernel_rfl)
theorem Pt:Entry Tryz.prog 126 y6:=bO Tryz.func126 (by kernel_rfl)
theorem Sj:Entry Tryz.prog 100 Bd:=bO Tryz.func100 (by kernel_rfl)
theorem Pr:Entry Tryz.prog 77 yZ:=bO Tryz.func77 (by kernel_rfl)
set_option maxRecDepth 8000 in
theorem Pq:EntryD Tryz.prog 52 yY:=⟨⟨Tryz.f52,_,_,_,_,_,_,_,_,_,_,_,Tryz.func52,by kernel_rfl,rfl,by kernel_rfl,by kernel_rfl,⟨⟨Tryz.f75,_,_,_,_,_,_,_,Tryz.func75,by kernel_rfl,by kernel_rfl,rfl,⟨#[],by kernel_rfl⟩,by kernel_rfl⟩⟩,by kernel_rfl,by kernel_rfl⟩,by kernel_rfl⟩
theorem Ck:Entry Tryz.prog 51 lf:=bO Tryz.func51 (by kernel_rfl)
theorem Ds:Entry Tryz.prog 46 mw:=bO Tryz.func46 (by kernel_rfl)
theorem ET:Entry Tryz.prog 50 nJ:=bO Tryz.func50 (by kernel_rfl)
theorem Dp:Entry Tryz.prog 43 mq:=bO Tryz.func43 (by kernel_rfl)
theorem EU:Entry Tryz.prog 53 nK:=bO Tryz.func53 (by kernel_rfl)
theorem K9:Entry Tryz.prog 78 uC:=bO Tryz.func78 (by kernel_rfl)
theorem AG:Entry Tryz.prog 56 j5:=bO Tryz.func56 (by kernel_rfl)
theorem Cl:Entry Tryz.prog 55 lg:=bO Tryz.func55 (by kernel_rfl)
theorem Dt:Entry Tryz.prog 46 my:=bO Tryz.func46 (by kernel_rfl)
theorem EV:Entry Tryz.prog 54 nL:=bO Tryz.func54 (by kernel_rfl)
theorem Dq:Entry Tryz.prog 43 mr:=bO Tryz.func43 (by kernel_rfl)
theorem EW:Entry Tryz.prog 57 nM:=bO Tryz.func57 (by kernel_rfl)
theorem HY:Entry Tryz.prog 127 qP:=bO Tryz.func127 (by kernel_rfl)
theorem EX:Entry Tryz.prog 101 nN:=bO Tryz.func101 (by kernel_rfl)
theorem Dn:Entry Tryz.prog 102 mn:=bO Tryz.func102 (by kernel_rfl)
theorem Gv:Entry Tryz.prog 79 pu:=bO Tryz.func79 (by kernel_rfl)
theorem Do:Entry Tryz.prog 59 mo:=bO Tryz.func59 (by kernel_rfl)
theorem Dm:Entry Tryz.prog 58 mj:=bO Tryz.func58 (by kernel_rfl)
theorem Dr:Entry Tryz.prog 43 mu:=bO Tryz.func43 (by kernel_rfl)
theorem MA:Entry Tryz.prog 24 wk:=bO Tryz.func24 (by kernel_rfl)
theorem OT:Entry Tryz.prog 60 yh:=bO Tryz.func60 (by kernel_rfl)
theorem Gx:Entry Tryz.prog 25 px:=bO Tryz.func25 (by kernel_rfl)
theorem ME:Entry Tryz.prog 10 wn:=bO Tryz.func10 (by kernel_rfl)
theorem Pv:Entry Tryz.prog 145 y7:=bO Tryz.func145 (by kernel_rfl)
theorem Jo:Entry Tryz.prog 114 sn:=bO Tryz.func114 (by kernel_rfl)
theorem U0:Entry Tryz.prog 88 DR:=bO Tryz.func88 (by kernel_rfl)
theorem OU:Entry Tryz.prog 68 yi:=bO Tryz.func68 (by kernel_rfl)
theorem Jg:Entry Tryz.prog 13 sb:=bO Tryz.func13 (by kernel_rfl)
theorem HV:Entry Tryz.prog 135 qM:=bO Tryz.func135 (by kernel_rfl)
theorem OM:Entry Tryz.prog 111 yb:=bO Tryz.func111 (by kernel_rfl)
theorem K4:Entry Tryz.prog 86 uw:=bO Tryz.func86 (by kernel_rfl)
theorem Gu:Entry Tryz.prog 112 pp:=bO Tryz.func112 (by kernel_rfl)
theorem UR:Entry Tryz.prog 170 DC:=bO Tryz.func170 (by kernel_rfl)
theorem H1:Entry Tryz.prog 140 qT:=bO Tryz.func140 (by kernel_rfl)
theorem La:Entry Tryz.prog 189 uD:=bO Tryz.func189 (by kernel_rfl)
theorem OS:Entry Tryz.prog 167 yg:=bO Tryz.func167 (by kernel_rfl)
theorem K7:Entry Tryz.prog 137 uA:=bO Tryz.func137 (by kernel_rfl)
theorem Sk:Entry Tryz.prog 190 Be:=bO Tryz.func190 (by kernel_rfl)
theorem Ps:Entry Tryz.prog 191 y5:=bO Tryz.func191 (by kernel_rfl)
theorem AP:Entry Tryz.prog 205 kf:=bO Tryz.func205 (by kernel_rfl)
theorem zP:Entry Tryz.prog 206 jz:=bO Tryz.func206 (by kernel_rfl)
theorem Sf:Entry Tryz.prog 207 Ba:=bO Tryz.func207 (by kernel_rfl)
theorem AQ:Entry Tryz.prog 192 kg:=bO Tryz.func192 (by kernel_rfl)
theorem Pp:Entry Tryz.prog 168 yX:=bO Tryz.func168 (by kernel_rfl)
theorem OO:Entry Tryz.prog 138 yd:=bO Tryz.func138 (by kernel_rfl)
theorem HW:Entry Tryz.prog 169 qN:=bO Tryz.func169 (by kernel_rfl)
theorem EP:Entry Tryz.prog 139 nF:=bO Tryz.func139 (by kernel_rfl)
theorem x9:Entry Tryz.prog 136 iP:=bO Tryz.func136 (by kernel_rfl)
theorem zL:Entry Tryz.prog 141 ju:=bO Tryz.func141 (by kernel_rfl)
theorem HU:Entry Tryz.prog 142 qK:=bO Tryz.func142 (by kernel_rfl)
theorem ON:Entry Tryz.prog 143 yc:=bO Tryz.func143 (by kernel_rfl)
theorem wV:Entry Tryz.prog 195 gZ:=bO Tryz.func195 (by kernel_rfl)
theorem wW:Entry Tryz.prog 193 g8:=bO Tryz.func193 (by kernel_rfl)
theorem AF:Entry Tryz.prog 194 j4:=bO Tryz.func194 (by kernel_rfl)
theorem K5:Entry Tryz.prog 171 uy:=bO Tryz.func171 (by kernel_rfl)
theorem Jf:Entry Tryz.prog 172 r9:=bO Tryz.func172 (by kernel_rfl)
theorem My:Entry Tryz.prog 144 wi:=bO Tryz.func144 (by kernel_rfl)
theorem UM:Entry Tryz.prog 113 Dw:=bO Tryz.func113 (by kernel_rfl)
theorem Je:Entry Tryz.prog 87 r8:=bO Tryz.func87 (by kernel_rfl)
theorem UN:Entry Tryz.prog 67 Dx:=bO Tryz.func67 (by kernel_rfl)
theorem AI:Entry Tryz.prog 66 j7:=bO Tryz.func66 (by kernel_rfl)
theorem Ji:Entry Tryz.prog 32 sd:=bO Tryz.func32 (by kernel_rfl)
theorem Cn:Entry Tryz.prog 33 lh:=bO Tryz.func33 (by kernel_rfl)
theorem AH:Entry Tryz.prog 34 j6:=bO Tryz.func34 (by kernel_rfl)
theorem Gw:Entry Tryz.prog 15 pw:=bO Tryz.func15 (by kernel_rfl)
theorem MF:Entry Tryz.prog 37 DD:=bO Tryz.func37 (by kernel_rfl)
theorem Jh:Entry Tryz.prog 18 zU:=bO Tryz.func18 (by kernel_rfl)
theorem Co:Entry Tryz.prog 17 lm:=bO Tryz.func17 (by kernel_rfl)
theorem OP:Entry Tryz.prog 9 s6:=bO Tryz.func9 (by kernel_rfl)
theorem R8:Entry Tryz.prog 83 AZ:=bO Tryz.func83 (by kernel_rfl)
theorem ML:Entry Tryz.prog 64 wv:=bO Tryz.func64 (by kernel_rfl)
theorem US:Entry Tryz.prog 162 DF:=bO Tryz.func162 (by kernel_rfl)
theorem Xu:Entry Tryz.prog 163 GB:=bO Tryz.func163 (by kernel_rfl)
theorem R3:Entry Tryz.prog 128 AT:=bO Tryz.func128 (by kernel_rfl)
theorem OV:Entry Tryz.prog 103 yj:=bO Tryz.func103 (by kernel_rfl)
theorem O5:Entry Tryz.prog 80 yq:=bO Tryz.func80 (by kernel_rfl)
theorem Jn:Entry Tryz.prog 61 sj:=bO Tryz.func61 (by kernel_rfl)
theorem AL:Entry Tryz.prog 130 ka:=bO Tryz.func130 (by kernel_rfl)
theorem zN:Entry Tryz.prog 204 jx:=bO Tryz.func204 (by kernel_rfl)
theorem AJ:Entry Tryz.prog 188 j8:=bO Tryz.func188 (by kernel_rfl)
theorem AK:Entry Tryz.prog 164 j9:=bO Tryz.func164 (by kernel_rfl)
theorem Cq:Entry Tryz.prog 129 lx:=bO Tryz.func129 (by kernel_rfl)
theorem Cp:Entry Tryz.prog 104 lu:=bO Tryz.func104 (by kernel_rfl)
theorem MI:Entry Tryz.prog 165 ws:=bO Tryz.func165 (by kernel_rfl)
theorem OZ:Entry Tryz.prog 131 yn:=bO Tryz.func131 (by kernel_rfl)
theorem OW:Entry Tryz.prog 105 yk:=bO Tryz.func105 (by kernel_rfl)
theorem Jl:Entry Tryz.prog 132 sg:=bO Tryz.func132 (by kernel_rfl)
theorem MH:Entry Tryz.prog 166 wq:=bO Tryz.func166 (by kernel_rfl)
theorem Lc:Entry Tryz.prog 133 uF:=bO Tryz.func133 (by kernel_rfl)
theorem MJ:Entry Tryz.prog 134 wt:=bO Tryz.func134 (by kernel_rfl)
theorem Ld:Entry Tryz.prog 106 uG:=bO Tryz.func106 (by kernel_rfl)
theorem OY:Entry Tryz.prog 81 ym:=bO Tryz.func81 (by kernel_rfl)
theorem Pd:Entry Tryz.prog 62 yx:=bO Tryz.func62 (by kernel_rfl)
theorem H3:Entry Tryz.prog 82 qV:=bO Tryz.func82 (by kernel_rfl)
theorem EZ:Entry Tryz.prog 63 nP:=bO Tryz.func63 (by kernel_rfl)
theorem R7:Entry Tryz.prog 107 AY:=bO Tryz.func107 (by kernel_rfl)
theorem Jm:Entry Tryz.prog 108 si:=bO Tryz.func108 (by kernel_rfl)
theorem O9:Entry Tryz.prog 109 yw:=bO Tryz.func109 (by kernel_rfl)
theorem EY:Entry Tryz.prog 110 nO:=bO Tryz.func110 (by kernel_rfl)
theorem O8:Entry Tryz.prog 84 yu:=bO Tryz.func84 (by kernel_rfl)
theorem MK:Entry Tryz.prog 85 wu:=bO Tryz.func85 (by kernel_rfl)
theorem R9:Entry Tryz.prog 65 A4:=bO Tryz.func65 (by kernel_rfl)
theorem O7:Entry Tryz.prog 26 yt:=bO Tryz.func26 (by kernel_rfl)
theorem H5:Entry Tryz.prog 27 qX:=bO Tryz.func27 (by kernel_rfl)
theorem MO:Entry Tryz.prog 28 wy:=bO Tryz.func28 (by kernel_rfl)
theorem R6:Entry Tryz.prog 29 AX:=bO Tryz.func29 (by kernel_rfl)
theorem Pm:Entry Tryz.prog 11 yU:=bO Tryz.func11 (by kernel_rfl)
theorem Lg:Entry Tryz.prog 14 uJ:=bO Tryz.func14 (by kernel_rfl)
theorem Pk:Entry Tryz.prog 120 yQ:=bO Tryz.func120 (by kernel_rfl)
theorem Sc:Entry Tryz.prog 156 A7:=bO Tryz.func156 (by kernel_rfl)
theorem Se:Entry Tryz.prog 121 A9:=bO Tryz.func121 (by kernel_rfl)
theorem Pj:Entry Tryz.prog 92 yJ:=bO Tryz.func92 (by kernel_rfl)
theorem UZ:Entry Tryz.prog 93 DO:=bO Tryz.func93 (by kernel_rfl)
theorem Lb:Entry Tryz.prog 41 uE:=bO Tryz.func41 (by kernel_rfl)
theorem MN:Entry Tryz.prog 94 wx:=bO Tryz.func94 (by kernel_rfl)
theorem Pi:Entry Tryz.prog 72 yI:=bO Tryz.func72 (by kernel_rfl)
theorem MM:Entry Tryz.prog 40 ww:=bO Tryz.func40 (by kernel_rfl)
theorem Sd:Entry Tryz.prog 21 A8:=bO Tryz.func21 (by kernel_rfl)
theorem O3:Entry Tryz.prog 151 yo:=bO Tryz.func151 (by kernel_rfl)
theorem Sb:Entry Tryz.prog 152 A6:=bO Tryz.func152 (by kernel_rfl)
theorem Pe:Entry Tryz.prog 116 yy:=bO Tryz.func116 (by kernel_rfl)
theorem Ph:Entry Tryz.prog 89 yE:=bO Tryz.func89 (by kernel_rfl)
theorem R4:Entry Tryz.prog 201 AU:=bO Tryz.func201 (by kernel_rfl)
theorem Jj:Entry Tryz.prog 180 se:=bO Tryz.func180 (by kernel_rfl)
theorem MG:Entry Tryz.prog 208 wo:=bO Tryz.func208 (by kernel_rfl)
theorem O6:Entry Tryz.prog 198 yr:=bO Tryz.func198 (by kernel_rfl)
theorem Lf:Entry Tryz.prog 177 uI:=bO Tryz.func177 (by kernel_rfl)
theorem Gy:Entry Tryz.prog 209 py:=bO Tryz.func209 (by kernel_rfl)
theorem Jk:Entry Tryz.prog 210 sf:=bO Tryz.func210 (by kernel_rfl)
theorem OX:Entry Tryz.prog 199 yl:=bO Tryz.func199 (by kernel_rfl)
theorem E0:Entry Tryz.prog 178 nQ:=bO Tryz.func178 (by kernel_rfl)
theorem O4:Entry Tryz.prog 200 yp:=bO Tryz.func200 (by kernel_rfl)
theorem Le:Entry Tryz.prog 179 uH:=bO Tryz.func179 (by kernel_rfl)
theorem UW:Entry Tryz.prog 153 DK:=bO Tryz.func153 (by kernel_rfl)
theorem Sa:Entry Tryz.prog 117 A5:=bO Tryz.func117 (by kernel_rfl)
theorem Pg:Entry Tryz.prog 90 yB:=bO Tryz.func90 (by kernel_rfl)
theorem Pf:Entry Tryz.prog 118 yz:=bO Tryz.func118 (by kernel_rfl)
theorem AM:Entry Tryz.prog 181 kb:=bO Tryz.func181 (by kernel_rfl)
theorem UU:Entry Tryz.prog 182 DI:=bO Tryz.func182 (by kernel_rfl)
theorem H2:Entry Tryz.prog 181 qU:=bO Tryz.func181 (by kernel_rfl)
theorem UT:Entry Tryz.prog 154 DG:=bO Tryz.func154 (by kernel_rfl)
theorem R5:Entry Tryz.prog 155 AW:=bO Tryz.func155 (by kernel_rfl)
theorem UY:Entry Tryz.prog 119 DN:=bO Tryz.func119 (by kernel_rfl)
theorem UV:Entry Tryz.prog 91 DJ:=bO Tryz.func91 (by kernel_rfl)
theorem UX:Entry Tryz.prog 69 DL:=bO Tryz.func69 (by kernel_rfl)
theorem Pn:Entry Tryz.prog 35 yV:=bO Tryz.func35 (by kernel_rfl)
theorem Lh:Entry Tryz.prog 36 uK:=bO Tryz.func36 (by kernel_rfl)
theorem H4:Entry Tryz.prog 16 qW:=bO Tryz.func16 (by kernel_rfl)
theorem zM:Entry Tryz.prog 4 jv:=bO Tryz.func4 (by kernel_rfl)
def zhW:List (Nat×Fun'):=[(sI,.code ye),
 (tw,.code Ks),
 (qw,.code wl),
 (ku,.code uB),
 (gJ,.code qS),
 (fE,.code nG),
 (vj,.code AS),
 (xw,.code Dz),
 (tu,.code Dy),
 (db,.code wm),
 (nW,.code yf),
 (ei,.code lc),
 (lK,.code qR),
 (fF,.code nH),
 (lJ,.code qQ),
 (fG,.code nI),
 (bl,.code ly),
 (lG,.code qO),
 (l6,.code wj),
 (bc,.code jy),
 (bC,.code iQ),
 (dM,.code kd),
 (ca,.code ke),
 (bE,.code gM),
 (a8,.code eC),
 (vt,.code Bb),
 (qE,.code Bc),
 (fh,.code qY),
 (sZ,.code yW),
 (mc,.nat EB),
 (g9,.code uz),
 (kw,.code uL),
 (oX,.code uM),
 (gq,.code y6),
 (iC,.code Bd),
 (kK,.code yZ),
 (oe,.dfr yY),
 (ek,.code lf),
 (ix,.code mw),
 (fH,.code nJ),
 (iu,.code mq),
 (fI,.code nK),
 (bY,.code uC),
 (gg,.code j5),
 (et,.code lg),
 (iy,.code my),
 (fJ,.code nL),
 (iv,.code mr),
 (fK,.code nM),
 (lH,.code qP),
 (jc,.code nN),
 (iq,.code mn),
 (jX,.code pu),
 (ir,.code mo),
 (eY,.code mj),
 (iw,.code mu),
 (gI,.code wk),
 (kG,.code yh),
 (jY,.code px),
 (l7,.code wn),
 (eQ,.code y7),
 (iD,.nat z6),
 (mW,.code sn),
 (oj,.nat tH),
 (xG,.code DR),
 (sK,.code yi),
 (jh,.code sb),
 (lE,.code qM),
 (sF,.code yb),
 (oO,.code uw),
 (jV,.code pp),
 (xy,.code DC),
 (iz,.code qT),
 (oS,.code uD),
 (sJ,.code yg),
 (oR,.code uA),
 (qF,.code Be),
 (oh,.code y5),
 (dN,.code kf),
 (dx,.code jz),
 (jZ,.code Ba),
 (cb,.code kg),
 (s3,.code yX),
 (sH,.code yd),
 (lF,.code qN),
 (jb,.code nF),
 (da,.code iP),
 (dw,.code ju),
 (lD,.code qK),
 (sG,.code yc),
 (cQ,.code gZ),
 (cS,.code g8),
 (f9,.code j4),
 (oQ,.code uy),
 (mR,.code r9),
 (qu,.code wi),
 (xu,.code Dw),
 (mQ,.code r8),
 (xv,.code Dx),
 (dL,.code j7),
 (mS,.code sd),
 (gS,.code lh),
 (gh,.code j6),
 (eB,.code pw),
 (ky,.nat EA),
 (qG,.nat Ez),
 (Md,.code DD),
 (r5,.code zU),
 (cX,.code lm),
 (nV,.code s6),
 (qA,.code AZ),
 (gL,.code wv),
 (xz,.code DF),
 (Ar,.code GB),
 (qx,.code AT),
 (dc,.code yj),
 (kI,.code yq),
 (mU,.code sj),
 (aS,.code ka),
 (bk,.code jx),
 (b9,.code j8),
 (cI,.code j9),
 (cY,.code lx),
 (bX,.code lu),
 (l8,.code ws),
 (nX,.code yn),
 (sL,.code yk),
 (mT,.code sg),
 (jk,.code wq),
 (hH,.code uF),
 (l9,.code wt),
 (fw,.code uG),
 (kH,.code ym),
 (sR,.code yx),
 (iB,.code qV),
 (jd,.code nP),
 (vm,.code AY),
 (jm,.code si),
 (nY,.code yw),
 (fL,.code nO),
 (sQ,.code yu),
 (mb,.code wu),
 (vn,.code A4),
 (kJ,.code yt),
 (lN,.code qX),
 (qD,.code wy),
 (qz,.code AX),
 (od,.code yU),
 (hU,.code uJ),
 (sX,.code yQ),
 (vp,.code A7),
 (vr,.code A9),
 (sW,.code yJ),
 (tx,.code DO),
 (oT,.code uE),
 (qC,.code wx),
 (sV,.code yI),
 (qB,.code ww),
 (vq,.code A8),
 (sN,.code yo),
 (mV,.code A6),
 (nZ,.code yy),
 (oa,.code yE),
 (vk,.code AU),
 (ji,.code se),
 (qy,.code wo),
 (sP,.code yr),
 (oV,.code uI),
 (gK,.code py),
 (jl,.code sf),
 (sM,.code yl),
 (je,.code nQ),
 (sO,.code yp),
 (oU,.code uH),
 (xD,.code DK),
 (vo,.code A5),
 (sU,.code yB),
 (sS,.code yz),
 (gj,.code kb),
 (xB,.code DI),
 (iA,.code qU),
 (xA,.code DG),
 (vl,.code AW),
 (xF,.code DN),
 (xC,.code DJ),
 (xE,.code DL),
 (sY,.code yV),
 (oW,.code uK),
 (lM,.code qW),
 (fg,.code jv)]
abbrev tbl:Nat->Option Fun':=QW zhW
theorem PQ:tbl sI=some (.code ye):=by kernel_rfl
theorem NS:tbl qw=some (.code wl):=by kernel_rfl
theorem Lt:tbl ku=some (.code uB):=by kernel_rfl
theorem NR:tbl gJ=some (.code qS):=by kernel_rfl
theorem Fc:tbl fE=some (.code nG):=by kernel_rfl
theorem S5:tbl vj=some (.code AS):=by kernel_rfl
theorem Wr:tbl xw=some (.code Dz):=by kernel_rfl
theorem Wq:tbl tu=some (.code Dy):=by kernel_rfl
theorem NT:tbl db=some (.code wm):=by kernel_rfl
theorem PR:tbl nW=some (.code yf):=by kernel_rfl
theorem Cy:tbl ei=some (.code lc):=by kernel_rfl
theorem IL:tbl lK=some (.code qR):=by kernel_rfl
theorem Fe:tbl fF=some (.code nH):=by kernel_rfl
theorem IK:tbl lJ=some (.code qQ):=by kernel_rfl
theorem Ff:tbl fG=some (.code nI):=by kernel_rfl
theorem CJ:tbl bl=some (.code ly):=by kernel_rfl
theorem II:tbl lG=some (.code qO):=by kernel_rfl
theorem NP:tbl l6=some (.code wj):=by kernel_rfl
theorem Ah:tbl bc=some (.code jy):=by kernel_rfl
theorem zo:tbl bC=some (.code iQ):=by kernel_rfl
theorem BI:tbl dM=some (.code kd):=by kernel_rfl
theorem BJ:tbl ca=some (.code ke):=by kernel_rfl
theorem wP:tbl bE=some (.code gM):=by kernel_rfl
theorem jD:tbl a8=some (.code eC):=by kernel_rfl
theorem Tj:tbl vt=some (.code Bb):=by kernel_rfl
theorem Tk:tbl qE=some (.code Bc):=by kernel_rfl
theorem IR:tbl fh=some (.code qY):=by kernel_rfl
theorem Qj:tbl sZ=some (.code yW):=by kernel_rfl
theorem N4:tbl mc=some (.nat EB):=by kernel_rfl
theorem Lr:tbl g9=some (.code uz):=by kernel_rfl
theorem LD:tbl kw=some (.code uL):=by kernel_rfl
theorem LE:tbl oX=some (.code uM):=by kernel_rfl
theorem Qo:tbl gq=some (.code y6):=by kernel_rfl
theorem Tl:tbl iC=some (.code Bd):=by kernel_rfl
theorem Qm:tbl kK=some (.code yZ):=by kernel_rfl
theorem Ql:tbl oe=some (.dfr yY):=by kernel_rfl
theorem Cz:tbl ek=some (.code lf):=by kernel_rfl
theorem Eh:tbl ix=some (.code mw):=by kernel_rfl
theorem Fg:tbl fH=some (.code nJ):=by kernel_rfl
theorem Ee:tbl iu=some (.code mq):=by kernel_rfl
theorem Fh:tbl fI=some (.code nK):=by kernel_rfl
theorem Lu:tbl bY=some (.code uC):=by kernel_rfl
theorem BC:tbl gg=some (.code j5):=by kernel_rfl
theorem CC:tbl et=some (.code lg):=by kernel_rfl
theorem Ei:tbl iy=some (.code my):=by kernel_rfl
theorem Fi:tbl fJ=some (.code nL):=by kernel_rfl
theorem Ef:tbl iv=some (.code mr):=by kernel_rfl
theorem Fj:tbl fK=some (.code nM):=by kernel_rfl
theorem IJ:tbl lH=some (.code qP):=by kernel_rfl
theorem Fl:tbl jc=some (.code nN):=by kernel_rfl
theorem Ec:tbl iq=some (.code mn):=by kernel_rfl
theorem G1:tbl jX=some (.code pu):=by kernel_rfl
theorem Ed:tbl ir=some (.code mo):=by kernel_rfl
theorem Eb:tbl eY=some (.code mj):=by kernel_rfl
theorem Eg:tbl iw=some (.code mu):=by kernel_rfl
theorem NQ:tbl gI=some (.code wk):=by kernel_rfl
theorem PU:tbl kG=some (.code yh):=by kernel_rfl
theorem G3:tbl jY=some (.code px):=by kernel_rfl
theorem NU:tbl l7=some (.code wn):=by kernel_rfl
theorem Qq:tbl eQ=some (.code y7):=by kernel_rfl
theorem IS:tbl iD=some (.nat z6):=by kernel_rfl
theorem J1:tbl mW=some (.code sn):=by kernel_rfl
theorem Qp:tbl oj=some (.nat tH):=by kernel_rfl
theorem WB:tbl xG=some (.code DR):=by kernel_rfl
theorem PW:tbl sK=some (.code yi):=by kernel_rfl
theorem JU:tbl jh=some (.code sb):=by kernel_rfl
theorem IG:tbl lE=some (.code qM):=by kernel_rfl
theorem PL:tbl sF=some (.code yb):=by kernel_rfl
theorem Lp:tbl oO=some (.code uw):=by kernel_rfl
theorem GZ:tbl jV=some (.code pp):=by kernel_rfl
theorem Ws:tbl xy=some (.code DC):=by kernel_rfl
theorem IM:tbl iz=some (.code qT):=by kernel_rfl
theorem Lv:tbl oS=some (.code uD):=by kernel_rfl
theorem PT:tbl sJ=some (.code yg):=by kernel_rfl
theorem Ls:tbl oR=some (.code uA):=by kernel_rfl
theorem Tm:tbl qF=some (.code Be):=by kernel_rfl
theorem Qn:tbl oh=some (.code y5):=by kernel_rfl
theorem BK:tbl dN=some (.code kf):=by kernel_rfl
theorem Ai:tbl dx=some (.code jz):=by kernel_rfl
theorem Ti:tbl jZ=some (.code Ba):=by kernel_rfl
theorem BL:tbl cb=some (.code kg):=by kernel_rfl
theorem Qk:tbl s3=some (.code yX):=by kernel_rfl
theorem PN:tbl sH=some (.code yd):=by kernel_rfl
theorem IH:tbl lF=some (.code qN):=by kernel_rfl
theorem Fb:tbl jb=some (.code nF):=by kernel_rfl
theorem zj:tbl da=some (.code iP):=by kernel_rfl
theorem Ae:tbl dw=some (.code ju):=by kernel_rfl
theorem IF:tbl lD=some (.code qK):=by kernel_rfl
theorem PM:tbl sG=some (.code yc):=by kernel_rfl
theorem w8:tbl cQ=some (.code gZ):=by kernel_rfl
theorem w9:tbl cS=some (.code g8):=by kernel_rfl
theorem BB:tbl f9=some (.code j4):=by kernel_rfl
theorem Lq:tbl oQ=some (.code uy):=by kernel_rfl
theorem JS:tbl mR=some (.code r9):=by kernel_rfl
theorem NO:tbl qu=some (.code wi):=by kernel_rfl
theorem Wn:tbl xu=some (.code Dw):=by kernel_rfl
theorem JR:tbl mQ=some (.code r8):=by kernel_rfl
theorem Wo:tbl xv=some (.code Dx):=by kernel_rfl
theorem BE:tbl dL=some (.code j7):=by kernel_rfl
theorem JV:tbl mS=some (.code sd):=by kernel_rfl
theorem CE:tbl gS=some (.code lh):=by kernel_rfl
theorem BD:tbl gh=some (.code j6):=by kernel_rfl
theorem G2:tbl eB=some (.code pw):=by kernel_rfl
theorem CF:tbl cX=some (.code lm):=by kernel_rfl
theorem PP:tbl nV=some (.code s6):=by kernel_rfl
theorem Ta:tbl qA=some (.code AZ):=by kernel_rfl
theorem N0:tbl gL=some (.code wv):=by kernel_rfl
theorem Wt:tbl xz=some (.code DF):=by kernel_rfl
theorem YU:tbl Ar=some (.code GB):=by kernel_rfl
theorem S6:tbl qx=some (.code AT):=by kernel_rfl
theorem PX:tbl dc=some (.code yj):=by kernel_rfl
theorem P4:tbl kI=some (.code yq):=by kernel_rfl
theorem J0:tbl mU=some (.code sj):=by kernel_rfl
theorem BG:tbl aS=some (.code ka):=by kernel_rfl
theorem Ag:tbl bk=some (.code jx):=by kernel_rfl
theorem rp:tbl b9=some (.code j8):=by kernel_rfl
theorem BF:tbl cI=some (.code j9):=by kernel_rfl
theorem CI:tbl cY=some (.code lx):=by kernel_rfl
theorem CG:tbl bX=some (.code lu):=by kernel_rfl
theorem NX:tbl l8=some (.code ws):=by kernel_rfl
theorem P1:tbl nX=some (.code yn):=by kernel_rfl
theorem PY:tbl sL=some (.code yk):=by kernel_rfl
theorem JY:tbl mT=some (.code sg):=by kernel_rfl
theorem NW:tbl jk=some (.code wq):=by kernel_rfl
theorem Lx:tbl hH=some (.code uF):=by kernel_rfl
theorem NY:tbl l9=some (.code wt):=by kernel_rfl
theorem Ly:tbl fw=some (.code uG):=by kernel_rfl
theorem P0:tbl kH=some (.code ym):=by kernel_rfl
theorem P9:tbl sR=some (.code yx):=by kernel_rfl
theorem zio:tbl iB=some (.code qV):=by kernel_rfl
theorem Fp:tbl jd=some (.code nP):=by kernel_rfl
theorem rq:tbl vm=some (.code AY):=by kernel_rfl
theorem JZ:tbl jm=some (.code si):=by kernel_rfl
theorem P8:tbl nY=some (.code yw):=by kernel_rfl
theorem Fo:tbl fL=some (.code nO):=by kernel_rfl
theorem P7:tbl sQ=some (.code yu):=by kernel_rfl
theorem NZ:tbl mb=some (.code wu):=by kernel_rfl
theorem Tb:tbl vn=some (.code A4):=by kernel_rfl
theorem P6:tbl kJ=some (.code yt):=by kernel_rfl
theorem IQ:tbl lN=some (.code qX):=by kernel_rfl
theorem N3:tbl qD=some (.code wy):=by kernel_rfl
theorem S9:tbl qz=some (.code AX):=by kernel_rfl
theorem Qh:tbl od=some (.code yU):=by kernel_rfl
theorem LB:tbl hU=some (.code uJ):=by kernel_rfl
theorem Qg:tbl sX=some (.code yQ):=by kernel_rfl
theorem Te:tbl vp=some (.code A7):=by kernel_rfl
theorem Tg:tbl vr=some (.code A9):=by kernel_rfl
theorem Qf:tbl sW=some (.code yJ):=by kernel_rfl
theorem WA:tbl tx=some (.code DO):=by kernel_rfl
theorem Lw:tbl oT=some (.code uE):=by kernel_rfl
theorem N2:tbl qC=some (.code wx):=by kernel_rfl
theorem Qe:tbl sV=some (.code yI):=by kernel_rfl
theorem N1:tbl qB=some (.code ww):=by kernel_rfl
theorem Tf:tbl vq=some (.code A8):=by kernel_rfl
theorem P2:tbl sN=some (.code yo):=by kernel_rfl
theorem Td:tbl mV=some (.code A6):=by kernel_rfl
theorem Qa:tbl nZ=some (.code yy):=by kernel_rfl
theorem Qd:tbl oa=some (.code yE):=by kernel_rfl
theorem S7:tbl vk=some (.code AU):=by kernel_rfl
theorem JW:tbl ji=some (.code se):=by kernel_rfl
theorem NV:tbl qy=some (.code wo):=by kernel_rfl
theorem P5:tbl sP=some (.code yr):=by kernel_rfl
theorem LA:tbl oV=some (.code uI):=by kernel_rfl
theorem G4:tbl gK=some (.code py):=by kernel_rfl
theorem JX:tbl jl=some (.code sf):=by kernel_rfl
theorem PZ:tbl sM=some (.code yl):=by kernel_rfl
theorem Fq:tbl je=some (.code nQ):=by kernel_rfl
theorem P3:tbl sO=some (.code yp):=by kernel_rfl
theorem Lz:tbl oU=some (.code uH):=by kernel_rfl
theorem Wx:tbl xD=some (.code DK):=by kernel_rfl
theorem Tc:tbl vo=some (.code A5):=by kernel_rfl
theorem Qc:tbl sU=some (.code yB):=by kernel_rfl
theorem Qb:tbl sS=some (.code yz):=by kernel_rfl
theorem BH:tbl gj=some (.code kb):=by kernel_rfl
theorem Wv:tbl xB=some (.code DI):=by kernel_rfl
theorem IN:tbl iA=some (.code qU):=by kernel_rfl
theorem Wu:tbl xA=some (.code DG):=by kernel_rfl
theorem S8:tbl vl=some (.code AW):=by kernel_rfl
theorem Wz:tbl xF=some (.code DN):=by kernel_rfl
theorem Ww:tbl xC=some (.code DJ):=by kernel_rfl
theorem Wy:tbl xE=some (.code DL):=by kernel_rfl
theorem Qi:tbl sY=some (.code yV):=by kernel_rfl
theorem LC:tbl oW=some (.code uK):=by kernel_rfl
theorem IP:tbl lM=some (.code qW):=by kernel_rfl
theorem Af:tbl fg=some (.code jv):=by kernel_rfl
theorem zhX:TblOk Tryz.prog tbl:=AllOk.tbl (P:=Tryz.prog) (l:=zhW) ⟨OQ,UQ,MC,K8,MB,EQ,R2,UP,UO,MD,OR,Cj,H0,ER,HZ,ES,Cr,HX,Mz,zO,ya,AN,AO,we,r6,Sg,Si,H6,Po,Nm,K6,Li,Lj,Pt,Sj,Pr,Pq,Ck,Ds,ET,Dp,EU,K9,AG,Cl,Dt,EV,Dq,EW,HY,EX,Dn,Gv,Do,Dm,Dr,MA,OT,Gx,ME,Pv,Iq,Jo,PC,U0,OU,Jg,HV,OM,K4,Gu,UR,H1,La,OS,K7,Sk,Ps,AP,zP,Sf,AQ,Pp,OO,HW,EP,x9,zL,HU,ON,wV,wW,AF,K5,Jf,My,UM,Je,UN,AI,Ji,Cn,AH,Gw,uQ,Br,MF,Jh,Co,OP,R8,ML,US,Xu,R3,OV,O5,Jn,AL,zN,AJ,AK,Cq,Cp,MI,OZ,OW,Jl,MH,Lc,MJ,Ld,OY,Pd,H3,EZ,R7,Jm,O9,EY,O8,MK,R9,O7,H5,MO,R6,Pm,Lg,Pk,Sc,Se,Pj,UZ,Lb,MN,Pi,MM,Sd,O3,Sb,Pe,Ph,R4,Jj,MG,O6,Lf,Gy,Jk,OX,E0,O4,Le,UW,Sa,Pg,Pf,AM,UU,H2,UT,R5,UY,UV,UX,Pn,Lh,H4,zM,trivial⟩
end Go.Proofs.YtmfolppncelceaaGreatDoor
