import Derived.Test.YthjnceggmnicmaaGreatDoorKTG4
import Derived.Test.YthjnceggmnicmaaGreatDoorKL7
import Derived.Test.YthjnceggmnicmaaGreatDoorRows
import Derived.Test.YthjnceggmnicmaaGreatDoorKBn
set_option linter.unusedVariables false
set_option linter.unusedSimpArgs false
namespace Go.Proofs.YthjnceggmnicmaaGreatDoor
open Go Go.Av Go.Ev
theorem M0:OkE Tryz.prog mD (.nat DW):=zdp Tryz.strconv_Itoa
theorem Su:Entry Tryz.prog 124 vi:=bQ Tryz.func124 (by kernel_rfl)
theorem Vv:Entry Tryz.prog 97 xK:=bQ Tryz.func97 (by kernel_rfl)
theorem Vu:Entry Tryz.prog 51 xJ:=bQ Tryz.func51 (by kernel_rfl)
theorem Mn:Entry Tryz.prog 27 qT:=bQ Tryz.func27 (by kernel_rfl)
theorem HG:Entry Tryz.prog 28 lZ:=bQ Tryz.func28 (by kernel_rfl)
theorem OB:Entry Tryz.prog 10 sF:=bQ Tryz.func10 (by kernel_rfl)
theorem Vx:Entry Tryz.prog 98 xM:=bQ Tryz.func98 (by kernel_rfl)
theorem X1:Entry Tryz.prog 99 Ap:=bQ Tryz.func99 (by kernel_rfl)
theorem Sv:Entry Tryz.prog 52 vj:=bQ Tryz.func52 (by kernel_rfl)
theorem ON:Entry Tryz.prog 29 sQ:=bQ Tryz.func29 (by kernel_rfl)
theorem OS:Entry Tryz.prog 30 sW:=bQ Tryz.func30 (by kernel_rfl)
theorem SL:Entry Tryz.prog 31 vw:=bQ Tryz.func31 (by kernel_rfl)
theorem O8:Entry Tryz.prog 11 s7:=bQ Tryz.func11 (by kernel_rfl)
theorem O7:Entry Tryz.prog 125 FV:=bQ Tryz.func125 (by kernel_rfl)
theorem SF:Entry Tryz.prog 114 vp:=bQ Tryz.func114 (by kernel_rfl)
theorem Mx:Entry Tryz.prog 81 qZ:=bQ Tryz.func81 (by kernel_rfl)
theorem Ah:Entry Tryz.prog 126 q6:=bQ Tryz.func126 (by kernel_rfl)
theorem Er:Entry Tryz.prog 148 uV:=bQ Tryz.func148 (by kernel_rfl)
theorem O5:Entry Tryz.prog 149 FU:=bQ Tryz.func149 (by kernel_rfl)
theorem yq:Entry Tryz.prog 127 oA:=bQ Tryz.func127 (by kernel_rfl)
theorem Mq:Entry Tryz.prog 184 CV:=bQ Tryz.func184 (by kernel_rfl)
theorem KY:Entry Tryz.prog 183 BD:=bQ Tryz.func183 (by kernel_rfl)
theorem OM:Entry Tryz.prog 172 FQ:=bQ Tryz.func172 (by kernel_rfl)
theorem Mr:Entry Tryz.prog 173 CW:=bQ Tryz.func173 (by kernel_rfl)
theorem HR:Entry Tryz.prog 150 xQ:=bQ Tryz.func150 (by kernel_rfl)
theorem SE:Entry Tryz.prog 83 vo:=bQ Tryz.func83 (by kernel_rfl)
theorem Jm:Entry Tryz.prog 84 nq:=bQ Tryz.func84 (by kernel_rfl)
theorem O4:Entry Tryz.prog 85 s5:=bQ Tryz.func85 (by kernel_rfl)
theorem Ep:Entry Tryz.prog 86 jJ:=bQ Tryz.func86 (by kernel_rfl)
theorem OZ:Entry Tryz.prog 38 s4:=bQ Tryz.func38 (by kernel_rfl)
theorem HO:Entry Tryz.prog 174 xN:=bQ Tryz.func174 (by kernel_rfl)
theorem Ms:Entry Tryz.prog 182 qV:=bQ Tryz.func182 (by kernel_rfl)
theorem KZ:Entry Tryz.prog 168 px:=bQ Tryz.func168 (by kernel_rfl)
theorem SB:Entry Tryz.prog 185 H1:=bQ Tryz.func185 (by kernel_rfl)
theorem OU:Entry Tryz.prog 175 FR:=bQ Tryz.func175 (by kernel_rfl)
theorem Gj:Entry Tryz.prog 151 wv:=bQ Tryz.func151 (by kernel_rfl)
theorem Mv:Entry Tryz.prog 93 qY:=bQ Tryz.func93 (by kernel_rfl)
theorem yr:Entry Tryz.prog 128 oC:=bQ Tryz.func128 (by kernel_rfl)
theorem Mw:Entry Tryz.prog 152 CX:=bQ Tryz.func152 (by kernel_rfl)
theorem OV:Entry Tryz.prog 111 sY:=bQ Tryz.func111 (by kernel_rfl)
theorem Mp:Entry Tryz.prog 193 CU:=bQ Tryz.func193 (by kernel_rfl)
theorem Sw:Entry Tryz.prog 192 HZ:=bQ Tryz.func192 (by kernel_rfl)
theorem Sy:Entry Tryz.prog 186 H0:=bQ Tryz.func186 (by kernel_rfl)
theorem SC:Entry Tryz.prog 176 H3:=bQ Tryz.func176 (by kernel_rfl)
theorem OX:Entry Tryz.prog 153 ah:=bQ Tryz.func153 (by kernel_rfl)
theorem Af:Entry Tryz.prog 165 gv:=bQ Tryz.func165 (by kernel_rfl)
theorem ze:Entry Tryz.prog 196 fo:=bQ Tryz.func196 (by kernel_rfl)
theorem Ad:Entry Tryz.prog 191 gr:=bQ Tryz.func191 (by kernel_rfl)
theorem Ae:Entry Tryz.prog 181 gu:=bQ Tryz.func181 (by kernel_rfl)
theorem BN:Entry Tryz.prog 164 ip:=bQ Tryz.func164 (by kernel_rfl)
theorem BM:Entry Tryz.prog 141 io:=bQ Tryz.func141 (by kernel_rfl)
theorem Mt:Entry Tryz.prog 170 qW:=bQ Tryz.func170 (by kernel_rfl)
theorem OR:Entry Tryz.prog 166 sV:=bQ Tryz.func166 (by kernel_rfl)
theorem OO:Entry Tryz.prog 142 sR:=bQ Tryz.func142 (by kernel_rfl)
theorem Jl:Entry Tryz.prog 167 np:=bQ Tryz.func167 (by kernel_rfl)
theorem Mu:Entry Tryz.prog 169 qX:=bQ Tryz.func169 (by kernel_rfl)
theorem K0:Entry Tryz.prog 143 py:=bQ Tryz.func143 (by kernel_rfl)
theorem OQ:Entry Tryz.prog 112 sU:=bQ Tryz.func112 (by kernel_rfl)
theorem SH:Entry Tryz.prog 154 H4:=bQ Tryz.func154 (by kernel_rfl)
theorem HQ:Entry Tryz.prog 113 me:=bQ Tryz.func113 (by kernel_rfl)
theorem Aj:Entry Tryz.prog 129 q8:=bQ Tryz.func129 (by kernel_rfl)
theorem Ai:Entry Tryz.prog 100 q7:=bQ Tryz.func100 (by kernel_rfl)
theorem O3:Entry Tryz.prog 53 FT:=bQ Tryz.func53 (by kernel_rfl)
theorem KT:Entry Tryz.prog 32 BC:=bQ Tryz.func32 (by kernel_rfl)
theorem Mm:Entry Tryz.prog 54 qS:=bQ Tryz.func54 (by kernel_rfl)
theorem KV:Entry Tryz.prog 130 pq:=bQ Tryz.func130 (by kernel_rfl)
theorem Ml:Entry Tryz.prog 101 qR:=bQ Tryz.func101 (by kernel_rfl)
theorem Eh:Entry Tryz.prog 56 jB:=bQ Tryz.func56 (by kernel_rfl)
theorem OJ:Entry Tryz.prog 60 sN:=bQ Tryz.func60 (by kernel_rfl)
theorem BJ:Entry Tryz.prog 59 ij:=bQ Tryz.func59 (by kernel_rfl)
theorem HM:Entry Tryz.prog 58 l9:=bQ Tryz.func58 (by kernel_rfl)
theorem Ei:Entry Tryz.prog 57 jC:=bQ Tryz.func57 (by kernel_rfl)
theorem HK:Entry Tryz.prog 55 l8:=bQ Tryz.func55 (by kernel_rfl)
theorem Ej:Entry Tryz.prog 61 jD:=bQ Tryz.func61 (by kernel_rfl)
theorem BO:Entry Tryz.prog 132 iq:=bQ Tryz.func132 (by kernel_rfl)
theorem HI:Entry Tryz.prog 197 l6:=bQ Tryz.func197 (by kernel_rfl)
theorem Mj:Entry Tryz.prog 194 qP:=bQ Tryz.func194 (by kernel_rfl)
theorem zg:Entry Tryz.prog 187 fp:=bQ Tryz.func187 (by kernel_rfl)
theorem yt:Entry Tryz.prog 188 eQ:=bQ Tryz.func188 (by kernel_rfl)
theorem Ak:Entry Tryz.prog 177 gx:=bQ Tryz.func177 (by kernel_rfl)
theorem Al:Entry Tryz.prog 155 gy:=bQ Tryz.func155 (by kernel_rfl)
theorem ws:Entry Tryz.prog 131 dN:=bQ Tryz.func131 (by kernel_rfl)
theorem rX:Entry Tryz.prog 103 cO:=bQ Tryz.func103 (by kernel_rfl)
theorem SO:Entry Tryz.prog 180 vA:=bQ Tryz.func180 (by kernel_rfl)
theorem SP:Entry Tryz.prog 160 vB:=bQ Tryz.func160 (by kernel_rfl)
theorem HS:Entry Tryz.prog 156 mf:=bQ Tryz.func156 (by kernel_rfl)
theorem Pg:Entry Tryz.prog 133 tf:=bQ Tryz.func133 (by kernel_rfl)
theorem KS:Entry Tryz.prog 157 pn:=bQ Tryz.func157 (by kernel_rfl)
theorem K3:Entry Tryz.prog 190 pC:=bQ Tryz.func190 (by kernel_rfl)
theorem K4:Entry Tryz.prog 179 pE:=bQ Tryz.func179 (by kernel_rfl)
theorem Pm:Entry Tryz.prog 158 tp:=bQ Tryz.func158 (by kernel_rfl)
theorem SQ:Entry Tryz.prog 134 vC:=bQ Tryz.func134 (by kernel_rfl)
theorem Pj:Entry Tryz.prog 104 tk:=bQ Tryz.func104 (by kernel_rfl)
set_option maxRecDepth 8000 in
theorem Pi:EntryD Tryz.prog 64 tj:=⟨⟨Tryz.f64,_,_,_,_,_,_,_,_,_,_,_,Tryz.func64,by kernel_rfl,rfl,by kernel_rfl,by kernel_rfl,⟨⟨Tryz.f102,_,_,_,_,_,_,_,Tryz.func102,by kernel_rfl,by kernel_rfl,rfl,⟨#[],by kernel_rfl⟩,by kernel_rfl⟩⟩,by kernel_rfl,by kernel_rfl⟩,by kernel_rfl⟩
theorem BK:Entry Tryz.prog 63 ik:=bQ Tryz.func63 (by kernel_rfl)
theorem CO:Entry Tryz.prog 58 iY:=bQ Tryz.func58 (by kernel_rfl)
theorem Ek:Entry Tryz.prog 62 jE:=bQ Tryz.func62 (by kernel_rfl)
theorem CL:Entry Tryz.prog 55 iV:=bQ Tryz.func55 (by kernel_rfl)
theorem El:Entry Tryz.prog 65 jF:=bQ Tryz.func65 (by kernel_rfl)
theorem KW:Entry Tryz.prog 105 pu:=bQ Tryz.func105 (by kernel_rfl)
theorem Ac:Entry Tryz.prog 68 gq:=bQ Tryz.func68 (by kernel_rfl)
theorem BL:Entry Tryz.prog 67 im:=bQ Tryz.func67 (by kernel_rfl)
theorem CP:Entry Tryz.prog 58 iZ:=bQ Tryz.func58 (by kernel_rfl)
theorem Em:Entry Tryz.prog 66 jG:=bQ Tryz.func66 (by kernel_rfl)
theorem CM:Entry Tryz.prog 55 iW:=bQ Tryz.func55 (by kernel_rfl)
theorem En:Entry Tryz.prog 69 jH:=bQ Tryz.func69 (by kernel_rfl)
theorem HJ:Entry Tryz.prog 159 l7:=bQ Tryz.func159 (by kernel_rfl)
theorem Eo:Entry Tryz.prog 135 jI:=bQ Tryz.func135 (by kernel_rfl)
theorem CJ:Entry Tryz.prog 136 iT:=bQ Tryz.func136 (by kernel_rfl)
theorem Gh:Entry Tryz.prog 106 kH:=bQ Tryz.func106 (by kernel_rfl)
theorem CK:Entry Tryz.prog 71 iU:=bQ Tryz.func71 (by kernel_rfl)
theorem CI:Entry Tryz.prog 70 iS:=bQ Tryz.func70 (by kernel_rfl)
theorem CN:Entry Tryz.prog 55 iX:=bQ Tryz.func55 (by kernel_rfl)
theorem Mk:Entry Tryz.prog 34 qQ:=bQ Tryz.func34 (by kernel_rfl)
theorem OL:Entry Tryz.prog 96 sP:=bQ Tryz.func96 (by kernel_rfl)
theorem KN:Entry Tryz.prog 45 pj:=bQ Tryz.func45 (by kernel_rfl)
theorem Ge:Entry Tryz.prog 36 kE:=bQ Tryz.func36 (by kernel_rfl)
theorem Vw:Entry Tryz.prog 110 xL:=bQ Tryz.func110 (by kernel_rfl)
theorem HN:Entry Tryz.prog 76 mb:=bQ Tryz.func76 (by kernel_rfl)
theorem KX:Entry Tryz.prog 137 pw:=bQ Tryz.func137 (by kernel_rfl)
theorem OK:Entry Tryz.prog 107 sO:=bQ Tryz.func107 (by kernel_rfl)
theorem KU:Entry Tryz.prog 73 pp:=bQ Tryz.func73 (by kernel_rfl)
theorem SR:Entry Tryz.prog 138 vD:=bQ Tryz.func138 (by kernel_rfl)
theorem Pk:Entry Tryz.prog 139 tn:=bQ Tryz.func139 (by kernel_rfl)
theorem Am:Entry Tryz.prog 161 gz:=bQ Tryz.func161 (by kernel_rfl)
theorem zh:Entry Tryz.prog 162 fq:=bQ Tryz.func162 (by kernel_rfl)
theorem SN:Entry Tryz.prog 163 vz:=bQ Tryz.func163 (by kernel_rfl)
theorem An:Entry Tryz.prog 140 gA:=bQ Tryz.func140 (by kernel_rfl)
theorem Ph:Entry Tryz.prog 108 ti:=bQ Tryz.func108 (by kernel_rfl)
theorem OF:Entry Tryz.prog 74 sJ:=bQ Tryz.func74 (by kernel_rfl)
theorem HH:Entry Tryz.prog 109 l5:=bQ Tryz.func109 (by kernel_rfl)
theorem Eg:Entry Tryz.prog 75 jA:=bQ Tryz.func75 (by kernel_rfl)
theorem yp:Entry Tryz.prog 72 eP:=bQ Tryz.func72 (by kernel_rfl)
theorem zc:Entry Tryz.prog 77 fm:=bQ Tryz.func77 (by kernel_rfl)
theorem HE:Entry Tryz.prog 41 lY:=bQ Tryz.func41 (by kernel_rfl)
theorem OE:Entry Tryz.prog 35 sI:=bQ Tryz.func35 (by kernel_rfl)
theorem wY:Entry Tryz.prog 121 eb:=bQ Tryz.func121 (by kernel_rfl)
theorem wZ:Entry Tryz.prog 119 ee:=bQ Tryz.func119 (by kernel_rfl)
theorem Ab:Entry Tryz.prog 120 gp:=bQ Tryz.func120 (by kernel_rfl)
theorem KR:Entry Tryz.prog 91 pm:=bQ Tryz.func91 (by kernel_rfl)
theorem Jh:Entry Tryz.prog 92 ni:=bQ Tryz.func92 (by kernel_rfl)
theorem Mi:Entry Tryz.prog 42 qO:=bQ Tryz.func42 (by kernel_rfl)
theorem Vs:Entry Tryz.prog 18 xG:=bQ Tryz.func18 (by kernel_rfl)
theorem Jg:Entry Tryz.prog 46 ng:=bQ Tryz.func46 (by kernel_rfl)
theorem Vt:Entry Tryz.prog 20 xH:=bQ Tryz.func20 (by kernel_rfl)
theorem OD:Entry Tryz.prog 22 sH:=bQ Tryz.func22 (by kernel_rfl)
theorem OC:Entry Tryz.prog 15 sG:=bQ Tryz.func15 (by kernel_rfl)
theorem HF:Entry Tryz.prog 49 xI:=bQ Tryz.func49 (by kernel_rfl)
theorem CG:Entry Tryz.prog 50 tJ:=bQ Tryz.func50 (by kernel_rfl)
theorem Ss:Entry Tryz.prog 26 HY:=bQ Tryz.func26 (by kernel_rfl)
theorem OI:Entry Tryz.prog 12 sM:=bQ Tryz.func12 (by kernel_rfl)
theorem SG:Entry Tryz.prog 33 vq:=bQ Tryz.func33 (by kernel_rfl)
theorem OG:Entry Tryz.prog 13 sK:=bQ Tryz.func13 (by kernel_rfl)
theorem OH:Entry Tryz.prog 14 sL:=bQ Tryz.func14 (by kernel_rfl)
theorem Jn:Entry Tryz.prog 78 nr:=bQ Tryz.func78 (by kernel_rfl)
theorem O6:Entry Tryz.prog 79 s6:=bQ Tryz.func79 (by kernel_rfl)
theorem zhE:Entry Tryz.prog 80 jK:=bQ Tryz.func80 (by kernel_rfl)
theorem SI:Entry Tryz.prog 82 vr:=bQ Tryz.func82 (by kernel_rfl)
theorem OY:Entry Tryz.prog 37 s3:=bQ Tryz.func37 (by kernel_rfl)
theorem Sx:Entry Tryz.prog 118 vk:=bQ Tryz.func118 (by kernel_rfl)
theorem Jj:Entry Tryz.prog 90 nk:=bQ Tryz.func90 (by kernel_rfl)
theorem Mo:Entry Tryz.prog 144 qU:=bQ Tryz.func144 (by kernel_rfl)
theorem OW:Entry Tryz.prog 115 sZ:=bQ Tryz.func115 (by kernel_rfl)
theorem K2:Entry Tryz.prog 87 pB:=bQ Tryz.func87 (by kernel_rfl)
theorem Gi:Entry Tryz.prog 145 kI:=bQ Tryz.func145 (by kernel_rfl)
theorem Jk:Entry Tryz.prog 146 nn:=bQ Tryz.func146 (by kernel_rfl)
theorem wq:Entry Tryz.prog 171 dM:=bQ Tryz.func171 (by kernel_rfl)
theorem w8:Entry Tryz.prog 147 ef:=bQ Tryz.func147 (by kernel_rfl)
theorem OP:Entry Tryz.prog 116 sS:=bQ Tryz.func116 (by kernel_rfl)
theorem Es:Entry Tryz.prog 88 jL:=bQ Tryz.func88 (by kernel_rfl)
theorem OT:Entry Tryz.prog 117 sX:=bQ Tryz.func117 (by kernel_rfl)
theorem K1:Entry Tryz.prog 89 pA:=bQ Tryz.func89 (by kernel_rfl)
theorem VB:Entry Tryz.prog 39 xS:=bQ Tryz.func39 (by kernel_rfl)
theorem Pd:Entry Tryz.prog 16 s9:=bQ Tryz.func16 (by kernel_rfl)
theorem Gf:Entry Tryz.prog 4 kF:=bQ Tryz.func4 (by kernel_rfl)
theorem O9:Entry Tryz.prog 43 s8:=bQ Tryz.func43 (by kernel_rfl)
theorem Ag:Entry Tryz.prog 122 gw:=bQ Tryz.func122 (by kernel_rfl)
theorem Vz:Entry Tryz.prog 123 xP:=bQ Tryz.func123 (by kernel_rfl)
theorem HP:Entry Tryz.prog 122 mc:=bQ Tryz.func122 (by kernel_rfl)
theorem Vy:Entry Tryz.prog 94 xO:=bQ Tryz.func94 (by kernel_rfl)
theorem Sz:Entry Tryz.prog 95 vl:=bQ Tryz.func95 (by kernel_rfl)
theorem VD:Entry Tryz.prog 44 xU:=bQ Tryz.func44 (by kernel_rfl)
theorem VA:Entry Tryz.prog 19 xR:=bQ Tryz.func19 (by kernel_rfl)
theorem SA:Entry Tryz.prog 40 vm:=bQ Tryz.func40 (by kernel_rfl)
theorem SJ:Entry Tryz.prog 17 vt:=bQ Tryz.func17 (by kernel_rfl)
theorem SD:Entry Tryz.prog 24 vn:=bQ Tryz.func24 (by kernel_rfl)
theorem Pf:Entry Tryz.prog 47 te:=bQ Tryz.func47 (by kernel_rfl)
theorem SK:Entry Tryz.prog 48 vu:=bQ Tryz.func48 (by kernel_rfl)
theorem Pe:Entry Tryz.prog 23 td:=bQ Tryz.func23 (by kernel_rfl)
theorem VC:Entry Tryz.prog 21 xT:=bQ Tryz.func21 (by kernel_rfl)
theorem Ji:Entry Tryz.prog 6 nj:=bQ Tryz.func6 (by kernel_rfl)
theorem Gg:Entry Tryz.prog 7 kG:=bQ Tryz.func7 (by kernel_rfl)
def zhl:List (Nat×Fun'):=[(uZ,.code vi),
 (xw,.code xK),
 (tG,.code xJ),
 (eX,.code qT),
 (lQ,.code lZ),
 (eM,.code sF),
 (xy,.code xM),
 (zO,.code Ap),
 (qE,.code vj),
 (eO,.code sQ),
 (sv,.code sW),
 (nb,.code vw),
 (je,.code s7),
 (Ov,.code FV),
 (qG,.code vp),
 (gZ,.code qZ),
 (zP,.code q6),
 (Ee,.code uV),
 (Ou,.code FU),
 (ym,.code oA),
 (LV,.code CV),
 (KJ,.code BD),
 (On,.code FQ),
 (LW,.code CW),
 (Hm,.code xQ),
 (u9,.code vo),
 (jQ,.code nq),
 (om,.code s5),
 (fQ,.code jJ),
 (ol,.code s4),
 (Hl,.code xN),
 (jP,.code qV),
 (iy,.code px),
 (Sa,.code H1),
 (Oo,.code FR),
 (Ga,.code wv),
 (mC,.code qY),
 (yn,.code oC),
 (LX,.code CX),
 (lg,.code sY),
 (LU,.code CU),
 (R8,.code HZ),
 (R9,.code H0),
 (Sb,.code H3),
 (Oq,.code ah),
 (aS,.code gv),
 (bn,.code fo),
 (cj,.code gr),
 (cN,.code gu),
 (cZ,.code ip),
 (b6,.code io),
 (mA,.code qW),
 (oh,.code sV),
 (sr,.code sR),
 (m9,.code np),
 (mB,.code qX),
 (fD,.code py),
 (lf,.code sU),
 (Sc,.code H4),
 (iO,.code me),
 (zS,.code q8),
 (zQ,.code q7),
 (Ot,.code FT),
 (uw,.code BC),
 (qD,.code qS),
 (kS,.code pq),
 (gX,.code qR),
 (fJ,.code jB),
 (oe,.code sN),
 (eh,.code ij),
 (lV,.code l9),
 (fK,.code jC),
 (lU,.code l8),
 (fL,.code jD),
 (bo,.code iq),
 (lS,.code l6),
 (mz,.code qP),
 (be,.code fp),
 (bE,.code eQ),
 (dK,.code gx),
 (cn,.code gy),
 (bH,.code dN),
 (bc,.code cO),
 (vg,.code vA),
 (qI,.code vB),
 (fk,.code mf),
 (sC,.code tf),
 (mD,.nat DW),
 (ix,.code pn),
 (kT,.code pC),
 (pi,.code pE),
 (gH,.code tp),
 (iP,.code vC),
 (lh,.code tk),
 (ot,.dfr tj),
 (ei,.code ik),
 (iK,.code iY),
 (fM,.code jE),
 (iH,.code iV),
 (fN,.code jF),
 (b8,.code pu),
 (gm,.code gq),
 (ek,.code im),
 (iL,.code iZ),
 (fO,.code jG),
 (iI,.code iW),
 (fP,.code jH),
 (lT,.code l7),
 (jx,.code jI),
 (iF,.code iT),
 (kB,.code kH),
 (iG,.code iU),
 (eW,.code iS),
 (iJ,.code iX),
 (gW,.code qQ),
 (sq,.code sP),
 (kR,.code pj),
 (gV,.code kE),
 (xx,.code xL),
 (iM,.code mb),
 (pc,.code pw),
 (sn,.code sO),
 (o9,.code pp),
 (qJ,.code vD),
 (ou,.code tn),
 (dL,.code gz),
 (dv,.code fq),
 (kC,.code vz),
 (co,.code gA),
 (sD,.code ti),
 (sj,.code sJ),
 (lR,.code l5),
 (jv,.code jA),
 (c9,.code eP),
 (b9,.code fm),
 (lP,.code lY),
 (od,.code sI),
 (cT,.code eb),
 (cU,.code ee),
 (gl,.code gp),
 (o8,.code pm),
 (m8,.code ni),
 (qC,.code qO),
 (pZ,.code xG),
 (jN,.code ng),
 (gG,.code xH),
 (kZ,.code sH),
 (kY,.code sG),
 (Hk,.code xI),
 (Ct,.code tJ),
 (qB,.code HY),
 (eN,.code sM),
 (qH,.code vq),
 (lb,.code sK),
 (lc,.code sL),
 (na,.code nr),
 (sy,.code s6),
 (jy,.code jK),
 (vc,.code vr),
 (oj,.code s3),
 (u4,.code vk),
 (jO,.code nk),
 (qF,.code qU),
 (sx,.code sZ),
 (pg,.code pB),
 (gY,.code kI),
 (gO,.code nn),
 (ca,.code dM),
 (bT,.code ef),
 (su,.code sS),
 (jz,.code jL),
 (sw,.code sX),
 (pd,.code pA),
 (tH,.code xS),
 (sB,.code s9),
 (pN,.code kF),
 (sA,.code s8),
 (gn,.code gw),
 (xA,.code xP),
 (iN,.code mc),
 (xz,.code xO),
 (u5,.code vl),
 (xD,.code xU),
 (xB,.code xR),
 (u6,.code vm),
 (vd,.code vt),
 (u7,.code vn),
 (oq,.code te),
 (vf,.code vu),
 (oo,.code td),
 (xC,.code xT),
 (rW,.code nj),
 (pO,.code kG)]
abbrev tbl:Nat->Option Fun':=V3 zhl
theorem TI:tbl uZ=some (.code vi):=by kernel_rfl
theorem W1:tbl xw=some (.code xK):=by kernel_rfl
theorem W0:tbl tG=some (.code xJ):=by kernel_rfl
theorem Nz:tbl eX=some (.code qT):=by kernel_rfl
theorem ID:tbl lQ=some (.code lZ):=by kernel_rfl
theorem Py:tbl eM=some (.code sF):=by kernel_rfl
theorem W3:tbl xy=some (.code xM):=by kernel_rfl
theorem Z5:tbl zO=some (.code Ap):=by kernel_rfl
theorem TJ:tbl qE=some (.code vj):=by kernel_rfl
theorem PM:tbl eO=some (.code sQ):=by kernel_rfl
theorem PT:tbl sv=some (.code sW):=by kernel_rfl
theorem TT:tbl nb=some (.code vw):=by kernel_rfl
theorem P2:tbl je=some (.code s7):=by kernel_rfl
theorem TO:tbl qG=some (.code vp):=by kernel_rfl
theorem NF:tbl gZ=some (.code qZ):=by kernel_rfl
theorem rB:tbl u9=some (.code vo):=by kernel_rfl
theorem JX:tbl jQ=some (.code nq):=by kernel_rfl
theorem P0:tbl om=some (.code s5):=by kernel_rfl
theorem EF:tbl fQ=some (.code jJ):=by kernel_rfl
theorem PZ:tbl ol=some (.code s4):=by kernel_rfl
theorem NB:tbl jP=some (.code qV):=by kernel_rfl
theorem Le:tbl iy=some (.code px):=by kernel_rfl
theorem NE:tbl mC=some (.code qY):=by kernel_rfl
theorem PW:tbl lg=some (.code sY):=by kernel_rfl
theorem AO:tbl aS=some (.code gv):=by kernel_rfl
theorem zy:tbl bn=some (.code fo):=by kernel_rfl
theorem rA:tbl cj=some (.code gr):=by kernel_rfl
theorem AN:tbl cN=some (.code gu):=by kernel_rfl
theorem B0:tbl cZ=some (.code ip):=by kernel_rfl
theorem BZ:tbl b6=some (.code io):=by kernel_rfl
theorem NC:tbl mA=some (.code qW):=by kernel_rfl
theorem PR:tbl oh=some (.code sV):=by kernel_rfl
theorem PN:tbl sr=some (.code sR):=by kernel_rfl
theorem JW:tbl m9=some (.code np):=by kernel_rfl
theorem ND:tbl mB=some (.code qX):=by kernel_rfl
theorem Lf:tbl fD=some (.code py):=by kernel_rfl
theorem PQ:tbl lf=some (.code sU):=by kernel_rfl
theorem IL:tbl iO=some (.code me):=by kernel_rfl
theorem Ny:tbl qD=some (.code qS):=by kernel_rfl
theorem Lb:tbl kS=some (.code pq):=by kernel_rfl
theorem Nx:tbl gX=some (.code qR):=by kernel_rfl
theorem Ex:tbl fJ=some (.code jB):=by kernel_rfl
theorem PI:tbl oe=some (.code sN):=by kernel_rfl
theorem BW:tbl eh=some (.code ij):=by kernel_rfl
theorem II:tbl lV=some (.code l9):=by kernel_rfl
theorem Ey:tbl fK=some (.code jC):=by kernel_rfl
theorem IH:tbl lU=some (.code l8):=by kernel_rfl
theorem Ez:tbl fL=some (.code jD):=by kernel_rfl
theorem B1:tbl bo=some (.code iq):=by kernel_rfl
theorem IF:tbl lS=some (.code l6):=by kernel_rfl
theorem Nv:tbl mz=some (.code qP):=by kernel_rfl
theorem zz:tbl be=some (.code fp):=by kernel_rfl
theorem yB:tbl bE=some (.code eQ):=by kernel_rfl
theorem AQ:tbl dK=some (.code gx):=by kernel_rfl
theorem AR:tbl cn=some (.code gy):=by kernel_rfl
theorem wR:tbl bH=some (.code dN):=by kernel_rfl
theorem j7:tbl bc=some (.code cO):=by kernel_rfl
theorem TV:tbl vg=some (.code vA):=by kernel_rfl
theorem TW:tbl qI=some (.code vB):=by kernel_rfl
theorem IM:tbl fk=some (.code mf):=by kernel_rfl
theorem P7:tbl sC=some (.code tf):=by kernel_rfl
theorem NG:tbl mD=some (.nat DW):=by kernel_rfl
theorem K9:tbl ix=some (.code pn):=by kernel_rfl
theorem Li:tbl kT=some (.code pC):=by kernel_rfl
theorem Lj:tbl pi=some (.code pE):=by kernel_rfl
theorem Qc:tbl gH=some (.code tp):=by kernel_rfl
theorem TX:tbl iP=some (.code vC):=by kernel_rfl
theorem Qa:tbl lh=some (.code tk):=by kernel_rfl
theorem P9:tbl ot=some (.dfr tj):=by kernel_rfl
theorem BX:tbl ei=some (.code ik):=by kernel_rfl
theorem Do:tbl iK=some (.code iY):=by kernel_rfl
theorem EA:tbl fM=some (.code jE):=by kernel_rfl
theorem Dl:tbl iH=some (.code iV):=by kernel_rfl
theorem EB:tbl fN=some (.code jF):=by kernel_rfl
theorem Lc:tbl b8=some (.code pu):=by kernel_rfl
theorem AM:tbl gm=some (.code gq):=by kernel_rfl
theorem BY:tbl ek=some (.code im):=by kernel_rfl
theorem Dp:tbl iL=some (.code iZ):=by kernel_rfl
theorem EC:tbl fO=some (.code jG):=by kernel_rfl
theorem Dm:tbl iI=some (.code iW):=by kernel_rfl
theorem ED:tbl fP=some (.code jH):=by kernel_rfl
theorem IG:tbl lT=some (.code l7):=by kernel_rfl
theorem EE:tbl jx=some (.code jI):=by kernel_rfl
theorem Dj:tbl iF=some (.code iT):=by kernel_rfl
theorem GI:tbl kB=some (.code kH):=by kernel_rfl
theorem Dk:tbl iG=some (.code iU):=by kernel_rfl
theorem Di:tbl eW=some (.code iS):=by kernel_rfl
theorem Dn:tbl iJ=some (.code iX):=by kernel_rfl
theorem Nw:tbl gW=some (.code qQ):=by kernel_rfl
theorem PL:tbl sq=some (.code sP):=by kernel_rfl
theorem K7:tbl kR=some (.code pj):=by kernel_rfl
theorem GF:tbl gV=some (.code kE):=by kernel_rfl
theorem W2:tbl xx=some (.code xL):=by kernel_rfl
theorem IJ:tbl iM=some (.code mb):=by kernel_rfl
theorem Ld:tbl pc=some (.code pw):=by kernel_rfl
theorem PK:tbl sn=some (.code sO):=by kernel_rfl
theorem La:tbl o9=some (.code pp):=by kernel_rfl
theorem TY:tbl qJ=some (.code vD):=by kernel_rfl
theorem Qb:tbl ou=some (.code tn):=by kernel_rfl
theorem AS:tbl dL=some (.code gz):=by kernel_rfl
theorem zA:tbl dv=some (.code fq):=by kernel_rfl
theorem TU:tbl kC=some (.code vz):=by kernel_rfl
theorem AT:tbl co=some (.code gA):=by kernel_rfl
theorem P8:tbl sD=some (.code ti):=by kernel_rfl
theorem PE:tbl sj=some (.code sJ):=by kernel_rfl
theorem IE:tbl lR=some (.code l5):=by kernel_rfl
theorem Ew:tbl jv=some (.code jA):=by kernel_rfl
theorem yz:tbl c9=some (.code eP):=by kernel_rfl
theorem zx:tbl b9=some (.code fm):=by kernel_rfl
theorem IC:tbl lP=some (.code lY):=by kernel_rfl
theorem PD:tbl od=some (.code sI):=by kernel_rfl
theorem xc:tbl cT=some (.code eb):=by kernel_rfl
theorem xd:tbl cU=some (.code ee):=by kernel_rfl
theorem AL:tbl gl=some (.code gp):=by kernel_rfl
theorem K8:tbl o8=some (.code pm):=by kernel_rfl
theorem JR:tbl m8=some (.code ni):=by kernel_rfl
theorem Nu:tbl qC=some (.code qO):=by kernel_rfl
theorem WY:tbl pZ=some (.code xG):=by kernel_rfl
theorem JQ:tbl jN=some (.code ng):=by kernel_rfl
theorem WZ:tbl gG=some (.code xH):=by kernel_rfl
theorem PC:tbl kZ=some (.code sH):=by kernel_rfl
theorem Pz:tbl kY=some (.code sG):=by kernel_rfl
theorem PH:tbl eN=some (.code sM):=by kernel_rfl
theorem TP:tbl qH=some (.code vq):=by kernel_rfl
theorem PF:tbl lb=some (.code sK):=by kernel_rfl
theorem PG:tbl lc=some (.code sL):=by kernel_rfl
theorem JY:tbl na=some (.code nr):=by kernel_rfl
theorem P1:tbl sy=some (.code s6):=by kernel_rfl
theorem EG:tbl jy=some (.code jK):=by kernel_rfl
theorem TQ:tbl vc=some (.code vr):=by kernel_rfl
theorem PY:tbl oj=some (.code s3):=by kernel_rfl
theorem TK:tbl u4=some (.code vk):=by kernel_rfl
theorem JU:tbl jO=some (.code nk):=by kernel_rfl
theorem NA:tbl qF=some (.code qU):=by kernel_rfl
theorem PX:tbl sx=some (.code sZ):=by kernel_rfl
theorem Lh:tbl pg=some (.code pB):=by kernel_rfl
theorem GJ:tbl gY=some (.code kI):=by kernel_rfl
theorem JV:tbl gO=some (.code nn):=by kernel_rfl
theorem wQ:tbl ca=some (.code dM):=by kernel_rfl
theorem xe:tbl bT=some (.code ef):=by kernel_rfl
theorem PP:tbl su=some (.code sS):=by kernel_rfl
theorem EH:tbl jz=some (.code jL):=by kernel_rfl
theorem PU:tbl sw=some (.code sX):=by kernel_rfl
theorem Lg:tbl pd=some (.code pA):=by kernel_rfl
theorem W7:tbl tH=some (.code xS):=by kernel_rfl
theorem P4:tbl sB=some (.code s9):=by kernel_rfl
theorem GG:tbl pN=some (.code kF):=by kernel_rfl
theorem P3:tbl sA=some (.code s8):=by kernel_rfl
theorem AP:tbl gn=some (.code gw):=by kernel_rfl
theorem W5:tbl xA=some (.code xP):=by kernel_rfl
theorem IK:tbl iN=some (.code mc):=by kernel_rfl
theorem W4:tbl xz=some (.code xO):=by kernel_rfl
theorem TL:tbl u5=some (.code vl):=by kernel_rfl
theorem W9:tbl xD=some (.code xU):=by kernel_rfl
theorem W6:tbl xB=some (.code xR):=by kernel_rfl
theorem TM:tbl u6=some (.code vm):=by kernel_rfl
theorem TR:tbl vd=some (.code vt):=by kernel_rfl
theorem TN:tbl u7=some (.code vn):=by kernel_rfl
theorem P6:tbl oq=some (.code te):=by kernel_rfl
theorem TS:tbl vf=some (.code vu):=by kernel_rfl
theorem P5:tbl oo=some (.code td):=by kernel_rfl
theorem W8:tbl xC=some (.code xT):=by kernel_rfl
theorem JS:tbl rW=some (.code nj):=by kernel_rfl
theorem GH:tbl pO=some (.code kG):=by kernel_rfl
theorem zeo:TblOk Tryz.prog tbl:=AllOk.tbl (P:=Tryz.prog) (l:=zhl) ⟨Su,Vv,Vu,Mn,HG,OB,Vx,X1,Sv,ON,OS,SL,O8,O7,SF,Mx,Ah,Er,O5,yq,Mq,KY,OM,Mr,HR,SE,Jm,O4,Ep,OZ,HO,Ms,KZ,SB,OU,Gj,Mv,yr,Mw,OV,Mp,Sw,Sy,SC,OX,Af,ze,Ad,Ae,BN,BM,Mt,OR,OO,Jl,Mu,K0,OQ,SH,HQ,Aj,Ai,O3,KT,Mm,KV,Ml,Eh,OJ,BJ,HM,Ei,HK,Ej,BO,HI,Mj,zg,yt,Ak,Al,ws,rX,SO,SP,HS,Pg,M0,KS,K3,K4,Pm,SQ,Pj,Pi,BK,CO,Ek,CL,El,KW,Ac,BL,CP,Em,CM,En,HJ,Eo,CJ,Gh,CK,CI,CN,Mk,OL,KN,Ge,Vw,HN,KX,OK,KU,SR,Pk,Am,zh,SN,An,Ph,OF,HH,Eg,yp,zc,HE,OE,wY,wZ,Ab,KR,Jh,Mi,Vs,Jg,Vt,OD,OC,HF,CG,Ss,OI,SG,OG,OH,Jn,O6,zhE,SI,OY,Sx,Jj,Mo,OW,K2,Gi,Jk,wq,w8,OP,Es,OT,K1,VB,Pd,Gf,O9,Ag,Vz,HP,Vy,Sz,VD,VA,SA,SJ,SD,Pf,SK,Pe,VC,Ji,Gg,trivial⟩
end Go.Proofs.YthjnceggmnicmaaGreatDoor
