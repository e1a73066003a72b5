import Derived.Test.YtmfolppncelceaaGreatDoorMTG4
import Derived.Test.YtmfolppncelceaaGreatDoorML7
import Derived.Test.YtmfolppncelceaaGreatDoorRows
import Derived.Test.YtmfolppncelceaaGreatDoorMBn
import Derived.Test.YtmfolppncelceaaGreatDoorMRibNat
set_option linter.unusedVariables false
set_option linter.unusedSimpArgs false
namespace Go.Proofs.YtmfolppncelceaaGreatDoor
open Go Go.Av Go.Ev
theorem FT:U8 Tryz.prog jk (.nat xr):=Sx Tryz.strconv_Itoa
theorem Bj:U8 Tryz.prog rF (.nat xt):=xV
theorem HV:U8 Tryz.prog yY (.nat rU):=D8
theorem pG:U8 Tryz.prog im (.nat xq):=nE
theorem ub:U8 Tryz.prog mh (.nat xp):=sd
theorem Ht:Entry Tryz.prog 8 oa:=b6 Tryz.func8 (by kernel_rfl)
theorem LI:Entry Tryz.prog 23 Df:=b6 Tryz.func23 (by kernel_rfl)
theorem Fl:Entry Tryz.prog 42 mw:=b6 Tryz.func42 (by kernel_rfl)
theorem DU:Entry Tryz.prog 95 kN:=b6 Tryz.func95 (by kernel_rfl)
theorem Fj:Entry Tryz.prog 73 mu:=b6 Tryz.func73 (by kernel_rfl)
theorem xJ:Entry Tryz.prog 44 gl:=b6 Tryz.func44 (by kernel_rfl)
theorem JQ:Entry Tryz.prog 157 qd:=b6 Tryz.func157 (by kernel_rfl)
theorem LH:Entry Tryz.prog 122 rK:=b6 Tryz.func122 (by kernel_rfl)
theorem LG:Entry Tryz.prog 96 rJ:=b6 Tryz.func96 (by kernel_rfl)
theorem Fo:Entry Tryz.prog 74 my:=b6 Tryz.func74 (by kernel_rfl)
theorem Hu:Entry Tryz.prog 48 od:=b6 Tryz.func48 (by kernel_rfl)
theorem u4:Entry Tryz.prog 47 eX:=b6 Tryz.func47 (by kernel_rfl)
theorem AU:Entry Tryz.prog 46 iY:=b6 Tryz.func46 (by kernel_rfl)
theorem xK:Entry Tryz.prog 45 gm:=b6 Tryz.func45 (by kernel_rfl)
theorem AT:Entry Tryz.prog 43 iX:=b6 Tryz.func43 (by kernel_rfl)
theorem xL:Entry Tryz.prog 49 gn:=b6 Tryz.func49 (by kernel_rfl)
theorem vf:Entry Tryz.prog 98 fc:=b6 Tryz.func98 (by kernel_rfl)
theorem AR:Entry Tryz.prog 212 iV:=b6 Tryz.func212 (by kernel_rfl)
theorem Fh:Entry Tryz.prog 202 mr:=b6 Tryz.func202 (by kernel_rfl)
theorem sE:Entry Tryz.prog 183 dL:=b6 Tryz.func183 (by kernel_rfl)
theorem r9:Entry Tryz.prog 184 dw:=b6 Tryz.func184 (by kernel_rfl)
theorem tJ:Entry Tryz.prog 158 eA:=b6 Tryz.func158 (by kernel_rfl)
theorem tK:Entry Tryz.prog 123 eB:=b6 Tryz.func123 (by kernel_rfl)
theorem qI:Entry Tryz.prog 97 cK:=b6 Tryz.func97 (by kernel_rfl)
theorem nA:Entry Tryz.prog 76 ci:=b6 Tryz.func76 (by kernel_rfl)
theorem JY:Entry Tryz.prog 185 qj:=b6 Tryz.func185 (by kernel_rfl)
theorem JZ:Entry Tryz.prog 159 qk:=b6 Tryz.func159 (by kernel_rfl)
theorem AZ:Entry Tryz.prog 124 i7:=b6 Tryz.func124 (by kernel_rfl)
theorem HK:Entry Tryz.prog 99 oy:=b6 Tryz.func99 (by kernel_rfl)
theorem DR:Entry Tryz.prog 125 kM:=b6 Tryz.func125 (by kernel_rfl)
theorem D3:Entry Tryz.prog 187 kS:=b6 Tryz.func187 (by kernel_rfl)
theorem D5:Entry Tryz.prog 161 kT:=b6 Tryz.func161 (by kernel_rfl)
theorem HQ:Entry Tryz.prog 126 oC:=b6 Tryz.func126 (by kernel_rfl)
theorem J0:Entry Tryz.prog 100 ql:=b6 Tryz.func100 (by kernel_rfl)
theorem HO:Entry Tryz.prog 77 oA:=b6 Tryz.func77 (by kernel_rfl)
set_option maxRecDepth 8000 in
theorem HN:EntryD Tryz.prog 52 oz:=⟨⟨Tryz.f52,_,_,_,_,_,_,_,_,_,_,_,Tryz.func52,by kernel_rfl,rfl,by kernel_rfl,by kernel_rfl,⟨⟨Tryz.f75,_,_,_,_,_,_,_,Tryz.func75,by kernel_rfl,by kernel_rfl,rfl,⟨#[],by kernel_rfl⟩,by kernel_rfl⟩⟩,by kernel_rfl,by kernel_rfl⟩,by kernel_rfl⟩
theorem u5:Entry Tryz.prog 51 eY:=b6 Tryz.func51 (by kernel_rfl)
theorem wj:Entry Tryz.prog 46 fO:=b6 Tryz.func46 (by kernel_rfl)
theorem xM:Entry Tryz.prog 50 gp:=b6 Tryz.func50 (by kernel_rfl)
theorem wg:Entry Tryz.prog 43 fL:=b6 Tryz.func43 (by kernel_rfl)
theorem xN:Entry Tryz.prog 53 gq:=b6 Tryz.func53 (by kernel_rfl)
theorem DV:Entry Tryz.prog 78 kO:=b6 Tryz.func78 (by kernel_rfl)
theorem tC:Entry Tryz.prog 56 eu:=b6 Tryz.func56 (by kernel_rfl)
theorem u6:Entry Tryz.prog 55 eZ:=b6 Tryz.func55 (by kernel_rfl)
theorem wk:Entry Tryz.prog 46 fP:=b6 Tryz.func46 (by kernel_rfl)
theorem xO:Entry Tryz.prog 54 gr:=b6 Tryz.func54 (by kernel_rfl)
theorem wh:Entry Tryz.prog 43 fM:=b6 Tryz.func43 (by kernel_rfl)
theorem xP:Entry Tryz.prog 57 gu:=b6 Tryz.func57 (by kernel_rfl)
theorem AS:Entry Tryz.prog 127 iW:=b6 Tryz.func127 (by kernel_rfl)
theorem xQ:Entry Tryz.prog 101 gv:=b6 Tryz.func101 (by kernel_rfl)
theorem wd:Entry Tryz.prog 102 fJ:=b6 Tryz.func102 (by kernel_rfl)
theorem zH:Entry Tryz.prog 79 hR:=b6 Tryz.func79 (by kernel_rfl)
theorem we:Entry Tryz.prog 59 fK:=b6 Tryz.func59 (by kernel_rfl)
theorem wc:Entry Tryz.prog 58 fI:=b6 Tryz.func58 (by kernel_rfl)
theorem wi:Entry Tryz.prog 43 fN:=b6 Tryz.func43 (by kernel_rfl)
theorem Fi:Entry Tryz.prog 24 mt:=b6 Tryz.func24 (by kernel_rfl)
theorem Hw:Entry Tryz.prog 60 oe:=b6 Tryz.func60 (by kernel_rfl)
theorem zJ:Entry Tryz.prog 25 hU:=b6 Tryz.func25 (by kernel_rfl)
theorem Fp:Entry Tryz.prog 10 mz:=b6 Tryz.func10 (by kernel_rfl)
theorem HR:Entry Tryz.prog 145 zg:=b6 Tryz.func145 (by kernel_rfl)
theorem Cl:Entry Tryz.prog 114 sM:=b6 Tryz.func114 (by kernel_rfl)
theorem LL:Entry Tryz.prog 88 Di:=b6 Tryz.func88 (by kernel_rfl)
theorem Hy:Entry Tryz.prog 68 za:=b6 Tryz.func68 (by kernel_rfl)
theorem Ce:Entry Tryz.prog 13 jO:=b6 Tryz.func13 (by kernel_rfl)
theorem AP:Entry Tryz.prog 135 rL:=b6 Tryz.func135 (by kernel_rfl)
theorem Hp:Entry Tryz.prog 111 y6:=b6 Tryz.func111 (by kernel_rfl)
theorem DN:Entry Tryz.prog 86 uP:=b6 Tryz.func86 (by kernel_rfl)
theorem zG:Entry Tryz.prog 112 qK:=b6 Tryz.func112 (by kernel_rfl)
theorem LJ:Entry Tryz.prog 170 Dh:=b6 Tryz.func170 (by kernel_rfl)
theorem AW:Entry Tryz.prog 140 rN:=b6 Tryz.func140 (by kernel_rfl)
theorem DW:Entry Tryz.prog 189 uS:=b6 Tryz.func189 (by kernel_rfl)
theorem Hv:Entry Tryz.prog 167 y9:=b6 Tryz.func167 (by kernel_rfl)
theorem DT:Entry Tryz.prog 137 uR:=b6 Tryz.func137 (by kernel_rfl)
theorem J1:Entry Tryz.prog 190 A9:=b6 Tryz.func190 (by kernel_rfl)
theorem HP:Entry Tryz.prog 191 ze:=b6 Tryz.func191 (by kernel_rfl)
theorem tL:Entry Tryz.prog 205 mI:=b6 Tryz.func205 (by kernel_rfl)
theorem sF:Entry Tryz.prog 206 lH:=b6 Tryz.func206 (by kernel_rfl)
theorem JX:Entry Tryz.prog 207 A8:=b6 Tryz.func207 (by kernel_rfl)
theorem tM:Entry Tryz.prog 192 mJ:=b6 Tryz.func192 (by kernel_rfl)
theorem HM:Entry Tryz.prog 168 zc:=b6 Tryz.func168 (by kernel_rfl)
theorem Hr:Entry Tryz.prog 138 y8:=b6 Tryz.func138 (by kernel_rfl)
theorem AQ:Entry Tryz.prog 169 rM:=b6 Tryz.func169 (by kernel_rfl)
theorem xH:Entry Tryz.prog 139 pW:=b6 Tryz.func139 (by kernel_rfl)
theorem r8:Entry Tryz.prog 136 kB:=b6 Tryz.func136 (by kernel_rfl)
theorem sC:Entry Tryz.prog 141 lG:=b6 Tryz.func141 (by kernel_rfl)
theorem AO:Entry Tryz.prog 142 rI:=b6 Tryz.func142 (by kernel_rfl)
theorem Hq:Entry Tryz.prog 143 y7:=b6 Tryz.func143 (by kernel_rfl)
theorem rh:Entry Tryz.prog 195 j5:=b6 Tryz.func195 (by kernel_rfl)
theorem ri:Entry Tryz.prog 193 j6:=b6 Tryz.func193 (by kernel_rfl)
theorem tA:Entry Tryz.prog 194 mq:=b6 Tryz.func194 (by kernel_rfl)
theorem DO:Entry Tryz.prog 171 uQ:=b6 Tryz.func171 (by kernel_rfl)
theorem Cd:Entry Tryz.prog 172 sJ:=b6 Tryz.func172 (by kernel_rfl)
theorem Fg:Entry Tryz.prog 144 wn:=b6 Tryz.func144 (by kernel_rfl)
theorem LE:Entry Tryz.prog 113 Dd:=b6 Tryz.func113 (by kernel_rfl)
theorem Cc:Entry Tryz.prog 87 sI:=b6 Tryz.func87 (by kernel_rfl)
theorem LF:Entry Tryz.prog 67 De:=b6 Tryz.func67 (by kernel_rfl)
theorem tE:Entry Tryz.prog 66 mB:=b6 Tryz.func66 (by kernel_rfl)
theorem Cg:Entry Tryz.prog 32 sL:=b6 Tryz.func32 (by kernel_rfl)
theorem u7:Entry Tryz.prog 33 ni:=b6 Tryz.func33 (by kernel_rfl)
theorem tD:Entry Tryz.prog 34 mA:=b6 Tryz.func34 (by kernel_rfl)
theorem zI:Entry Tryz.prog 15 qL:=b6 Tryz.func15 (by kernel_rfl)
theorem Fq:Entry Tryz.prog 37 wo:=b6 Tryz.func37 (by kernel_rfl)
theorem Cf:Entry Tryz.prog 18 sK:=b6 Tryz.func18 (by kernel_rfl)
theorem u9:Entry Tryz.prog 17 nj:=b6 Tryz.func17 (by kernel_rfl)
theorem Hs:Entry Tryz.prog 9 nZ:=b6 Tryz.func9 (by kernel_rfl)
theorem JV:Entry Tryz.prog 83 qh:=b6 Tryz.func83 (by kernel_rfl)
theorem Fw:Entry Tryz.prog 64 mG:=b6 Tryz.func64 (by kernel_rfl)
theorem LK:Entry Tryz.prog 162 rO:=b6 Tryz.func162 (by kernel_rfl)
theorem NI:Entry Tryz.prog 163 tO:=b6 Tryz.func163 (by kernel_rfl)
theorem JR:Entry Tryz.prog 128 qe:=b6 Tryz.func128 (by kernel_rfl)
theorem Hz:Entry Tryz.prog 103 oh:=b6 Tryz.func103 (by kernel_rfl)
theorem HE:Entry Tryz.prog 80 oo:=b6 Tryz.func80 (by kernel_rfl)
theorem Ck:Entry Tryz.prog 61 jS:=b6 Tryz.func61 (by kernel_rfl)
theorem tH:Entry Tryz.prog 130 ez:=b6 Tryz.func130 (by kernel_rfl)
theorem sD:Entry Tryz.prog 204 dK:=b6 Tryz.func204 (by kernel_rfl)
theorem tF:Entry Tryz.prog 188 ev:=b6 Tryz.func188 (by kernel_rfl)
theorem tG:Entry Tryz.prog 164 ey:=b6 Tryz.func164 (by kernel_rfl)
theorem vd:Entry Tryz.prog 129 fb:=b6 Tryz.func129 (by kernel_rfl)
theorem vc:Entry Tryz.prog 104 fa:=b6 Tryz.func104 (by kernel_rfl)
theorem Ft:Entry Tryz.prog 165 mD:=b6 Tryz.func165 (by kernel_rfl)
theorem HC:Entry Tryz.prog 131 om:=b6 Tryz.func131 (by kernel_rfl)
theorem HA:Entry Tryz.prog 105 oj:=b6 Tryz.func105 (by kernel_rfl)
theorem Ci:Entry Tryz.prog 132 jQ:=b6 Tryz.func132 (by kernel_rfl)
theorem Fs:Entry Tryz.prog 166 mC:=b6 Tryz.func166 (by kernel_rfl)
theorem DX:Entry Tryz.prog 133 kP:=b6 Tryz.func133 (by kernel_rfl)
theorem Fu:Entry Tryz.prog 134 mE:=b6 Tryz.func134 (by kernel_rfl)
theorem DY:Entry Tryz.prog 106 kQ:=b6 Tryz.func106 (by kernel_rfl)
theorem HB:Entry Tryz.prog 81 ol:=b6 Tryz.func81 (by kernel_rfl)
theorem HI:Entry Tryz.prog 62 ov:=b6 Tryz.func62 (by kernel_rfl)
theorem AX:Entry Tryz.prog 82 iZ:=b6 Tryz.func82 (by kernel_rfl)
theorem xT:Entry Tryz.prog 63 gy:=b6 Tryz.func63 (by kernel_rfl)
theorem JU:Entry Tryz.prog 107 qg:=b6 Tryz.func107 (by kernel_rfl)
theorem Cj:Entry Tryz.prog 108 jR:=b6 Tryz.func108 (by kernel_rfl)
theorem HH:Entry Tryz.prog 109 ou:=b6 Tryz.func109 (by kernel_rfl)
theorem xS:Entry Tryz.prog 110 gx:=b6 Tryz.func110 (by kernel_rfl)
theorem HG:Entry Tryz.prog 84 ot:=b6 Tryz.func84 (by kernel_rfl)
theorem Fv:Entry Tryz.prog 85 mF:=b6 Tryz.func85 (by kernel_rfl)
theorem JW:Entry Tryz.prog 65 qi:=b6 Tryz.func65 (by kernel_rfl)
theorem HF:Entry Tryz.prog 26 oq:=b6 Tryz.func26 (by kernel_rfl)
theorem AY:Entry Tryz.prog 27 i6:=b6 Tryz.func27 (by kernel_rfl)
theorem Fx:Entry Tryz.prog 28 mH:=b6 Tryz.func28 (by kernel_rfl)
theorem JS:Entry Tryz.prog 29 qf:=b6 Tryz.func29 (by kernel_rfl)
theorem HJ:Entry Tryz.prog 11 ow:=b6 Tryz.func11 (by kernel_rfl)
theorem DZ:Entry Tryz.prog 14 kR:=b6 Tryz.func14 (by kernel_rfl)
theorem Ch:Entry Tryz.prog 30 jP:=b6 Tryz.func30 (by kernel_rfl)
theorem xR:Entry Tryz.prog 31 gw:=b6 Tryz.func31 (by kernel_rfl)
theorem xI:Entry Tryz.prog 12 gj:=b6 Tryz.func12 (by kernel_rfl)
theorem wb:Entry Tryz.prog 3 fH:=b6 Tryz.func3 (by kernel_rfl)
def WO:List (Nat×Fun'):=[(nO,.code oa),
 (oS,.code Df),
 (l8,.code mw),
 (ij,.code kN),
 (eQ,.code mu),
 (dU,.code gl),
 (pZ,.code qd),
 (rC,.code rK),
 (rB,.code rJ),
 (jh,.code my),
 (nP,.code od),
 (cX,.code eX),
 (iR,.code iY),
 (dV,.code gm),
 (iQ,.code iX),
 (dW,.code gn),
 (bb,.code fc),
 (iO,.code iV),
 (jg,.code mr),
 (aZ,.code dL),
 (bq,.code dw),
 (cJ,.code eA),
 (bT,.code eB),
 (br,.code cK),
 (aY,.code ci),
 (p9,.code qj),
 (qa,.code qk),
 (dJ,.code i7),
 (nW,.code oy),
 (jk,.nat xr),
 (fh,.code kM),
 (ik,.code kS),
 (kK,.code kT),
 (eF,.code oC),
 (fC,.code ql),
 (ix,.code oA),
 (nX,.dfr oz),
 (cY,.code eY),
 (fz,.code fO),
 (dX,.code gp),
 (fw,.code fL),
 (dY,.code gq),
 (bP,.code kO),
 (eo,.code eu),
 (cZ,.code eZ),
 (fA,.code fP),
 (dZ,.code gr),
 (fx,.code fM),
 (d4,.code gu),
 (iP,.code iW),
 (f8,.code gv),
 (ft,.code fJ),
 (g8,.code hR),
 (fv,.code fK),
 (dy,.code fI),
 (fy,.code fN),
 (l7,.code mt),
 (km,.code oe),
 (g9,.code hU),
 (l9,.code mz),
 (Hl,.code zg),
 (rF,.nat xt),
 (B5,.code sM),
 (yY,.nat rU),
 (Le,.code Di),
 (Hi,.code za),
 (jH,.code jO),
 (Au,.code rL),
 (He,.code y6),
 (DF,.code uP),
 (zB,.code qK),
 (Ld,.code Dh),
 (Ax,.code rN),
 (DJ,.code uS),
 (Hh,.code y9),
 (DI,.code uR),
 (JH,.code A9),
 (Hk,.code ze),
 (tj,.code mI),
 (sA,.code lH),
 (JG,.code A8),
 (tk,.code mJ),
 (Hj,.code zc),
 (Hg,.code y8),
 (Aw,.code rM),
 (xG,.code pW),
 (ki,.code kB),
 (lC,.code lG),
 (As,.code rI),
 (Hf,.code y7),
 (re,.code j5),
 (rf,.code j6),
 (tf,.code mq),
 (DG,.code uQ),
 (B3,.code sJ),
 (ES,.code wn),
 (Lb,.code Dd),
 (B2,.code sI),
 (Lc,.code De),
 (mb,.code mB),
 (B4,.code sL),
 (uZ,.code ni),
 (tg,.code mA),
 (lc,.code qL),
 (im,.nat xq),
 (mh,.nat xp),
 (ET,.code wo),
 (nz,.code sK),
 (iH,.code nj),
 (kj,.code nZ),
 (mf,.code qh),
 (eR,.code mG),
 (rE,.code rO),
 (ti,.code tO),
 (p5,.code qe),
 (ko,.code oh),
 (ku,.code oo),
 (jL,.code jS),
 (aP,.code ez),
 (ba,.code dK),
 (bS,.code ev),
 (cg,.code ey),
 (cr,.code fb),
 (bN,.code fa),
 (mc,.code mD),
 (kt,.code om),
 (nQ,.code oj),
 (jJ,.code jQ),
 (gz,.code mC),
 (fj,.code kP),
 (ji,.code mE),
 (dP,.code kQ),
 (kq,.code ol),
 (nU,.code ov),
 (fB,.code iZ),
 (gh,.code gy),
 (p7,.code qg),
 (jK,.code jR),
 (nT,.code ou),
 (gg,.code gx),
 (nS,.code ot),
 (md,.code mF),
 (p8,.code qi),
 (nR,.code oq),
 (iS,.code i6),
 (mg,.code mH),
 (p6,.code qf),
 (nV,.code ow),
 (kJ,.code kR),
 (jI,.code jP),
 (f9,.code gw),
 (f7,.code gj),
 (fq,.code fH)]
abbrev tbl:Nat->Option Fun':=I5 WO
theorem H4:tbl nO=some (.code oa):=by kernel_rfl
theorem Gq:tbl l8=some (.code mw):=by kernel_rfl
theorem Ea:tbl ij=some (.code kN):=by kernel_rfl
theorem Gp:tbl eQ=some (.code mu):=by kernel_rfl
theorem xX:tbl dU=some (.code gl):=by kernel_rfl
theorem KA:tbl pZ=some (.code qd):=by kernel_rfl
theorem MX:tbl rC=some (.code rK):=by kernel_rfl
theorem MW:tbl rB=some (.code rJ):=by kernel_rfl
theorem Gr:tbl jh=some (.code my):=by kernel_rfl
theorem H5:tbl nP=some (.code od):=by kernel_rfl
theorem vi:tbl cX=some (.code eX):=by kernel_rfl
theorem BF:tbl iR=some (.code iY):=by kernel_rfl
theorem xY:tbl dV=some (.code gm):=by kernel_rfl
theorem BE:tbl iQ=some (.code iX):=by kernel_rfl
theorem xZ:tbl dW=some (.code gn):=by kernel_rfl
theorem vn:tbl bb=some (.code fc):=by kernel_rfl
theorem BC:tbl iO=some (.code iV):=by kernel_rfl
theorem Gm:tbl jg=some (.code mr):=by kernel_rfl
theorem s4:tbl aZ=some (.code dL):=by kernel_rfl
theorem si:tbl bq=some (.code dw):=by kernel_rfl
theorem uo:tbl cJ=some (.code eA):=by kernel_rfl
theorem uq:tbl bT=some (.code eB):=by kernel_rfl
theorem q7:tbl br=some (.code cK):=by kernel_rfl
theorem gH:tbl aY=some (.code ci):=by kernel_rfl
theorem KG:tbl p9=some (.code qj):=by kernel_rfl
theorem KH:tbl qa=some (.code qk):=by kernel_rfl
theorem BI:tbl dJ=some (.code i7):=by kernel_rfl
theorem Ii:tbl nW=some (.code oy):=by kernel_rfl
theorem Gz:tbl jk=some (.nat xr):=by kernel_rfl
theorem D9:tbl fh=some (.code kM):=by kernel_rfl
theorem Ef:tbl ik=some (.code kS):=by kernel_rfl
theorem Eg:tbl kK=some (.code kT):=by kernel_rfl
theorem Il:tbl eF=some (.code oC):=by kernel_rfl
theorem KI:tbl fC=some (.code ql):=by kernel_rfl
theorem Ik:tbl ix=some (.code oA):=by kernel_rfl
theorem Ij:tbl nX=some (.dfr oz):=by kernel_rfl
theorem vj:tbl cY=some (.code eY):=by kernel_rfl
theorem wM:tbl fz=some (.code fO):=by kernel_rfl
theorem x5:tbl dX=some (.code gp):=by kernel_rfl
theorem wJ:tbl fw=some (.code fL):=by kernel_rfl
theorem x6:tbl dY=some (.code gq):=by kernel_rfl
theorem Eb:tbl bP=some (.code kO):=by kernel_rfl
theorem uj:tbl eo=some (.code eu):=by kernel_rfl
theorem vk:tbl cZ=some (.code eZ):=by kernel_rfl
theorem wN:tbl fA=some (.code fP):=by kernel_rfl
theorem x7:tbl dZ=some (.code gr):=by kernel_rfl
theorem wK:tbl fx=some (.code fM):=by kernel_rfl
theorem x8:tbl d4=some (.code gu):=by kernel_rfl
theorem BD:tbl iP=some (.code iW):=by kernel_rfl
theorem x9:tbl f8=some (.code gv):=by kernel_rfl
theorem wH:tbl ft=some (.code fJ):=by kernel_rfl
theorem Aa:tbl g8=some (.code hR):=by kernel_rfl
theorem wI:tbl fv=some (.code fK):=by kernel_rfl
theorem wG:tbl dy=some (.code fI):=by kernel_rfl
theorem wL:tbl fy=some (.code fN):=by kernel_rfl
theorem Gn:tbl l7=some (.code mt):=by kernel_rfl
theorem H6:tbl km=some (.code oe):=by kernel_rfl
theorem Ab:tbl g9=some (.code hU):=by kernel_rfl
theorem Gs:tbl l9=some (.code mz):=by kernel_rfl
theorem CO:tbl jH=some (.code jO):=by kernel_rfl
theorem H3:tbl kj=some (.code nZ):=by kernel_rfl
theorem KE:tbl mf=some (.code qh):=by kernel_rfl
theorem Gx:tbl eR=some (.code mG):=by kernel_rfl
theorem MY:tbl rE=some (.code rO):=by kernel_rfl
theorem OC:tbl ti=some (.code tO):=by kernel_rfl
theorem KB:tbl p5=some (.code qe):=by kernel_rfl
theorem H7:tbl ko=some (.code oh):=by kernel_rfl
theorem Ib:tbl ku=some (.code oo):=by kernel_rfl
theorem CU:tbl jL=some (.code jS):=by kernel_rfl
theorem um:tbl aP=some (.code ez):=by kernel_rfl
theorem s3:tbl ba=some (.code dK):=by kernel_rfl
theorem m4:tbl bS=some (.code ev):=by kernel_rfl
theorem uk:tbl cg=some (.code ey):=by kernel_rfl
theorem vm:tbl cr=some (.code fb):=by kernel_rfl
theorem vl:tbl bN=some (.code fa):=by kernel_rfl
theorem Gu:tbl mc=some (.code mD):=by kernel_rfl
theorem Ia:tbl kt=some (.code om):=by kernel_rfl
theorem H8:tbl nQ=some (.code oj):=by kernel_rfl
theorem CR:tbl jJ=some (.code jQ):=by kernel_rfl
theorem Gt:tbl gz=some (.code mC):=by kernel_rfl
theorem Ec:tbl fj=some (.code kP):=by kernel_rfl
theorem Gv:tbl ji=some (.code mE):=by kernel_rfl
theorem Ed:tbl dP=some (.code kQ):=by kernel_rfl
theorem H9:tbl kq=some (.code ol):=by kernel_rfl
theorem Ig:tbl nU=some (.code ov):=by kernel_rfl
theorem BG:tbl fB=some (.code iZ):=by kernel_rfl
theorem yc:tbl gh=some (.code gy):=by kernel_rfl
theorem m5:tbl p7=some (.code qg):=by kernel_rfl
theorem CS:tbl jK=some (.code jR):=by kernel_rfl
theorem If:tbl nT=some (.code ou):=by kernel_rfl
theorem yb:tbl gg=some (.code gx):=by kernel_rfl
theorem Ie:tbl nS=some (.code ot):=by kernel_rfl
theorem Gw:tbl md=some (.code mF):=by kernel_rfl
theorem KF:tbl p8=some (.code qi):=by kernel_rfl
theorem Ic:tbl nR=some (.code oq):=by kernel_rfl
theorem BH:tbl iS=some (.code i6):=by kernel_rfl
theorem Gy:tbl mg=some (.code mH):=by kernel_rfl
theorem KD:tbl p6=some (.code qf):=by kernel_rfl
theorem Ih:tbl nV=some (.code ow):=by kernel_rfl
theorem Ee:tbl kJ=some (.code kR):=by kernel_rfl
theorem CP:tbl jI=some (.code jP):=by kernel_rfl
theorem ya:tbl f9=some (.code gw):=by kernel_rfl
theorem xW:tbl f7=some (.code gj):=by kernel_rfl
theorem wF:tbl fq=some (.code fH):=by kernel_rfl
theorem WP:TblOk Tryz.prog tbl:=AllOk.tbl (P:=Tryz.prog) (l:=WO) ⟨Ht,LI,Fl,DU,Fj,xJ,JQ,LH,LG,Fo,Hu,u4,AU,xK,AT,xL,vf,AR,Fh,sE,r9,tJ,tK,qI,nA,JY,JZ,AZ,HK,FT,DR,D3,D5,HQ,J0,HO,HN,u5,wj,xM,wg,xN,DV,tC,u6,wk,xO,wh,xP,AS,xQ,wd,zH,we,wc,wi,Fi,Hw,zJ,Fp,HR,Bj,Cl,HV,LL,Hy,Ce,AP,Hp,DN,zG,LJ,AW,DW,Hv,DT,J1,HP,tL,sF,JX,tM,HM,Hr,AQ,xH,r8,sC,AO,Hq,rh,ri,tA,DO,Cd,Fg,LE,Cc,LF,tE,Cg,u7,tD,zI,pG,ub,Fq,Cf,u9,Hs,JV,Fw,LK,NI,JR,Hz,HE,Ck,tH,sD,tF,tG,vd,vc,Ft,HC,HA,Ci,Fs,DX,Fu,DY,HB,HI,AX,xT,JU,Cj,HH,xS,HG,Fv,JW,HF,AY,Fx,JS,HJ,DZ,Ch,xR,xI,wb,trivial⟩
end Go.Proofs.YtmfolppncelceaaGreatDoor
