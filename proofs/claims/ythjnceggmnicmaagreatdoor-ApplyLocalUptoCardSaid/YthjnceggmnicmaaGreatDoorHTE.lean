import Derived.Test.YthjnceggmnicmaaGreatDoorHTG1
import Derived.Test.YthjnceggmnicmaaGreatDoorHL7
import Derived.Test.YthjnceggmnicmaaGreatDoorRows
import Derived.Test.YthjnceggmnicmaaGreatDoorHBn
set_option linter.unusedVariables false
set_option linter.unusedSimpArgs false
namespace Go.Proofs.YthjnceggmnicmaaGreatDoor
open Go Go.Av Go.Ev
theorem Gq:YV Tryz.prog jm (.nat xA):=T8 Tryz.strconv_Itoa
theorem HR:Entry Tryz.prog 14 nT:=bU Tryz.func14 (by kernel_rfl)
theorem H9:Entry Tryz.prog 125 zi:=bU Tryz.func125 (by kernel_rfl)
theorem KH:Entry Tryz.prog 114 BC:=bU Tryz.func114 (by kernel_rfl)
theorem FV:Entry Tryz.prog 81 wu:=bU Tryz.func81 (by kernel_rfl)
theorem tT:Entry Tryz.prog 126 mE:=bU Tryz.func126 (by kernel_rfl)
theorem xW:Entry Tryz.prog 148 pJ:=bU Tryz.func148 (by kernel_rfl)
theorem H8:Entry Tryz.prog 149 zh:=bU Tryz.func149 (by kernel_rfl)
theorem sr:Entry Tryz.prog 127 kz:=bU Tryz.func127 (by kernel_rfl)
theorem FO:Entry Tryz.prog 184 wl:=bU Tryz.func184 (by kernel_rfl)
theorem En:Entry Tryz.prog 183 uZ:=bU Tryz.func183 (by kernel_rfl)
theorem ML:Entry Tryz.prog 98 DO:=bU Tryz.func98 (by kernel_rfl)
theorem OI:Entry Tryz.prog 99 F7:=bU Tryz.func99 (by kernel_rfl)
theorem Ky:Entry Tryz.prog 52 Bv:=bU Tryz.func52 (by kernel_rfl)
theorem HX:Entry Tryz.prog 29 yZ:=bU Tryz.func29 (by kernel_rfl)
theorem HW:Entry Tryz.prog 172 yY:=bU Tryz.func172 (by kernel_rfl)
theorem FP:Entry Tryz.prog 173 wm:=bU Tryz.func173 (by kernel_rfl)
theorem Bp:Entry Tryz.prog 150 rS:=bU Tryz.func150 (by kernel_rfl)
theorem KG:Entry Tryz.prog 83 BB:=bU Tryz.func83 (by kernel_rfl)
theorem CY:Entry Tryz.prog 84 sP:=bU Tryz.func84 (by kernel_rfl)
theorem H7:Entry Tryz.prog 85 zg:=bU Tryz.func85 (by kernel_rfl)
theorem xV:Entry Tryz.prog 86 pH:=bU Tryz.func86 (by kernel_rfl)
theorem H5:Entry Tryz.prog 38 zc:=bU Tryz.func38 (by kernel_rfl)
theorem Bn:Entry Tryz.prog 174 rQ:=bU Tryz.func174 (by kernel_rfl)
theorem FQ:Entry Tryz.prog 182 wn:=bU Tryz.func182 (by kernel_rfl)
theorem Eo:Entry Tryz.prog 168 u4:=bU Tryz.func168 (by kernel_rfl)
theorem KD:Entry Tryz.prog 185 Bz:=bU Tryz.func185 (by kernel_rfl)
theorem H1:Entry Tryz.prog 175 y8:=bU Tryz.func175 (by kernel_rfl)
theorem zQ:Entry Tryz.prog 151 qC:=bU Tryz.func151 (by kernel_rfl)
theorem FT:Entry Tryz.prog 93 ws:=bU Tryz.func93 (by kernel_rfl)
theorem su:Entry Tryz.prog 128 kA:=bU Tryz.func128 (by kernel_rfl)
theorem FU:Entry Tryz.prog 152 wt:=bU Tryz.func152 (by kernel_rfl)
theorem H2:Entry Tryz.prog 111 y9:=bU Tryz.func111 (by kernel_rfl)
theorem FN:Entry Tryz.prog 193 wk:=bU Tryz.func193 (by kernel_rfl)
theorem Kz:Entry Tryz.prog 192 Bw:=bU Tryz.func192 (by kernel_rfl)
theorem KA:Entry Tryz.prog 186 By:=bU Tryz.func186 (by kernel_rfl)
theorem KE:Entry Tryz.prog 176 BA:=bU Tryz.func176 (by kernel_rfl)
theorem H3:Entry Tryz.prog 153 za:=bU Tryz.func153 (by kernel_rfl)
theorem tR:Entry Tryz.prog 165 mD:=bU Tryz.func165 (by kernel_rfl)
theorem sK:Entry Tryz.prog 196 lN:=bU Tryz.func196 (by kernel_rfl)
theorem tO:Entry Tryz.prog 191 mB:=bU Tryz.func191 (by kernel_rfl)
theorem tP:Entry Tryz.prog 181 mC:=bU Tryz.func181 (by kernel_rfl)
theorem vl:Entry Tryz.prog 164 m9:=bU Tryz.func164 (by kernel_rfl)
theorem vk:Entry Tryz.prog 141 m8:=bU Tryz.func141 (by kernel_rfl)
theorem FR:Entry Tryz.prog 170 wo:=bU Tryz.func170 (by kernel_rfl)
theorem H0:Entry Tryz.prog 166 y7:=bU Tryz.func166 (by kernel_rfl)
theorem HY:Entry Tryz.prog 142 y5:=bU Tryz.func142 (by kernel_rfl)
theorem CX:Entry Tryz.prog 167 sO:=bU Tryz.func167 (by kernel_rfl)
theorem ah:Entry Tryz.prog 169 wq:=bU Tryz.func169 (by kernel_rfl)
theorem Ep:Entry Tryz.prog 143 u5:=bU Tryz.func143 (by kernel_rfl)
theorem HZ:Entry Tryz.prog 112 y6:=bU Tryz.func112 (by kernel_rfl)
theorem KJ:Entry Tryz.prog 154 BD:=bU Tryz.func154 (by kernel_rfl)
theorem Bo:Entry Tryz.prog 113 rR:=bU Tryz.func113 (by kernel_rfl)
theorem tV:Entry Tryz.prog 129 mG:=bU Tryz.func129 (by kernel_rfl)
theorem tU:Entry Tryz.prog 100 mF:=bU Tryz.func100 (by kernel_rfl)
theorem H6:Entry Tryz.prog 53 ze:=bU Tryz.func53 (by kernel_rfl)
theorem Ei:Entry Tryz.prog 32 uY:=bU Tryz.func32 (by kernel_rfl)
theorem FL:Entry Tryz.prog 54 mz:=bU Tryz.func54 (by kernel_rfl)
theorem Ek:Entry Tryz.prog 130 kZ:=bU Tryz.func130 (by kernel_rfl)
theorem FK:Entry Tryz.prog 101 my:=bU Tryz.func101 (by kernel_rfl)
theorem xN:Entry Tryz.prog 56 gq:=bU Tryz.func56 (by kernel_rfl)
theorem Kx:Entry Tryz.prog 124 pT:=bU Tryz.func124 (by kernel_rfl)
theorem MJ:Entry Tryz.prog 97 rO:=bU Tryz.func97 (by kernel_rfl)
theorem MI:Entry Tryz.prog 51 rN:=bU Tryz.func51 (by kernel_rfl)
theorem FM:Entry Tryz.prog 27 mA:=bU Tryz.func27 (by kernel_rfl)
theorem HT:Entry Tryz.prog 60 nV:=bU Tryz.func60 (by kernel_rfl)
theorem vh:Entry Tryz.prog 59 fq:=bU Tryz.func59 (by kernel_rfl)
theorem Bl:Entry Tryz.prog 58 i6:=bU Tryz.func58 (by kernel_rfl)
theorem xO:Entry Tryz.prog 57 gr:=bU Tryz.func57 (by kernel_rfl)
theorem Bj:Entry Tryz.prog 55 iZ:=bU Tryz.func55 (by kernel_rfl)
theorem xP:Entry Tryz.prog 61 gu:=bU Tryz.func61 (by kernel_rfl)
theorem vm:Entry Tryz.prog 132 fw:=bU Tryz.func132 (by kernel_rfl)
theorem Bh:Entry Tryz.prog 197 iX:=bU Tryz.func197 (by kernel_rfl)
theorem FI:Entry Tryz.prog 194 mu:=bU Tryz.func194 (by kernel_rfl)
theorem sL:Entry Tryz.prog 187 dU:=bU Tryz.func187 (by kernel_rfl)
theorem sv:Entry Tryz.prog 188 dF:=bU Tryz.func188 (by kernel_rfl)
theorem tX:Entry Tryz.prog 177 eR:=bU Tryz.func177 (by kernel_rfl)
theorem tZ:Entry Tryz.prog 155 eS:=bU Tryz.func155 (by kernel_rfl)
theorem qA:Entry Tryz.prog 131 cS:=bU Tryz.func131 (by kernel_rfl)
theorem nv:Entry Tryz.prog 103 ce:=bU Tryz.func103 (by kernel_rfl)
theorem KN:Entry Tryz.prog 180 pZ:=bU Tryz.func180 (by kernel_rfl)
theorem KR:Entry Tryz.prog 160 p5:=bU Tryz.func160 (by kernel_rfl)
theorem Bq:Entry Tryz.prog 156 i8:=bU Tryz.func156 (by kernel_rfl)
theorem Ia:Entry Tryz.prog 133 nZ:=bU Tryz.func133 (by kernel_rfl)
theorem Eh:Entry Tryz.prog 157 kX:=bU Tryz.func157 (by kernel_rfl)
theorem zae:Entry Tryz.prog 190 lf:=bU Tryz.func190 (by kernel_rfl)
theorem Er:Entry Tryz.prog 179 lg:=bU Tryz.func179 (by kernel_rfl)
theorem Ig:Entry Tryz.prog 158 oj:=bU Tryz.func158 (by kernel_rfl)
theorem KS:Entry Tryz.prog 134 p6:=bU Tryz.func134 (by kernel_rfl)
theorem Ie:Entry Tryz.prog 104 oe:=bU Tryz.func104 (by kernel_rfl)
set_option maxRecDepth 8000 in
theorem Ic:EntryD Tryz.prog 64 od:=⟨⟨Tryz.f64,_,_,_,_,_,_,_,_,_,_,_,Tryz.func64,by kernel_rfl,rfl,by kernel_rfl,by kernel_rfl,⟨⟨Tryz.f102,_,_,_,_,_,_,_,Tryz.func102,by kernel_rfl,by kernel_rfl,rfl,⟨#[],by kernel_rfl⟩,by kernel_rfl⟩⟩,by kernel_rfl,by kernel_rfl⟩,by kernel_rfl⟩
theorem vi:Entry Tryz.prog 63 ft:=bU Tryz.func63 (by kernel_rfl)
theorem wg:Entry Tryz.prog 58 fV:=bU Tryz.func58 (by kernel_rfl)
theorem xQ:Entry Tryz.prog 62 gv:=bU Tryz.func62 (by kernel_rfl)
theorem wc:Entry Tryz.prog 55 fS:=bU Tryz.func55 (by kernel_rfl)
theorem xR:Entry Tryz.prog 65 gw:=bU Tryz.func65 (by kernel_rfl)
theorem El:Entry Tryz.prog 105 lb:=bU Tryz.func105 (by kernel_rfl)
theorem tN:Entry Tryz.prog 68 eQ:=bU Tryz.func68 (by kernel_rfl)
theorem vj:Entry Tryz.prog 67 fv:=bU Tryz.func67 (by kernel_rfl)
theorem wh:Entry Tryz.prog 58 fW:=bU Tryz.func58 (by kernel_rfl)
theorem xS:Entry Tryz.prog 66 gx:=bU Tryz.func66 (by kernel_rfl)
theorem wd:Entry Tryz.prog 55 fT:=bU Tryz.func55 (by kernel_rfl)
theorem xT:Entry Tryz.prog 69 gy:=bU Tryz.func69 (by kernel_rfl)
theorem Bi:Entry Tryz.prog 159 iY:=bU Tryz.func159 (by kernel_rfl)
theorem xU:Entry Tryz.prog 135 gz:=bU Tryz.func135 (by kernel_rfl)
theorem wa:Entry Tryz.prog 136 fQ:=bU Tryz.func136 (by kernel_rfl)
theorem zP:Entry Tryz.prog 106 ik:=bU Tryz.func106 (by kernel_rfl)
theorem wb:Entry Tryz.prog 71 fR:=bU Tryz.func71 (by kernel_rfl)
theorem vZ:Entry Tryz.prog 70 fP:=bU Tryz.func70 (by kernel_rfl)
theorem we:Entry Tryz.prog 55 fU:=bU Tryz.func55 (by kernel_rfl)
theorem FJ:Entry Tryz.prog 34 mw:=bU Tryz.func34 (by kernel_rfl)
theorem HV:Entry Tryz.prog 96 nX:=bU Tryz.func96 (by kernel_rfl)
theorem Bf:Entry Tryz.prog 28 iV:=bU Tryz.func28 (by kernel_rfl)
theorem HK:Entry Tryz.prog 10 nO:=bU Tryz.func10 (by kernel_rfl)
theorem Ef:Entry Tryz.prog 45 kV:=bU Tryz.func45 (by kernel_rfl)
theorem zN:Entry Tryz.prog 36 ii:=bU Tryz.func36 (by kernel_rfl)
theorem MK:Entry Tryz.prog 110 rP:=bU Tryz.func110 (by kernel_rfl)
theorem Bm:Entry Tryz.prog 76 i7:=bU Tryz.func76 (by kernel_rfl)
theorem Em:Entry Tryz.prog 137 lc:=bU Tryz.func137 (by kernel_rfl)
theorem HU:Entry Tryz.prog 107 nW:=bU Tryz.func107 (by kernel_rfl)
theorem Ej:Entry Tryz.prog 73 kY:=bU Tryz.func73 (by kernel_rfl)
theorem KT:Entry Tryz.prog 138 p7:=bU Tryz.func138 (by kernel_rfl)
theorem If:Entry Tryz.prog 139 oh:=bU Tryz.func139 (by kernel_rfl)
theorem t6:Entry Tryz.prog 161 eT:=bU Tryz.func161 (by kernel_rfl)
theorem sM:Entry Tryz.prog 162 dV:=bU Tryz.func162 (by kernel_rfl)
theorem KM:Entry Tryz.prog 163 pY:=bU Tryz.func163 (by kernel_rfl)
theorem t7:Entry Tryz.prog 140 eU:=bU Tryz.func140 (by kernel_rfl)
theorem Ib:Entry Tryz.prog 108 oa:=bU Tryz.func108 (by kernel_rfl)
theorem HP:Entry Tryz.prog 74 nR:=bU Tryz.func74 (by kernel_rfl)
theorem Bg:Entry Tryz.prog 109 iW:=bU Tryz.func109 (by kernel_rfl)
theorem xM:Entry Tryz.prog 75 gp:=bU Tryz.func75 (by kernel_rfl)
theorem sq:Entry Tryz.prog 72 dE:=bU Tryz.func72 (by kernel_rfl)
theorem sJ:Entry Tryz.prog 77 dT:=bU Tryz.func77 (by kernel_rfl)
theorem Bd:Entry Tryz.prog 41 iU:=bU Tryz.func41 (by kernel_rfl)
theorem HO:Entry Tryz.prog 35 nQ:=bU Tryz.func35 (by kernel_rfl)
theorem ra:Entry Tryz.prog 121 de:=bU Tryz.func121 (by kernel_rfl)
theorem rb:Entry Tryz.prog 119 dh:=bU Tryz.func119 (by kernel_rfl)
theorem tM:Entry Tryz.prog 120 eP:=bU Tryz.func120 (by kernel_rfl)
theorem Eg:Entry Tryz.prog 91 kW:=bU Tryz.func91 (by kernel_rfl)
theorem CW:Entry Tryz.prog 92 jP:=bU Tryz.func92 (by kernel_rfl)
theorem FH:Entry Tryz.prog 42 mr:=bU Tryz.func42 (by kernel_rfl)
theorem MG:Entry Tryz.prog 18 rK:=bU Tryz.func18 (by kernel_rfl)
theorem CV:Entry Tryz.prog 46 jO:=bU Tryz.func46 (by kernel_rfl)
theorem MH:Entry Tryz.prog 20 rL:=bU Tryz.func20 (by kernel_rfl)
theorem HN:Entry Tryz.prog 22 nP:=bU Tryz.func22 (by kernel_rfl)
theorem HM:Entry Tryz.prog 15 yX:=bU Tryz.func15 (by kernel_rfl)
theorem Be:Entry Tryz.prog 49 rM:=bU Tryz.func49 (by kernel_rfl)
theorem vY:Entry Tryz.prog 50 oG:=bU Tryz.func50 (by kernel_rfl)
theorem Kw:Entry Tryz.prog 26 Bu:=bU Tryz.func26 (by kernel_rfl)
theorem HS:Entry Tryz.prog 12 nU:=bU Tryz.func12 (by kernel_rfl)
theorem KB:Entry Tryz.prog 40 pU:=bU Tryz.func40 (by kernel_rfl)
theorem KL:Entry Tryz.prog 17 pX:=bU Tryz.func17 (by kernel_rfl)
theorem KI:Entry Tryz.prog 33 pW:=bU Tryz.func33 (by kernel_rfl)
theorem HQ:Entry Tryz.prog 13 nS:=bU Tryz.func13 (by kernel_rfl)
theorem KF:Entry Tryz.prog 24 pV:=bU Tryz.func24 (by kernel_rfl)
theorem H4:Entry Tryz.prog 25 nY:=bU Tryz.func25 (by kernel_rfl)
theorem zO:Entry Tryz.prog 8 ij:=bU Tryz.func8 (by kernel_rfl)
def YM:List (Nat×Fun'):=[(nI,.code nT),
 (HF,.code zi),
 (Ke,.code BC),
 (Fl,.code wu),
 (tx,.code mE),
 (xL,.code pJ),
 (HE,.code zh),
 (si,.code kz),
 (Fc,.code wl),
 (Ea,.code uZ),
 (L4,.code DO),
 (Og,.code F7),
 (J8,.code Bv),
 (Hs,.code yZ),
 (Hr,.code yY),
 (Fe,.code wm),
 (AP,.code rS),
 (Kd,.code BB),
 (CN,.code sP),
 (HC,.code zg),
 (xK,.code pH),
 (HA,.code zc),
 (AN,.code rQ),
 (Ff,.code wn),
 (Eb,.code u4),
 (Kb,.code Bz),
 (Hw,.code y8),
 (zK,.code qC),
 (Fi,.code ws),
 (sj,.code kA),
 (Fj,.code wt),
 (Hy,.code y9),
 (Fb,.code wk),
 (J9,.code Bw),
 (Ka,.code By),
 (Kc,.code BA),
 (Hz,.code za),
 (tw,.code mD),
 (sH,.code lN),
 (tu,.code mB),
 (tv,.code mC),
 (vf,.code m9),
 (vd,.code m8),
 (Fg,.code wo),
 (Hv,.code y7),
 (Ht,.code y5),
 (CM,.code sO),
 (Fh,.code wq),
 (Ec,.code u5),
 (Hu,.code y6),
 (Kf,.code BD),
 (AO,.code rR),
 (tA,.code mG),
 (tz,.code mF),
 (HB,.code ze),
 (pd,.code uY),
 (me,.code mz),
 (ir,.code kZ),
 (fm,.code my),
 (ef,.code gq),
 (pO,.code pT),
 (rE,.code rO),
 (oC,.code rN),
 (dK,.code mA),
 (kj,.code nV),
 (di,.code fq),
 (iR,.code i6),
 (eh,.code gr),
 (iQ,.code iZ),
 (ei,.code gu),
 (bc,.code fw),
 (iO,.code iX),
 (jk,.code mu),
 (aX,.code dU),
 (bm,.code dF),
 (cO,.code eR),
 (bQ,.code eS),
 (bo,.code cS),
 (aW,.code ce),
 (pR,.code pZ),
 (mh,.code p5),
 (dS,.code i8),
 (nL,.code nZ),
 (jm,.nat xA),
 (fz,.code kX),
 (iu,.code lf),
 (kU,.code lg),
 (eY,.code oj),
 (fN,.code p6),
 (iB,.code oe),
 (ko,.dfr od),
 (dj,.code ft),
 (fK,.code fV),
 (ej,.code gv),
 (fH,.code fS),
 (ek,.code gw),
 (bM,.code lb),
 (eO,.code eQ),
 (dm,.code fv),
 (fL,.code fW),
 (eo,.code gx),
 (fI,.code fT),
 (et,.code gy),
 (iP,.code iY),
 (gm,.code gz),
 (fF,.code fQ),
 (hZ,.code ik),
 (fG,.code fR),
 (dJ,.code fP),
 (fJ,.code fU),
 (jl,.code mw),
 (nK,.code nX),
 (iM,.code iV),
 (eX,.code nO),
 (iq,.code kV),
 (hU,.code ii),
 (rF,.code rP),
 (fM,.code i7),
 (kT,.code lc),
 (nJ,.code nW),
 (kS,.code kY),
 (mi,.code p7),
 (kq,.code oh),
 (cP,.code eT),
 (cE,.code dV),
 (ic,.code pY),
 (bR,.code eU),
 (nM,.code oa),
 (nG,.code nR),
 (iN,.code iW),
 (gl,.code gp),
 (ct,.code dE),
 (bY,.code dT),
 (iL,.code iU),
 (nF,.code nQ),
 (cj,.code de),
 (cn,.code dh),
 (eN,.code eP),
 (kR,.code kW),
 (jM,.code jP),
 (mc,.code mr),
 (lH,.code rK),
 (gA,.code jO),
 (cD,.code rL),
 (iz,.code nP),
 (sg,.code yX),
 (AM,.code rM),
 (vN,.code oG),
 (mb,.code Bu),
 (iA,.code nU),
 (pP,.code pU),
 (mg,.code pX),
 (mf,.code pW),
 (nH,.code nS),
 (pQ,.code pV),
 (km,.code nY),
 (lx,.code ij)]
abbrev tbl:Nat->Option Fun':=M8 YM
theorem Iy:tbl nI=some (.code nT):=by kernel_rfl
theorem GV:tbl me=some (.code mz):=by kernel_rfl
theorem Ey:tbl ir=some (.code kZ):=by kernel_rfl
theorem GU:tbl fm=some (.code my):=by kernel_rfl
theorem xZ:tbl ef=some (.code gq):=by kernel_rfl
theorem Lw:tbl pO=some (.code pT):=by kernel_rfl
theorem N0:tbl rE=some (.code rO):=by kernel_rfl
theorem NZ:tbl oC=some (.code rN):=by kernel_rfl
theorem GX:tbl dK=some (.code mA):=by kernel_rfl
theorem IA:tbl kj=some (.code nV):=by kernel_rfl
theorem vr:tbl di=some (.code fq):=by kernel_rfl
theorem Cn:tbl iR=some (.code i6):=by kernel_rfl
theorem x5:tbl eh=some (.code gr):=by kernel_rfl
theorem Cl:tbl iQ=some (.code iZ):=by kernel_rfl
theorem x6:tbl ei=some (.code gu):=by kernel_rfl
theorem vw:tbl bc=some (.code fw):=by kernel_rfl
theorem Cj:tbl iO=some (.code iX):=by kernel_rfl
theorem GQ:tbl jk=some (.code mu):=by kernel_rfl
theorem s8:tbl aX=some (.code dU):=by kernel_rfl
theorem sB:tbl bm=some (.code dF):=by kernel_rfl
theorem uz:tbl cO=some (.code eR):=by kernel_rfl
theorem uA:tbl bQ=some (.code eS):=by kernel_rfl
theorem qY:tbl bo=some (.code cS):=by kernel_rfl
theorem gG:tbl aW=some (.code ce):=by kernel_rfl
theorem LC:tbl pR=some (.code pZ):=by kernel_rfl
theorem LD:tbl mh=some (.code p5):=by kernel_rfl
theorem Cp:tbl dS=some (.code i8):=by kernel_rfl
theorem IE:tbl nL=some (.code nZ):=by kernel_rfl
theorem GY:tbl jm=some (.nat xA):=by kernel_rfl
theorem Ew:tbl fz=some (.code kX):=by kernel_rfl
theorem EB:tbl iu=some (.code lf):=by kernel_rfl
theorem EC:tbl kU=some (.code lg):=by kernel_rfl
theorem IJ:tbl eY=some (.code oj):=by kernel_rfl
theorem zah:tbl fN=some (.code p6):=by kernel_rfl
theorem IH:tbl iB=some (.code oe):=by kernel_rfl
theorem IG:tbl ko=some (.dfr od):=by kernel_rfl
theorem vt:tbl dj=some (.code ft):=by kernel_rfl
theorem wX:tbl fK=some (.code fV):=by kernel_rfl
theorem x7:tbl ej=some (.code gv):=by kernel_rfl
theorem wU:tbl fH=some (.code fS):=by kernel_rfl
theorem x8:tbl ek=some (.code gw):=by kernel_rfl
theorem Ez:tbl bM=some (.code lb):=by kernel_rfl
theorem uy:tbl eO=some (.code eQ):=by kernel_rfl
theorem vu:tbl dm=some (.code fv):=by kernel_rfl
theorem wY:tbl fL=some (.code fW):=by kernel_rfl
theorem x9:tbl eo=some (.code gx):=by kernel_rfl
theorem wV:tbl fI=some (.code fT):=by kernel_rfl
theorem ya:tbl et=some (.code gy):=by kernel_rfl
theorem Ck:tbl iP=some (.code iY):=by kernel_rfl
theorem yb:tbl gm=some (.code gz):=by kernel_rfl
theorem wS:tbl fF=some (.code fQ):=by kernel_rfl
theorem Am:tbl hZ=some (.code ik):=by kernel_rfl
theorem wT:tbl fG=some (.code fR):=by kernel_rfl
theorem wR:tbl dJ=some (.code fP):=by kernel_rfl
theorem wW:tbl fJ=some (.code fU):=by kernel_rfl
theorem GR:tbl jl=some (.code mw):=by kernel_rfl
theorem IC:tbl nK=some (.code nX):=by kernel_rfl
theorem Ch:tbl iM=some (.code iV):=by kernel_rfl
theorem It:tbl eX=some (.code nO):=by kernel_rfl
theorem Et:tbl iq=some (.code kV):=by kernel_rfl
theorem Ak:tbl hU=some (.code ii):=by kernel_rfl
theorem N1:tbl rF=some (.code rP):=by kernel_rfl
theorem Co:tbl fM=some (.code i7):=by kernel_rfl
theorem EA:tbl kT=some (.code lc):=by kernel_rfl
theorem IB:tbl nJ=some (.code nW):=by kernel_rfl
theorem Ex:tbl kS=some (.code kY):=by kernel_rfl
theorem LF:tbl mi=some (.code p7):=by kernel_rfl
theorem II:tbl kq=some (.code oh):=by kernel_rfl
theorem uB:tbl cP=some (.code eT):=by kernel_rfl
theorem s9:tbl cE=some (.code dV):=by kernel_rfl
theorem LB:tbl ic=some (.code pY):=by kernel_rfl
theorem uC:tbl bR=some (.code eU):=by kernel_rfl
theorem IF:tbl nM=some (.code oa):=by kernel_rfl
theorem Iw:tbl nG=some (.code nR):=by kernel_rfl
theorem Ci:tbl iN=some (.code iW):=by kernel_rfl
theorem xY:tbl gl=some (.code gp):=by kernel_rfl
theorem sA:tbl ct=some (.code dE):=by kernel_rfl
theorem s7:tbl bY=some (.code dT):=by kernel_rfl
theorem Cg:tbl iL=some (.code iU):=by kernel_rfl
theorem Iv:tbl nF=some (.code nQ):=by kernel_rfl
theorem rh:tbl cj=some (.code de):=by kernel_rfl
theorem ri:tbl cn=some (.code dh):=by kernel_rfl
theorem ux:tbl eN=some (.code eP):=by kernel_rfl
theorem Eu:tbl kR=some (.code kW):=by kernel_rfl
theorem Dp:tbl jM=some (.code jP):=by kernel_rfl
theorem GP:tbl mc=some (.code mr):=by kernel_rfl
theorem NX:tbl lH=some (.code rK):=by kernel_rfl
theorem Do:tbl gA=some (.code jO):=by kernel_rfl
theorem NY:tbl cD=some (.code rL):=by kernel_rfl
theorem Iu:tbl iz=some (.code nP):=by kernel_rfl
theorem Iz:tbl iA=some (.code nU):=by kernel_rfl
theorem Lx:tbl pP=some (.code pU):=by kernel_rfl
theorem LA:tbl mg=some (.code pX):=by kernel_rfl
theorem Lz:tbl mf=some (.code pW):=by kernel_rfl
theorem Ix:tbl nH=some (.code nS):=by kernel_rfl
theorem Ly:tbl pQ=some (.code pV):=by kernel_rfl
theorem ID:tbl km=some (.code nY):=by kernel_rfl
theorem Al:tbl lx=some (.code ij):=by kernel_rfl
theorem YN:TblOk Tryz.prog tbl:=AllOk.tbl (P:=Tryz.prog) (l:=YM) ⟨HR,H9,KH,FV,tT,xW,H8,sr,FO,En,ML,OI,Ky,HX,HW,FP,Bp,KG,CY,H7,xV,H5,Bn,FQ,Eo,KD,H1,zQ,FT,su,FU,H2,FN,Kz,KA,KE,H3,tR,sK,tO,tP,vl,vk,FR,H0,HY,CX,ah,Ep,HZ,KJ,Bo,tV,tU,H6,Ei,FL,Ek,FK,xN,Kx,MJ,MI,FM,HT,vh,Bl,xO,Bj,xP,vm,Bh,FI,sL,sv,tX,tZ,qA,nv,KN,KR,Bq,Ia,Gq,Eh,zae,Er,Ig,KS,Ie,Ic,vi,wg,xQ,wc,xR,El,tN,vj,wh,xS,wd,xT,Bi,xU,wa,zP,wb,vZ,we,FJ,HV,Bf,HK,Ef,zN,MK,Bm,Em,HU,Ej,KT,If,t6,sM,KM,t7,Ib,HP,Bg,xM,sq,sJ,Bd,HO,ra,rb,tM,Eg,CW,FH,MG,CV,MH,HN,HM,Be,vY,Kw,HS,KB,KL,KI,HQ,KF,H4,zO,trivial⟩
end Go.Proofs.YthjnceggmnicmaaGreatDoor
