import Derived.Test.YthjnceggmnicmaaGreatDoorMTG1
import Derived.Test.YthjnceggmnicmaaGreatDoorML7
import Derived.Test.YthjnceggmnicmaaGreatDoorRows
import Derived.Test.YthjnceggmnicmaaGreatDoorMBn
set_option linter.unusedVariables false
set_option linter.unusedSimpArgs false
namespace Go.Proofs.YthjnceggmnicmaaGreatDoor
open Go Go.Av Go.Ev
theorem ED:Wc Tryz.prog iv (.nat vV):=Ro Tryz.strconv_Itoa
theorem IS:Entry Tryz.prog 124 od:=bI Tryz.func124 (by kernel_rfl)
theorem KY:Entry Tryz.prog 97 p8:=bI Tryz.func97 (by kernel_rfl)
theorem KX:Entry Tryz.prog 51 p7:=bI Tryz.func51 (by kernel_rfl)
theorem D5:Entry Tryz.prog 27 kP:=bI Tryz.func27 (by kernel_rfl)
theorem zu:Entry Tryz.prog 28 g8:=bI Tryz.func28 (by kernel_rfl)
theorem F3:Entry Tryz.prog 10 mE:=bI Tryz.func10 (by kernel_rfl)
theorem K0:Entry Tryz.prog 98 qb:=bI Tryz.func98 (by kernel_rfl)
theorem MS:Entry Tryz.prog 99 su:=bI Tryz.func99 (by kernel_rfl)
theorem IT:Entry Tryz.prog 52 oe:=bI Tryz.func52 (by kernel_rfl)
theorem Ge:Entry Tryz.prog 29 mJ:=bI Tryz.func29 (by kernel_rfl)
theorem Gi:Entry Tryz.prog 30 mK:=bI Tryz.func30 (by kernel_rfl)
theorem I4:Entry Tryz.prog 31 om:=bI Tryz.func31 (by kernel_rfl)
theorem Gs:Entry Tryz.prog 11 mL:=bI Tryz.func11 (by kernel_rfl)
theorem Gr:Entry Tryz.prog 125 xv:=bI Tryz.func125 (by kernel_rfl)
theorem I1:Entry Tryz.prog 114 zQ:=bI Tryz.func114 (by kernel_rfl)
theorem Ee:Entry Tryz.prog 81 uP:=bI Tryz.func81 (by kernel_rfl)
theorem se:Entry Tryz.prog 126 kU:=bI Tryz.func126 (by kernel_rfl)
theorem wu:Entry Tryz.prog 148 nO:=bI Tryz.func148 (by kernel_rfl)
theorem Gq:Entry Tryz.prog 149 xu:=bI Tryz.func149 (by kernel_rfl)
theorem qM:Entry Tryz.prog 127 jx:=bI Tryz.func127 (by kernel_rfl)
theorem D7:Entry Tryz.prog 184 uJ:=bI Tryz.func184 (by kernel_rfl)
theorem CN:Entry Tryz.prog 183 ti:=bI Tryz.func183 (by kernel_rfl)
theorem Gd:Entry Tryz.prog 172 xj:=bI Tryz.func172 (by kernel_rfl)
theorem D8:Entry Tryz.prog 173 uK:=bI Tryz.func173 (by kernel_rfl)
theorem zG:Entry Tryz.prog 150 qg:=bI Tryz.func150 (by kernel_rfl)
theorem I0:Entry Tryz.prog 83 zP:=bI Tryz.func83 (by kernel_rfl)
theorem Bt:Entry Tryz.prog 84 ri:=bI Tryz.func84 (by kernel_rfl)
theorem Gp:Entry Tryz.prog 85 xt:=bI Tryz.func85 (by kernel_rfl)
theorem wt:Entry Tryz.prog 86 nN:=bI Tryz.func86 (by kernel_rfl)
theorem Gm:Entry Tryz.prog 38 xq:=bI Tryz.func38 (by kernel_rfl)
theorem zD:Entry Tryz.prog 174 qc:=bI Tryz.func174 (by kernel_rfl)
theorem D9:Entry Tryz.prog 182 uL:=bI Tryz.func182 (by kernel_rfl)
theorem CO:Entry Tryz.prog 168 tj:=bI Tryz.func168 (by kernel_rfl)
theorem IY:Entry Tryz.prog 185 zN:=bI Tryz.func185 (by kernel_rfl)
theorem Gj:Entry Tryz.prog 175 xn:=bI Tryz.func175 (by kernel_rfl)
theorem xZ:Entry Tryz.prog 151 oT:=bI Tryz.func151 (by kernel_rfl)
theorem Ec:Entry Tryz.prog 93 kT:=bI Tryz.func93 (by kernel_rfl)
theorem qN:Entry Tryz.prog 128 jy:=bI Tryz.func128 (by kernel_rfl)
theorem Ed:Entry Tryz.prog 152 uO:=bI Tryz.func152 (by kernel_rfl)
theorem Gk:Entry Tryz.prog 111 xo:=bI Tryz.func111 (by kernel_rfl)
theorem D6:Entry Tryz.prog 193 uI:=bI Tryz.func193 (by kernel_rfl)
theorem IU:Entry Tryz.prog 192 zL:=bI Tryz.func192 (by kernel_rfl)
theorem IV:Entry Tryz.prog 186 zM:=bI Tryz.func186 (by kernel_rfl)
theorem IZ:Entry Tryz.prog 176 zO:=bI Tryz.func176 (by kernel_rfl)
theorem Gl:Entry Tryz.prog 153 xp:=bI Tryz.func153 (by kernel_rfl)
theorem sb:Entry Tryz.prog 165 kS:=bI Tryz.func165 (by kernel_rfl)
theorem q9:Entry Tryz.prog 196 j6:=bI Tryz.func196 (by kernel_rfl)
theorem r9:Entry Tryz.prog 191 kQ:=bI Tryz.func191 (by kernel_rfl)
theorem sa:Entry Tryz.prog 181 kR:=bI Tryz.func181 (by kernel_rfl)
theorem tJ:Entry Tryz.prog 164 lP:=bI Tryz.func164 (by kernel_rfl)
theorem tH:Entry Tryz.prog 141 lO:=bI Tryz.func141 (by kernel_rfl)
theorem Ea:Entry Tryz.prog 170 uM:=bI Tryz.func170 (by kernel_rfl)
theorem Gh:Entry Tryz.prog 166 xm:=bI Tryz.func166 (by kernel_rfl)
theorem Gf:Entry Tryz.prog 142 xk:=bI Tryz.func142 (by kernel_rfl)
theorem Bs:Entry Tryz.prog 167 rh:=bI Tryz.func167 (by kernel_rfl)
theorem Eb:Entry Tryz.prog 169 uN:=bI Tryz.func169 (by kernel_rfl)
theorem CP:Entry Tryz.prog 143 tk:=bI Tryz.func143 (by kernel_rfl)
theorem Gg:Entry Tryz.prog 112 xl:=bI Tryz.func112 (by kernel_rfl)
theorem I2:Entry Tryz.prog 154 zS:=bI Tryz.func154 (by kernel_rfl)
theorem zF:Entry Tryz.prog 113 qf:=bI Tryz.func113 (by kernel_rfl)
theorem sg:Entry Tryz.prog 129 kW:=bI Tryz.func129 (by kernel_rfl)
theorem sf:Entry Tryz.prog 100 kV:=bI Tryz.func100 (by kernel_rfl)
theorem Gn:Entry Tryz.prog 53 xr:=bI Tryz.func53 (by kernel_rfl)
theorem CI:Entry Tryz.prog 32 td:=bI Tryz.func32 (by kernel_rfl)
theorem D3:Entry Tryz.prog 54 kO:=bI Tryz.func54 (by kernel_rfl)
theorem CK:Entry Tryz.prog 130 jM:=bI Tryz.func130 (by kernel_rfl)
theorem DZ:Entry Tryz.prog 101 kN:=bI Tryz.func101 (by kernel_rfl)
theorem wj:Entry Tryz.prog 56 fw:=bI Tryz.func56 (by kernel_rfl)
theorem Ga:Entry Tryz.prog 60 mI:=bI Tryz.func60 (by kernel_rfl)
theorem tE:Entry Tryz.prog 59 eu:=bI Tryz.func59 (by kernel_rfl)
theorem zA:Entry Tryz.prog 58 hU:=bI Tryz.func58 (by kernel_rfl)
theorem wk:Entry Tryz.prog 57 fx:=bI Tryz.func57 (by kernel_rfl)
theorem zz:Entry Tryz.prog 55 hR:=bI Tryz.func55 (by kernel_rfl)
theorem wl:Entry Tryz.prog 61 fy:=bI Tryz.func61 (by kernel_rfl)
theorem tK:Entry Tryz.prog 132 ez:=bI Tryz.func132 (by kernel_rfl)
theorem zw:Entry Tryz.prog 197 g9:=bI Tryz.func197 (by kernel_rfl)
theorem DX:Entry Tryz.prog 194 kL:=bI Tryz.func194 (by kernel_rfl)
theorem ra:Entry Tryz.prog 187 dn:=bI Tryz.func187 (by kernel_rfl)
theorem qO:Entry Tryz.prog 188 cZ:=bI Tryz.func188 (by kernel_rfl)
theorem si:Entry Tryz.prog 177 d4:=bI Tryz.func177 (by kernel_rfl)
theorem sj:Entry Tryz.prog 155 d5:=bI Tryz.func155 (by kernel_rfl)
theorem oP:Entry Tryz.prog 131 cy:=bI Tryz.func131 (by kernel_rfl)
theorem l6:Entry Tryz.prog 103 bY:=bI Tryz.func103 (by kernel_rfl)
theorem I6:Entry Tryz.prog 180 oo:=bI Tryz.func180 (by kernel_rfl)
theorem I7:Entry Tryz.prog 160 oq:=bI Tryz.func160 (by kernel_rfl)
theorem zH:Entry Tryz.prog 156 ic:=bI Tryz.func156 (by kernel_rfl)
theorem Gu:Entry Tryz.prog 133 mN:=bI Tryz.func133 (by kernel_rfl)
theorem CG:Entry Tryz.prog 157 jL:=bI Tryz.func157 (by kernel_rfl)
theorem CR:Entry Tryz.prog 190 jO:=bI Tryz.func190 (by kernel_rfl)
theorem CS:Entry Tryz.prog 179 jP:=bI Tryz.func179 (by kernel_rfl)
theorem Gz:Entry Tryz.prog 158 mQ:=bI Tryz.func158 (by kernel_rfl)
theorem I8:Entry Tryz.prog 134 ot:=bI Tryz.func134 (by kernel_rfl)
theorem Gx:Entry Tryz.prog 104 mP:=bI Tryz.func104 (by kernel_rfl)
set_option maxRecDepth 8000 in
theorem Gw:EntryD Tryz.prog 64 mO:=⟨⟨Tryz.f64,_,_,_,_,_,_,_,_,_,_,_,Tryz.func64,by kernel_rfl,rfl,by kernel_rfl,by kernel_rfl,⟨⟨Tryz.f102,_,_,_,_,_,_,_,Tryz.func102,by kernel_rfl,by kernel_rfl,rfl,⟨#[],by kernel_rfl⟩,by kernel_rfl⟩⟩,by kernel_rfl,by kernel_rfl⟩,by kernel_rfl⟩
theorem tF:Entry Tryz.prog 63 ev:=bI Tryz.func63 (by kernel_rfl)
theorem uE:Entry Tryz.prog 58 eY:=bI Tryz.func58 (by kernel_rfl)
theorem wm:Entry Tryz.prog 62 fz:=bI Tryz.func62 (by kernel_rfl)
theorem uB:Entry Tryz.prog 55 eV:=bI Tryz.func55 (by kernel_rfl)
theorem wn:Entry Tryz.prog 65 fA:=bI Tryz.func65 (by kernel_rfl)
theorem CL:Entry Tryz.prog 105 jN:=bI Tryz.func105 (by kernel_rfl)
theorem r8:Entry Tryz.prog 68 dY:=bI Tryz.func68 (by kernel_rfl)
theorem tG:Entry Tryz.prog 67 ey:=bI Tryz.func67 (by kernel_rfl)
theorem uF:Entry Tryz.prog 58 eZ:=bI Tryz.func58 (by kernel_rfl)
theorem wo:Entry Tryz.prog 66 fB:=bI Tryz.func66 (by kernel_rfl)
theorem uC:Entry Tryz.prog 55 eW:=bI Tryz.func55 (by kernel_rfl)
theorem wq:Entry Tryz.prog 69 fC:=bI Tryz.func69 (by kernel_rfl)
theorem zy:Entry Tryz.prog 159 hM:=bI Tryz.func159 (by kernel_rfl)
theorem ws:Entry Tryz.prog 135 fD:=bI Tryz.func135 (by kernel_rfl)
theorem uz:Entry Tryz.prog 136 eT:=bI Tryz.func136 (by kernel_rfl)
theorem xY:Entry Tryz.prog 106 gx:=bI Tryz.func106 (by kernel_rfl)
theorem uA:Entry Tryz.prog 71 eU:=bI Tryz.func71 (by kernel_rfl)
theorem uy:Entry Tryz.prog 70 eS:=bI Tryz.func70 (by kernel_rfl)
theorem uD:Entry Tryz.prog 55 eX:=bI Tryz.func55 (by kernel_rfl)
theorem DY:Entry Tryz.prog 34 kM:=bI Tryz.func34 (by kernel_rfl)
theorem Gc:Entry Tryz.prog 96 xi:=bI Tryz.func96 (by kernel_rfl)
theorem CE:Entry Tryz.prog 45 s9:=bI Tryz.func45 (by kernel_rfl)
theorem xW:Entry Tryz.prog 36 oS:=bI Tryz.func36 (by kernel_rfl)
theorem KZ:Entry Tryz.prog 110 Cf:=bI Tryz.func110 (by kernel_rfl)
theorem zB:Entry Tryz.prog 76 qa:=bI Tryz.func76 (by kernel_rfl)
theorem CM:Entry Tryz.prog 137 tf:=bI Tryz.func137 (by kernel_rfl)
theorem Gb:Entry Tryz.prog 107 xg:=bI Tryz.func107 (by kernel_rfl)
theorem CJ:Entry Tryz.prog 73 te:=bI Tryz.func73 (by kernel_rfl)
theorem I9:Entry Tryz.prog 138 zW:=bI Tryz.func138 (by kernel_rfl)
theorem Gy:Entry Tryz.prog 139 xx:=bI Tryz.func139 (by kernel_rfl)
theorem sn:Entry Tryz.prog 161 kX:=bI Tryz.func161 (by kernel_rfl)
theorem rb:Entry Tryz.prog 162 j7:=bI Tryz.func162 (by kernel_rfl)
theorem I5:Entry Tryz.prog 163 zU:=bI Tryz.func163 (by kernel_rfl)
theorem sq:Entry Tryz.prog 140 kY:=bI Tryz.func140 (by kernel_rfl)
theorem Gv:Entry Tryz.prog 108 xw:=bI Tryz.func108 (by kernel_rfl)
theorem F7:Entry Tryz.prog 74 xf:=bI Tryz.func74 (by kernel_rfl)
theorem zv:Entry Tryz.prog 109 p9:=bI Tryz.func109 (by kernel_rfl)
theorem wi:Entry Tryz.prog 75 nM:=bI Tryz.func75 (by kernel_rfl)
theorem qL:Entry Tryz.prog 72 jv:=bI Tryz.func72 (by kernel_rfl)
theorem q8:Entry Tryz.prog 77 j5:=bI Tryz.func77 (by kernel_rfl)
theorem zq:Entry Tryz.prog 41 gY:=bI Tryz.func41 (by kernel_rfl)
theorem F6:Entry Tryz.prog 35 mF:=bI Tryz.func35 (by kernel_rfl)
theorem pA:Entry Tryz.prog 121 cL:=bI Tryz.func121 (by kernel_rfl)
theorem pB:Entry Tryz.prog 119 cM:=bI Tryz.func119 (by kernel_rfl)
theorem r7:Entry Tryz.prog 120 dX:=bI Tryz.func120 (by kernel_rfl)
theorem CF:Entry Tryz.prog 91 jK:=bI Tryz.func91 (by kernel_rfl)
theorem Bq:Entry Tryz.prog 92 iU:=bI Tryz.func92 (by kernel_rfl)
theorem DW:Entry Tryz.prog 42 kK:=bI Tryz.func42 (by kernel_rfl)
theorem KV:Entry Tryz.prog 18 p6:=bI Tryz.func18 (by kernel_rfl)
theorem Bp:Entry Tryz.prog 46 rf:=bI Tryz.func46 (by kernel_rfl)
theorem KW:Entry Tryz.prog 20 Ce:=bI Tryz.func20 (by kernel_rfl)
theorem F5:Entry Tryz.prog 22 xe:=bI Tryz.func22 (by kernel_rfl)
theorem F4:Entry Tryz.prog 15 xd:=bI Tryz.func15 (by kernel_rfl)
theorem zr:Entry Tryz.prog 49 gZ:=bI Tryz.func49 (by kernel_rfl)
theorem ux:Entry Tryz.prog 50 eR:=bI Tryz.func50 (by kernel_rfl)
theorem IR:Entry Tryz.prog 26 oa:=bI Tryz.func26 (by kernel_rfl)
theorem F9:Entry Tryz.prog 12 mH:=bI Tryz.func12 (by kernel_rfl)
theorem xX:Entry Tryz.prog 3 gw:=bI Tryz.func3 (by kernel_rfl)
theorem F8:Entry Tryz.prog 14 mG:=bI Tryz.func14 (by kernel_rfl)
theorem Gt:Entry Tryz.prog 43 mM:=bI Tryz.func43 (by kernel_rfl)
theorem sd:Entry Tryz.prog 122 dZ:=bI Tryz.func122 (by kernel_rfl)
theorem K2:Entry Tryz.prog 123 qe:=bI Tryz.func123 (by kernel_rfl)
theorem zE:Entry Tryz.prog 122 hZ:=bI Tryz.func122 (by kernel_rfl)
theorem K1:Entry Tryz.prog 94 qd:=bI Tryz.func94 (by kernel_rfl)
theorem IW:Entry Tryz.prog 95 oh:=bI Tryz.func95 (by kernel_rfl)
theorem K4:Entry Tryz.prog 44 qi:=bI Tryz.func44 (by kernel_rfl)
theorem K3:Entry Tryz.prog 19 qh:=bI Tryz.func19 (by kernel_rfl)
theorem IX:Entry Tryz.prog 40 oj:=bI Tryz.func40 (by kernel_rfl)
theorem I3:Entry Tryz.prog 17 ol:=bI Tryz.func17 (by kernel_rfl)
theorem Br:Entry Tryz.prog 5 iV:=bI Tryz.func5 (by kernel_rfl)
theorem zx:Entry Tryz.prog 9 hH:=bI Tryz.func9 (by kernel_rfl)
def VZ:List (Nat×Fun'):=[(nT,.code od),
 (pT,.code p8),
 (pS,.code p7),
 (fF,.code kP),
 (gS,.code g8),
 (d7,.code mE),
 (pU,.code qb),
 (rL,.code su),
 (nU,.code oe),
 (mw,.code mJ),
 (my,.code mK),
 (iS,.code om),
 (mz,.code mL),
 (FY,.code xv),
 (Iy,.code zQ),
 (Dy,.code uP),
 (rP,.code kU),
 (wh,.code nO),
 (FX,.code xu),
 (qI,.code jx),
 (Ds,.code uJ),
 (Cw,.code ti),
 (FN,.code xj),
 (Dt,.code uK),
 (y7,.code qg),
 (Ix,.code zP),
 (Bj,.code ri),
 (FW,.code xt),
 (wg,.code nN),
 (FU,.code xq),
 (y5,.code qc),
 (Du,.code uL),
 (Cx,.code tj),
 (Iv,.code zN),
 (FR,.code xn),
 (xT,.code oT),
 (kC,.code kT),
 (qJ,.code jy),
 (Dx,.code uO),
 (ah,.code xo),
 (Dr,.code uI),
 (It,.code zL),
 (Iu,.code zM),
 (Iw,.code zO),
 (FT,.code xp),
 (rO,.code kS),
 (qZ,.code j6),
 (rM,.code kQ),
 (rN,.code kR),
 (tC,.code lP),
 (tA,.code lO),
 (Dv,.code uM),
 (FQ,.code xm),
 (FO,.code xk),
 (Bi,.code rh),
 (Dw,.code uN),
 (Cy,.code tk),
 (FP,.code xl),
 (Iz,.code zS),
 (y6,.code qf),
 (rR,.code kW),
 (rQ,.code kV),
 (FV,.code xr),
 (ny,.code td),
 (kB,.code kO),
 (gC,.code jM),
 (eh,.code kN),
 (dz,.code fw),
 (mu,.code mI),
 (cN,.code eu),
 (gW,.code hU),
 (dA,.code fx),
 (gV,.code hR),
 (dB,.code fy),
 (a6,.code ez),
 (gT,.code g9),
 (iu,.code kL),
 (aV,.code dn),
 (bi,.code cZ),
 (cx,.code d4),
 (bM,.code d5),
 (bj,.code cy),
 (aU,.code bY),
 (nX,.code oo),
 (nY,.code oq),
 (dm,.code ic),
 (mB,.code mN),
 (iv,.nat vV),
 (eB,.code jL),
 (gD,.code jO),
 (jJ,.code jP),
 (ea,.code mQ),
 (eO,.code ot),
 (gK,.code mP),
 (mC,.dfr mO),
 (cO,.code ev),
 (eL,.code eY),
 (dC,.code fz),
 (eI,.code eV),
 (dD,.code fA),
 (bH,.code jN),
 (dV,.code dY),
 (cP,.code ey),
 (eM,.code eZ),
 (dE,.code fB),
 (eJ,.code eW),
 (dF,.code fC),
 (gU,.code hM),
 (fv,.code fD),
 (eG,.code eT),
 (gu,.code gx),
 (eH,.code eU),
 (da,.code eS),
 (eK,.code eX),
 (kA,.code kM),
 (FM,.code xi),
 (Ct,.code s9),
 (xS,.code oS),
 (Kk,.code Cf),
 (yZ,.code qa),
 (Cv,.code tf),
 (FL,.code xg),
 (Cu,.code te),
 (IB,.code zW),
 (F0,.code xx),
 (rS,.code kX),
 (q6,.code j7),
 (IA,.code zU),
 (rT,.code kY),
 (FZ,.code xw),
 (FK,.code xf),
 (yY,.code p9),
 (we,.code nM),
 (jr,.code jv),
 (fE,.code j5),
 (gQ,.code gY),
 (mr,.code mF),
 (b7,.code cL),
 (b8,.code cM),
 (dU,.code dX),
 (jI,.code jK),
 (iR,.code iU),
 (ky,.code kK),
 (jZ,.code p6),
 (Bh,.code rf),
 (ir,.code Ce),
 (qH,.code xe),
 (qG,.code xd),
 (gR,.code gZ),
 (eF,.code eR),
 (dT,.code oa),
 (d9,.code mH),
 (jS,.code gw),
 (gJ,.code mG),
 (mA,.code mM),
 (dW,.code dZ),
 (pW,.code qe),
 (eN,.code hZ),
 (pV,.code qd),
 (nV,.code oh),
 (pY,.code qi),
 (pX,.code qh),
 (nW,.code oj),
 (kD,.code ol),
 (l5,.code iV),
 (kz,.code hH)]
abbrev tbl:Nat->Option Fun':=Lq VZ
theorem JH:tbl nT=some (.code od):=by kernel_rfl
theorem L8:tbl pT=some (.code p8):=by kernel_rfl
theorem L6:tbl pS=some (.code p7):=by kernel_rfl
theorem Fa:tbl fF=some (.code kP):=by kernel_rfl
theorem AH:tbl gS=some (.code g8):=by kernel_rfl
theorem GL:tbl d7=some (.code mE):=by kernel_rfl
theorem L9:tbl pU=some (.code qb):=by kernel_rfl
theorem NJ:tbl rL=some (.code su):=by kernel_rfl
theorem JI:tbl nU=some (.code oe):=by kernel_rfl
theorem GQ:tbl mw=some (.code mJ):=by kernel_rfl
theorem GR:tbl my=some (.code mK):=by kernel_rfl
theorem JM:tbl iS=some (.code om):=by kernel_rfl
theorem GU:tbl mz=some (.code mL):=by kernel_rfl
theorem Fb:tbl kC=some (.code kT):=by kernel_rfl
theorem E9:tbl kB=some (.code kO):=by kernel_rfl
theorem CX:tbl gC=some (.code jM):=by kernel_rfl
theorem E8:tbl eh=some (.code kN):=by kernel_rfl
theorem wy:tbl dz=some (.code fw):=by kernel_rfl
theorem GP:tbl mu=some (.code mI):=by kernel_rfl
theorem tO:tbl cN=some (.code eu):=by kernel_rfl
theorem AM:tbl gW=some (.code hU):=by kernel_rfl
theorem wz:tbl dA=some (.code fx):=by kernel_rfl
theorem AL:tbl gV=some (.code hR):=by kernel_rfl
theorem wA:tbl dB=some (.code fy):=by kernel_rfl
theorem tT:tbl a6=some (.code ez):=by kernel_rfl
theorem AI:tbl gT=some (.code g9):=by kernel_rfl
theorem E6:tbl iu=some (.code kL):=by kernel_rfl
theorem rD:tbl aV=some (.code dn):=by kernel_rfl
theorem qT:tbl bi=some (.code cZ):=by kernel_rfl
theorem sM:tbl cx=some (.code d4):=by kernel_rfl
theorem sN:tbl bM=some (.code d5):=by kernel_rfl
theorem pq:tbl bj=some (.code cy):=by kernel_rfl
theorem fR:tbl aU=some (.code bY):=by kernel_rfl
theorem JN:tbl nX=some (.code oo):=by kernel_rfl
theorem JO:tbl nY=some (.code oq):=by kernel_rfl
theorem AO:tbl dm=some (.code ic):=by kernel_rfl
theorem GX:tbl mB=some (.code mN):=by kernel_rfl
theorem Fc:tbl iv=some (.nat vV):=by kernel_rfl
theorem CW:tbl eB=some (.code jL):=by kernel_rfl
theorem CZ:tbl gD=some (.code jO):=by kernel_rfl
theorem C0:tbl jJ=some (.code jP):=by kernel_rfl
theorem G1:tbl ea=some (.code mQ):=by kernel_rfl
theorem JP:tbl eO=some (.code ot):=by kernel_rfl
theorem GZ:tbl gK=some (.code mP):=by kernel_rfl
theorem GY:tbl mC=some (.dfr mO):=by kernel_rfl
theorem tP:tbl cO=some (.code ev):=by kernel_rfl
theorem vq:tbl eL=some (.code eY):=by kernel_rfl
theorem wB:tbl dC=some (.code fz):=by kernel_rfl
theorem vn:tbl eI=some (.code eV):=by kernel_rfl
theorem wC:tbl dD=some (.code fA):=by kernel_rfl
theorem CY:tbl bH=some (.code jN):=by kernel_rfl
theorem sK:tbl dV=some (.code dY):=by kernel_rfl
theorem tR:tbl cP=some (.code ey):=by kernel_rfl
theorem vr:tbl eM=some (.code eZ):=by kernel_rfl
theorem wD:tbl dE=some (.code fB):=by kernel_rfl
theorem vo:tbl eJ=some (.code eW):=by kernel_rfl
theorem wE:tbl dF=some (.code fC):=by kernel_rfl
theorem AK:tbl gU=some (.code hM):=by kernel_rfl
theorem wF:tbl fv=some (.code fD):=by kernel_rfl
theorem vl:tbl eG=some (.code eT):=by kernel_rfl
theorem ym:tbl gu=some (.code gx):=by kernel_rfl
theorem vm:tbl eH=some (.code eU):=by kernel_rfl
theorem vk:tbl da=some (.code eS):=by kernel_rfl
theorem vp:tbl eK=some (.code eX):=by kernel_rfl
theorem E7:tbl kA=some (.code kM):=by kernel_rfl
theorem AF:tbl gQ=some (.code gY):=by kernel_rfl
theorem GM:tbl mr=some (.code mF):=by kernel_rfl
theorem pC:tbl b7=some (.code cL):=by kernel_rfl
theorem pE:tbl b8=some (.code cM):=by kernel_rfl
theorem sJ:tbl dU=some (.code dX):=by kernel_rfl
theorem CV:tbl jI=some (.code jK):=by kernel_rfl
theorem BU:tbl iR=some (.code iU):=by kernel_rfl
theorem E5:tbl ky=some (.code kK):=by kernel_rfl
theorem L5:tbl jZ=some (.code p6):=by kernel_rfl
theorem AG:tbl gR=some (.code gZ):=by kernel_rfl
theorem vj:tbl eF=some (.code eR):=by kernel_rfl
theorem JG:tbl dT=some (.code oa):=by kernel_rfl
theorem GO:tbl d9=some (.code mH):=by kernel_rfl
theorem yl:tbl jS=some (.code gw):=by kernel_rfl
theorem GN:tbl gJ=some (.code mG):=by kernel_rfl
theorem GV:tbl mA=some (.code mM):=by kernel_rfl
theorem sL:tbl dW=some (.code dZ):=by kernel_rfl
theorem Mb:tbl pW=some (.code qe):=by kernel_rfl
theorem AN:tbl eN=some (.code hZ):=by kernel_rfl
theorem Ma:tbl pV=some (.code qd):=by kernel_rfl
theorem JJ:tbl nV=some (.code oh):=by kernel_rfl
theorem Md:tbl pY=some (.code qi):=by kernel_rfl
theorem Mc:tbl pX=some (.code qh):=by kernel_rfl
theorem JK:tbl nW=some (.code oj):=by kernel_rfl
theorem JL:tbl kD=some (.code ol):=by kernel_rfl
theorem BW:tbl l5=some (.code iV):=by kernel_rfl
theorem AJ:tbl kz=some (.code hH):=by kernel_rfl
theorem Sw:TblOk Tryz.prog tbl:=AllOk.tbl (P:=Tryz.prog) (l:=VZ) ⟨IS,KY,KX,D5,zu,F3,K0,MS,IT,Ge,Gi,I4,Gs,Gr,I1,Ee,se,wu,Gq,qM,D7,CN,Gd,D8,zG,I0,Bt,Gp,wt,Gm,zD,D9,CO,IY,Gj,xZ,Ec,qN,Ed,Gk,D6,IU,IV,IZ,Gl,sb,q9,r9,sa,tJ,tH,Ea,Gh,Gf,Bs,Eb,CP,Gg,I2,zF,sg,sf,Gn,CI,D3,CK,DZ,wj,Ga,tE,zA,wk,zz,wl,tK,zw,DX,ra,qO,si,sj,oP,l6,I6,I7,zH,Gu,ED,CG,CR,CS,Gz,I8,Gx,Gw,tF,uE,wm,uB,wn,CL,r8,tG,uF,wo,uC,wq,zy,ws,uz,xY,uA,uy,uD,DY,Gc,CE,xW,KZ,zB,CM,Gb,CJ,I9,Gy,sn,rb,I5,sq,Gv,F7,zv,wi,qL,q8,zq,F6,pA,pB,r7,CF,Bq,DW,KV,Bp,KW,F5,F4,zr,ux,IR,F9,xX,F8,Gt,sd,K2,zE,K1,IW,K4,K3,IX,I3,Br,zx,trivial⟩
end Go.Proofs.YthjnceggmnicmaaGreatDoor
