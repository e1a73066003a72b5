import Derived.Test.YtmfolppncelceaaGreatDoorVTG4
import Derived.Test.YtmfolppncelceaaGreatDoorVL7
import Derived.Test.YtmfolppncelceaaGreatDoorRows
import Derived.Test.YtmfolppncelceaaGreatDoorVBn
import Derived.Test.YtmfolppncelceaaGreatDoorVRibNat
set_option linter.unusedVariables false
set_option linter.unusedSimpArgs false
namespace Go.Proofs.YtmfolppncelceaaGreatDoor
open Go Go.Av Go.Ev
theorem N1:OkE Tryz.prog mB (.nat Fc):=zem Tryz.strconv_Itoa
theorem IU:OkE Tryz.prog iN (.nat AG):=FK
theorem Qp:OkE Tryz.prog oK (.nat uh):=L3
theorem vm:OkE Tryz.prog cf (.nat AF):=sS
theorem BY:OkE Tryz.prog dO (.nat AD):=zS
theorem PK:Entry Tryz.prog 8 yX:=bN Tryz.func8 (by kernel_rfl)
theorem VC:Entry Tryz.prog 23 K8:=bN Tryz.func23 (by kernel_rfl)
theorem Nk:Entry Tryz.prog 42 wN:=bN Tryz.func42 (by kernel_rfl)
theorem LK:Entry Tryz.prog 95 uY:=bN Tryz.func95 (by kernel_rfl)
theorem Nj:Entry Tryz.prog 73 rp:=bN Tryz.func73 (by kernel_rfl)
theorem Fx:Entry Tryz.prog 44 nW:=bN Tryz.func44 (by kernel_rfl)
theorem SQ:Entry Tryz.prog 157 Bs:=bN Tryz.func157 (by kernel_rfl)
theorem VB:Entry Tryz.prog 122 Ej:=bN Tryz.func122 (by kernel_rfl)
theorem VA:Entry Tryz.prog 96 Ei:=bN Tryz.func96 (by kernel_rfl)
theorem Nl:Entry Tryz.prog 74 wO:=bN Tryz.func74 (by kernel_rfl)
theorem PL:Entry Tryz.prog 48 yY:=bN Tryz.func48 (by kernel_rfl)
theorem CU:Entry Tryz.prog 47 lK:=bN Tryz.func47 (by kernel_rfl)
theorem Ix:Entry Tryz.prog 46 rm:=bN Tryz.func46 (by kernel_rfl)
theorem Fy:Entry Tryz.prog 45 nX:=bN Tryz.func45 (by kernel_rfl)
theorem Iw:Entry Tryz.prog 43 rk:=bN Tryz.func43 (by kernel_rfl)
theorem Fz:Entry Tryz.prog 49 nY:=bN Tryz.func49 (by kernel_rfl)
theorem C1:Entry Tryz.prog 98 lR:=bN Tryz.func98 (by kernel_rfl)
theorem It:Entry Tryz.prog 212 ri:=bN Tryz.func212 (by kernel_rfl)
theorem Nh:Entry Tryz.prog 202 wL:=bN Tryz.func202 (by kernel_rfl)
theorem Ax:Entry Tryz.prog 183 jJ:=bN Tryz.func183 (by kernel_rfl)
theorem yQ:Entry Tryz.prog 184 i6:=bN Tryz.func184 (by kernel_rfl)
theorem Bn:Entry Tryz.prog 158 kw:=bN Tryz.func158 (by kernel_rfl)
theorem Bo:Entry Tryz.prog 123 ky:=bN Tryz.func123 (by kernel_rfl)
theorem wH:Entry Tryz.prog 97 gU:=bN Tryz.func97 (by kernel_rfl)
theorem sA:Entry Tryz.prog 76 eF:=bN Tryz.func76 (by kernel_rfl)
theorem S7:Entry Tryz.prog 185 BH:=bN Tryz.func185 (by kernel_rfl)
theorem S8:Entry Tryz.prog 159 BI:=bN Tryz.func159 (by kernel_rfl)
theorem IC:Entry Tryz.prog 124 rA:=bN Tryz.func124 (by kernel_rfl)
theorem Qf:Entry Tryz.prog 99 zF:=bN Tryz.func99 (by kernel_rfl)
theorem LI:Entry Tryz.prog 125 uW:=bN Tryz.func125 (by kernel_rfl)
theorem LW:Entry Tryz.prog 187 vh:=bN Tryz.func187 (by kernel_rfl)
theorem LX:Entry Tryz.prog 161 vi:=bN Tryz.func161 (by kernel_rfl)
theorem Qk:Entry Tryz.prog 126 zK:=bN Tryz.func126 (by kernel_rfl)
theorem S9:Entry Tryz.prog 100 BJ:=bN Tryz.func100 (by kernel_rfl)
theorem Qi:Entry Tryz.prog 77 zI:=bN Tryz.func77 (by kernel_rfl)
set_option maxRecDepth 8000 in
theorem Qh:EntryD Tryz.prog 52 zH:=⟨⟨Tryz.f52,_,_,_,_,_,_,_,_,_,_,_,Tryz.func52,by kernel_rfl,rfl,by kernel_rfl,by kernel_rfl,⟨⟨Tryz.f75,_,_,_,_,_,_,_,Tryz.func75,by kernel_rfl,by kernel_rfl,rfl,⟨#[],by kernel_rfl⟩,by kernel_rfl⟩⟩,by kernel_rfl,by kernel_rfl⟩,by kernel_rfl⟩
theorem CV:Entry Tryz.prog 51 lM:=bN Tryz.func51 (by kernel_rfl)
theorem Eb:Entry Tryz.prog 46 mN:=bN Tryz.func46 (by kernel_rfl)
theorem FA:Entry Tryz.prog 50 nZ:=bN Tryz.func50 (by kernel_rfl)
theorem D8:Entry Tryz.prog 43 mK:=bN Tryz.func43 (by kernel_rfl)
theorem FB:Entry Tryz.prog 53 oa:=bN Tryz.func53 (by kernel_rfl)
theorem LL:Entry Tryz.prog 78 uZ:=bN Tryz.func78 (by kernel_rfl)
theorem Bf:Entry Tryz.prog 56 ki:=bN Tryz.func56 (by kernel_rfl)
theorem CW:Entry Tryz.prog 55 lN:=bN Tryz.func55 (by kernel_rfl)
theorem Ec:Entry Tryz.prog 46 mO:=bN Tryz.func46 (by kernel_rfl)
theorem FC:Entry Tryz.prog 54 od:=bN Tryz.func54 (by kernel_rfl)
theorem D9:Entry Tryz.prog 43 mL:=bN Tryz.func43 (by kernel_rfl)
theorem FD:Entry Tryz.prog 57 oe:=bN Tryz.func57 (by kernel_rfl)
theorem Iv:Entry Tryz.prog 127 rj:=bN Tryz.func127 (by kernel_rfl)
theorem FE:Entry Tryz.prog 101 oh:=bN Tryz.func101 (by kernel_rfl)
theorem D6:Entry Tryz.prog 102 mI:=bN Tryz.func102 (by kernel_rfl)
theorem G6:Entry Tryz.prog 79 pW:=bN Tryz.func79 (by kernel_rfl)
theorem D7:Entry Tryz.prog 59 mJ:=bN Tryz.func59 (by kernel_rfl)
theorem D5:Entry Tryz.prog 58 mH:=bN Tryz.func58 (by kernel_rfl)
theorem Ea:Entry Tryz.prog 43 mM:=bN Tryz.func43 (by kernel_rfl)
theorem Ni:Entry Tryz.prog 24 wM:=bN Tryz.func24 (by kernel_rfl)
theorem PN:Entry Tryz.prog 60 y5:=bN Tryz.func60 (by kernel_rfl)
theorem G8:Entry Tryz.prog 25 pX:=bN Tryz.func25 (by kernel_rfl)
theorem Nm:Entry Tryz.prog 10 wP:=bN Tryz.func10 (by kernel_rfl)
theorem Ql:Entry Tryz.prog 145 zL:=bN Tryz.func145 (by kernel_rfl)
theorem J0:Entry Tryz.prog 114 sP:=bN Tryz.func114 (by kernel_rfl)
theorem VM:Entry Tryz.prog 88 Et:=bN Tryz.func88 (by kernel_rfl)
theorem PP:Entry Tryz.prog 68 y6:=bN Tryz.func68 (by kernel_rfl)
theorem JQ:Entry Tryz.prog 13 sG:=bN Tryz.func13 (by kernel_rfl)
theorem Ir:Entry Tryz.prog 135 rf:=bN Tryz.func135 (by kernel_rfl)
theorem PF:Entry Tryz.prog 111 yU:=bN Tryz.func111 (by kernel_rfl)
theorem LG:Entry Tryz.prog 86 uT:=bN Tryz.func86 (by kernel_rfl)
theorem G5:Entry Tryz.prog 112 pU:=bN Tryz.func112 (by kernel_rfl)
theorem VD:Entry Tryz.prog 170 Ek:=bN Tryz.func170 (by kernel_rfl)
theorem Iy:Entry Tryz.prog 140 rq:=bN Tryz.func140 (by kernel_rfl)
theorem LM:Entry Tryz.prog 189 u4:=bN Tryz.func189 (by kernel_rfl)
theorem PM:Entry Tryz.prog 167 yZ:=bN Tryz.func167 (by kernel_rfl)
theorem LJ:Entry Tryz.prog 137 uX:=bN Tryz.func137 (by kernel_rfl)
theorem Ta:Entry Tryz.prog 190 BK:=bN Tryz.func190 (by kernel_rfl)
theorem Qj:Entry Tryz.prog 191 zJ:=bN Tryz.func191 (by kernel_rfl)
theorem Bp:Entry Tryz.prog 205 kz:=bN Tryz.func205 (by kernel_rfl)
theorem Ay:Entry Tryz.prog 206 jK:=bN Tryz.func206 (by kernel_rfl)
theorem S6:Entry Tryz.prog 207 BG:=bN Tryz.func207 (by kernel_rfl)
theorem Bq:Entry Tryz.prog 192 kA:=bN Tryz.func192 (by kernel_rfl)
theorem Qg:Entry Tryz.prog 168 zG:=bN Tryz.func168 (by kernel_rfl)
theorem PH:Entry Tryz.prog 138 yW:=bN Tryz.func138 (by kernel_rfl)
theorem Is:Entry Tryz.prog 169 rh:=bN Tryz.func169 (by kernel_rfl)
theorem Fw:Entry Tryz.prog 139 nV:=bN Tryz.func139 (by kernel_rfl)
theorem yJ:Entry Tryz.prog 136 iZ:=bN Tryz.func136 (by kernel_rfl)
theorem Au:Entry Tryz.prog 141 jH:=bN Tryz.func141 (by kernel_rfl)
theorem Iq:Entry Tryz.prog 142 rb:=bN Tryz.func142 (by kernel_rfl)
theorem PG:Entry Tryz.prog 143 yV:=bN Tryz.func143 (by kernel_rfl)
theorem xB:Entry Tryz.prog 195 ij:=bN Tryz.func195 (by kernel_rfl)
theorem xC:Entry Tryz.prog 193 ik:=bN Tryz.func193 (by kernel_rfl)
theorem Be:Entry Tryz.prog 194 kh:=bN Tryz.func194 (by kernel_rfl)
theorem LH:Entry Tryz.prog 171 uV:=bN Tryz.func171 (by kernel_rfl)
theorem JP:Entry Tryz.prog 172 sE:=bN Tryz.func172 (by kernel_rfl)
theorem Ng:Entry Tryz.prog 144 wK:=bN Tryz.func144 (by kernel_rfl)
theorem Vy:Entry Tryz.prog 113 Eg:=bN Tryz.func113 (by kernel_rfl)
theorem JO:Entry Tryz.prog 87 sD:=bN Tryz.func87 (by kernel_rfl)
theorem Vz:Entry Tryz.prog 67 Eh:=bN Tryz.func67 (by kernel_rfl)
theorem Bh:Entry Tryz.prog 66 km:=bN Tryz.func66 (by kernel_rfl)
theorem JS:Entry Tryz.prog 32 sI:=bN Tryz.func32 (by kernel_rfl)
theorem CX:Entry Tryz.prog 33 lO:=bN Tryz.func33 (by kernel_rfl)
theorem Bg:Entry Tryz.prog 34 kj:=bN Tryz.func34 (by kernel_rfl)
theorem G7:Entry Tryz.prog 15 wQ:=bN Tryz.func15 (by kernel_rfl)
theorem Nn:Entry Tryz.prog 37 wR:=bN Tryz.func37 (by kernel_rfl)
theorem JR:Entry Tryz.prog 18 sH:=bN Tryz.func18 (by kernel_rfl)
theorem CY:Entry Tryz.prog 17 r7:=bN Tryz.func17 (by kernel_rfl)
theorem PI:Entry Tryz.prog 9 tF:=bN Tryz.func9 (by kernel_rfl)
theorem SZ:Entry Tryz.prog 83 Bz:=bN Tryz.func83 (by kernel_rfl)
theorem Nt:Entry Tryz.prog 64 wX:=bN Tryz.func64 (by kernel_rfl)
theorem VE:Entry Tryz.prog 162 El:=bN Tryz.func162 (by kernel_rfl)
theorem YT:Entry Tryz.prog 163 Hc:=bN Tryz.func163 (by kernel_rfl)
theorem SR:Entry Tryz.prog 128 Bt:=bN Tryz.func128 (by kernel_rfl)
theorem PQ:Entry Tryz.prog 103 y7:=bN Tryz.func103 (by kernel_rfl)
theorem PZ:Entry Tryz.prog 80 zh:=bN Tryz.func80 (by kernel_rfl)
theorem JZ:Entry Tryz.prog 61 sO:=bN Tryz.func61 (by kernel_rfl)
theorem Bl:Entry Tryz.prog 130 kt:=bN Tryz.func130 (by kernel_rfl)
theorem Aw:Entry Tryz.prog 204 jI:=bN Tryz.func204 (by kernel_rfl)
theorem Bi:Entry Tryz.prog 188 ko:=bN Tryz.func188 (by kernel_rfl)
theorem Bj:Entry Tryz.prog 164 kq:=bN Tryz.func164 (by kernel_rfl)
theorem C0:Entry Tryz.prog 129 lQ:=bN Tryz.func129 (by kernel_rfl)
theorem CZ:Entry Tryz.prog 104 lP:=bN Tryz.func104 (by kernel_rfl)
theorem Nq:Entry Tryz.prog 165 wU:=bN Tryz.func165 (by kernel_rfl)
theorem PW:Entry Tryz.prog 131 zc:=bN Tryz.func131 (by kernel_rfl)
theorem PR:Entry Tryz.prog 105 y8:=bN Tryz.func105 (by kernel_rfl)
theorem JX:Entry Tryz.prog 132 sM:=bN Tryz.func132 (by kernel_rfl)
theorem Np:Entry Tryz.prog 166 wT:=bN Tryz.func166 (by kernel_rfl)
theorem LO:Entry Tryz.prog 133 u6:=bN Tryz.func133 (by kernel_rfl)
theorem Nr:Entry Tryz.prog 134 wV:=bN Tryz.func134 (by kernel_rfl)
theorem LP:Entry Tryz.prog 106 u7:=bN Tryz.func106 (by kernel_rfl)
theorem PU:Entry Tryz.prog 81 za:=bN Tryz.func81 (by kernel_rfl)
theorem P4:Entry Tryz.prog 62 zq:=bN Tryz.func62 (by kernel_rfl)
theorem IA:Entry Tryz.prog 82 ry:=bN Tryz.func82 (by kernel_rfl)
theorem FH:Entry Tryz.prog 63 om:=bN Tryz.func63 (by kernel_rfl)
theorem SY:Entry Tryz.prog 107 By:=bN Tryz.func107 (by kernel_rfl)
theorem JY:Entry Tryz.prog 108 sN:=bN Tryz.func108 (by kernel_rfl)
theorem P3:Entry Tryz.prog 109 zp:=bN Tryz.func109 (by kernel_rfl)
theorem FG:Entry Tryz.prog 110 ol:=bN Tryz.func110 (by kernel_rfl)
theorem P2:Entry Tryz.prog 84 zo:=bN Tryz.func84 (by kernel_rfl)
theorem Ns:Entry Tryz.prog 85 wW:=bN Tryz.func85 (by kernel_rfl)
theorem S0:Entry Tryz.prog 65 BA:=bN Tryz.func65 (by kernel_rfl)
theorem P1:Entry Tryz.prog 26 zj:=bN Tryz.func26 (by kernel_rfl)
theorem IB:Entry Tryz.prog 27 rz:=bN Tryz.func27 (by kernel_rfl)
theorem Nw:Entry Tryz.prog 28 w8:=bN Tryz.func28 (by kernel_rfl)
theorem SV:Entry Tryz.prog 29 Bw:=bN Tryz.func29 (by kernel_rfl)
theorem Qc:Entry Tryz.prog 11 zA:=bN Tryz.func11 (by kernel_rfl)
theorem LS:Entry Tryz.prog 14 vd:=bN Tryz.func14 (by kernel_rfl)
theorem JV:Entry Tryz.prog 30 sK:=bN Tryz.func30 (by kernel_rfl)
theorem FF:Entry Tryz.prog 31 oj:=bN Tryz.func31 (by kernel_rfl)
theorem Qb:Entry Tryz.prog 120 zz:=bN Tryz.func120 (by kernel_rfl)
theorem S3:Entry Tryz.prog 156 BD:=bN Tryz.func156 (by kernel_rfl)
theorem S5:Entry Tryz.prog 121 BF:=bN Tryz.func121 (by kernel_rfl)
theorem Qa:Entry Tryz.prog 92 zy:=bN Tryz.func92 (by kernel_rfl)
theorem VL:Entry Tryz.prog 93 Es:=bN Tryz.func93 (by kernel_rfl)
theorem LN:Entry Tryz.prog 41 u5:=bN Tryz.func41 (by kernel_rfl)
theorem Nv:Entry Tryz.prog 94 wZ:=bN Tryz.func94 (by kernel_rfl)
theorem P9:Entry Tryz.prog 72 zx:=bN Tryz.func72 (by kernel_rfl)
theorem Nu:Entry Tryz.prog 40 wY:=bN Tryz.func40 (by kernel_rfl)
theorem S4:Entry Tryz.prog 21 BE:=bN Tryz.func21 (by kernel_rfl)
theorem PX:Entry Tryz.prog 151 ze:=bN Tryz.func151 (by kernel_rfl)
theorem S2:Entry Tryz.prog 152 BC:=bN Tryz.func152 (by kernel_rfl)
theorem P5:Entry Tryz.prog 116 zr:=bN Tryz.func116 (by kernel_rfl)
theorem P8:Entry Tryz.prog 89 zw:=bN Tryz.func89 (by kernel_rfl)
theorem SS:Entry Tryz.prog 201 Bu:=bN Tryz.func201 (by kernel_rfl)
theorem JU:Entry Tryz.prog 180 sJ:=bN Tryz.func180 (by kernel_rfl)
theorem No:Entry Tryz.prog 208 wS:=bN Tryz.func208 (by kernel_rfl)
theorem P0:Entry Tryz.prog 198 zi:=bN Tryz.func198 (by kernel_rfl)
theorem LR:Entry Tryz.prog 177 vc:=bN Tryz.func177 (by kernel_rfl)
theorem G9:Entry Tryz.prog 209 pY:=bN Tryz.func209 (by kernel_rfl)
theorem JW:Entry Tryz.prog 210 sL:=bN Tryz.func210 (by kernel_rfl)
theorem PT:Entry Tryz.prog 199 y9:=bN Tryz.func199 (by kernel_rfl)
theorem FI:Entry Tryz.prog 178 oo:=bN Tryz.func178 (by kernel_rfl)
theorem PY:Entry Tryz.prog 200 zg:=bN Tryz.func200 (by kernel_rfl)
theorem LQ:Entry Tryz.prog 179 u9:=bN Tryz.func179 (by kernel_rfl)
theorem VI:Entry Tryz.prog 153 Ep:=bN Tryz.func153 (by kernel_rfl)
theorem S1:Entry Tryz.prog 117 BB:=bN Tryz.func117 (by kernel_rfl)
theorem P7:Entry Tryz.prog 90 zv:=bN Tryz.func90 (by kernel_rfl)
theorem P6:Entry Tryz.prog 118 zu:=bN Tryz.func118 (by kernel_rfl)
theorem Bm:Entry Tryz.prog 181 ku:=bN Tryz.func181 (by kernel_rfl)
theorem VG:Entry Tryz.prog 182 En:=bN Tryz.func182 (by kernel_rfl)
theorem Iz:Entry Tryz.prog 181 ru:=bN Tryz.func181 (by kernel_rfl)
theorem VF:Entry Tryz.prog 154 Em:=bN Tryz.func154 (by kernel_rfl)
theorem SU:Entry Tryz.prog 155 Bv:=bN Tryz.func155 (by kernel_rfl)
theorem VK:Entry Tryz.prog 119 Er:=bN Tryz.func119 (by kernel_rfl)
theorem VH:Entry Tryz.prog 91 Eo:=bN Tryz.func91 (by kernel_rfl)
theorem VJ:Entry Tryz.prog 69 zjd:=bN Tryz.func69 (by kernel_rfl)
theorem Qe:Entry Tryz.prog 35 zD:=bN Tryz.func35 (by kernel_rfl)
theorem LV:Entry Tryz.prog 36 vg:=bN Tryz.func36 (by kernel_rfl)
theorem Qd:Entry Tryz.prog 38 zB:=bN Tryz.func38 (by kernel_rfl)
theorem LU:Entry Tryz.prog 19 vf:=bN Tryz.func19 (by kernel_rfl)
theorem D3:Entry Tryz.prog 39 mG:=bN Tryz.func39 (by kernel_rfl)
theorem Iu:Entry Tryz.prog 20 mc:=bN Tryz.func20 (by kernel_rfl)
theorem CS:Entry Tryz.prog 5 lJ:=bN Tryz.func5 (by kernel_rfl)
def ziM:List (Nat×Fun'):=[(s9,.code yX),
 (t6,.code K8),
 (qR,.code wN),
 (kJ,.code uY),
 (gR,.code rp),
 (fK,.code nW),
 (vN,.code Bs),
 (xZ,.code Ej),
 (tX,.code Ei),
 (de,.code wO),
 (oz,.code yY),
 (et,.code lK),
 (l7,.code rm),
 (fL,.code nX),
 (l6,.code rk),
 (fM,.code nY),
 (bl,.code lR),
 (lY,.code ri),
 (mu,.code wL),
 (bc,.code jJ),
 (bC,.code i6),
 (dM,.code kw),
 (b9,.code ky),
 (bE,.code gU),
 (ba,.code eF),
 (vW,.code BH),
 (q6,.code BI),
 (fo,.code rA),
 (tC,.code zF),
 (mB,.nat Fc),
 (im,.code uW),
 (kK,.code vh),
 (pB,.code vi),
 (gz,.code zK),
 (iM,.code BJ),
 (kW,.code zI),
 (oI,.dfr zH),
 (eu,.code lM),
 (iH,.code mN),
 (fN,.code nZ),
 (iE,.code mK),
 (fO,.code oa),
 (bX,.code uZ),
 (gq,.code ki),
 (ev,.code lN),
 (iI,.code mO),
 (fP,.code od),
 (iF,.code mL),
 (fQ,.code oe),
 (l5,.code rj),
 (jq,.code oh),
 (iC,.code mI),
 (kb,.code pW),
 (iD,.code mJ),
 (fc,.code mH),
 (iG,.code mM),
 (gQ,.code wM),
 (kS,.code y5),
 (kd,.code pX),
 (mw,.code wP),
 (eU,.code zL),
 (iN,.nat AG),
 (np,.code sP),
 (oK,.nat uh),
 (ye,.code Et),
 (te,.code y6),
 (jy,.code sG),
 (lW,.code rf),
 (s6,.code yU),
 (pj,.code uT),
 (j9,.code pU),
 (x6,.code Ek),
 (iJ,.code rq),
 (pq,.code u4),
 (td,.code yZ),
 (pp,.code uX),
 (q7,.code BK),
 (oJ,.code zJ),
 (dN,.code kz),
 (dy,.code jK),
 (ke,.code BG),
 (ca,.code kA),
 (tD,.code zG),
 (s8,.code yW),
 (lX,.code rh),
 (jp,.code nV),
 (dc,.code iZ),
 (dx,.code jH),
 (lV,.code rb),
 (s7,.code yV),
 (cU,.code ij),
 (cV,.code ik),
 (gp,.code kh),
 (pn,.code uV),
 (nf,.code sE),
 (qP,.code wK),
 (xX,.code Eg),
 (na,.code sD),
 (xY,.code Eh),
 (dL,.code km),
 (ng,.code sI),
 (ey,.code lO),
 (gr,.code kj),
 (pS,.code wQ),
 (cf,.nat AF),
 (dO,.nat AD),
 (qS,.code wR),
 (gH,.code sH),
 (lE,.code r7),
 (oy,.code tF),
 (qW,.code Bz),
 (gT,.code wX),
 (x7,.code El),
 (A4,.code Hc),
 (qT,.code Bt),
 (dh,.code y7),
 (kU,.code zh),
 (nk,.code sO),
 (aS,.code kt),
 (bk,.code jI),
 (b8,.code ko),
 (cM,.code kq),
 (c9,.code lQ),
 (bW,.code lP),
 (my,.code wU),
 (oA,.code zc),
 (tf,.code y8),
 (nj,.code sM),
 (jA,.code wT),
 (io,.code u6),
 (mz,.code wV),
 (fB,.code u7),
 (kT,.code za),
 (tq,.code zq),
 (iL,.code ry),
 (jt,.code om),
 (vQ,.code By),
 (jC,.code sN),
 (oC,.code zp),
 (fR,.code ol),
 (tp,.code zo),
 (mA,.code wW),
 (vR,.code BA),
 (kV,.code zj),
 (l8,.code rz),
 (qZ,.code w8),
 (qV,.code Bw),
 (oH,.code zA),
 (ip,.code vd),
 (ni,.code sK),
 (jr,.code oj),
 (tx,.code zz),
 (vT,.code BD),
 (vV,.code BF),
 (tw,.code zy),
 (t7,.code Es),
 (pu,.code u5),
 (qY,.code wZ),
 (tv,.code zx),
 (qX,.code wY),
 (vU,.code BE),
 (tj,.code ze),
 (nn,.code BC),
 (oD,.code zr),
 (oG,.code zw),
 (vO,.code Bu),
 (jz,.code sJ),
 (qU,.code wS),
 (tn,.code zi),
 (px,.code vc),
 (gS,.code pY),
 (jB,.code sL),
 (ti,.code y9),
 (ju,.code oo),
 (tk,.code zg),
 (pw,.code u9),
 (yb,.code Ep),
 (vS,.code BB),
 (tu,.code zv),
 (tt,.code zu),
 (gu,.code ku),
 (x9,.code En),
 (iK,.code ru),
 (x8,.code Em),
 (vP,.code Bv),
 (yd,.code Er),
 (ya,.code Eo),
 (yc,.code zjd),
 (tA,.code zD),
 (pA,.code vg),
 (tz,.code zB),
 (py,.code vf),
 (iB,.code mG),
 (lZ,.code mc),
 (g8,.code lJ)]
abbrev tbl:Nat->Option Fun':=RJ ziM
theorem QA:tbl s9=some (.code yX):=by kernel_rfl
theorem OE:tbl qR=some (.code wN):=by kernel_rfl
theorem L9:tbl kJ=some (.code uY):=by kernel_rfl
theorem OD:tbl gR=some (.code rp):=by kernel_rfl
theorem FM:tbl fK=some (.code nW):=by kernel_rfl
theorem TV:tbl vN=some (.code Bs):=by kernel_rfl
theorem Xk:tbl xZ=some (.code Ej):=by kernel_rfl
theorem Xj:tbl tX=some (.code Ei):=by kernel_rfl
theorem OF:tbl de=some (.code wO):=by kernel_rfl
theorem QB:tbl oz=some (.code yY):=by kernel_rfl
theorem Da:tbl et=some (.code lK):=by kernel_rfl
theorem Jh:tbl l7=some (.code rm):=by kernel_rfl
theorem FN:tbl fL=some (.code nX):=by kernel_rfl
theorem Jg:tbl l6=some (.code rk):=by kernel_rfl
theorem FO:tbl fM=some (.code nY):=by kernel_rfl
theorem Dh:tbl bl=some (.code lR):=by kernel_rfl
theorem Jd:tbl lY=some (.code ri):=by kernel_rfl
theorem OB:tbl mu=some (.code wL):=by kernel_rfl
theorem AP:tbl bc=some (.code jJ):=by kernel_rfl
theorem zZ:tbl bC=some (.code i6):=by kernel_rfl
theorem Cd:tbl dM=some (.code kw):=by kernel_rfl
theorem Ce:tbl b9=some (.code ky):=by kernel_rfl
theorem xw:tbl bE=some (.code gU):=by kernel_rfl
theorem jO:tbl ba=some (.code eF):=by kernel_rfl
theorem T8:tbl vW=some (.code BH):=by kernel_rfl
theorem T9:tbl q6=some (.code BI):=by kernel_rfl
theorem Jm:tbl fo=some (.code rA):=by kernel_rfl
theorem Q2:tbl tC=some (.code zF):=by kernel_rfl
theorem OR:tbl mB=some (.nat Fc):=by kernel_rfl
theorem L6:tbl im=some (.code uW):=by kernel_rfl
theorem Mk:tbl kK=some (.code vh):=by kernel_rfl
theorem Ml:tbl pB=some (.code vi):=by kernel_rfl
theorem Q7:tbl gz=some (.code zK):=by kernel_rfl
theorem Uv:tbl iM=some (.code BJ):=by kernel_rfl
theorem Q5:tbl kW=some (.code zI):=by kernel_rfl
theorem Q4:tbl oI=some (.dfr zH):=by kernel_rfl
theorem Db:tbl eu=some (.code lM):=by kernel_rfl
theorem ER:tbl iH=some (.code mN):=by kernel_rfl
theorem FP:tbl fN=some (.code nZ):=by kernel_rfl
theorem EO:tbl iE=some (.code mK):=by kernel_rfl
theorem FQ:tbl fO=some (.code oa):=by kernel_rfl
theorem Ma:tbl bX=some (.code uZ):=by kernel_rfl
theorem B7:tbl gq=some (.code ki):=by kernel_rfl
theorem Dc:tbl ev=some (.code lN):=by kernel_rfl
theorem ES:tbl iI=some (.code mO):=by kernel_rfl
theorem FR:tbl fP=some (.code od):=by kernel_rfl
theorem EP:tbl iF=some (.code mL):=by kernel_rfl
theorem zjh:tbl fQ=some (.code oe):=by kernel_rfl
theorem Jf:tbl l5=some (.code rj):=by kernel_rfl
theorem FT:tbl jq=some (.code oh):=by kernel_rfl
theorem EM:tbl iC=some (.code mI):=by kernel_rfl
theorem HA:tbl kb=some (.code pW):=by kernel_rfl
theorem EN:tbl iD=some (.code mJ):=by kernel_rfl
theorem EL:tbl fc=some (.code mH):=by kernel_rfl
theorem EQ:tbl iG=some (.code mM):=by kernel_rfl
theorem OC:tbl gQ=some (.code wM):=by kernel_rfl
theorem QD:tbl kS=some (.code y5):=by kernel_rfl
theorem HB:tbl kd=some (.code pX):=by kernel_rfl
theorem OG:tbl mw=some (.code wP):=by kernel_rfl
theorem Q9:tbl eU=some (.code zL):=by kernel_rfl
theorem Jn:tbl iN=some (.nat AG):=by kernel_rfl
theorem KB:tbl np=some (.code sP):=by kernel_rfl
theorem Q8:tbl oK=some (.nat uh):=by kernel_rfl
theorem Xu:tbl ye=some (.code Et):=by kernel_rfl
theorem QE:tbl te=some (.code y6):=by kernel_rfl
theorem Ks:tbl jy=some (.code sG):=by kernel_rfl
theorem Jb:tbl lW=some (.code rf):=by kernel_rfl
theorem Qw:tbl s6=some (.code yU):=by kernel_rfl
theorem L4:tbl pj=some (.code uT):=by kernel_rfl
theorem Hz:tbl j9=some (.code pU):=by kernel_rfl
theorem Xl:tbl x6=some (.code Ek):=by kernel_rfl
theorem Ji:tbl iJ=some (.code rq):=by kernel_rfl
theorem Mb:tbl pq=some (.code u4):=by kernel_rfl
theorem QC:tbl td=some (.code yZ):=by kernel_rfl
theorem L8:tbl pp=some (.code uX):=by kernel_rfl
theorem Uw:tbl q7=some (.code BK):=by kernel_rfl
theorem Q6:tbl oJ=some (.code zJ):=by kernel_rfl
theorem Cf:tbl dN=some (.code kz):=by kernel_rfl
theorem AQ:tbl dy=some (.code jK):=by kernel_rfl
theorem T7:tbl ke=some (.code BG):=by kernel_rfl
theorem Cg:tbl ca=some (.code kA):=by kernel_rfl
theorem Q3:tbl tD=some (.code zG):=by kernel_rfl
theorem Qy:tbl s8=some (.code yW):=by kernel_rfl
theorem Jc:tbl lX=some (.code rh):=by kernel_rfl
theorem FL:tbl jp=some (.code nV):=by kernel_rfl
theorem zY:tbl dc=some (.code iZ):=by kernel_rfl
theorem AN:tbl dx=some (.code jH):=by kernel_rfl
theorem Ja:tbl lV=some (.code rb):=by kernel_rfl
theorem Qx:tbl s7=some (.code yV):=by kernel_rfl
theorem xF:tbl cU=some (.code ij):=by kernel_rfl
theorem xG:tbl cV=some (.code ik):=by kernel_rfl
theorem B6:tbl gp=some (.code kh):=by kernel_rfl
theorem L5:tbl pn=some (.code uV):=by kernel_rfl
theorem Kr:tbl nf=some (.code sE):=by kernel_rfl
theorem OA:tbl qP=some (.code wK):=by kernel_rfl
theorem Xh:tbl xX=some (.code Eg):=by kernel_rfl
theorem Kq:tbl na=some (.code sD):=by kernel_rfl
theorem Xi:tbl xY=some (.code Eh):=by kernel_rfl
theorem B9:tbl dL=some (.code km):=by kernel_rfl
theorem Ku:tbl ng=some (.code sI):=by kernel_rfl
theorem Dd:tbl ey=some (.code lO):=by kernel_rfl
theorem B8:tbl gr=some (.code kj):=by kernel_rfl
theorem vp:tbl cf=some (.nat AF):=by kernel_rfl
theorem Ch:tbl dO=some (.nat AD):=by kernel_rfl
theorem OH:tbl qS=some (.code wR):=by kernel_rfl
theorem Kt:tbl gH=some (.code sH):=by kernel_rfl
theorem Qz:tbl oy=some (.code tF):=by kernel_rfl
theorem T0:tbl qW=some (.code Bz):=by kernel_rfl
theorem ON:tbl gT=some (.code wX):=by kernel_rfl
theorem Xm:tbl x7=some (.code El):=by kernel_rfl
theorem zaD:tbl A4=some (.code Hc):=by kernel_rfl
theorem TW:tbl qT=some (.code Bt):=by kernel_rfl
theorem QF:tbl dh=some (.code y7):=by kernel_rfl
theorem QM:tbl kU=some (.code zh):=by kernel_rfl
theorem KA:tbl nk=some (.code sO):=by kernel_rfl
theorem Cb:tbl aS=some (.code kt):=by kernel_rfl
theorem AO:tbl bk=some (.code jI):=by kernel_rfl
theorem rP:tbl b8=some (.code ko):=by kernel_rfl
theorem Ca:tbl cM=some (.code kq):=by kernel_rfl
theorem Df:tbl c9=some (.code lQ):=by kernel_rfl
theorem De:tbl bW=some (.code lP):=by kernel_rfl
theorem OK:tbl my=some (.code wU):=by kernel_rfl
theorem QJ:tbl oA=some (.code zc):=by kernel_rfl
theorem QG:tbl tf=some (.code y8):=by kernel_rfl
theorem Ky:tbl nj=some (.code sM):=by kernel_rfl
theorem OJ:tbl jA=some (.code wT):=by kernel_rfl
theorem Md:tbl io=some (.code u6):=by kernel_rfl
theorem OL:tbl mz=some (.code wV):=by kernel_rfl
theorem Me:tbl fB=some (.code u7):=by kernel_rfl
theorem QI:tbl kT=some (.code za):=by kernel_rfl
theorem QR:tbl tq=some (.code zq):=by kernel_rfl
theorem Jk:tbl iL=some (.code ry):=by kernel_rfl
theorem FW:tbl jt=some (.code om):=by kernel_rfl
theorem rQ:tbl vQ=some (.code By):=by kernel_rfl
theorem Kz:tbl jC=some (.code sN):=by kernel_rfl
theorem QQ:tbl oC=some (.code zp):=by kernel_rfl
theorem FV:tbl fR=some (.code ol):=by kernel_rfl
theorem QP:tbl tp=some (.code zo):=by kernel_rfl
theorem OM:tbl mA=some (.code wW):=by kernel_rfl
theorem T1:tbl vR=some (.code BA):=by kernel_rfl
theorem QO:tbl kV=some (.code zj):=by kernel_rfl
theorem Jl:tbl l8=some (.code rz):=by kernel_rfl
theorem OQ:tbl qZ=some (.code w8):=by kernel_rfl
theorem TZ:tbl qV=some (.code Bw):=by kernel_rfl
theorem QZ:tbl oH=some (.code zA):=by kernel_rfl
theorem Mh:tbl ip=some (.code vd):=by kernel_rfl
theorem Kw:tbl ni=some (.code sK):=by kernel_rfl
theorem FU:tbl jr=some (.code oj):=by kernel_rfl
theorem QY:tbl tx=some (.code zz):=by kernel_rfl
theorem T4:tbl vT=some (.code BD):=by kernel_rfl
theorem T6:tbl vV=some (.code BF):=by kernel_rfl
theorem QX:tbl tw=some (.code zy):=by kernel_rfl
theorem Xt:tbl t7=some (.code Es):=by kernel_rfl
theorem Mc:tbl pu=some (.code u5):=by kernel_rfl
theorem OP:tbl qY=some (.code wZ):=by kernel_rfl
theorem QW:tbl tv=some (.code zx):=by kernel_rfl
theorem OO:tbl qX=some (.code wY):=by kernel_rfl
theorem T5:tbl vU=some (.code BE):=by kernel_rfl
theorem QK:tbl tj=some (.code ze):=by kernel_rfl
theorem T3:tbl nn=some (.code BC):=by kernel_rfl
theorem QS:tbl oD=some (.code zr):=by kernel_rfl
theorem QV:tbl oG=some (.code zw):=by kernel_rfl
theorem TX:tbl vO=some (.code Bu):=by kernel_rfl
theorem Kv:tbl jz=some (.code sJ):=by kernel_rfl
theorem OI:tbl qU=some (.code wS):=by kernel_rfl
theorem QN:tbl tn=some (.code zi):=by kernel_rfl
theorem Mg:tbl px=some (.code vc):=by kernel_rfl
theorem HC:tbl gS=some (.code pY):=by kernel_rfl
theorem Kx:tbl jB=some (.code sL):=by kernel_rfl
theorem QH:tbl ti=some (.code y9):=by kernel_rfl
theorem FX:tbl ju=some (.code oo):=by kernel_rfl
theorem QL:tbl tk=some (.code zg):=by kernel_rfl
theorem Mf:tbl pw=some (.code u9):=by kernel_rfl
theorem Xq:tbl yb=some (.code Ep):=by kernel_rfl
theorem T2:tbl vS=some (.code BB):=by kernel_rfl
theorem QU:tbl tu=some (.code zv):=by kernel_rfl
theorem QT:tbl tt=some (.code zu):=by kernel_rfl
theorem Cc:tbl gu=some (.code ku):=by kernel_rfl
theorem Xo:tbl x9=some (.code En):=by kernel_rfl
theorem Jj:tbl iK=some (.code ru):=by kernel_rfl
theorem Xn:tbl x8=some (.code Em):=by kernel_rfl
theorem TY:tbl vP=some (.code Bv):=by kernel_rfl
theorem Xs:tbl yd=some (.code Er):=by kernel_rfl
theorem Xp:tbl ya=some (.code Eo):=by kernel_rfl
theorem Xr:tbl yc=some (.code zjd):=by kernel_rfl
theorem Q1:tbl tA=some (.code zD):=by kernel_rfl
theorem Mj:tbl pA=some (.code vg):=by kernel_rfl
theorem Q0:tbl tz=some (.code zB):=by kernel_rfl
theorem Mi:tbl py=some (.code vf):=by kernel_rfl
theorem EK:tbl iB=some (.code mG):=by kernel_rfl
theorem Je:tbl lZ=some (.code mc):=by kernel_rfl
theorem C9:tbl g8=some (.code lJ):=by kernel_rfl
theorem ziN:TblOk Tryz.prog tbl:=AllOk.tbl (P:=Tryz.prog) (l:=ziM) ⟨PK,VC,Nk,LK,Nj,Fx,SQ,VB,VA,Nl,PL,CU,Ix,Fy,Iw,Fz,C1,It,Nh,Ax,yQ,Bn,Bo,wH,sA,S7,S8,IC,Qf,N1,LI,LW,LX,Qk,S9,Qi,Qh,CV,Eb,FA,D8,FB,LL,Bf,CW,Ec,FC,D9,FD,Iv,FE,D6,G6,D7,D5,Ea,Ni,PN,G8,Nm,Ql,IU,J0,Qp,VM,PP,JQ,Ir,PF,LG,G5,VD,Iy,LM,PM,LJ,Ta,Qj,Bp,Ay,S6,Bq,Qg,PH,Is,Fw,yJ,Au,Iq,PG,xB,xC,Be,LH,JP,Ng,Vy,JO,Vz,Bh,JS,CX,Bg,G7,vm,BY,Nn,JR,CY,PI,SZ,Nt,VE,YT,SR,PQ,PZ,JZ,Bl,Aw,Bi,Bj,C0,CZ,Nq,PW,PR,JX,Np,LO,Nr,LP,PU,P4,IA,FH,SY,JY,P3,FG,P2,Ns,S0,P1,IB,Nw,SV,Qc,LS,JV,FF,Qb,S3,S5,Qa,VL,LN,Nv,P9,Nu,S4,PX,S2,P5,P8,SS,JU,No,P0,LR,G9,JW,PT,FI,PY,LQ,VI,S1,P7,P6,Bm,VG,Iz,VF,SU,VK,VH,VJ,Qe,LV,Qd,LU,D3,Iu,CS,trivial⟩
end Go.Proofs.YtmfolppncelceaaGreatDoor
