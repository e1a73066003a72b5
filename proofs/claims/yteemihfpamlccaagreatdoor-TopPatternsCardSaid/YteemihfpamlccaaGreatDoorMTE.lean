import Derived.Test.YteemihfpamlccaaGreatDoorMTG5
import Derived.Test.YteemihfpamlccaaGreatDoorML7
import Derived.Test.YteemihfpamlccaaGreatDoorRows
import Derived.Test.YteemihfpamlccaaGreatDoorMBn
set_option linter.unusedVariables false
set_option linter.unusedSimpArgs false
namespace Go.Proofs.YteemihfpamlccaaGreatDoor
open Go Go.Av Go.Ev
theorem FP:XL Tryz.prog iH (.nat xq):=TA Tryz.strconv_Itoa
theorem Fc:Entry Tryz.prog 75 wo:=ce Tryz.func75 (by kernel_rfl)
theorem DI:Entry Tryz.prog 138 uU:=ce Tryz.func138 (by kernel_rfl)
theorem Fb:Entry Tryz.prog 121 wn:=ce Tryz.func121 (by kernel_rfl)
theorem xK:Entry Tryz.prog 77 oR:=ce Tryz.func77 (by kernel_rfl)
theorem JI:Entry Tryz.prog 154 AB:=ce Tryz.func154 (by kernel_rfl)
theorem LA:Entry Tryz.prog 142 CV:=ce Tryz.func142 (by kernel_rfl)
theorem Lz:Entry Tryz.prog 129 CU:=ce Tryz.func129 (by kernel_rfl)
theorem Fe:Entry Tryz.prog 102 wq:=ce Tryz.func102 (by kernel_rfl)
theorem Ha:Entry Tryz.prog 81 yp:=ce Tryz.func81 (by kernel_rfl)
theorem vh:Entry Tryz.prog 80 mc:=ce Tryz.func80 (by kernel_rfl)
theorem Ap:Entry Tryz.prog 79 rG:=ce Tryz.func79 (by kernel_rfl)
theorem xL:Entry Tryz.prog 78 oS:=ce Tryz.func78 (by kernel_rfl)
theorem Ao:Entry Tryz.prog 76 rF:=ce Tryz.func76 (by kernel_rfl)
theorem xM:Entry Tryz.prog 82 oT:=ce Tryz.func82 (by kernel_rfl)
theorem vk:Entry Tryz.prog 53 eY:=ce Tryz.func53 (by kernel_rfl)
theorem Am:Entry Tryz.prog 157 iy:=ce Tryz.func157 (by kernel_rfl)
theorem E9:Entry Tryz.prog 155 lH:=ce Tryz.func155 (by kernel_rfl)
theorem sZ:Entry Tryz.prog 147 d9:=ce Tryz.func147 (by kernel_rfl)
theorem sx:Entry Tryz.prog 148 dP:=ce Tryz.func148 (by kernel_rfl)
theorem tV:Entry Tryz.prog 135 eE:=ce Tryz.func135 (by kernel_rfl)
theorem tX:Entry Tryz.prog 110 eF:=ce Tryz.func110 (by kernel_rfl)
theorem qf:Entry Tryz.prog 52 du:=ce Tryz.func52 (by kernel_rfl)
theorem mC:Entry Tryz.prog 18 cw:=ce Tryz.func18 (by kernel_rfl)
theorem JM:Entry Tryz.prog 117 pB:=ce Tryz.func117 (by kernel_rfl)
theorem JN:Entry Tryz.prog 70 pC:=ce Tryz.func70 (by kernel_rfl)
theorem As:Entry Tryz.prog 55 iz:=ce Tryz.func55 (by kernel_rfl)
theorem Hk:Entry Tryz.prog 20 m7:=ce Tryz.func20 (by kernel_rfl)
theorem DD:Entry Tryz.prog 111 j3:=ce Tryz.func111 (by kernel_rfl)
theorem DN:Entry Tryz.prog 150 j5:=ce Tryz.func150 (by kernel_rfl)
theorem DO:Entry Tryz.prog 137 j6:=ce Tryz.func137 (by kernel_rfl)
theorem Hp:Entry Tryz.prog 112 ng:=ce Tryz.func112 (by kernel_rfl)
theorem JO:Entry Tryz.prog 54 pE:=ce Tryz.func54 (by kernel_rfl)
theorem Hn:Entry Tryz.prog 19 na:=ce Tryz.func19 (by kernel_rfl)
set_option maxRecDepth 8000 in
theorem Hm:EntryD Tryz.prog 5 m9:=⟨⟨Tryz.f5,_,_,_,_,_,_,_,_,_,_,_,Tryz.func5,by kernel_rfl,rfl,by kernel_rfl,by kernel_rfl,⟨⟨Tryz.f17,_,_,_,_,_,_,_,Tryz.func17,by kernel_rfl,by kernel_rfl,rfl,⟨#[],by kernel_rfl⟩,by kernel_rfl⟩⟩,by kernel_rfl,by kernel_rfl⟩,by kernel_rfl⟩
theorem vi:Entry Tryz.prog 84 md:=ce Tryz.func84 (by kernel_rfl)
theorem wc:Entry Tryz.prog 79 nI:=ce Tryz.func79 (by kernel_rfl)
theorem xN:Entry Tryz.prog 83 oU:=ce Tryz.func83 (by kernel_rfl)
theorem vZ:Entry Tryz.prog 76 nF:=ce Tryz.func76 (by kernel_rfl)
theorem xO:Entry Tryz.prog 85 oV:=ce Tryz.func85 (by kernel_rfl)
theorem DJ:Entry Tryz.prog 122 uV:=ce Tryz.func122 (by kernel_rfl)
theorem tU:Entry Tryz.prog 88 lJ:=ce Tryz.func88 (by kernel_rfl)
theorem vj:Entry Tryz.prog 87 me:=ce Tryz.func87 (by kernel_rfl)
theorem wd:Entry Tryz.prog 79 nJ:=ce Tryz.func79 (by kernel_rfl)
theorem xP:Entry Tryz.prog 86 oW:=ce Tryz.func86 (by kernel_rfl)
theorem wa:Entry Tryz.prog 76 nG:=ce Tryz.func76 (by kernel_rfl)
theorem xQ:Entry Tryz.prog 89 oX:=ce Tryz.func89 (by kernel_rfl)
theorem An:Entry Tryz.prog 151 rE:=ce Tryz.func151 (by kernel_rfl)
theorem xR:Entry Tryz.prog 139 oY:=ce Tryz.func139 (by kernel_rfl)
theorem vX:Entry Tryz.prog 140 nD:=ce Tryz.func140 (by kernel_rfl)
theorem y7:Entry Tryz.prog 123 qm:=ce Tryz.func123 (by kernel_rfl)
theorem vY:Entry Tryz.prog 91 nE:=ce Tryz.func91 (by kernel_rfl)
theorem vW:Entry Tryz.prog 90 nC:=ce Tryz.func90 (by kernel_rfl)
theorem wb:Entry Tryz.prog 76 nH:=ce Tryz.func76 (by kernel_rfl)
theorem Fa:Entry Tryz.prog 36 wm:=ce Tryz.func36 (by kernel_rfl)
theorem Hc:Entry Tryz.prog 37 yr:=ce Tryz.func37 (by kernel_rfl)
theorem Aj:Entry Tryz.prog 103 rm:=ce Tryz.func103 (by kernel_rfl)
theorem G5:Entry Tryz.prog 47 ym:=ce Tryz.func47 (by kernel_rfl)
theorem Ds:Entry Tryz.prog 34 uM:=ce Tryz.func34 (by kernel_rfl)
theorem yX:Entry Tryz.prog 74 qh:=ce Tryz.func74 (by kernel_rfl)
theorem LI:Entry Tryz.prog 132 CW:=ce Tryz.func132 (by kernel_rfl)
theorem Aq:Entry Tryz.prog 106 rH:=ce Tryz.func106 (by kernel_rfl)
theorem DK:Entry Tryz.prog 143 uW:=ce Tryz.func143 (by kernel_rfl)
theorem Hb:Entry Tryz.prog 130 yq:=ce Tryz.func130 (by kernel_rfl)
theorem DG:Entry Tryz.prog 104 uT:=ce Tryz.func104 (by kernel_rfl)
theorem JP:Entry Tryz.prog 29 pF:=ce Tryz.func29 (by kernel_rfl)
theorem Ho:Entry Tryz.prog 30 nf:=ce Tryz.func30 (by kernel_rfl)
theorem tZ:Entry Tryz.prog 71 eG:=ce Tryz.func71 (by kernel_rfl)
theorem s3:Entry Tryz.prog 72 eb:=ce Tryz.func72 (by kernel_rfl)
theorem JL:Entry Tryz.prog 73 pA:=ce Tryz.func73 (by kernel_rfl)
theorem t6:Entry Tryz.prog 31 eH:=ce Tryz.func31 (by kernel_rfl)
theorem Hl:Entry Tryz.prog 10 m8:=ce Tryz.func10 (by kernel_rfl)
theorem G7:Entry Tryz.prog 119 yo:=ce Tryz.func119 (by kernel_rfl)
theorem Ak:Entry Tryz.prog 131 rp:=ce Tryz.func131 (by kernel_rfl)
theorem xG:Entry Tryz.prog 105 oN:=ce Tryz.func105 (by kernel_rfl)
theorem su:Entry Tryz.prog 118 jE:=ce Tryz.func118 (by kernel_rfl)
theorem sU:Entry Tryz.prog 120 kC:=ce Tryz.func120 (by kernel_rfl)
theorem Ai:Entry Tryz.prog 107 rk:=ce Tryz.func107 (by kernel_rfl)
theorem G6:Entry Tryz.prog 108 yn:=ce Tryz.func108 (by kernel_rfl)
theorem qW:Entry Tryz.prog 146 jf:=ce Tryz.func146 (by kernel_rfl)
theorem qX:Entry Tryz.prog 144 jg:=ce Tryz.func144 (by kernel_rfl)
theorem tT:Entry Tryz.prog 145 lF:=ce Tryz.func145 (by kernel_rfl)
theorem Dt:Entry Tryz.prog 133 uN:=ce Tryz.func133 (by kernel_rfl)
theorem BQ:Entry Tryz.prog 134 s6:=ce Tryz.func134 (by kernel_rfl)
theorem E3:Entry Tryz.prog 109 wh:=ce Tryz.func109 (by kernel_rfl)
theorem Lx:Entry Tryz.prog 51 CR:=ce Tryz.func51 (by kernel_rfl)
theorem BP:Entry Tryz.prog 35 s5:=ce Tryz.func35 (by kernel_rfl)
theorem Ly:Entry Tryz.prog 14 CS:=ce Tryz.func14 (by kernel_rfl)
theorem sX:Entry Tryz.prog 56 d6:=ce Tryz.func56 (by kernel_rfl)
theorem sv:Entry Tryz.prog 57 dM:=ce Tryz.func57 (by kernel_rfl)
theorem sY:Entry Tryz.prog 21 d7:=ce Tryz.func21 (by kernel_rfl)
theorem LH:Entry Tryz.prog 58 rD:=ce Tryz.func58 (by kernel_rfl)
theorem sw:Entry Tryz.prog 22 dO:=ce Tryz.func22 (by kernel_rfl)
theorem px:Entry Tryz.prog 23 da:=ce Tryz.func23 (by kernel_rfl)
theorem Dz:Entry Tryz.prog 59 jZ:=ce Tryz.func59 (by kernel_rfl)
theorem DC:Entry Tryz.prog 113 j0:=ce Tryz.func113 (by kernel_rfl)
theorem JK:Entry Tryz.prog 60 py:=ce Tryz.func60 (by kernel_rfl)
theorem E8:Entry Tryz.prog 61 lG:=ce Tryz.func61 (by kernel_rfl)
theorem G9:Entry Tryz.prog 24 mX:=ce Tryz.func24 (by kernel_rfl)
theorem LB:Entry Tryz.prog 6 ru:=ce Tryz.func6 (by kernel_rfl)
theorem LC:Entry Tryz.prog 28 ry:=ce Tryz.func28 (by kernel_rfl)
theorem QS:Entry Tryz.prog 9 xk:=ce Tryz.func9 (by kernel_rfl)
theorem JJ:Entry Tryz.prog 153 AD:=ce Tryz.func153 (by kernel_rfl)
theorem LF:Entry Tryz.prog 32 rB:=ce Tryz.func32 (by kernel_rfl)
theorem xJ:Entry Tryz.prog 152 oQ:=ce Tryz.func152 (by kernel_rfl)
theorem NU:Entry Tryz.prog 141 Fy:=ce Tryz.func141 (by kernel_rfl)
theorem yZ:Entry Tryz.prog 124 qj:=ce Tryz.func124 (by kernel_rfl)
theorem E7:Entry Tryz.prog 92 wl:=ce Tryz.func92 (by kernel_rfl)
theorem mB:Entry Tryz.prog 125 fW:=ce Tryz.func125 (by kernel_rfl)
theorem LG:Entry Tryz.prog 33 rC:=ce Tryz.func33 (by kernel_rfl)
theorem LD:Entry Tryz.prog 13 rz:=ce Tryz.func13 (by kernel_rfl)
theorem kP:Entry Tryz.prog 126 fe:=ce Tryz.func126 (by kernel_rfl)
theorem y6:Entry Tryz.prog 93 ql:=ce Tryz.func93 (by kernel_rfl)
theorem BR:Entry Tryz.prog 38 s7:=ce Tryz.func38 (by kernel_rfl)
theorem yY:Entry Tryz.prog 39 qi:=ce Tryz.func39 (by kernel_rfl)
theorem qd:Entry Tryz.prog 127 iN:=ce Tryz.func127 (by kernel_rfl)
theorem y5:Entry Tryz.prog 94 qk:=ce Tryz.func94 (by kernel_rfl)
theorem sV:Entry Tryz.prog 40 kD:=ce Tryz.func40 (by kernel_rfl)
theorem sW:Entry Tryz.prog 95 kE:=ce Tryz.func95 (by kernel_rfl)
theorem vg:Entry Tryz.prog 41 mb:=ce Tryz.func41 (by kernel_rfl)
theorem Al:Entry Tryz.prog 42 rq:=ce Tryz.func42 (by kernel_rfl)
theorem pw:Entry Tryz.prog 96 ix:=ce Tryz.func96 (by kernel_rfl)
theorem nz:Entry Tryz.prog 43 gq:=ce Tryz.func43 (by kernel_rfl)
theorem ny:Entry Tryz.prog 97 gp:=ce Tryz.func97 (by kernel_rfl)
theorem kQ:Entry Tryz.prog 98 ff:=ce Tryz.func98 (by kernel_rfl)
theorem oz:Entry Tryz.prog 44 gM:=ce Tryz.func44 (by kernel_rfl)
theorem E5:Entry Tryz.prog 45 wj:=ce Tryz.func45 (by kernel_rfl)
theorem Du:Entry Tryz.prog 15 uO:=ce Tryz.func15 (by kernel_rfl)
theorem Dy:Entry Tryz.prog 128 uS:=ce Tryz.func128 (by kernel_rfl)
theorem xH:Entry Tryz.prog 99 oO:=ce Tryz.func99 (by kernel_rfl)
theorem E6:Entry Tryz.prog 100 wk:=ce Tryz.func100 (by kernel_rfl)
theorem Dw:Entry Tryz.prog 101 uQ:=ce Tryz.func101 (by kernel_rfl)
theorem Dv:Entry Tryz.prog 46 uP:=ce Tryz.func46 (by kernel_rfl)
theorem LE:Entry Tryz.prog 11 rA:=ce Tryz.func11 (by kernel_rfl)
theorem Dx:Entry Tryz.prog 50 uR:=ce Tryz.func50 (by kernel_rfl)
theorem vV:Entry Tryz.prog 49 nB:=ce Tryz.func49 (by kernel_rfl)
theorem xI:Entry Tryz.prog 48 oP:=ce Tryz.func48 (by kernel_rfl)
theorem E4:Entry Tryz.prog 16 wi:=ce Tryz.func16 (by kernel_rfl)
theorem Hq:Entry Tryz.prog 4 nh:=ce Tryz.func4 (by kernel_rfl)
theorem Ff:Entry Tryz.prog 114 lK:=ce Tryz.func114 (by kernel_rfl)
theorem Hf:Entry Tryz.prog 62 mZ:=ce Tryz.func62 (by kernel_rfl)
theorem He:Entry Tryz.prog 25 mY:=ce Tryz.func25 (by kernel_rfl)
theorem BS:Entry Tryz.prog 66 i6:=ce Tryz.func66 (by kernel_rfl)
theorem qe:Entry Tryz.prog 115 dt:=ce Tryz.func115 (by kernel_rfl)
theorem qY:Entry Tryz.prog 63 dC:=ce Tryz.func63 (by kernel_rfl)
theorem Fi:Entry Tryz.prog 64 lM:=ce Tryz.func64 (by kernel_rfl)
theorem Hi:Entry Tryz.prog 65 m5:=ce Tryz.func65 (by kernel_rfl)
theorem xS:Entry Tryz.prog 65 fQ:=ce Tryz.func65 (by kernel_rfl)
theorem Hj:Entry Tryz.prog 67 m6:=ce Tryz.func67 (by kernel_rfl)
theorem DL:Entry Tryz.prog 26 j4:=ce Tryz.func26 (by kernel_rfl)
theorem Hh:Entry Tryz.prog 116 yt:=ce Tryz.func116 (by kernel_rfl)
theorem Fh:Entry Tryz.prog 68 wt:=ce Tryz.func68 (by kernel_rfl)
theorem Ar:Entry Tryz.prog 69 rI:=ce Tryz.func69 (by kernel_rfl)
theorem Fg:Entry Tryz.prog 27 ws:=ce Tryz.func27 (by kernel_rfl)
theorem Hg:Entry Tryz.prog 7 m4:=ce Tryz.func7 (by kernel_rfl)
theorem G8:Entry Tryz.prog 8 mW:=ce Tryz.func8 (by kernel_rfl)
theorem LJ:Entry Tryz.prog 12 rJ:=ce Tryz.func12 (by kernel_rfl)
theorem Au:Entry Tryz.prog 3 iA:=ce Tryz.func3 (by kernel_rfl)
def XC:List (Nat×Fun'):=[(EE,.code wo),
 (Do,.code uU),
 (ED,.code wn),
 (oG,.code oR),
 (Jn,.code AB),
 (KZ,.code CV),
 (KY,.code CU),
 (EF,.code wq),
 (GV,.code yp),
 (l7,.code mc),
 (zO,.code rG),
 (oH,.code oS),
 (zN,.code rF),
 (oI,.code oT),
 (bo,.code eY),
 (iu,.code iy),
 (iG,.code lH),
 (bc,.code d9),
 (bB,.code dP),
 (dl,.code eE),
 (ca,.code eF),
 (bE,.code du),
 (a8,.code cw),
 (pq,.code pB),
 (lm,.code pC),
 (d5,.code iz),
 (jA,.code m7),
 (iH,.nat xq),
 (fp,.code j3),
 (gI,.code j5),
 (jY,.code j6),
 (eM,.code ng),
 (fw,.code pE),
 (gW,.code na),
 (gV,.dfr m9),
 (l8,.code md),
 (vJ,.code nI),
 (oJ,.code oU),
 (vG,.code nF),
 (oK,.code oV),
 (Dp,.code uV),
 (tG,.code lJ),
 (l9,.code me),
 (vK,.code nJ),
 (oL,.code oW),
 (vH,.code nG),
 (oM,.code oX),
 (zM,.code rE),
 (xE,.code oY),
 (vE,.code nD),
 (yP,.code qm),
 (vF,.code nE),
 (nt,.code nC),
 (vI,.code nH),
 (EC,.code wm),
 (GY,.code yr),
 (zJ,.code rm),
 (GQ,.code ym),
 (Dh,.code uM),
 (yK,.code qh),
 (K0,.code CW),
 (zP,.code rH),
 (Dq,.code uW),
 (GX,.code yq),
 (Dn,.code uT),
 (lu,.code pF),
 (jB,.code nf),
 (dm,.code eG),
 (cV,.code eb),
 (gA,.code pA),
 (cb,.code eH),
 (gU,.code m8),
 (GU,.code yo),
 (zK,.code rp),
 (xA,.code oN),
 (jv,.code jE),
 (ko,.code kC),
 (zI,.code rk),
 (GR,.code yn),
 (qU,.code jf),
 (qV,.code jg),
 (tE,.code lF),
 (Di,.code uN),
 (BE,.code s6),
 (Ey,.code wh),
 (KX,.code CR),
 (BD,.code s5),
 (vD,.code CS),
 (cU,.code d6),
 (cG,.code dM),
 (bN,.code d7),
 (nr,.code rD),
 (dL,.code dO),
 (c9,.code da),
 (gH,.code jZ),
 (jW,.code j0),
 (pp,.code py),
 (lf,.code lG),
 (fI,.code mX),
 (kq,.code ru),
 (kt,.code ry),
 (wW,.code xk),
 (tF,.code AD),
 (ku,.code rB),
 (xD,.code oQ),
 (Nt,.code Fy),
 (yM,.code qj),
 (EB,.code wl),
 (mz,.code fW),
 (nq,.code rC),
 (re,.code rz),
 (kO,.code fe),
 (yO,.code ql),
 (BF,.code s7),
 (yL,.code qi),
 (pZ,.code iN),
 (yN,.code qk),
 (sP,.code kD),
 (sQ,.code kE),
 (vf,.code mb),
 (zL,.code rq),
 (po,.code ix),
 (nn,.code gq),
 (dT,.code gp),
 (dc,.code ff),
 (ou,.code gM),
 (Ez,.code wj),
 (ot,.code uO),
 (Dm,.code uS),
 (xB,.code oO),
 (EA,.code wk),
 (Dk,.code uQ),
 (Dj,.code uP),
 (np,.code rA),
 (Dl,.code uR),
 (nm,.code nB),
 (xC,.code oP),
 (pY,.code wi),
 (fJ,.code nh),
 (lg,.code lK),
 (jy,.code mZ),
 (mS,.code mY),
 (eQ,.code i6),
 (b5,.code dt),
 (bP,.code dC),
 (lh,.code lM),
 (mT,.code m5),
 (fP,.code fQ),
 (mU,.code m6),
 (jX,.code j4),
 (GZ,.code yt),
 (EG,.code wt),
 (zQ,.code rI),
 (p5,.code ws),
 (jz,.code m4),
 (jx,.code mW),
 (rf,.code rJ),
 (iv,.code iA)]
abbrev tbl:Nat->Option Fun':=L5 XC
theorem vo:tbl bo=some (.code eY):=by kernel_rfl
theorem Bc:tbl iu=some (.code iy):=by kernel_rfl
theorem Gt:tbl iG=some (.code lH):=by kernel_rfl
theorem tt:tbl bc=some (.code d9):=by kernel_rfl
theorem sH:tbl bB=some (.code dP):=by kernel_rfl
theorem uq:tbl dl=some (.code eE):=by kernel_rfl
theorem ut:tbl ca=some (.code eF):=by kernel_rfl
theorem qO:tbl bE=some (.code du):=by kernel_rfl
theorem f9:tbl a8=some (.code cw):=by kernel_rfl
theorem Kz:tbl pq=some (.code pB):=by kernel_rfl
theorem KA:tbl lm=some (.code pC):=by kernel_rfl
theorem Bd:tbl d5=some (.code iz):=by kernel_rfl
theorem HM:tbl jA=some (.code m7):=by kernel_rfl
theorem Gw:tbl iH=some (.nat xq):=by kernel_rfl
theorem DY:tbl fp=some (.code j3):=by kernel_rfl
theorem D3:tbl gI=some (.code j5):=by kernel_rfl
theorem D5:tbl jY=some (.code j6):=by kernel_rfl
theorem HR:tbl eM=some (.code ng):=by kernel_rfl
theorem KB:tbl fw=some (.code pE):=by kernel_rfl
theorem HP:tbl gW=some (.code na):=by kernel_rfl
theorem HO:tbl gV=some (.dfr m9):=by kernel_rfl
theorem KD:tbl lu=some (.code pF):=by kernel_rfl
theorem HQ:tbl jB=some (.code nf):=by kernel_rfl
theorem uu:tbl dm=some (.code eG):=by kernel_rfl
theorem tu:tbl cV=some (.code eb):=by kernel_rfl
theorem Ky:tbl gA=some (.code pA):=by kernel_rfl
theorem uv:tbl cb=some (.code eH):=by kernel_rfl
theorem HN:tbl gU=some (.code m8):=by kernel_rfl
theorem tp:tbl cU=some (.code d6):=by kernel_rfl
theorem sF:tbl cG=some (.code dM):=by kernel_rfl
theorem tq:tbl bN=some (.code d7):=by kernel_rfl
theorem M7:tbl nr=some (.code rD):=by kernel_rfl
theorem sG:tbl dL=some (.code dO):=by kernel_rfl
theorem pN:tbl c9=some (.code da):=by kernel_rfl
theorem DW:tbl gH=some (.code jZ):=by kernel_rfl
theorem DX:tbl jW=some (.code j0):=by kernel_rfl
theorem Kx:tbl pp=some (.code py):=by kernel_rfl
theorem Gs:tbl lf=some (.code lG):=by kernel_rfl
theorem HF:tbl fI=some (.code mX):=by kernel_rfl
theorem M1:tbl kq=some (.code ru):=by kernel_rfl
theorem M2:tbl kt=some (.code ry):=by kernel_rfl
theorem R4:tbl wW=some (.code xk):=by kernel_rfl
theorem M5:tbl ku=some (.code rB):=by kernel_rfl
theorem M6:tbl nq=some (.code rC):=by kernel_rfl
theorem M3:tbl re=some (.code rz):=by kernel_rfl
theorem M4:tbl np=some (.code rA):=by kernel_rfl
theorem HS:tbl fJ=some (.code nh):=by kernel_rfl
theorem Gu:tbl lg=some (.code lK):=by kernel_rfl
theorem HH:tbl jy=some (.code mZ):=by kernel_rfl
theorem HG:tbl mS=some (.code mY):=by kernel_rfl
theorem Co:tbl eQ=some (.code i6):=by kernel_rfl
theorem qN:tbl b5=some (.code dt):=by kernel_rfl
theorem q6:tbl bP=some (.code dC):=by kernel_rfl
theorem Gv:tbl lh=some (.code lM):=by kernel_rfl
theorem HJ:tbl mT=some (.code m5):=by kernel_rfl
theorem xU:tbl fP=some (.code fQ):=by kernel_rfl
theorem HK:tbl mU=some (.code m6):=by kernel_rfl
theorem DZ:tbl jX=some (.code j4):=by kernel_rfl
theorem HI:tbl jz=some (.code m4):=by kernel_rfl
theorem HE:tbl jx=some (.code mW):=by kernel_rfl
theorem M8:tbl rf=some (.code rJ):=by kernel_rfl
theorem Be:tbl iv=some (.code iA):=by kernel_rfl
theorem XD:TblOk Tryz.prog tbl:=AllOk.tbl (P:=Tryz.prog) (l:=XC) ⟨Fc,DI,Fb,xK,JI,LA,Lz,Fe,Ha,vh,Ap,xL,Ao,xM,vk,Am,E9,sZ,sx,tV,tX,qf,mC,JM,JN,As,Hk,FP,DD,DN,DO,Hp,JO,Hn,Hm,vi,wc,xN,vZ,xO,DJ,tU,vj,wd,xP,wa,xQ,An,xR,vX,y7,vY,vW,wb,Fa,Hc,Aj,G5,Ds,yX,LI,Aq,DK,Hb,DG,JP,Ho,tZ,s3,JL,t6,Hl,G7,Ak,xG,su,sU,Ai,G6,qW,qX,tT,Dt,BQ,E3,Lx,BP,Ly,sX,sv,sY,LH,sw,px,Dz,DC,JK,E8,G9,LB,LC,QS,JJ,LF,xJ,NU,yZ,E7,mB,LG,LD,kP,y6,BR,yY,qd,y5,sV,sW,vg,Al,pw,nz,ny,kQ,oz,E5,Du,Dy,xH,E6,Dw,Dv,LE,Dx,vV,xI,E4,Hq,Ff,Hf,He,BS,qe,qY,Fi,Hi,xS,Hj,DL,Hh,Fh,Ar,Fg,Hg,G8,LJ,Au,trivial⟩
end Go.Proofs.YteemihfpamlccaaGreatDoor
