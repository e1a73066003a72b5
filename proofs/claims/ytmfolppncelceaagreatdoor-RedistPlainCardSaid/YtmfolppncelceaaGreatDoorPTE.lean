import Derived.Test.YtmfolppncelceaaGreatDoorPTG1
import Derived.Test.YtmfolppncelceaaGreatDoorPL7
import Derived.Test.YtmfolppncelceaaGreatDoorRows
import Derived.Test.YtmfolppncelceaaGreatDoorPBn
import Derived.Test.YtmfolppncelceaaGreatDoorPRibNat
set_option linter.unusedVariables false
set_option linter.unusedSimpArgs false
namespace Go.Proofs.YtmfolppncelceaaGreatDoor
open Go Go.Av Go.Ev
theorem vn:Kc Tryz.prog nA (.nat t6):=HG Tryz.strconv_Itoa
theorem rh:Kc Tryz.prog cI (.nat lW):=pj
theorem wP:Kc Tryz.prog eQ (.nat iI):=tJ
theorem ja:Kc Tryz.prog bb (.nat lV):=gK
theorem mF:Kc Tryz.prog bH (.nat lU):=lE
theorem wD:Entry Tryz.prog 8 g9:=d5 Tryz.func8 (by kernel_rfl)
theorem A4:Entry Tryz.prog 23 s8:=d5 Tryz.func23 (by kernel_rfl)
theorem uI:Entry Tryz.prog 42 nT:=d5 Tryz.func42 (by kernel_rfl)
theorem tC:Entry Tryz.prog 95 mW:=d5 Tryz.func95 (by kernel_rfl)
theorem uH:Entry Tryz.prog 73 nS:=d5 Tryz.func73 (by kernel_rfl)
theorem oX:Entry Tryz.prog 44 jm:=d5 Tryz.func44 (by kernel_rfl)
theorem y6:Entry Tryz.prog 157 jN:=d5 Tryz.func157 (by kernel_rfl)
theorem AZ:Entry Tryz.prog 122 kP:=d5 Tryz.func122 (by kernel_rfl)
theorem AY:Entry Tryz.prog 96 kO:=d5 Tryz.func96 (by kernel_rfl)
theorem uJ:Entry Tryz.prog 74 fQ:=d5 Tryz.func74 (by kernel_rfl)
theorem m6:Entry Tryz.prog 47 gy:=d5 Tryz.func47 (by kernel_rfl)
theorem qS:Entry Tryz.prog 46 kR:=d5 Tryz.func46 (by kernel_rfl)
theorem oY:Entry Tryz.prog 45 jo:=d5 Tryz.func45 (by kernel_rfl)
theorem qR:Entry Tryz.prog 43 kQ:=d5 Tryz.func43 (by kernel_rfl)
theorem oZ:Entry Tryz.prog 49 jp:=d5 Tryz.func49 (by kernel_rfl)
theorem m7:Entry Tryz.prog 51 gz:=d5 Tryz.func51 (by kernel_rfl)
theorem nN:Entry Tryz.prog 46 iA:=d5 Tryz.func46 (by kernel_rfl)
theorem o7:Entry Tryz.prog 50 jq:=d5 Tryz.func50 (by kernel_rfl)
theorem nK:Entry Tryz.prog 43 ix:=d5 Tryz.func43 (by kernel_rfl)
theorem o8:Entry Tryz.prog 53 jr:=d5 Tryz.func53 (by kernel_rfl)
theorem tD:Entry Tryz.prog 78 mX:=d5 Tryz.func78 (by kernel_rfl)
theorem mq:Entry Tryz.prog 56 fP:=d5 Tryz.func56 (by kernel_rfl)
theorem m8:Entry Tryz.prog 55 gA:=d5 Tryz.func55 (by kernel_rfl)
theorem nO:Entry Tryz.prog 46 iB:=d5 Tryz.func46 (by kernel_rfl)
theorem o9:Entry Tryz.prog 54 jt:=d5 Tryz.func54 (by kernel_rfl)
theorem nL:Entry Tryz.prog 43 iy:=d5 Tryz.func43 (by kernel_rfl)
theorem pc:Entry Tryz.prog 57 ju:=d5 Tryz.func57 (by kernel_rfl)
theorem nJ:Entry Tryz.prog 58 iw:=d5 Tryz.func58 (by kernel_rfl)
theorem nM:Entry Tryz.prog 43 iz:=d5 Tryz.func43 (by kernel_rfl)
theorem uG:Entry Tryz.prog 24 nR:=d5 Tryz.func24 (by kernel_rfl)
theorem wE:Entry Tryz.prog 60 hH:=d5 Tryz.func60 (by kernel_rfl)
theorem p6:Entry Tryz.prog 25 dD:=d5 Tryz.func25 (by kernel_rfl)
theorem uK:Entry Tryz.prog 10 fR:=d5 Tryz.func10 (by kernel_rfl)
theorem wN:Entry Tryz.prog 145 ig:=d5 Tryz.func145 (by kernel_rfl)
theorem r8:Entry Tryz.prog 114 eD:=d5 Tryz.func114 (by kernel_rfl)
theorem A7:Entry Tryz.prog 88 kV:=d5 Tryz.func88 (by kernel_rfl)
theorem wF:Entry Tryz.prog 68 hM:=d5 Tryz.func68 (by kernel_rfl)
theorem rZ:Entry Tryz.prog 13 eA:=d5 Tryz.func13 (by kernel_rfl)
theorem mu:Entry Tryz.prog 66 cj:=d5 Tryz.func66 (by kernel_rfl)
theorem r6:Entry Tryz.prog 32 eC:=d5 Tryz.func32 (by kernel_rfl)
theorem m9:Entry Tryz.prog 33 cC:=d5 Tryz.func33 (by kernel_rfl)
theorem mr:Entry Tryz.prog 34 ci:=d5 Tryz.func34 (by kernel_rfl)
theorem p5:Entry Tryz.prog 15 dC:=d5 Tryz.func15 (by kernel_rfl)
theorem uL:Entry Tryz.prog 37 fS:=d5 Tryz.func37 (by kernel_rfl)
theorem r5:Entry Tryz.prog 18 eB:=d5 Tryz.func18 (by kernel_rfl)
theorem na:Entry Tryz.prog 17 cD:=d5 Tryz.func17 (by kernel_rfl)
theorem wC:Entry Tryz.prog 9 g8:=d5 Tryz.func9 (by kernel_rfl)
theorem y9:Entry Tryz.prog 83 qZ:=d5 Tryz.func83 (by kernel_rfl)
theorem uM:Entry Tryz.prog 64 nU:=d5 Tryz.func64 (by kernel_rfl)
theorem A5:Entry Tryz.prog 162 kS:=d5 Tryz.func162 (by kernel_rfl)
theorem C2:Entry Tryz.prog 163 my:=d5 Tryz.func163 (by kernel_rfl)
theorem y7:Entry Tryz.prog 128 jO:=d5 Tryz.func128 (by kernel_rfl)
theorem wG:Entry Tryz.prog 103 hN:=d5 Tryz.func103 (by kernel_rfl)
theorem r7:Entry Tryz.prog 61 lT:=d5 Tryz.func61 (by kernel_rfl)
theorem wI:Entry Tryz.prog 62 pM:=d5 Tryz.func62 (by kernel_rfl)
theorem qT:Entry Tryz.prog 82 kT:=d5 Tryz.func82 (by kernel_rfl)
theorem pd:Entry Tryz.prog 63 jv:=d5 Tryz.func63 (by kernel_rfl)
theorem wH:Entry Tryz.prog 26 pL:=d5 Tryz.func26 (by kernel_rfl)
theorem qU:Entry Tryz.prog 27 dZ:=d5 Tryz.func27 (by kernel_rfl)
theorem uP:Entry Tryz.prog 28 fV:=d5 Tryz.func28 (by kernel_rfl)
theorem y8:Entry Tryz.prog 29 jP:=d5 Tryz.func29 (by kernel_rfl)
theorem wM:Entry Tryz.prog 11 ic:=d5 Tryz.func11 (by kernel_rfl)
theorem wL:Entry Tryz.prog 120 hZ:=d5 Tryz.func120 (by kernel_rfl)
theorem za:Entry Tryz.prog 156 jQ:=d5 Tryz.func156 (by kernel_rfl)
theorem ze:Entry Tryz.prog 121 jS:=d5 Tryz.func121 (by kernel_rfl)
theorem wK:Entry Tryz.prog 92 hU:=d5 Tryz.func92 (by kernel_rfl)
theorem A6:Entry Tryz.prog 93 kU:=d5 Tryz.func93 (by kernel_rfl)
theorem tE:Entry Tryz.prog 41 fe:=d5 Tryz.func41 (by kernel_rfl)
theorem uO:Entry Tryz.prog 94 fU:=d5 Tryz.func94 (by kernel_rfl)
theorem wJ:Entry Tryz.prog 72 hR:=d5 Tryz.func72 (by kernel_rfl)
theorem uN:Entry Tryz.prog 40 fT:=d5 Tryz.func40 (by kernel_rfl)
theorem zc:Entry Tryz.prog 21 jR:=d5 Tryz.func21 (by kernel_rfl)
theorem oW:Entry Tryz.prog 6 cW:=d5 Tryz.func6 (by kernel_rfl)
def LU:List (Nat×Fun'):=[(gS,.code g9),
 (io,.code s8),
 (uo,.code nT),
 (tw,.code mW),
 (um,.code nS),
 (je,.code jm),
 (jG,.code jN),
 (kJ,.code kP),
 (kI,.code kO),
 (d7,.code fQ),
 (gu,.code gy),
 (qE,.code kR),
 (jf,.code jo),
 (qD,.code kQ),
 (jg,.code jp),
 (nA,.nat t6),
 (gv,.code gz),
 (ny,.code iA),
 (jh,.code jq),
 (nv,.code ix),
 (ji,.code jr),
 (tx,.code mX),
 (l9,.code fP),
 (gw,.code gA),
 (nz,.code iB),
 (jk,.code jt),
 (nw,.code iy),
 (jl,.code ju),
 (ip,.code iw),
 (nx,.code iz),
 (fF,.code nR),
 (eO,.code hH),
 (dy,.code dD),
 (fG,.code fR),
 (bY,.code ig),
 (cI,.nat lW),
 (ew,.code eD),
 (eQ,.nat iI),
 (kM,.code kV),
 (gT,.code hM),
 (cY,.code eA),
 (bG,.code cj),
 (cZ,.code eC),
 (bp,.code cC),
 (bF,.code ci),
 (bS,.code dC),
 (bb,.nat lV),
 (bH,.nat lU),
 (fH,.code fS),
 (cr,.code eB),
 (bq,.code cD),
 (eN,.code g8),
 (yN,.code qZ),
 (uq,.code nU),
 (kL,.code kS),
 (mb,.code my),
 (jH,.code jO),
 (eP,.code hN),
 (rR,.code lT),
 (wz,.code pM),
 (qF,.code kT),
 (oV,.code jv),
 (gU,.code pL),
 (dX,.code dZ),
 (fK,.code fV),
 (jI,.code jP),
 (gY,.code ic),
 (gX,.code hZ),
 (jJ,.code jQ),
 (jL,.code jS),
 (gW,.code hU),
 (iq,.code kU),
 (fb,.code fe),
 (fJ,.code fU),
 (gV,.code hR),
 (fI,.code fT),
 (jK,.code jR),
 (cV,.code cW)]
abbrev tbl:Nat->Option Fun':=xZ LU
theorem xc:tbl gS=some (.code g9):=by kernel_rfl
theorem zZ:tbl jG=some (.code jN):=by kernel_rfl
theorem Ce:tbl kJ=some (.code kP):=by kernel_rfl
theorem Cd:tbl kI=some (.code kO):=by kernel_rfl
theorem vS:tbl d7=some (.code fQ):=by kernel_rfl
theorem xd:tbl eO=some (.code hH):=by kernel_rfl
theorem qo:tbl dy=some (.code dD):=by kernel_rfl
theorem vT:tbl fG=some (.code fR):=by kernel_rfl
theorem xm:tbl bY=some (.code ig):=by kernel_rfl
theorem rD:tbl cI=some (.nat lW):=by kernel_rfl
theorem sK:tbl ew=some (.code eD):=by kernel_rfl
theorem xl:tbl eQ=some (.nat iI):=by kernel_rfl
theorem Ch:tbl kM=some (.code kV):=by kernel_rfl
theorem xe:tbl gT=some (.code hM):=by kernel_rfl
theorem sH:tbl cY=some (.code eA):=by kernel_rfl
theorem mM:tbl bG=some (.code cj):=by kernel_rfl
theorem sJ:tbl cZ=some (.code eC):=by kernel_rfl
theorem nf:tbl bp=some (.code cC):=by kernel_rfl
theorem mL:tbl bF=some (.code ci):=by kernel_rfl
theorem qn:tbl bS=some (.code dC):=by kernel_rfl
theorem jc:tbl bb=some (.nat lV):=by kernel_rfl
theorem mN:tbl bH=some (.nat lU):=by kernel_rfl
theorem vU:tbl fH=some (.code fS):=by kernel_rfl
theorem sI:tbl cr=some (.code eB):=by kernel_rfl
theorem ng:tbl bq=some (.code cD):=by kernel_rfl
theorem w9:tbl eN=some (.code g8):=by kernel_rfl
theorem Cf:tbl kL=some (.code kS):=by kernel_rfl
theorem D6:tbl mb=some (.code my):=by kernel_rfl
theorem z6:tbl jH=some (.code jO):=by kernel_rfl
theorem xf:tbl eP=some (.code hN):=by kernel_rfl
theorem rC:tbl dX=some (.code dZ):=by kernel_rfl
theorem vX:tbl fK=some (.code fV):=by kernel_rfl
theorem z7:tbl jI=some (.code jP):=by kernel_rfl
theorem xk:tbl gY=some (.code ic):=by kernel_rfl
theorem xj:tbl gX=some (.code hZ):=by kernel_rfl
theorem z8:tbl jJ=some (.code jQ):=by kernel_rfl
theorem Ab:tbl jL=some (.code jS):=by kernel_rfl
theorem xi:tbl gW=some (.code hU):=by kernel_rfl
theorem Cg:tbl iq=some (.code kU):=by kernel_rfl
theorem tO:tbl fb=some (.code fe):=by kernel_rfl
theorem vW:tbl fJ=some (.code fU):=by kernel_rfl
theorem xg:tbl gV=some (.code hR):=by kernel_rfl
theorem vV:tbl fI=some (.code fT):=by kernel_rfl
theorem Aa:tbl jK=some (.code jR):=by kernel_rfl
theorem pn:tbl cV=some (.code cW):=by kernel_rfl
theorem LV:TblOk Tryz.prog tbl:=AllOk.tbl (P:=Tryz.prog) (l:=LU) ⟨wD,A4,uI,tC,uH,oX,y6,AZ,AY,uJ,m6,qS,oY,qR,oZ,vn,m7,nN,o7,nK,o8,tD,mq,m8,nO,o9,nL,pc,nJ,nM,uG,wE,p6,uK,wN,rh,r8,wP,A7,wF,rZ,mu,r6,m9,mr,p5,ja,mF,uL,r5,na,wC,y9,uM,A5,C2,y7,wG,r7,wI,qT,pd,wH,qU,uP,y8,wM,wL,za,ze,wK,A6,tE,uO,wJ,uN,zc,oW,trivial⟩
end Go.Proofs.YtmfolppncelceaaGreatDoor
