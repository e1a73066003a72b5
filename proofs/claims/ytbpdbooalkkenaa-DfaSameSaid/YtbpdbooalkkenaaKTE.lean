/-
  THE LOADED FUNCTIONS ARE AS THEIR TYPED CODE SAYS: checked by the kernel, printed by program.
-/
import Derived.Test.YtbpdbooalkkenaaKTG3
import Derived.Test.YtbpdbooalkkenaaKL8
import Derived.Test.YtbpdbooalkkenaaRows
set_option linter.unusedVariables false
set_option linter.unusedSimpArgs false
namespace Go.Proofs.Ytbpdbooalkkenaa
open Go Go.Av Go.Ev
theorem DK:Entry Try.prog 12 oa:=⟨⟨Try.f12,Try.func12,by kernel_rfl,by kernel_rfl,by kernel_rfl⟩,by kernel_rfl⟩
theorem zx:Entry Try.prog 13 kW:=⟨⟨Try.f13,Try.func13,by kernel_rfl,by kernel_rfl,by kernel_rfl⟩,by kernel_rfl⟩
theorem zq:Entry Try.prog 36 sN:=⟨⟨Try.f36,Try.func36,by kernel_rfl,by kernel_rfl,by kernel_rfl⟩,by kernel_rfl⟩
theorem Cd:Entry Try.prog 79 mL:=⟨⟨Try.f79,Try.func79,by kernel_rfl,by kernel_rfl,by kernel_rfl⟩,by kernel_rfl⟩
theorem Ce:Entry Try.prog 74 mM:=⟨⟨Try.f74,Try.func74,by kernel_rfl,by kernel_rfl,by kernel_rfl⟩,by kernel_rfl⟩
theorem t9:Entry Try.prog 60 gh:=⟨⟨Try.f60,Try.func60,by kernel_rfl,by kernel_rfl,by kernel_rfl⟩,by kernel_rfl⟩
theorem zG:Entry Try.prog 37 lg:=⟨⟨Try.f37,Try.func37,by kernel_rfl,by kernel_rfl,by kernel_rfl⟩,by kernel_rfl⟩
theorem pk:Entry Try.prog 61 dz:=⟨⟨Try.f61,Try.func61,by kernel_rfl,by kernel_rfl,by kernel_rfl⟩,by kernel_rfl⟩
theorem oP:Entry Try.prog 62 dh:=⟨⟨Try.f62,Try.func62,by kernel_rfl,by kernel_rfl,by kernel_rfl⟩,by kernel_rfl⟩
theorem pm:Entry Try.prog 38 dA:=⟨⟨Try.f38,Try.func38,by kernel_rfl,by kernel_rfl,by kernel_rfl⟩,by kernel_rfl⟩
theorem DT:Entry Try.prog 63 oh:=⟨⟨Try.f63,Try.func63,by kernel_rfl,by kernel_rfl,by kernel_rfl⟩,by kernel_rfl⟩
theorem oQ:Entry Try.prog 39 di:=⟨⟨Try.f39,Try.func39,by kernel_rfl,by kernel_rfl,by kernel_rfl⟩,by kernel_rfl⟩
theorem mH:Entry Try.prog 40 cJ:=⟨⟨Try.f40,Try.func40,by kernel_rfl,by kernel_rfl,by kernel_rfl⟩,by kernel_rfl⟩
theorem ww:Entry Try.prog 64 iT:=⟨⟨Try.f64,Try.func64,by kernel_rfl,by kernel_rfl,by kernel_rfl⟩,by kernel_rfl⟩
theorem wx:Entry Try.prog 78 iU:=⟨⟨Try.f78,Try.func78,by kernel_rfl,by kernel_rfl,by kernel_rfl⟩,by kernel_rfl⟩
theorem Ca:Entry Try.prog 65 mI:=⟨⟨Try.f65,Try.func65,by kernel_rfl,by kernel_rfl,by kernel_rfl⟩,by kernel_rfl⟩
theorem xw:Entry Try.prog 66 jE:=⟨⟨Try.f66,Try.func66,by kernel_rfl,by kernel_rfl,by kernel_rfl⟩,by kernel_rfl⟩
theorem zj:Entry Try.prog 41 kP:=⟨⟨Try.f41,Try.func41,by kernel_rfl,by kernel_rfl,by kernel_rfl⟩,by kernel_rfl⟩
theorem DJ:Entry Try.prog 16 nZ:=⟨⟨Try.f16,Try.func16,by kernel_rfl,by kernel_rfl,by kernel_rfl⟩,by kernel_rfl⟩
theorem r4:Entry Try.prog 48 mw:=⟨⟨Try.f48,Try.func48,by kernel_rfl,by kernel_rfl,by kernel_rfl⟩,by kernel_rfl⟩
theorem DO:Entry Try.prog 45 oe:=⟨⟨Try.f45,Try.func45,by kernel_rfl,by kernel_rfl,by kernel_rfl⟩,by kernel_rfl⟩
theorem r5:Entry Try.prog 47 my:=⟨⟨Try.f47,Try.func47,by kernel_rfl,by kernel_rfl,by kernel_rfl⟩,by kernel_rfl⟩
theorem zi:Entry Try.prog 22 sM:=⟨⟨Try.f22,Try.func22,by kernel_rfl,by kernel_rfl,by kernel_rfl⟩,by kernel_rfl⟩
theorem IC:Entry Try.prog 26 AR:=⟨⟨Try.f26,Try.func26,by kernel_rfl,by kernel_rfl,by kernel_rfl⟩,by kernel_rfl⟩
theorem B9:Entry Try.prog 50 ud:=⟨⟨Try.f50,Try.func50,by kernel_rfl,by kernel_rfl,by kernel_rfl⟩,by kernel_rfl⟩
theorem pV:Entry Try.prog 47 jD:=⟨⟨Try.f47,Try.func47,by kernel_rfl,by kernel_rfl,by kernel_rfl⟩,by kernel_rfl⟩
theorem FU:Entry Try.prog 28 xL:=⟨⟨Try.f28,Try.func28,by kernel_rfl,by kernel_rfl,by kernel_rfl⟩,by kernel_rfl⟩
theorem zB:Entry Try.prog 44 lb:=⟨⟨Try.f44,Try.func44,by kernel_rfl,by kernel_rfl,by kernel_rfl⟩,by kernel_rfl⟩
theorem zy:Entry Try.prog 18 kX:=⟨⟨Try.f18,Try.func18,by kernel_rfl,by kernel_rfl,by kernel_rfl⟩,by kernel_rfl⟩
theorem DR:Entry Try.prog 51 wa:=⟨⟨Try.f51,Try.func51,by kernel_rfl,by kernel_rfl,by kernel_rfl⟩,by kernel_rfl⟩
theorem DL:Entry Try.prog 30 vZ:=⟨⟨Try.f30,Try.func30,by kernel_rfl,by kernel_rfl,by kernel_rfl⟩,by kernel_rfl⟩
theorem DN:Entry Try.prog 20 od:=⟨⟨Try.f20,Try.func20,by kernel_rfl,by kernel_rfl,by kernel_rfl⟩,by kernel_rfl⟩
theorem FV:Entry Try.prog 24 xM:=⟨⟨Try.f24,Try.func24,by kernel_rfl,by kernel_rfl,by kernel_rfl⟩,by kernel_rfl⟩
theorem zp:Entry Try.prog 14 kR:=⟨⟨Try.f14,Try.func14,by kernel_rfl,by kernel_rfl,by kernel_rfl⟩,by kernel_rfl⟩
theorem Cb:Entry Try.prog 15 mJ:=⟨⟨Try.f15,Try.func15,by kernel_rfl,by kernel_rfl,by kernel_rfl⟩,by kernel_rfl⟩
theorem xx:Entry Try.prog 72 jF:=⟨⟨Try.f72,Try.func72,by kernel_rfl,by kernel_rfl,by kernel_rfl⟩,by kernel_rfl⟩
theorem zv:Entry Try.prog 67 kU:=⟨⟨Try.f67,Try.func67,by kernel_rfl,by kernel_rfl,by kernel_rfl⟩,by kernel_rfl⟩
theorem zr:Entry Try.prog 42 kS:=⟨⟨Try.f42,Try.func42,by kernel_rfl,by kernel_rfl,by kernel_rfl⟩,by kernel_rfl⟩
theorem u5:Entry Try.prog 55 gL:=⟨⟨Try.f55,Try.func55,by kernel_rfl,by kernel_rfl,by kernel_rfl⟩,by kernel_rfl⟩
theorem nq:Entry Try.prog 73 cP:=⟨⟨Try.f73,Try.func73,by kernel_rfl,by kernel_rfl,by kernel_rfl⟩,by kernel_rfl⟩
theorem nP:Entry Try.prog 56 cX:=⟨⟨Try.f56,Try.func56,by kernel_rfl,by kernel_rfl,by kernel_rfl⟩,by kernel_rfl⟩
theorem xA:Entry Try.prog 68 jI:=⟨⟨Try.f68,Try.func68,by kernel_rfl,by kernel_rfl,by kernel_rfl⟩,by kernel_rfl⟩
theorem zE:Entry Try.prog 69 lc:=⟨⟨Try.f69,Try.func69,by kernel_rfl,by kernel_rfl,by kernel_rfl⟩,by kernel_rfl⟩
theorem r6:Entry Try.prog 69 eY:=⟨⟨Try.f69,Try.func69,by kernel_rfl,by kernel_rfl,by kernel_rfl⟩,by kernel_rfl⟩
theorem zF:Entry Try.prog 70 lf:=⟨⟨Try.f70,Try.func70,by kernel_rfl,by kernel_rfl,by kernel_rfl⟩,by kernel_rfl⟩
theorem wA:Entry Try.prog 43 iX:=⟨⟨Try.f43,Try.func43,by kernel_rfl,by kernel_rfl,by kernel_rfl⟩,by kernel_rfl⟩
theorem zz:Entry Try.prog 71 kY:=⟨⟨Try.f71,Try.func71,by kernel_rfl,by kernel_rfl,by kernel_rfl⟩,by kernel_rfl⟩
theorem xz:Entry Try.prog 52 jH:=⟨⟨Try.f52,Try.func52,by kernel_rfl,by kernel_rfl,by kernel_rfl⟩,by kernel_rfl⟩
theorem t7:Entry Try.prog 53 gg:=⟨⟨Try.f53,Try.func53,by kernel_rfl,by kernel_rfl,by kernel_rfl⟩,by kernel_rfl⟩
theorem xy:Entry Try.prog 33 jG:=⟨⟨Try.f33,Try.func33,by kernel_rfl,by kernel_rfl,by kernel_rfl⟩,by kernel_rfl⟩
theorem zw:Entry Try.prog 17 kV:=⟨⟨Try.f17,Try.func17,by kernel_rfl,by kernel_rfl,by kernel_rfl⟩,by kernel_rfl⟩
theorem u4:Entry Try.prog 4 gK:=⟨⟨Try.f4,Try.func4,by kernel_rfl,by kernel_rfl,by kernel_rfl⟩,by kernel_rfl⟩
theorem zo:Entry Try.prog 19 kQ:=⟨⟨Try.f19,Try.func19,by kernel_rfl,by kernel_rfl,by kernel_rfl⟩,by kernel_rfl⟩
theorem zA:Entry Try.prog 46 kZ:=⟨⟨Try.f46,Try.func46,by kernel_rfl,by kernel_rfl,by kernel_rfl⟩,by kernel_rfl⟩
theorem zh:Entry Try.prog 31 kO:=⟨⟨Try.f31,Try.func31,by kernel_rfl,by kernel_rfl,by kernel_rfl⟩,by kernel_rfl⟩
theorem wz:Entry Try.prog 32 iW:=⟨⟨Try.f32,Try.func32,by kernel_rfl,by kernel_rfl,by kernel_rfl⟩,by kernel_rfl⟩
theorem s5:Entry Try.prog 54 fz:=⟨⟨Try.f54,Try.func54,by kernel_rfl,by kernel_rfl,by kernel_rfl⟩,by kernel_rfl⟩
theorem zu:Entry Try.prog 34 kT:=⟨⟨Try.f34,Try.func34,by kernel_rfl,by kernel_rfl,by kernel_rfl⟩,by kernel_rfl⟩
theorem Cf:Entry Try.prog 57 mN:=⟨⟨Try.f57,Try.func57,by kernel_rfl,by kernel_rfl,by kernel_rfl⟩,by kernel_rfl⟩
theorem zI:Entry Try.prog 58 lm:=⟨⟨Try.f58,Try.func58,by kernel_rfl,by kernel_rfl,by kernel_rfl⟩,by kernel_rfl⟩
theorem pW:Entry Try.prog 75 dL:=⟨⟨Try.f75,Try.func75,by kernel_rfl,by kernel_rfl,by kernel_rfl⟩,by kernel_rfl⟩
theorem pn:Entry Try.prog 76 dB:=⟨⟨Try.f76,Try.func76,by kernel_rfl,by kernel_rfl,by kernel_rfl⟩,by kernel_rfl⟩
theorem Cc:Entry Try.prog 77 mK:=⟨⟨Try.f77,Try.func77,by kernel_rfl,by kernel_rfl,by kernel_rfl⟩,by kernel_rfl⟩
theorem pX:Entry Try.prog 59 dM:=⟨⟨Try.f59,Try.func59,by kernel_rfl,by kernel_rfl,by kernel_rfl⟩,by kernel_rfl⟩
theorem zH:Entry Try.prog 35 lh:=⟨⟨Try.f35,Try.func35,by kernel_rfl,by kernel_rfl,by kernel_rfl⟩,by kernel_rfl⟩
theorem wy:Entry Try.prog 11 iV:=⟨⟨Try.f11,Try.func11,by kernel_rfl,by kernel_rfl,by kernel_rfl⟩,by kernel_rfl⟩
def Ol:List (Nat×Fun'):=[(eE,.code oa),
 (ig,.code kW),
 (kC,.code sN),
 (mD,.code mL),
 (jx,.code mM),
 (dy,.code gh),
 (kJ,.code lg),
 (cz,.code dz),
 (co,.code dh),
 (bA,.code dA),
 (lz,.code oh),
 (df,.code di),
 (cH,.code cJ),
 (fF,.code iT),
 (iR,.code iU),
 (mC,.code mI),
 (jt,.code jE),
 (eQ,.code kP),
 (cU,.code nZ),
 (gX,.code mw),
 (je,.code oe),
 (rZ,.code my),
 (oN,.code sM),
 (pg,.code AR),
 (pK,.code ud),
 (pL,.code jD),
 (sX,.code xL),
 (ii,.code lb),
 (dS,.code kX),
 (Dc,.code wa),
 (qL,.code vZ),
 (dn,.code od),
 (ng,.code xM),
 (dR,.code kR),
 (gI,.code mJ),
 (gq,.code jF),
 (hZ,.code kU),
 (kD,.code kS),
 (c8,.code gL),
 (bM,.code cP),
 (bn,.code cX),
 (jv,.code jI),
 (kH,.code lc),
 (eX,.code eY),
 (kI,.code lf),
 (iS,.code iX),
 (kF,.code kY),
 (ju,.code jH),
 (f9,.code gg),
 (d5,.code jG),
 (ic,.code kV),
 (kb,.code gK),
 (kB,.code kQ),
 (kG,.code kZ),
 (kA,.code kO),
 (md,.code iW),
 (d4,.code fz),
 (kE,.code kT),
 (jy,.code mN),
 (ij,.code lm),
 (cN,.code dL),
 (cA,.code dB),
 (fw,.code mK),
 (bS,.code dM),
 (kK,.code lh),
 (mc,.code iV)]
abbrev tbl:Nat->Option Fun':=Eg Ol
theorem Fe:tbl eE=some (.code oa):=by kernel_rfl
theorem z6:tbl ig=some (.code kW):=by kernel_rfl
theorem CY:tbl mD=some (.code mL):=by kernel_rfl
theorem CZ:tbl jx=some (.code mM):=by kernel_rfl
theorem uK:tbl dy=some (.code gh):=by kernel_rfl
theorem Ad:tbl kJ=some (.code lg):=by kernel_rfl
theorem pA:tbl cz=some (.code dz):=by kernel_rfl
theorem oW:tbl co=some (.code dh):=by kernel_rfl
theorem pB:tbl bA=some (.code dA):=by kernel_rfl
theorem Fh:tbl lz=some (.code oh):=by kernel_rfl
theorem oX:tbl df=some (.code di):=by kernel_rfl
theorem mU:tbl cH=some (.code cJ):=by kernel_rfl
theorem wF:tbl fF=some (.code iT):=by kernel_rfl
theorem wG:tbl iR=some (.code iU):=by kernel_rfl
theorem CV:tbl mC=some (.code mI):=by kernel_rfl
theorem yG:tbl jt=some (.code jE):=by kernel_rfl
theorem zW:tbl eQ=some (.code kP):=by kernel_rfl
theorem wl:tbl cU=some (.code nZ):=by kernel_rfl
theorem Fg:tbl je=some (.code oe):=by kernel_rfl
theorem Aa:tbl ii=some (.code lb):=by kernel_rfl
theorem z7:tbl dS=some (.code kX):=by kernel_rfl
theorem Ff:tbl dn=some (.code od):=by kernel_rfl
theorem zZ:tbl dR=some (.code kR):=by kernel_rfl
theorem CW:tbl gI=some (.code mJ):=by kernel_rfl
theorem yH:tbl gq=some (.code jF):=by kernel_rfl
theorem z5:tbl hZ=some (.code kU):=by kernel_rfl
theorem z3:tbl kD=some (.code kS):=by kernel_rfl
theorem vK:tbl c8=some (.code gL):=by kernel_rfl
theorem nK:tbl bM=some (.code cP):=by kernel_rfl
theorem nR:tbl bn=some (.code cX):=by kernel_rfl
theorem yK:tbl jv=some (.code jI):=by kernel_rfl
theorem Ab:tbl kH=some (.code lc):=by kernel_rfl
theorem sa:tbl eX=some (.code eY):=by kernel_rfl
theorem Ac:tbl kI=some (.code lf):=by kernel_rfl
theorem wI:tbl iS=some (.code iX):=by kernel_rfl
theorem z8:tbl kF=some (.code kY):=by kernel_rfl
theorem yJ:tbl ju=some (.code jH):=by kernel_rfl
theorem uJ:tbl f9=some (.code gg):=by kernel_rfl
theorem yI:tbl d5=some (.code jG):=by kernel_rfl
theorem sQ:tbl ic=some (.code kV):=by kernel_rfl
theorem vJ:tbl kb=some (.code gK):=by kernel_rfl
theorem zY:tbl kB=some (.code kQ):=by kernel_rfl
theorem z9:tbl kG=some (.code kZ):=by kernel_rfl
theorem sP:tbl kA=some (.code kO):=by kernel_rfl
theorem qv:tbl md=some (.code iW):=by kernel_rfl
theorem tu:tbl d4=some (.code fz):=by kernel_rfl
theorem z4:tbl kE=some (.code kT):=by kernel_rfl
theorem C1:tbl jy=some (.code mN):=by kernel_rfl
theorem Af:tbl ij=some (.code lm):=by kernel_rfl
theorem qg:tbl cN=some (.code dL):=by kernel_rfl
theorem pC:tbl cA=some (.code dB):=by kernel_rfl
theorem CX:tbl fw=some (.code mK):=by kernel_rfl
theorem qh:tbl bS=some (.code dM):=by kernel_rfl
theorem Ae:tbl kK=some (.code lh):=by kernel_rfl
theorem wH:tbl mc=some (.code iV):=by kernel_rfl
theorem MV:TblOk Try.prog tbl:=AllOk.tbl (P:=Try.prog) (l:=Ol) ⟨DK,zx,zq,Cd,Ce,t9,zG,pk,oP,pm,DT,oQ,mH,ww,wx,Ca,xw,zj,DJ,r4,DO,r5,zi,IC,B9,pV,FU,zB,zy,DR,DL,DN,FV,zp,Cb,xx,zv,zr,u5,nq,nP,xA,zE,r6,zF,wA,zz,xz,t7,xy,zw,u4,zo,zA,zh,wz,s5,zu,Cf,zI,pW,pn,Cc,pX,zH,wy,trivial⟩
end Go.Proofs.Ytbpdbooalkkenaa
