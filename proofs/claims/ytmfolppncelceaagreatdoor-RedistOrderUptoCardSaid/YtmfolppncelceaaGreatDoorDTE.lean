import Derived.Test.YtmfolppncelceaaGreatDoorDTG3
import Derived.Test.YtmfolppncelceaaGreatDoorDL7
import Derived.Test.YtmfolppncelceaaGreatDoorRows
import Derived.Test.YtmfolppncelceaaGreatDoorDBn
import Derived.Test.YtmfolppncelceaaGreatDoorDRibNat
set_option linter.unusedVariables false
set_option linter.unusedSimpArgs false
namespace Go.Proofs.YtmfolppncelceaaGreatDoor
open Go Go.Av Go.Ev
theorem FV:Wo Tryz.prog ke (.nat xK):=Tg Tryz.strconv_Itoa
theorem Bj:Wo Tryz.prog gB (.nat tJ):=ye
theorem Hs:Wo Tryz.prog lN (.nat qe):=DZ
theorem qz:Wo Tryz.prog bW (.nat tH):=oQ
theorem uL:Wo Tryz.prog da (.nat tG):=s3
theorem Hb:Entry Tryz.prog 8 pq:=eb Tryz.func8 (by kernel_rfl)
theorem Ll:Entry Tryz.prog 23 Dl:=eb Tryz.func23 (by kernel_rfl)
theorem Fl:Entry Tryz.prog 42 nO:=eb Tryz.func42 (by kernel_rfl)
theorem DO:Entry Tryz.prog 95 mA:=eb Tryz.func95 (by kernel_rfl)
theorem Fj:Entry Tryz.prog 73 nN:=eb Tryz.func73 (by kernel_rfl)
theorem x5:Entry Tryz.prog 44 hZ:=eb Tryz.func44 (by kernel_rfl)
theorem Jw:Entry Tryz.prog 157 qT:=eb Tryz.func157 (by kernel_rfl)
theorem Lk:Entry Tryz.prog 122 sE:=eb Tryz.func122 (by kernel_rfl)
theorem Lj:Entry Tryz.prog 96 sD:=eb Tryz.func96 (by kernel_rfl)
theorem Fo:Entry Tryz.prog 74 nP:=eb Tryz.func74 (by kernel_rfl)
theorem Hc:Entry Tryz.prog 48 pu:=eb Tryz.func48 (by kernel_rfl)
theorem vG:Entry Tryz.prog 47 fU:=eb Tryz.func47 (by kernel_rfl)
theorem AX:Entry Tryz.prog 46 jX:=eb Tryz.func46 (by kernel_rfl)
theorem x6:Entry Tryz.prog 45 ic:=eb Tryz.func45 (by kernel_rfl)
theorem AW:Entry Tryz.prog 43 jW:=eb Tryz.func43 (by kernel_rfl)
theorem x7:Entry Tryz.prog 49 ig:=eb Tryz.func49 (by kernel_rfl)
theorem vL:Entry Tryz.prog 98 fY:=eb Tryz.func98 (by kernel_rfl)
theorem AT:Entry Tryz.prog 212 jU:=eb Tryz.func212 (by kernel_rfl)
theorem Fg:Entry Tryz.prog 202 nK:=eb Tryz.func202 (by kernel_rfl)
theorem tA:Entry Tryz.prog 183 ek:=eb Tryz.func183 (by kernel_rfl)
theorem sW:Entry Tryz.prog 184 dX:=eb Tryz.func184 (by kernel_rfl)
theorem uy:Entry Tryz.prog 158 ft:=eb Tryz.func158 (by kernel_rfl)
theorem uz:Entry Tryz.prog 123 fv:=eb Tryz.func123 (by kernel_rfl)
theorem rz:Entry Tryz.prog 97 db:=eb Tryz.func97 (by kernel_rfl)
theorem oL:Entry Tryz.prog 76 cj:=eb Tryz.func76 (by kernel_rfl)
theorem Jz:Entry Tryz.prog 185 qV:=eb Tryz.func185 (by kernel_rfl)
theorem JA:Entry Tryz.prog 159 qW:=eb Tryz.func159 (by kernel_rfl)
theorem AZ:Entry Tryz.prog 124 jZ:=eb Tryz.func124 (by kernel_rfl)
theorem Hh:Entry Tryz.prog 99 pA:=eb Tryz.func99 (by kernel_rfl)
theorem DL:Entry Tryz.prog 125 my:=eb Tryz.func125 (by kernel_rfl)
theorem DV:Entry Tryz.prog 187 mE:=eb Tryz.func187 (by kernel_rfl)
theorem DW:Entry Tryz.prog 161 mF:=eb Tryz.func161 (by kernel_rfl)
theorem Hm:Entry Tryz.prog 126 pG:=eb Tryz.func126 (by kernel_rfl)
theorem JB:Entry Tryz.prog 100 qX:=eb Tryz.func100 (by kernel_rfl)
theorem Hk:Entry Tryz.prog 77 pE:=eb Tryz.func77 (by kernel_rfl)
set_option maxRecDepth 8000 in
theorem Hj:EntryD Tryz.prog 52 pC:=⟨⟨Tryz.f52,_,_,_,_,_,_,_,_,_,_,_,Tryz.func52,by kernel_rfl,rfl,by kernel_rfl,by kernel_rfl,⟨⟨Tryz.f75,_,_,_,_,_,_,_,Tryz.func75,by kernel_rfl,by kernel_rfl,rfl,⟨#[],by kernel_rfl⟩,by kernel_rfl⟩⟩,by kernel_rfl,by kernel_rfl⟩,by kernel_rfl⟩
theorem vH:Entry Tryz.prog 51 fV:=eb Tryz.func51 (by kernel_rfl)
theorem wG:Entry Tryz.prog 46 gL:=eb Tryz.func46 (by kernel_rfl)
theorem x8:Entry Tryz.prog 50 ii:=eb Tryz.func50 (by kernel_rfl)
theorem wD:Entry Tryz.prog 43 gI:=eb Tryz.func43 (by kernel_rfl)
theorem x9:Entry Tryz.prog 53 ij:=eb Tryz.func53 (by kernel_rfl)
theorem DR:Entry Tryz.prog 78 mB:=eb Tryz.func78 (by kernel_rfl)
theorem uv:Entry Tryz.prog 56 fo:=eb Tryz.func56 (by kernel_rfl)
theorem vI:Entry Tryz.prog 55 fW:=eb Tryz.func55 (by kernel_rfl)
theorem wH:Entry Tryz.prog 46 gM:=eb Tryz.func46 (by kernel_rfl)
theorem ya:Entry Tryz.prog 54 ik:=eb Tryz.func54 (by kernel_rfl)
theorem wE:Entry Tryz.prog 43 gJ:=eb Tryz.func43 (by kernel_rfl)
theorem yb:Entry Tryz.prog 57 im:=eb Tryz.func57 (by kernel_rfl)
theorem AU:Entry Tryz.prog 127 jV:=eb Tryz.func127 (by kernel_rfl)
theorem yc:Entry Tryz.prog 101 io:=eb Tryz.func101 (by kernel_rfl)
theorem wB:Entry Tryz.prog 102 gG:=eb Tryz.func102 (by kernel_rfl)
theorem zI:Entry Tryz.prog 79 jb:=eb Tryz.func79 (by kernel_rfl)
theorem wC:Entry Tryz.prog 59 gH:=eb Tryz.func59 (by kernel_rfl)
theorem wA:Entry Tryz.prog 58 gF:=eb Tryz.func58 (by kernel_rfl)
theorem wF:Entry Tryz.prog 43 gK:=eb Tryz.func43 (by kernel_rfl)
theorem Fi:Entry Tryz.prog 24 nM:=eb Tryz.func24 (by kernel_rfl)
theorem Hf:Entry Tryz.prog 60 px:=eb Tryz.func60 (by kernel_rfl)
theorem zK:Entry Tryz.prog 25 jd:=eb Tryz.func25 (by kernel_rfl)
theorem Fp:Entry Tryz.prog 10 nQ:=eb Tryz.func10 (by kernel_rfl)
theorem Hn:Entry Tryz.prog 145 pH:=eb Tryz.func145 (by kernel_rfl)
theorem Ch:Entry Tryz.prog 114 kT:=eb Tryz.func114 (by kernel_rfl)
theorem Ln:Entry Tryz.prog 88 sG:=eb Tryz.func88 (by kernel_rfl)
theorem Hg:Entry Tryz.prog 68 py:=eb Tryz.func68 (by kernel_rfl)
theorem Ce:Entry Tryz.prog 13 kQ:=eb Tryz.func13 (by kernel_rfl)
theorem AR:Entry Tryz.prog 135 jS:=eb Tryz.func135 (by kernel_rfl)
theorem G7:Entry Tryz.prog 111 pj:=eb Tryz.func111 (by kernel_rfl)
theorem DJ:Entry Tryz.prog 86 mr:=eb Tryz.func86 (by kernel_rfl)
theorem zH:Entry Tryz.prog 112 i8:=eb Tryz.func112 (by kernel_rfl)
theorem Lm:Entry Tryz.prog 170 sF:=eb Tryz.func170 (by kernel_rfl)
theorem AY:Entry Tryz.prog 140 jY:=eb Tryz.func140 (by kernel_rfl)
theorem DT:Entry Tryz.prog 189 mC:=eb Tryz.func189 (by kernel_rfl)
theorem He:Entry Tryz.prog 167 pw:=eb Tryz.func167 (by kernel_rfl)
theorem DN:Entry Tryz.prog 137 mz:=eb Tryz.func137 (by kernel_rfl)
theorem JC:Entry Tryz.prog 190 qY:=eb Tryz.func190 (by kernel_rfl)
theorem Hl:Entry Tryz.prog 191 pF:=eb Tryz.func191 (by kernel_rfl)
theorem uA:Entry Tryz.prog 205 fx:=eb Tryz.func205 (by kernel_rfl)
theorem tC:Entry Tryz.prog 206 et:=eb Tryz.func206 (by kernel_rfl)
theorem Jy:Entry Tryz.prog 207 qU:=eb Tryz.func207 (by kernel_rfl)
theorem uB:Entry Tryz.prog 192 fy:=eb Tryz.func192 (by kernel_rfl)
theorem Hi:Entry Tryz.prog 168 pB:=eb Tryz.func168 (by kernel_rfl)
theorem G9:Entry Tryz.prog 138 pn:=eb Tryz.func138 (by kernel_rfl)
theorem AS:Entry Tryz.prog 169 jT:=eb Tryz.func169 (by kernel_rfl)
theorem xY:Entry Tryz.prog 139 hH:=eb Tryz.func139 (by kernel_rfl)
theorem sV:Entry Tryz.prog 136 dW:=eb Tryz.func136 (by kernel_rfl)
theorem tz:Entry Tryz.prog 141 ej:=eb Tryz.func141 (by kernel_rfl)
theorem AQ:Entry Tryz.prog 142 jQ:=eb Tryz.func142 (by kernel_rfl)
theorem G8:Entry Tryz.prog 143 pm:=eb Tryz.func143 (by kernel_rfl)
theorem rW:Entry Tryz.prog 195 dB:=eb Tryz.func195 (by kernel_rfl)
theorem rX:Entry Tryz.prog 193 dC:=eb Tryz.func193 (by kernel_rfl)
theorem uu:Entry Tryz.prog 194 fm:=eb Tryz.func194 (by kernel_rfl)
theorem DK:Entry Tryz.prog 171 mw:=eb Tryz.func171 (by kernel_rfl)
theorem Cd:Entry Tryz.prog 172 kO:=eb Tryz.func172 (by kernel_rfl)
theorem Ff:Entry Tryz.prog 144 nJ:=eb Tryz.func144 (by kernel_rfl)
theorem Lh:Entry Tryz.prog 113 sB:=eb Tryz.func113 (by kernel_rfl)
theorem Cc:Entry Tryz.prog 87 kN:=eb Tryz.func87 (by kernel_rfl)
theorem Li:Entry Tryz.prog 67 sC:=eb Tryz.func67 (by kernel_rfl)
theorem ux:Entry Tryz.prog 66 fq:=eb Tryz.func66 (by kernel_rfl)
theorem Cg:Entry Tryz.prog 32 kS:=eb Tryz.func32 (by kernel_rfl)
theorem vJ:Entry Tryz.prog 33 fX:=eb Tryz.func33 (by kernel_rfl)
theorem uw:Entry Tryz.prog 34 fp:=eb Tryz.func34 (by kernel_rfl)
theorem zJ:Entry Tryz.prog 15 jc:=eb Tryz.func15 (by kernel_rfl)
theorem Fq:Entry Tryz.prog 37 nR:=eb Tryz.func37 (by kernel_rfl)
theorem Cf:Entry Tryz.prog 18 kR:=eb Tryz.func18 (by kernel_rfl)
theorem vK:Entry Tryz.prog 17 ow:=eb Tryz.func17 (by kernel_rfl)
theorem Ha:Entry Tryz.prog 9 pp:=eb Tryz.func9 (by kernel_rfl)
theorem DU:Entry Tryz.prog 41 mD:=eb Tryz.func41 (by kernel_rfl)
theorem Fh:Entry Tryz.prog 22 nL:=eb Tryz.func22 (by kernel_rfl)
theorem xZ:Entry Tryz.prog 7 hU:=eb Tryz.func7 (by kernel_rfl)
def X6:List (Nat×Fun'):=[(o8,.code pq),
 (pX,.code Dl),
 (nB,.code nO),
 (jh,.code mA),
 (fP,.code nN),
 (eJ,.code hZ),
 (qP,.code qT),
 (su,.code sE),
 (pV,.code sD),
 (cC,.code nP),
 (lJ,.code pu),
 (dD,.code fU),
 (jO,.code jX),
 (eK,.code ic),
 (jN,.code jW),
 (eL,.code ig),
 (ba,.code fY),
 (jL,.code jU),
 (ka,.code nK),
 (aY,.code ek),
 (bo,.code dX),
 (c8,.code ft),
 (bR,.code fv),
 (bq,.code db),
 (aW,.code cj),
 (qQ,.code qV),
 (nD,.code qW),
 (ei,.code jZ),
 (pd,.code pA),
 (ke,.nat xK),
 (gg,.code my),
 (ji,.code mE),
 (mq,.code mF),
 (fB,.code pG),
 (gA,.code qX),
 (ju,.code pE),
 (lK,.dfr pC),
 (dE,.code fV),
 (gx,.code gL),
 (eM,.code ii),
 (gu,.code gI),
 (eN,.code ij),
 (bN,.code mB),
 (fj,.code fo),
 (dF,.code fW),
 (gy,.code gM),
 (eO,.code ik),
 (gv,.code gJ),
 (eP,.code im),
 (jM,.code jV),
 (g9,.code io),
 (gq,.code gG),
 (iY,.code jb),
 (gr,.code gH),
 (d5,.code gF),
 (gw,.code gK),
 (fO,.code nM),
 (jt,.code px),
 (iZ,.code jd),
 (kd,.code nQ),
 (dV,.code pH),
 (gB,.nat tJ),
 (kL,.code kT),
 (lN,.nat qe),
 (sx,.code sG),
 (pc,.code py),
 (ip,.code kQ),
 (jJ,.code jS),
 (oY,.code pj),
 (mg,.code mr),
 (iW,.code i8),
 (sw,.code sF),
 (gz,.code jY),
 (mn,.code mC),
 (o9,.code pw),
 (mj,.code mz),
 (nE,.code qY),
 (lM,.code pF),
 (c9,.code fx),
 (cN,.code et),
 (i6,.code qU),
 (bS,.code fy),
 (pg,.code pB),
 (o7,.code pn),
 (jK,.code jT),
 (gZ,.code hH),
 (cB,.code dW),
 (cM,.code ej),
 (jI,.code jQ),
 (oZ,.code pm),
 (ct,.code dB),
 (cu,.code dC),
 (fh,.code fm),
 (mi,.code mw),
 (kK,.code kO),
 (nz,.code nJ),
 (sq,.code sB),
 (kJ,.code kN),
 (sr,.code sC),
 (cZ,.code fq),
 (iq,.code kS),
 (cz,.code fX),
 (cY,.code fp),
 (dM,.code jc),
 (bW,.nat tH),
 (da,.nat tG),
 (nC,.code nR),
 (fG,.code kR),
 (jE,.code ow),
 (lH,.code pp),
 (mo,.code mD),
 (kb,.code nL),
 (g8,.code hU)]
abbrev tbl:Nat->Option Fun':=IJ X6
theorem HG:tbl o8=some (.code pq):=by kernel_rfl
theorem Gs:tbl nB=some (.code nO):=by kernel_rfl
theorem Eb:tbl jh=some (.code mA):=by kernel_rfl
theorem Gr:tbl fP=some (.code nN):=by kernel_rfl
theorem yj:tbl eJ=some (.code hZ):=by kernel_rfl
theorem Kh:tbl qP=some (.code qT):=by kernel_rfl
theorem MH:tbl su=some (.code sE):=by kernel_rfl
theorem MG:tbl pV=some (.code sD):=by kernel_rfl
theorem Gt:tbl cC=some (.code nP):=by kernel_rfl
theorem HH:tbl lJ=some (.code pu):=by kernel_rfl
theorem vR:tbl dD=some (.code fU):=by kernel_rfl
theorem BF:tbl jO=some (.code jX):=by kernel_rfl
theorem yk:tbl eK=some (.code ic):=by kernel_rfl
theorem BE:tbl jN=some (.code jW):=by kernel_rfl
theorem yl:tbl eL=some (.code ig):=by kernel_rfl
theorem vV:tbl ba=some (.code fY):=by kernel_rfl
theorem BC:tbl jL=some (.code jU):=by kernel_rfl
theorem Gn:tbl ka=some (.code nK):=by kernel_rfl
theorem tX:tbl aY=some (.code ek):=by kernel_rfl
theorem s8:tbl bo=some (.code dX):=by kernel_rfl
theorem uV:tbl c8=some (.code ft):=by kernel_rfl
theorem uW:tbl bR=some (.code fv):=by kernel_rfl
theorem rQ:tbl bq=some (.code db):=by kernel_rfl
theorem iA:tbl aW=some (.code cj):=by kernel_rfl
theorem Kj:tbl qQ=some (.code qV):=by kernel_rfl
theorem Kk:tbl nD=some (.code qW):=by kernel_rfl
theorem BH:tbl ei=some (.code jZ):=by kernel_rfl
theorem HM:tbl pd=some (.code pA):=by kernel_rfl
theorem Gw:tbl ke=some (.nat xK):=by kernel_rfl
theorem D9:tbl gg=some (.code my):=by kernel_rfl
theorem Ef:tbl ji=some (.code mE):=by kernel_rfl
theorem Eg:tbl mq=some (.code mF):=by kernel_rfl
theorem HR:tbl fB=some (.code pG):=by kernel_rfl
theorem Kl:tbl gA=some (.code qX):=by kernel_rfl
theorem HP:tbl ju=some (.code pE):=by kernel_rfl
theorem HO:tbl lK=some (.dfr pC):=by kernel_rfl
theorem vS:tbl dE=some (.code fV):=by kernel_rfl
theorem xg:tbl gx=some (.code gL):=by kernel_rfl
theorem ym:tbl eM=some (.code ii):=by kernel_rfl
theorem xd:tbl gu=some (.code gI):=by kernel_rfl
theorem yn:tbl eN=some (.code ij):=by kernel_rfl
theorem Ec:tbl bN=some (.code mB):=by kernel_rfl
theorem uS:tbl fj=some (.code fo):=by kernel_rfl
theorem vT:tbl dF=some (.code fW):=by kernel_rfl
theorem xi:tbl gy=some (.code gM):=by kernel_rfl
theorem yo:tbl eO=some (.code ik):=by kernel_rfl
theorem xe:tbl gv=some (.code gJ):=by kernel_rfl
theorem yp:tbl eP=some (.code im):=by kernel_rfl
theorem BD:tbl jM=some (.code jV):=by kernel_rfl
theorem yq:tbl g9=some (.code io):=by kernel_rfl
theorem w9:tbl gq=some (.code gG):=by kernel_rfl
theorem Ac:tbl iY=some (.code jb):=by kernel_rfl
theorem xc:tbl gr=some (.code gH):=by kernel_rfl
theorem w8:tbl d5=some (.code gF):=by kernel_rfl
theorem xf:tbl gw=some (.code gK):=by kernel_rfl
theorem Gq:tbl fO=some (.code nM):=by kernel_rfl
theorem HJ:tbl jt=some (.code px):=by kernel_rfl
theorem Ae:tbl iZ=some (.code jd):=by kernel_rfl
theorem Gu:tbl kd=some (.code nQ):=by kernel_rfl
theorem HT:tbl dV=some (.code pH):=by kernel_rfl
theorem BI:tbl gB=some (.nat tJ):=by kernel_rfl
theorem CU:tbl kL=some (.code kT):=by kernel_rfl
theorem HS:tbl lN=some (.nat qe):=by kernel_rfl
theorem MJ:tbl sx=some (.code sG):=by kernel_rfl
theorem HK:tbl pc=some (.code py):=by kernel_rfl
theorem CP:tbl ip=some (.code kQ):=by kernel_rfl
theorem BA:tbl jJ=some (.code jS):=by kernel_rfl
theorem HB:tbl oY=some (.code pj):=by kernel_rfl
theorem D7:tbl mg=some (.code mr):=by kernel_rfl
theorem Ab:tbl iW=some (.code i8):=by kernel_rfl
theorem MI:tbl sw=some (.code sF):=by kernel_rfl
theorem BG:tbl gz=some (.code jY):=by kernel_rfl
theorem Ed:tbl mn=some (.code mC):=by kernel_rfl
theorem HI:tbl o9=some (.code pw):=by kernel_rfl
theorem Ea:tbl mj=some (.code mz):=by kernel_rfl
theorem Km:tbl nE=some (.code qY):=by kernel_rfl
theorem HQ:tbl lM=some (.code pF):=by kernel_rfl
theorem uX:tbl c9=some (.code fx):=by kernel_rfl
theorem tZ:tbl cN=some (.code et):=by kernel_rfl
theorem Ki:tbl i6=some (.code qU):=by kernel_rfl
theorem uY:tbl bS=some (.code fy):=by kernel_rfl
theorem HN:tbl pg=some (.code pB):=by kernel_rfl
theorem HE:tbl o7=some (.code pn):=by kernel_rfl
theorem BB:tbl jK=some (.code jT):=by kernel_rfl
theorem yh:tbl gZ=some (.code hH):=by kernel_rfl
theorem s7:tbl cB=some (.code dW):=by kernel_rfl
theorem tV:tbl cM=some (.code ej):=by kernel_rfl
theorem Bz:tbl jI=some (.code jQ):=by kernel_rfl
theorem HC:tbl oZ=some (.code pm):=by kernel_rfl
theorem rY:tbl ct=some (.code dB):=by kernel_rfl
theorem rZ:tbl cu=some (.code dC):=by kernel_rfl
theorem uR:tbl fh=some (.code fm):=by kernel_rfl
theorem D8:tbl mi=some (.code mw):=by kernel_rfl
theorem CO:tbl kK=some (.code kO):=by kernel_rfl
theorem Gm:tbl nz=some (.code nJ):=by kernel_rfl
theorem ME:tbl sq=some (.code sB):=by kernel_rfl
theorem CN:tbl kJ=some (.code kN):=by kernel_rfl
theorem MF:tbl sr=some (.code sC):=by kernel_rfl
theorem uU:tbl cZ=some (.code fq):=by kernel_rfl
theorem CS:tbl iq=some (.code kS):=by kernel_rfl
theorem vU:tbl cz=some (.code fX):=by kernel_rfl
theorem uT:tbl cY=some (.code fp):=by kernel_rfl
theorem Ad:tbl dM=some (.code jc):=by kernel_rfl
theorem qB:tbl bW=some (.nat tH):=by kernel_rfl
theorem uZ:tbl da=some (.nat tG):=by kernel_rfl
theorem Gv:tbl nC=some (.code nR):=by kernel_rfl
theorem CR:tbl fG=some (.code kR):=by kernel_rfl
theorem HF:tbl lH=some (.code pp):=by kernel_rfl
theorem Ee:tbl mo=some (.code mD):=by kernel_rfl
theorem Gp:tbl kb=some (.code nL):=by kernel_rfl
theorem yi:tbl g8=some (.code hU):=by kernel_rfl
theorem X7:TblOk Tryz.prog tbl:=AllOk.tbl (P:=Tryz.prog) (l:=X6) ⟨Hb,Ll,Fl,DO,Fj,x5,Jw,Lk,Lj,Fo,Hc,vG,AX,x6,AW,x7,vL,AT,Fg,tA,sW,uy,uz,rz,oL,Jz,JA,AZ,Hh,FV,DL,DV,DW,Hm,JB,Hk,Hj,vH,wG,x8,wD,x9,DR,uv,vI,wH,ya,wE,yb,AU,yc,wB,zI,wC,wA,wF,Fi,Hf,zK,Fp,Hn,Bj,Ch,Hs,Ln,Hg,Ce,AR,G7,DJ,zH,Lm,AY,DT,He,DN,JC,Hl,uA,tC,Jy,uB,Hi,G9,AS,xY,sV,tz,AQ,G8,rW,rX,uu,DK,Cd,Ff,Lh,Cc,Li,ux,Cg,vJ,uw,zJ,qz,uL,Fq,Cf,vK,Ha,DU,Fh,xZ,trivial⟩
end Go.Proofs.YtmfolppncelceaaGreatDoor
