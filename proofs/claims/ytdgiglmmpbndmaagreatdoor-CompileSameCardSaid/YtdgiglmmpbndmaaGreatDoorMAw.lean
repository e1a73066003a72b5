import Derived.Test.YtdgiglmmpbndmaaGreatDoorMGlueB
import Derived.Test.YtdgiglmmpbndmaaGreatDoorML7
import Derived.Test.YtdgiglmmpbndmaaGreatDoorML5
import Derived.Test.YtdgiglmmpbndmaaGreatDoorMLawDfaUse
set_option linter.unusedVariables false
set_option linter.unusedSimpArgs false
namespace Go.Proofs.YtdgiglmmpbndmaaGreatDoor
open Go Go.Av Go.Ev
theorem A0:aE tbl qv [] [] mB ((([([111,119,110],([(true,((167772160,(8,())),(8,(24,()))))],()))],([],([([98,108,117,101],([(true,(65000,((-1),())))],()))],([([105,109,112,111,114,116],([([102,105,114,115,116],([(1,([111,119,110],(0,((0,(0,())),(true,())))))],([(1,(200,(0,(0,(0,())))))],(1,()))))],(2,())))],()))))),()):=si (m:=90) λk=>by kernel_rfl
theorem A1:aE tbl fZ [.d (pr [(.list (pr [tS,(.list (pr [tB,(pr [tW,tI]),tI,tI]))])),(.list (pr [tS,(.list (pr [tB,tS]))])),(.list (pr [tS,(.list (pr [tB,tI,tI]))])),(.list (pr [tS,(.list (pr [tS,(.list (pr [tI,tS,tI,(pr [tW,tI]),tB])),(.list (pr [tI,tI,tI,tW,tW])),tI])),tI]))]) (([([111,119,110],([(true,((167772160,(8,())),(8,(24,()))))],()))],([],([([98,108,117,101],([(true,(65000,((-1),())))],()))],([([105,109,112,111,114,116],([([102,105,114,115,116],([(1,([111,119,110],(0,((0,(0,())),(true,())))))],([(1,(200,(0,(0,(0,())))))],(1,()))))],(2,())))],()))))),.d tS ([105,109,112,111,114,116])] [] eG ((([(1,(0,((0,(0,())),([(true,((167772160,(8,())),(8,(24,()))))],(([],([],([],(0,())))),([],()))))))],([(0,((-1),((-2),())))],([(false,([],())),(true,([(1,(200,(0,(0,(0,())))))],()))],(0,()))))),(0),()):=si (m:=90) λk=>by kernel_rfl
theorem A2:aE tbl fZ [.d (pr [(.list (pr [tS,(.list (pr [tB,(pr [tW,tI]),tI,tI]))])),(.list (pr [tS,(.list (pr [tB,tS]))])),(.list (pr [tS,(.list (pr [tB,tI,tI]))])),(.list (pr [tS,(.list (pr [tS,(.list (pr [tI,tS,tI,(pr [tW,tI]),tB])),(.list (pr [tI,tI,tI,tW,tW])),tI])),tI]))]) (([([111,119,110],([(true,((167772160,(8,())),(8,(24,()))))],()))],([],([([98,108,117,101],([(true,(65000,((-1),())))],()))],([([105,109,112,111,114,116],([([102,105,114,115,116],([(1,([111,119,110],(0,((0,(0,())),(true,())))))],([(1,(200,(0,(0,(0,())))))],(1,()))))],(2,())))],()))))),.d tS ([110,111,110,101])] [] eG ((([],([],([],(0,()))))),(6),()):=si (m:=90) λk=>by kernel_rfl
theorem A3:aE tbl fZ [.d (pr [(.list (pr [tS,(.list (pr [tB,(pr [tW,tI]),tI,tI]))])),(.list (pr [tS,(.list (pr [tB,tS]))])),(.list (pr [tS,(.list (pr [tB,tI,tI]))])),(.list (pr [tS,(.list (pr [tS,(.list (pr [tI,tS,tI,(pr [tW,tI]),tB])),(.list (pr [tI,tI,tI,tW,tW])),tI])),tI]))]) (([],([],([],([([112],([([116],([],([],(1,()))))],(2,())))],()))))),.d tS ([112])] [] eG ((([],([],([(true,([],()))],((-1),()))))),(0),()):=si (m:=90) λk=>by kernel_rfl
theorem A4:aE tbl kM [.d (pr [(.list (pr [tI,tI,(pr [tW,tI]),(.list (pr [tB,(pr [tW,tI]),tI,tI])),(pr [(.list tI),(.list (.list tI)),(.list tB),tI]),(.list (pr [tB,tI,tI]))])),(.list (pr [tI,tI,tI])),(.list (pr [tB,(.list (pr [tI,tI,tI,tW,tW]))])),tI]) (([(1,(0,((0,(0,())),([(true,((167772160,(8,())),(8,(24,()))))],(([],([],([],(0,())))),([],()))))))],([(0,((-1),((-2),())))],([(false,([],())),(true,([(1,(200,(0,(0,(0,())))))],()))],(0,()))))),.d (pr [(pr [tW,tI]),tI,tW,(.list tI),(.list tW),tI,tI,tI,tI]) (((2886729728,(12,())),(6,(0,([],([],(0,(0,(0,(0,()))))))))))] [] dA (((true,(((2886729728,(12,())),(6,(0,([],([],(200,(0,(0,(0,()))))))))),()))),(1),(0),()):=si (m:=90) λk=>by kernel_rfl
theorem A5:aE tbl dt [.d (pr [(.list (pr [tI,tI,(pr [tW,tI]),(.list (pr [tB,(pr [tW,tI]),tI,tI])),(pr [(.list tI),(.list (.list tI)),(.list tB),tI]),(.list (pr [tB,tI,tI]))])),(.list (pr [tI,tI,tI])),(.list (pr [tB,(.list (pr [tI,tI,tI,tW,tW]))])),tI]) (([(1,(0,((0,(0,())),([(true,((167772160,(8,())),(8,(24,()))))],(([],([],([],(0,())))),([],()))))))],([(0,((-1),((-2),())))],([(false,([],())),(true,([(1,(200,(0,(0,(0,())))))],()))],(0,()))))),.d (.list tB) ([true])] [] cf (((false,([],()))),(0),()):=si (m:=90) λk=>by kernel_rfl
theorem A6:aE tbl eZ [.d (pr [(.list (pr [tI,tI,(pr [tW,tI]),(.list (pr [tB,(pr [tW,tI]),tI,tI])),(pr [(.list tI),(.list (.list tI)),(.list tB),tI]),(.list (pr [tB,tI,tI]))])),(.list (pr [tI,tI,tI])),(.list (pr [tB,(.list (pr [tI,tI,tI,tW,tW]))])),tI]) (([(1,(0,((0,(0,())),([(true,((167772160,(8,())),(8,(24,()))))],(([],([],([],(0,())))),([],()))))))],([(0,((-1),((-2),())))],([(false,([],())),(true,([(1,(200,(0,(0,(0,())))))],()))],(0,())))))] [] di ((([(1,(0,((0,(0,())),([(true,((167772160,(8,())),(8,(24,()))))],(([],([],([],(0,())))),([],()))))))],([(0,((-1),((-2),())))],([(false,([],())),(true,([(1,(200,(0,(0,(0,())))))],()))],(0,()))))),(0),()):=si (m:=90) λk=>by kernel_rfl
theorem A7:aE tbl iu [.d (pr [(.list (pr [tI,tI,(pr [tW,tI]),(.list (pr [tB,(pr [tW,tI]),tI,tI])),(pr [(.list tI),(.list (.list tI)),(.list tB),tI]),(.list (pr [tB,tI,tI]))])),(.list (pr [tI,tI,tI])),(.list (pr [tB,(.list (pr [tI,tI,tI,tW,tW]))])),tI]) (([(1,(0,((0,(0,())),([(true,((167772160,(8,())),(8,(24,()))))],(([],([],([],(0,())))),([],()))))))],([(0,((-1),((-2),())))],([(false,([],())),(true,([(1,(200,(0,(0,(0,())))))],()))],(0,()))))),.d (pr [(.list (pr [tI,tI,(pr [tW,tI]),(.list (pr [tB,(pr [tW,tI]),tI,tI])),(pr [(.list tI),(.list (.list tI)),(.list tB),tI]),(.list (pr [tB,tI,tI]))])),(.list (pr [tI,tI,tI])),(.list (pr [tB,(.list (pr [tI,tI,tI,tW,tW]))])),tI]) (([(1,(0,((0,(0,())),([(true,((167772160,(8,())),(8,(24,()))))],(([],([],([],(0,())))),([],()))))))],([(0,((-1),((-2),())))],([(false,([],())),(true,([(1,(200,(0,(0,(0,())))))],()))],(0,())))))] [] cT ((true),()):=si (m:=90) λk=>by kernel_rfl
theorem A8:aE tbl cG [.d (pr [(.list (pr [tI,tI,(pr [tW,tI]),(.list (pr [tB,(pr [tW,tI]),tI,tI])),(pr [(.list tI),(.list (.list tI)),(.list tB),tI]),(.list (pr [tB,tI,tI]))])),(.list (pr [tI,tI,tI])),(.list (pr [tB,(.list (pr [tI,tI,tI,tW,tW]))])),tI]) (([(1,(0,((0,(0,())),([(true,((167772160,(8,())),(8,(24,()))))],(([],([],([],(0,())))),([],()))))))],([(0,((-1),((-2),())))],([(false,([],())),(true,([(1,(200,(0,(0,(0,())))))],()))],(0,())))))] [] bD ((0),()):=si (m:=90) λk=>by kernel_rfl
theorem A9:aE tbl iV [.d (pr [tI,tI,(pr [tW,tI]),(.list (pr [tB,(pr [tW,tI]),tI,tI])),(pr [(.list tI),(.list (.list tI)),(.list tB),tI]),(.list (pr [tB,tI,tI]))]) ((1,(0,((0,(0,())),([(true,((167772160,(8,())),(8,(24,()))))],(([],([],([],(0,())))),([],()))))))),.d (pr [(pr [tW,tI]),tI,tW,(.list tI),(.list tW),tI,tI,tI,tI]) (((2886729728,(12,())),(6,(0,([],([],(0,(0,(0,(0,()))))))))))] [] gf ((false),()):=si (m:=90) λk=>by kernel_rfl
theorem A10:aE tbl cG [.d (pr [(.list (pr [tI,tI,(pr [tW,tI]),(.list (pr [tB,(pr [tW,tI]),tI,tI])),(pr [(.list tI),(.list (.list tI)),(.list tB),tI]),(.list (pr [tB,tI,tI]))])),(.list (pr [tI,tI,tI])),(.list (pr [tB,(.list (pr [tI,tI,tI,tW,tW]))])),tI]) (([],([],([],(0,())))))] [] bD ((5),()):=si (m:=90) λk=>by kernel_rfl
theorem oo:aE tbl bZ [] [] bL (true,()):=by
 refine ap rfl (aB U3 rfl (λO n=>Vv O n) ?_);unfold IW;repeat first
  |refine ak A0 ?_
  |refine ak A1 ?_
  |refine ak A2 ?_
  |refine ak A3 ?_
  |refine ak A4 ?_
  |refine ak A5 ?_
  |refine ak A6 ?_
  |refine ak A7 ?_
  |refine ak A8 ?_
  |refine ak A9 ?_
  |refine ak A10 ?_
  |refine aL rfl ?_
  |refine aA rfl ?_
  |refine aa ?_
  |refine mU (by decide) rfl ?_
  |refine ae ?_
 rfl
open Go Go.Av Go.Ev Go.Pl
theorem Ng:LawOk nK [wu]:=by rintro⟨a,_⟩ ⟨b,_⟩;refine⟨ej jR (true,()),?_,rfl⟩;refine aB GQ rfl (λO n=>Ha O n a) ?_;unfold vd;refine ak (mD a) (ar (λ_=>ak oo (aa rfl)) λh=>?_);refine ak (qn a b) (ak (uj a b) (ae (aL (by simp) (ak oo (aa (aa rfl))))))
end Go.Proofs.YtdgiglmmpbndmaaGreatDoor
