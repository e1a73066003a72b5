/- CompileHolds: tests hold as defined. -/
import Derived.Test.YtdgiglmmpbndmaaGreatDoorMRowCompileHolds
import Derived.Test.YtdgiglmmpbndmaaGreatDoorCards
import Derived.Test.YtdgiglmmpbndmaaGreatDoorTie
import Derived.SevenTiedAt
set_option linter.unusedVariables false
set_option linter.unusedSimpArgs false
open Option.some renaming inj->a_
namespace Go.Proofs.YtdgiglmmpbndmaaGreatDoor
open Go
theorem compileHolds_mn:Tryz.prog.mainIs=some (true,("35c7a6046ac27d4e0850ffa89c1add1e36477b5621e59b94b11107193435d189" :String).toList):=by kernel_rfl
theorem compileHolds_lo:false=Tryz.prog.looks []:=by kernel_rfl
theorem compileHolds_gb:false=OpenClaim.goesBy Rows.compileHoldsRow Tryz.prog:=by kernel_rfl
theorem compileHolds_card:Rows.CompileHoldsCardSaid:=
 Claim7.holds_tied_plain_at .later [] [.data,.data,.data] true (true,"35c7a6046ac27d4e0850ffa89c1add1e36477b5621e59b94b11107193435d189") false
  compileHolds_holds (λ_ h=>by cases h) (by kernel_rfl) (λ_ h=>by cases h) compileHolds_row_tie rfl ⟨rfl,rfl⟩ compileHolds_mn rfl
  (λf fn hf hfn=>by
   obtain rfl:f=5:=a_ ((show Tryz.prog.funcNamed "routing/routinglaw22.CompileHolds" =some 5 by kernel_rfl).symm.trans hf) |>.symm
   obtain rfl:fn=Tryz.f5:=(a_ (Tryz.func5.symm.trans hfn)).symm
   exact⟨compileHolds_lo,λj t ht=>by
    rw[Tryz.params5]at ht
    have h3:t∈[54,57]:=List.mem_of_getElem? (by simpa using ht)
    have h4:([54,57].all λt=>Tryz.prog.wantsStandIn t==false)=true:=by kernel_rfl
    have h5:=List.all_eq_true.1 h4 t h3
    exact(show Tryz.prog.wantsStandIn t=false by simpa using h5)⟩)
  compileHolds_gb
#print axioms compileHolds_card
end Go.Proofs.YtdgiglmmpbndmaaGreatDoor
