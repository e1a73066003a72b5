/- CompileCheck: the errors of automata are as defined. -/
import Derived.Test.YtdgiglmmpbndmaaGreatDoorMRowCompileCheck
import Derived.Test.YtdgiglmmpbndmaaGreatDoorCards
import Derived.Test.YtdgiglmmpbndmaaGreatDoorTie
import Derived.SevenTiedAt
set_option linter.unusedVariables false
set_option linter.unusedSimpArgs false
open Option.some renaming inj->a_
namespace Go.Proofs.YtdgiglmmpbndmaaGreatDoor
open Go
theorem compileCheck_mn:Tryz.prog.mainIs=some (true,("35c7a6046ac27d4e0850ffa89c1add1e36477b5621e59b94b11107193435d189" :String).toList):=by kernel_rfl
theorem compileCheck_lo:false=Tryz.prog.looks []:=by kernel_rfl
theorem compileCheck_gb:false=OpenClaim.goesBy Rows.compileCheckRow Tryz.prog:=by kernel_rfl
theorem compileCheck_card:Rows.CompileCheckCardSaid:=
 Claim7.holds_tied_plain_at .later [] [.data,.data,.data] true (true,"35c7a6046ac27d4e0850ffa89c1add1e36477b5621e59b94b11107193435d189") false
  compileCheck_holds (λ_ h=>by cases h) (by kernel_rfl) (λ_ h=>by cases h) compileCheck_row_tie rfl ⟨rfl,rfl⟩ compileCheck_mn rfl
  (λf fn hf hfn=>by
   obtain rfl:f=4:=a_ ((show Tryz.prog.funcNamed "routing/routinglaw22.CompileCheck" =some 4 by kernel_rfl).symm.trans hf) |>.symm
   obtain rfl:fn=Tryz.f4:=(a_ (Tryz.func4.symm.trans hfn)).symm
   exact⟨compileCheck_lo,λj t ht=>by
    rw[Tryz.params4]at ht
    have h3:t∈[34]:=List.mem_of_getElem? (by simpa using ht)
    have h4:([34].all λt=>Tryz.prog.wantsStandIn t==false)=true:=by kernel_rfl
    have h5:=List.all_eq_true.1 h4 t h3
    exact(show Tryz.prog.wantsStandIn t=false by simpa using h5)⟩)
  compileCheck_gb
#print axioms compileCheck_card
end Go.Proofs.YtdgiglmmpbndmaaGreatDoor
