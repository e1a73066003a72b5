/- CompileReduce: automata are reduced and keep their outcomes, for arguments of a bulk of at most 1048576. -/
import Derived.Test.YtdgiglmmpbndmaaGreatDoorMRowCompileReduce
import Derived.Test.YtdgiglmmpbndmaaGreatDoorCards
import Derived.Test.YtdgiglmmpbndmaaGreatDoorTie
import Derived.SevenTiedAt
set_option linter.unusedVariables false
set_option linter.unusedSimpArgs false
open Option.some renaming inj->a_
namespace Go.Proofs.YtdgiglmmpbndmaaGreatDoor
open Go
theorem compileReduceUpto_mn:Tryz.prog.mainIs=some (true,("35c7a6046ac27d4e0850ffa89c1add1e36477b5621e59b94b11107193435d189" :String).toList):=by kernel_rfl
theorem compileReduceUpto_lo:false=Tryz.prog.looks []:=by kernel_rfl
theorem compileReduceUpto_gb:false=OpenClaim.goesBy Rows.compileReduceUptoRow Tryz.prog:=by kernel_rfl
theorem compileReduceUpto_card:Rows.CompileReduceUptoCardSaid:=
 Claim7.holds_tied_plain_at .later [] [.data,.data,.data] true (true,"35c7a6046ac27d4e0850ffa89c1add1e36477b5621e59b94b11107193435d189") false
  compileReduceUpto_holds (λ_ h=>by cases h) (by kernel_rfl) (λ_ h=>by cases h) compileReduceUpto_row_tie rfl ⟨rfl,rfl⟩ compileReduceUpto_mn rfl
  (λf fn hf hfn=>by
   obtain rfl:f=7:=a_ ((show Tryz.prog.funcNamed "routing/routinglaw22.CompileReduce" =some 7 by kernel_rfl).symm.trans hf) |>.symm
   obtain rfl:fn=Tryz.f7:=(a_ (Tryz.func7.symm.trans hfn)).symm
   exact⟨compileReduceUpto_lo,λj t ht=>by
    rw[Tryz.params7]at ht
    have h3:t∈[34,49]:=List.mem_of_getElem? (by simpa using ht)
    have h4:([34,49].all λt=>Tryz.prog.wantsStandIn t==false)=true:=by kernel_rfl
    have h5:=List.all_eq_true.1 h4 t h3
    exact(show Tryz.prog.wantsStandIn t=false by simpa using h5)⟩)
  compileReduceUpto_gb
#print axioms compileReduceUpto_card
end Go.Proofs.YtdgiglmmpbndmaaGreatDoor
