/- CompileOutcome: outcomes for given results, for arguments of a bulk of at most 1048576. -/
import Derived.Test.YtdgiglmmpbndmaaGreatDoorMRowCompileOutcome
import Derived.Test.YtdgiglmmpbndmaaGreatDoorCards
import Derived.Test.YtdgiglmmpbndmaaGreatDoorTie
import Derived.SevenTiedAt
set_option linter.unusedVariables false
set_option linter.unusedSimpArgs false
open Option.some renaming inj->a_
namespace Go.Proofs.YtdgiglmmpbndmaaGreatDoor
open Go
theorem compileOutcomeUpto_mn:Tryz.prog.mainIs=some (true,("35c7a6046ac27d4e0850ffa89c1add1e36477b5621e59b94b11107193435d189" :String).toList):=by kernel_rfl
theorem compileOutcomeUpto_lo:false=Tryz.prog.looks []:=by kernel_rfl
theorem compileOutcomeUpto_gb:false=OpenClaim.goesBy Rows.compileOutcomeUptoRow Tryz.prog:=by kernel_rfl
theorem compileOutcomeUpto_card:Rows.CompileOutcomeUptoCardSaid:=
 Claim7.holds_tied_plain_at .later [] [.data,.data,.data] true (true,"35c7a6046ac27d4e0850ffa89c1add1e36477b5621e59b94b11107193435d189") false
  compileOutcomeUpto_holds (λ_ h=>by cases h) (by kernel_rfl) (λ_ h=>by cases h) compileOutcomeUpto_row_tie rfl ⟨rfl,rfl⟩ compileOutcomeUpto_mn rfl
  (λf fn hf hfn=>by
   obtain rfl:f=9:=a_ ((show Tryz.prog.funcNamed "routing/routinglaw22.CompileOutcome" =some 9 by kernel_rfl).symm.trans hf) |>.symm
   obtain rfl:fn=Tryz.f9:=(a_ (Tryz.func9.symm.trans hfn)).symm
   exact⟨compileOutcomeUpto_lo,λj t ht=>by
    rw[Tryz.params9]at ht
    have h3:t∈[34,49]:=List.mem_of_getElem? (by simpa using ht)
    have h4:([34,49].all λt=>Tryz.prog.wantsStandIn t==false)=true:=by kernel_rfl
    have h5:=List.all_eq_true.1 h4 t h3
    exact(show Tryz.prog.wantsStandIn t=false by simpa using h5)⟩)
  compileOutcomeUpto_gb
#print axioms compileOutcomeUpto_card
end Go.Proofs.YtdgiglmmpbndmaaGreatDoor
