/- CompileReduced: compiled policies are reduced, for arguments of a bulk of at most 1048576. -/
import Derived.Test.YtdgiglmmpbndmaaGreatDoorKRowCompileReduced
import Derived.Test.YtdgiglmmpbndmaaGreatDoorCards
import Derived.Test.YtdgiglmmpbndmaaGreatDoorTie
import Derived.SevenTiedAt
set_option linter.unusedVariables false
set_option linter.unusedSimpArgs false
open Option.some renaming inj->a_
namespace Go.Proofs.YtdgiglmmpbndmaaGreatDoor
open Go
theorem compileReducedUpto_mn:Tryz.prog.mainIs=some (true,("35c7a6046ac27d4e0850ffa89c1add1e36477b5621e59b94b11107193435d189" :String).toList):=by kernel_rfl
theorem compileReducedUpto_lo:false=Tryz.prog.looks []:=by kernel_rfl
theorem compileReducedUpto_gb:false=OpenClaim.goesBy Rows.compileReducedUptoRow Tryz.prog:=by kernel_rfl
theorem compileReducedUpto_card:Rows.CompileReducedUptoCardSaid:=
 Claim7.holds_tied_plain_at .later [] [.data,.data,.data] true (true,"35c7a6046ac27d4e0850ffa89c1add1e36477b5621e59b94b11107193435d189") false
  compileReducedUpto_holds (λ_ h=>by cases h) (by kernel_rfl) (λ_ h=>by cases h) compileReducedUpto_row_tie rfl ⟨rfl,rfl⟩ compileReducedUpto_mn rfl
  (λf fn hf hfn=>by
   obtain rfl:f=8:=a_ ((show Tryz.prog.funcNamed "routing/routinglaw22.CompileReduced" =some 8 by kernel_rfl).symm.trans hf) |>.symm
   obtain rfl:fn=Tryz.f8:=(a_ (Tryz.func8.symm.trans hfn)).symm
   exact⟨compileReducedUpto_lo,λj t ht=>by
    rw[Tryz.params8]at ht
    have h3:t∈[27,9]:=List.mem_of_getElem? (by simpa using ht)
    have h4:([27,9].all λt=>Tryz.prog.wantsStandIn t==false)=true:=by kernel_rfl
    have h5:=List.all_eq_true.1 h4 t h3
    exact(show Tryz.prog.wantsStandIn t=false by simpa using h5)⟩)
  compileReducedUpto_gb
#print axioms compileReducedUpto_card
end Go.Proofs.YtdgiglmmpbndmaaGreatDoor
