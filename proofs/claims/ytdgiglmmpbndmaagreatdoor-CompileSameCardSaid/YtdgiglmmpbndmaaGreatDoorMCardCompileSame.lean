/- CompileSame: comparison considers all fields. -/
import Derived.Test.YtdgiglmmpbndmaaGreatDoorMRowCompileSame
import Derived.Test.YtdgiglmmpbndmaaGreatDoorCards
import Derived.Test.YtdgiglmmpbndmaaGreatDoorTie
import Derived.SevenTiedAt
set_option linter.unusedVariables false
set_option linter.unusedSimpArgs false
open Option.some renaming inj->a_
namespace Go.Proofs.YtdgiglmmpbndmaaGreatDoor
open Go
theorem compileSame_mn:Tryz.prog.mainIs=some (true,("35c7a6046ac27d4e0850ffa89c1add1e36477b5621e59b94b11107193435d189" :String).toList):=by kernel_rfl
theorem compileSame_lo:false=Tryz.prog.looks []:=by kernel_rfl
theorem compileSame_gb:false=OpenClaim.goesBy Rows.compileSameRow Tryz.prog:=by kernel_rfl
theorem compileSame_card:Rows.CompileSameCardSaid:=
 Claim7.holds_tied_plain_at .later [] [.data,.data,.data] true (true,"35c7a6046ac27d4e0850ffa89c1add1e36477b5621e59b94b11107193435d189") false
  compileSame_holds (λ_ h=>by cases h) (by kernel_rfl) (λ_ h=>by cases h) compileSame_row_tie rfl ⟨rfl,rfl⟩ compileSame_mn rfl
  (λf fn hf hfn=>by
   obtain rfl:f=10:=a_ ((show Tryz.prog.funcNamed "routing/routinglaw22.CompileSame" =some 10 by kernel_rfl).symm.trans hf) |>.symm
   obtain rfl:fn=Tryz.f10:=(a_ (Tryz.func10.symm.trans hfn)).symm
   exact⟨compileSame_lo,λj t ht=>by
    rw[Tryz.params10]at ht
    have h3:t∈[34,34]:=List.mem_of_getElem? (by simpa using ht)
    have h4:([34,34].all λt=>Tryz.prog.wantsStandIn t==false)=true:=by kernel_rfl
    have h5:=List.all_eq_true.1 h4 t h3
    exact(show Tryz.prog.wantsStandIn t=false by simpa using h5)⟩)
  compileSame_gb
#print axioms compileSame_card
end Go.Proofs.YtdgiglmmpbndmaaGreatDoor
