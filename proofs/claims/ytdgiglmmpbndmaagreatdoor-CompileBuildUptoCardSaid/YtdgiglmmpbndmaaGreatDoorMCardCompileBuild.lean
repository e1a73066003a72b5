/- CompileBuild: policies are compiled as defined, for arguments of a bulk of at most 1048576. -/
import Derived.Test.YtdgiglmmpbndmaaGreatDoorMRowCompileBuild
import Derived.Test.YtdgiglmmpbndmaaGreatDoorCards
import Derived.Test.YtdgiglmmpbndmaaGreatDoorTie
import Derived.SevenTiedAt
set_option linter.all false
open Option.some renaming inj->a_
namespace Go.Proofs.YtdgiglmmpbndmaaGreatDoor
open Go
theorem compileBuildUpto_mn:Tryz.prog.mainIs=some (true,("35c7a6046ac27d4e0850ffa89c1add1e36477b5621e59b94b11107193435d189" :String).toList):=by kernel_rfl
theorem compileBuildUpto_lo:false=Tryz.prog.looks []:=by kernel_rfl
theorem compileBuildUpto_gb:false=OpenClaim.goesBy Rows.compileBuildUptoRow Tryz.prog:=by kernel_rfl
theorem compileBuildUpto_card:Rows.CompileBuildUptoCardSaid:=
 Claim7.holds_tied_plain_at .later [] [.data,.data,.data] true (true,"35c7a6046ac27d4e0850ffa89c1add1e36477b5621e59b94b11107193435d189") false
  compileBuildUpto_holds (λ_ h=>by cases h) (by kernel_rfl) (λ_ h=>by cases h) compileBuildUpto_row_tie rfl ⟨rfl,rfl⟩ compileBuildUpto_mn rfl
  (λf fn hf hfn=>by
   obtain rfl:f=3:=a_ ((show Tryz.prog.funcNamed "routing/routinglaw22.CompileBuild" =some 3 by kernel_rfl).symm.trans hf) |>.symm
   obtain rfl:fn=Tryz.f3:=(a_ (Tryz.func3.symm.trans hfn)).symm
   exact⟨compileBuildUpto_lo,λj t ht=>by
    rw[Tryz.params3]at ht
    have h3:t∈[27,9]:=List.mem_of_getElem? (by simpa using ht)
    have h4:([27,9].all λt=>Tryz.prog.wantsStandIn t==false)=true:=by kernel_rfl
    have h5:=List.all_eq_true.1 h4 t h3
    exact(show Tryz.prog.wantsStandIn t=false by simpa using h5)⟩)
  compileBuildUpto_gb
#print axioms compileBuildUpto_card
end Go.Proofs.YtdgiglmmpbndmaaGreatDoor
