/- ApplySame: comparison considers all fields. -/
import Derived.Test.YthjnceggmnicmaaGreatDoorMRowApplySame
import Derived.Test.YthjnceggmnicmaaGreatDoorCards
import Derived.Test.YthjnceggmnicmaaGreatDoorTie
import Derived.SevenTiedAt
set_option linter.unusedVariables false
set_option linter.unusedSimpArgs false
open Option.some renaming inj->a_
namespace Go.Proofs.YthjnceggmnicmaaGreatDoor
open Go
theorem applySame_card:Rows.ApplySameCardSaid:=
 Claim7.holds_tied_plain_at .later [] [.data,.data,.data] true (true,"83b3ce7da9d2c1a416f1bdfa3e2a25344b6b65b8ee28d03297c75b439994b01f") false
  applySame_holds (λ_ h=>by cases h) (by kernel_rfl) (λ_ h=>by cases h) applySame_row_tie rfl ⟨rfl,rfl⟩ (by kernel_rfl) rfl
  (λf fn hf hfn=>by
   obtain rfl:f=9:=a_ ((show Tryz.prog.funcNamed "routing/routinglaw21.ApplySame" =some 9 by kernel_rfl).symm.trans hf) |>.symm
   obtain rfl:fn=Tryz.f9:=(a_ (Tryz.func9.symm.trans hfn)).symm
   exact⟨by kernel_rfl,λj t ht=>by
    rw[Tryz.params9]at ht
    have h3:t∈[29,29]:=List.mem_of_getElem? (by simpa using ht)
    have h4:([29,29].all λt=>Tryz.prog.wantsStandIn t==false)=true:=by kernel_rfl
    have h5:=List.all_eq_true.1 h4 t h3
    exact(show Tryz.prog.wantsStandIn t=false by simpa using h5)⟩)
  (by kernel_rfl)
#print axioms applySame_card
end Go.Proofs.YthjnceggmnicmaaGreatDoor
