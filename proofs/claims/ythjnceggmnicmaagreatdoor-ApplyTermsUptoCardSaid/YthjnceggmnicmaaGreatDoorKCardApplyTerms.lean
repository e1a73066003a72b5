/- ApplyTerms: the terms that hold, for arguments of a bulk of at most 1048576. -/
import Derived.Test.YthjnceggmnicmaaGreatDoorKRowApplyTerms
import Derived.Test.YthjnceggmnicmaaGreatDoorCards
import Derived.Test.YthjnceggmnicmaaGreatDoorTie
import Derived.SevenTiedAt
set_option linter.unusedVariables false
set_option linter.unusedSimpArgs false
open Option.some renaming inj->a_
namespace Go.Proofs.YthjnceggmnicmaaGreatDoor
open Go
theorem applyTermsUpto_card:Rows.ApplyTermsUptoCardSaid:=
 Claim7.holds_tied_plain_at .later [] [.data,.data,.data] true (true,"83b3ce7da9d2c1a416f1bdfa3e2a25344b6b65b8ee28d03297c75b439994b01f") false
  applyTermsUpto_holds (λ_ h=>by cases h) (by kernel_rfl) (λ_ h=>by cases h) applyTermsUpto_row_tie rfl ⟨rfl,rfl⟩ (by kernel_rfl) rfl
  (λf fn hf hfn=>by
   obtain rfl:f=7:=a_ ((show Tryz.prog.funcNamed "routing/routinglaw21.ApplyTerms" =some 7 by kernel_rfl).symm.trans hf) |>.symm
   obtain rfl:fn=Tryz.f7:=(a_ (Tryz.func7.symm.trans hfn)).symm
   exact⟨by kernel_rfl,λj t ht=>by
    rw[Tryz.params7]at ht
    have h3:t∈[39,9,29]:=List.mem_of_getElem? (by simpa using ht)
    have h4:([39,9,29].all λt=>Tryz.prog.wantsStandIn t==false)=true:=by kernel_rfl
    have h5:=List.all_eq_true.1 h4 t h3
    exact(show Tryz.prog.wantsStandIn t=false by simpa using h5)⟩)
  (by kernel_rfl)
#print axioms applyTermsUpto_card
end Go.Proofs.YthjnceggmnicmaaGreatDoor
