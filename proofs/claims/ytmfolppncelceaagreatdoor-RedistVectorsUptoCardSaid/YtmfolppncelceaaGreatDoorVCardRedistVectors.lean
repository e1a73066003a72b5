/- RedistVectors: Vectors is as the reference describes, for any routes, policies and rules, for arguments of a bulk of at most 1048576. -/
import Derived.Test.YtmfolppncelceaaGreatDoorVRowRedistVectors
import Derived.Test.YtmfolppncelceaaGreatDoorCards
import Derived.Test.YtmfolppncelceaaGreatDoorTie
import Derived.SevenTiedAt
set_option linter.unusedVariables false
set_option linter.unusedSimpArgs false
open Option.some renaming inj->a_
namespace Go.Proofs.YtmfolppncelceaaGreatDoor
open Go
theorem redistVectorsUpto_card:Rows.RedistVectorsUptoCardSaid:=
 Claim7.holds_tied_plain_at .later [] [.data,.data,.data] true (true,"2a53a39f8a138243290129e7fa71613fad27049c83ce2f4e51f60a8abfeed82a") false
  redistVectorsUpto_holds (λ_ h=>by cases h) (by kernel_rfl) (λ_ h=>by cases h) redistVectorsUpto_row_tie rfl ⟨rfl,rfl⟩ (by kernel_rfl) rfl
  (λf fn hf hfn=>by
   obtain rfl:f=5:=a_ ((show Tryz.prog.funcNamed "routing/routinglaw50.RedistVectors" =some 5 by kernel_rfl).symm.trans hf) |>.symm
   obtain rfl:fn=Tryz.f5:=(a_ (Tryz.func5.symm.trans hfn)).symm
   exact⟨by kernel_rfl,λj t ht=>by
    rw[Tryz.params5]at ht
    have h3:t∈[47,27,28,29]:=List.mem_of_getElem? (by simpa using ht)
    have h4:([47,27,28,29].all λt=>Tryz.prog.wantsStandIn t==false)=true:=by kernel_rfl
    have h5:=List.all_eq_true.1 h4 t h3
    exact(show Tryz.prog.wantsStandIn t=false by simpa using h5)⟩)
  (by kernel_rfl)
#print axioms redistVectorsUpto_card
end Go.Proofs.YtmfolppncelceaaGreatDoor
