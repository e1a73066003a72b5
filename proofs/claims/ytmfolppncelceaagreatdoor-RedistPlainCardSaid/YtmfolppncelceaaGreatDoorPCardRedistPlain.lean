/- RedistPlain: without policies, every route of an active list whose protocol is the From of a rule with the destination is redistributed, with the metric of the first such rule, or its own if that is 0. -/
import Derived.Test.YtmfolppncelceaaGreatDoorPRowRedistPlain
import Derived.Test.YtmfolppncelceaaGreatDoorCards
import Derived.Test.YtmfolppncelceaaGreatDoorTie
import Derived.SevenTiedAt
set_option linter.unusedVariables false
set_option linter.unusedSimpArgs false
open Option.some renaming inj->a_
namespace Go.Proofs.YtmfolppncelceaaGreatDoor
open Go
theorem redistPlain_card:Rows.RedistPlainCardSaid:=
 Claim7.holds_tied_plain_at .later [] [.data,.data,.data] true (true,"2a53a39f8a138243290129e7fa71613fad27049c83ce2f4e51f60a8abfeed82a") false
  redistPlain_holds (λ_ h=>by cases h) (by kernel_rfl) (λ_ h=>by cases h) redistPlain_row_tie rfl ⟨rfl,rfl⟩ (by kernel_rfl) rfl
  (λf fn hf hfn=>by
   obtain rfl:f=6:=a_ ((show Tryz.prog.funcNamed "routing/routinglaw50.RedistPlain" =some 6 by kernel_rfl).symm.trans hf) |>.symm
   obtain rfl:fn=Tryz.f6:=(a_ (Tryz.func6.symm.trans hfn)).symm
   exact⟨by kernel_rfl,λj t ht=>by
    rw[Tryz.params6]at ht
    have h3:t∈[47,28,29]:=List.mem_of_getElem? (by simpa using ht)
    have h4:([47,28,29].all λt=>Tryz.prog.wantsStandIn t==false)=true:=by kernel_rfl
    have h5:=List.all_eq_true.1 h4 t h3
    exact(show Tryz.prog.wantsStandIn t=false by simpa using h5)⟩)
  (by kernel_rfl)
#print axioms redistPlain_card
end Go.Proofs.YtmfolppncelceaaGreatDoor
