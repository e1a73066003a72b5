/- CommunityCheck: the errors of lists are as defined. Condition: the listed variables hold what the text of the program lays, which the card ties. -/
import Derived.Test.YtfgchoifgocclaaDoorCheck
import Derived.Test.YtfgchoifgocclaaDoorCards
import Derived.Test.YtfgchoifgocclaaDoorTie
import Derived.SevenTiedAt
namespace Go.Proofs.YtfgchoifgocclaaDoor
open Go

theorem communityCheck_card : Rows.CommunityCheckCardSaid :=
  Claim7.holds_tied_plain_at .later [] [.data, .data, .data] true (true, "25cebe09cd8adabbfa607678782c6bc46598810601ec082f24c8d9cd8504a75e") false
    check_holds (fun _ h => by cases h) (by kernel_rfl) (fun _ h => by cases h) communityCheck_row_tie rfl ⟨rfl, rfl⟩ (by kernel_rfl) rfl
    (fun f fn hf hfn => by
      obtain rfl : f = 3 := Option.some.inj ((show Tryd.prog.funcNamed "routing/routinglaw18.CommunityCheck" = some 3 by kernel_rfl).symm.trans hf) |>.symm
      obtain rfl : fn = Tryd.f3 := (Option.some.inj (Tryd.func3.symm.trans hfn)).symm
      exact ⟨by kernel_rfl, fun j t ht => by
        rw [Tryd.params3] at ht
        have h3 : t = 22 := by
          rcases j with _ | j
          · simpa using ht.symm
          · simp at ht
        subst h3
        exact (show Tryd.prog.wantsStandIn 22 = false by kernel_rfl)⟩)
    (by kernel_rfl)
#print axioms communityCheck_card
end Go.Proofs.YtfgchoifgocclaaDoor
