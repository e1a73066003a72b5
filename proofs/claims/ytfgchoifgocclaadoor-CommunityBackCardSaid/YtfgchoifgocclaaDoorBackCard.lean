/- CommunityBack: a community is parsed from its text. Condition: the listed variables hold what the text of the program lays, which the card ties. -/
import Derived.Test.YtfgchoifgocclaaDoorBack
import Derived.Test.YtfgchoifgocclaaDoorCards
import Derived.Test.YtfgchoifgocclaaDoorTie
import Derived.SevenTiedAt
namespace Go.Proofs.YtfgchoifgocclaaDoor
open Go

theorem communityBack_card : Rows.CommunityBackCardSaid :=
  Claim7.holds_tied_plain_at .later [] [.data, .data, .data] true (true, "25cebe09cd8adabbfa607678782c6bc46598810601ec082f24c8d9cd8504a75e") false
    back_holds (fun _ h => by cases h) (by kernel_rfl) (fun _ h => by cases h) communityBack_row_tie rfl ⟨rfl, rfl⟩ (by kernel_rfl) rfl
    (fun f fn hf hfn => by
      obtain rfl : f = 4 := Option.some.inj ((show Tryd.prog.funcNamed "routing/routinglaw18.CommunityBack" = some 4 by kernel_rfl).symm.trans hf) |>.symm
      obtain rfl : fn = Tryd.f4 := (Option.some.inj (Tryd.func4.symm.trans hfn)).symm
      exact ⟨by kernel_rfl, fun j t ht => by
        rw [Tryd.params4] at ht
        have h3 : t = 27 := by
          rcases j with _ | j
          · simpa using ht.symm
          · simp at ht
        subst h3
        exact (show Tryd.prog.wantsStandIn 27 = false by kernel_rfl)⟩)
    (by kernel_rfl)
#print axioms communityBack_card
end Go.Proofs.YtfgchoifgocclaaDoor
