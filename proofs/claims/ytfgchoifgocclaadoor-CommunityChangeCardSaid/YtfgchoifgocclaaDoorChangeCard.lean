/- CommunityChange: lists are changed as defined. Condition: the listed variables hold what the text of the program lays, which the card ties. -/
import Derived.Test.YtfgchoifgocclaaDoorChange
import Derived.Test.YtfgchoifgocclaaDoorCards
import Derived.Test.YtfgchoifgocclaaDoorTie
import Derived.SevenTiedAt
namespace Go.Proofs.YtfgchoifgocclaaDoor
open Go

theorem communityChange_card : Rows.CommunityChangeCardSaid :=
  Claim7.holds_tied_plain_at .later [] [.data, .data, .data] true (true, "25cebe09cd8adabbfa607678782c6bc46598810601ec082f24c8d9cd8504a75e") false
    change_holds (fun _ h => by cases h) (by kernel_rfl) (fun _ h => by cases h) communityChange_row_tie rfl ⟨rfl, rfl⟩ (by kernel_rfl) rfl
    (fun f fn hf hfn => by
      obtain rfl : f = 6 := Option.some.inj ((show Tryd.prog.funcNamed "routing/routinglaw18.CommunityChange" = some 6 by kernel_rfl).symm.trans hf) |>.symm
      obtain rfl : fn = Tryd.f6 := (Option.some.inj (Tryd.func6.symm.trans hfn)).symm
      exact ⟨by kernel_rfl, fun j t ht => by
        rw [Tryd.params6] at ht
        have h3 : t = 22 ∨ t = 27 := by
          rcases j with _ | _ | _ | j
          · left; simpa using ht.symm
          · left; simpa using ht.symm
          · right; simpa using ht.symm
          · simp at ht
        rcases h3 with rfl | rfl
        · exact (show Tryd.prog.wantsStandIn 22 = false by kernel_rfl)
        · exact (show Tryd.prog.wantsStandIn 27 = false by kernel_rfl)⟩)
    (by kernel_rfl)
#print axioms communityChange_card
end Go.Proofs.YtfgchoifgocclaaDoor
