/- CommunitySets: lists are sets. Condition: the listed variables hold what the text of the program lays, which the card ties. -/
import Derived.Test.YtfgchoifgocclaaDoorSets
import Derived.Test.YtfgchoifgocclaaDoorCards
import Derived.Test.YtfgchoifgocclaaDoorTie
import Derived.SevenTiedAt
namespace Go.Proofs.YtfgchoifgocclaaDoor
open Go

theorem communitySets_card : Rows.CommunitySetsCardSaid :=
  Claim7.holds_tied_plain_at .later [] [.data, .data, .data] true (true, "25cebe09cd8adabbfa607678782c6bc46598810601ec082f24c8d9cd8504a75e") false
    sets_holds (fun _ h => by cases h) (by kernel_rfl) (fun _ h => by cases h) communitySets_row_tie rfl ⟨rfl, rfl⟩ (by kernel_rfl) rfl
    (fun f fn hf hfn => by
      obtain rfl : f = 8 := Option.some.inj ((show Tryd.prog.funcNamed "routing/routinglaw18.CommunitySets" = some 8 by kernel_rfl).symm.trans hf) |>.symm
      obtain rfl : fn = Tryd.f8 := (Option.some.inj (Tryd.func8.symm.trans hfn)).symm
      exact ⟨by kernel_rfl, fun j t ht => by
        rw [Tryd.params8] at ht
        have h3 : t = 22 ∨ t = 43 := by
          rcases j with _ | _ | _ | j
          · left; simpa using ht.symm
          · left; simpa using ht.symm
          · right; simpa using ht.symm
          · simp at ht
        rcases h3 with rfl | rfl
        · exact (show Tryd.prog.wantsStandIn 22 = false by kernel_rfl)
        · exact (show Tryd.prog.wantsStandIn 43 = false by kernel_rfl)⟩)
    (by kernel_rfl)
#print axioms communitySets_card
end Go.Proofs.YtfgchoifgocclaaDoor
