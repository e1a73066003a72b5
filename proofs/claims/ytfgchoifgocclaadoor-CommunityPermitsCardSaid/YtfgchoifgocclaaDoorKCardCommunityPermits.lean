/- CommunityPermits: rules apply as defined. -/
import Derived.Test.YtfgchoifgocclaaDoorKRowCommunityPermits
import Derived.Test.YtfgchoifgocclaaDoorCards
import Derived.Test.YtfgchoifgocclaaDoorTie
import Derived.SevenTiedAt
set_option linter.all false
/-
  'CommunityPermits': THE CARD, PROVED.
-/
namespace Go.Proofs.YtfgchoifgocclaaDoor
open Go

theorem communityPermits_card : Rows.CommunityPermitsCardSaid :=
  Claim7.holds_tied_plain_at .later [] [.data, .data, .data] true (true, "25cebe09cd8adabbfa607678782c6bc46598810601ec082f24c8d9cd8504a75e") false
    communityPermits_holds (fun _ h => by cases h) (by kernel_rfl) (fun _ h => by cases h) communityPermits_row_tie rfl ⟨rfl, rfl⟩ (by kernel_rfl) rfl
    (fun f fn hf hfn => by
      obtain rfl : f = 7 := Option.some.inj ((show Tryd.prog.funcNamed "routing/routinglaw18.CommunityPermits" = some 7 by kernel_rfl).symm.trans hf) |>.symm
      obtain rfl : fn = Tryd.f7 := (Option.some.inj (Tryd.func7.symm.trans hfn)).symm
      exact ⟨by kernel_rfl, fun j t ht => by
        rw [Tryd.params7] at ht
        have h3 : t ∈ [38, 22] := List.mem_of_getElem? (by simpa using ht)
        have h4 : ([38, 22].all fun t => Tryd.prog.wantsStandIn t == false) = true := by kernel_rfl
        have h5 := List.all_eq_true.1 h4 t h3
        exact (show Tryd.prog.wantsStandIn t = false by simpa using h5)⟩)
    (by kernel_rfl)
#print axioms communityPermits_card
end Go.Proofs.YtfgchoifgocclaaDoor
