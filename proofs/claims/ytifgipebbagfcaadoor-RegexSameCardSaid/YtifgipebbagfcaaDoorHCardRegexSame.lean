/- RegexSame: comparison considers all fields. Condition: the listed variables hold what the text of the program lays, which the card ties. -/
import Derived.Test.YtifgipebbagfcaaDoorHRowRegexSame
import Derived.Test.YtifgipebbagfcaaDoorCards
import Derived.Test.YtifgipebbagfcaaDoorTie
import Derived.SevenTiedAt
set_option linter.unusedVariables false
set_option linter.unusedSimpArgs false
namespace Go.Proofs.YtifgipebbagfcaaDoor
open Go
theorem regexSame_card : Rows.RegexSameCardSaid :=
  Claim7.holds_tied_plain_at .later [] [.data, .data, .data] true (true, "e3f80b5caf63177ee680584248498434ed72c4fcae6f7725d1116f2372c59b44") false
    regexSame_holds (fun _ h => by cases h) (by kernel_rfl) (fun _ h => by cases h) regexSame_row_tie rfl ⟨rfl, rfl⟩ (by kernel_rfl) rfl
    (fun f fn hf hfn => by
      obtain rfl : f = 8 := Option.some.inj ((show Tryd.prog.funcNamed "routing/routinglaw15.RegexSame" = some 8 by kernel_rfl).symm.trans hf) |>.symm
      obtain rfl : fn = Tryd.f8 := (Option.some.inj (Tryd.func8.symm.trans hfn)).symm
      exact ⟨by kernel_rfl, fun j t ht => by
        rw [Tryd.params8] at ht
        have h3 : t ∈ [24, 24] := List.mem_of_getElem? (by simpa using ht)
        have h4 : ([24, 24].all fun t => Tryd.prog.wantsStandIn t == false) = true := by kernel_rfl
        have h5 := List.all_eq_true.1 h4 t h3
        exact (show Tryd.prog.wantsStandIn t = false by simpa using h5)⟩)
    (by kernel_rfl)
#print axioms regexSame_card
end Go.Proofs.YtifgipebbagfcaaDoor
