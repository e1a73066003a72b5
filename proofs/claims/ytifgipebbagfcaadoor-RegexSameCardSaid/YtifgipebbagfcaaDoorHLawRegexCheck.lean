/-
  'RegexCheck': THE PLAIN LAW.
-/
import Derived.Test.YtifgipebbagfcaaDoorHLawRxBase
import Derived.Test.YtifgipebbagfcaaDoorHAw
set_option linter.unusedVariables false
set_option linter.unusedSimpArgs false
namespace Go.Proofs.YtifgipebbagfcaaDoor
open Go Go.Av Go.Ev Go.Pl
theorem C_law15_Large (r : Rx) (hr : okRx r) : Calls' tbl N_law15_Large [.d .rx r] [] q_law15_Large (decide (200 < sz r), ()) := by
  refine calls_of rfl (conv_of t_law15_Large rfl (fun O n => x_law15_Large O n r) ?_)
  unfold G_law15_Large
  refine wp_call (C_ref15_Size r hr 200 (by decide)) (wp_id (fun _ => rfl) ?_)
  have : (decide ((((min (sz r) (200 + 1) : Nat) : Int)) > (200 : Int))) = decide (200 < sz r) := by
    by_cases h : 200 < sz r
    · rw [decide_eq_true h, decide_eq_true]
      rw [Nat.min_eq_right (by omega)]; decide
    · rw [decide_eq_false h, decide_eq_false]
      rw [Nat.min_eq_left (by omega)]; omega
  rw [this]
theorem law_RegexCheck : LawOk N_law15_RegexCheck [.rx] := by
  rintro ⟨r, _⟩ ⟨hr, _⟩
  have hr : okRx r := hr
  refine ⟨outQ q_law15_RegexCheck (true, ()), ?_, rfl⟩
  refine conv_of t_law15_RegexCheck rfl (fun O n => x_law15_RegexCheck O n r) ?_
  unfold G_law15_RegexCheck
  refine wp_call (C_law15_Large r hr) ?_
  refine wp_bif (fun _ => wp_call C_awake (wp_id (fun _ => rfl) rfl)) fun hs => ?_
  have hs : sz r ≤ 200 := by simpa using hs
  refine wp_call (C_regex_Check r (by omega)) (wp_call (C_ref15_Check r (by omega)) ?_)
  refine wp_bind (wp_and (b := true) (fun _ => wp_call C_awake (wp_some rfl)) (wp_some ?_))
  simp
end Go.Proofs.YtifgipebbagfcaaDoor
