/-
  'RegexBack': patterns are printed and parsed back.
-/
import Derived.Test.YtifgipebbagfcaaDoorKLawRegexParse
set_option linter.unusedVariables false
set_option linter.unusedSimpArgs false
namespace Go.Proofs.YtifgipebbagfcaaDoor
open Go Go.Av Go.Ev Go.Pl Go.Lib
theorem law_RegexBack : LawOk N_law15_RegexBack [.rx] := by
  rintro ⟨r, _⟩ ⟨hr, _⟩
  have hr : okRx r := hr
  refine ⟨outQ q_law15_RegexBack (true, ()), ?_, rfl⟩
  refine conv_of t_law15_RegexBack rfl (fun O n => x_law15_RegexBack O n r) ?_
  unfold G_law15_RegexBack
  refine wp_call (C_law15_Large r hr) ?_
  refine wp_bif (fun _ => wp_call C_awake (wp_id (fun _ => rfl) rfl)) fun hs => ?_
  have hs : sz r ≤ 200 := by simpa using hs
  refine wp_call (C_regex_Print r (by omega)) (wp_call (C_ref15_Print r (by omega)) ?_)
  refine wp_bind (wp_or (b := false) (fun _ => wp_some ?_) ?_)
  · show (checkE r != checkE r) = false
    simp
  refine wp_bif (fun h => ?_) fun _ => ?_
  · have h : ((!((if checkE r = 0 then pat r else []) == (if checkE r = 0 then pat r else []))) || false) = true := h
    simp at h
  refine wp_bif (fun _ => wp_call C_awake (wp_id (fun _ => rfl) rfl)) fun h => ?_
  have h0 : checkE r = 0 := by
    have h : (checkE r != 0) = false := h
    simpa using h
  obtain ⟨h1, h2, _⟩ := valid_dep h0
  have hl := pat_len r h1
  obtain ⟨c, hc1, hc2⟩ := C_regex_Parse (pat r) (by omega)
  have hc : c = (r, 0, ()) := hc1.uniq (by omega) (.inl ⟨r, h0, rfl, rfl⟩)
  subst hc
  simp only [if_pos h0]
  refine wp_call hc2 ?_
  refine wp_bind (wp_and (b := true) (fun _ => ?_) ?_)
  · rw [rx_eta]
    exact wp_call (C_ref15_Same r hr r) (wp_some (eqR_iff.2 rfl))
  refine wp_bind (wp_and (b := true) (fun _ => wp_call C_awake (wp_some rfl)) (wp_some ?_))
  rfl
end Go.Proofs.YtifgipebbagfcaaDoor
