/-
  'RegexSame': comparison considers all fields.
-/
import Derived.Test.YtifgipebbagfcaaDoorHLawRegexCheck
set_option linter.unusedVariables false
set_option linter.unusedSimpArgs false
namespace Go.Proofs.YtifgipebbagfcaaDoor
open Go Go.Av Go.Ev Go.Pl
noncomputable def eqR (a b : Rx) : Bool := @decide (a = b) (Classical.propDecidable _)
theorem eqR_iff {a b : Rx} : eqR a b = true ↔ a = b := ⟨@of_decide_eq_true _ (Classical.propDecidable _), @decide_eq_true _ (Classical.propDecidable _)⟩
theorem eqR_no {a b : Rx} (h : a ≠ b) : eqR a b = false := by
  cases e : eqR a b
  · rfl
  · exact absurd (eqR_iff.1 e) h
theorem C_regex_Same : ∀ (a : Rx), sz a ≤ 1000000 → ∀ b : Rx, Calls' tbl N_regex_Same [.d .rx a, .d .rx b] [] q_regex_Same (eqR a b, ()) := by
  refine rx_ind fun k lo up ks ih hs b => ?_
  obtain ⟨hlen, hkid⟩ := rx_kid hs
  obtain ⟨k2, lo2, up2, ks2⟩ := b
  refine calls_of rfl (conv_of t_regex_Same rfl (fun O m => x_regex_Same O m (.mk k lo up ks) (.mk k2 lo2 up2 ks2)) ?_)
  unfold G_regex_Same
  refine wp_bind (wp_or (fun _ => wp_some rfl) (wp_bind (wp_or (fun _ => wp_some rfl) (wp_bind (wp_or (fun _ => wp_some rfl) ?_)))))
  show Wp _ _
  refine wp_bif (fun h => wp_some ?_) fun h => ?_
  · have h : (k != k2 || lo != lo2 || up != up2 || ((ks.length : Int) != (ks2.length : Int))) = true := h
    rw [eqR_no (fun e => ?_)]
    cases e
    simp at h
  · have h : (k != k2 || lo != lo2 || up != up2 || ((ks.length : Int) != (ks2.length : Int))) = false := h
    simp only [Bool.or_eq_false_iff, bne_eq_false_iff_eq] at h
    obtain ⟨⟨⟨rfl, rfl⟩, rfl⟩, hl⟩ := h
    have hl : ks.length = ks2.length := by omega
    refine wp_bind (wp_all (N := ks.length) (good := fun i => ks[i]? = ks2[i]?) (e := (false, ())) (g := ()) (fun i hi => ?_) ?_ (fun hg => wp_some ?_) (fun hb => wp_some ?_))
    · unfold L_regex_Same_0
      refine wp_in hi (wp_get0 hi (wp_get0 (show i < ks2.length by omega) ?_))
      have hr := List.getElem_mem hi
      refine wp_call (ih ks[i] hr (by have := hkid _ hr; omega) _) (wp_stop ?_ (by rw [wrap_succ hi (by omega)]))
      show (!eqR ks[i] (ks2[i]'(by omega))) = true ↔ _
      rw [List.getElem?_eq_getElem hi, List.getElem?_eq_getElem (show i < ks2.length by omega)]
      simp only [Option.some.injEq, ← eqR_iff]
      cases eqR ks[i] (ks2[i]'(by omega)) <;> simp
    · unfold L_regex_Same_0
      exact wp_out (wp_some rfl)
    · have : ks = ks2 := List.ext_getElem? fun i => by
        by_cases hi : i < ks.length
        · exact hg i hi
        · rw [List.getElem?_eq_none (by omega), List.getElem?_eq_none (by omega)]
      subst this
      rw [eqR_iff.2 rfl]
    · obtain ⟨i, hi, hn⟩ := hb
      rw [eqR_no (fun e => hn (by cases e; rfl))]
theorem C_ref15_Same : ∀ (a : Rx), sz a ≤ 1000000 → ∀ b : Rx, Calls' tbl N_ref15_Same [.d .rx a, .d .rx b] [] q_ref15_Same (eqR a b, ()) := by
  refine rx_ind fun k lo up ks ih hs b => ?_
  obtain ⟨hlen, hkid⟩ := rx_kid hs
  obtain ⟨k2, lo2, up2, ks2⟩ := b
  refine calls_of rfl (conv_of t_ref15_Same rfl (fun O m => x_ref15_Same O m (.mk k lo up ks) (.mk k2 lo2 up2 ks2)) ?_)
  unfold G_ref15_Same
  refine wp_bind (wp_or (fun _ => wp_some rfl) (wp_bind (wp_or (fun _ => wp_some rfl) (wp_bind (wp_or (fun _ => wp_some rfl) ?_)))))
  show Wp _ _
  refine wp_bif (fun h => wp_some ?_) fun h => ?_
  · have h : (k != k2 || lo != lo2 || up != up2 || ((ks.length : Int) != (ks2.length : Int))) = true := h
    rw [eqR_no (fun e => ?_)]
    cases e
    simp at h
  · have h : (k != k2 || lo != lo2 || up != up2 || ((ks.length : Int) != (ks2.length : Int))) = false := h
    simp only [Bool.or_eq_false_iff, bne_eq_false_iff_eq] at h
    obtain ⟨⟨⟨rfl, rfl⟩, rfl⟩, hl⟩ := h
    have hl : ks.length = ks2.length := by omega
    refine wp_bind (wp_all (N := ks.length) (good := fun i => ks[i]? = ks2[i]?) (e := (false, ())) (g := ()) (fun i hi => ?_) ?_ (fun hg => wp_some ?_) (fun hb => wp_some ?_))
    · unfold L_ref15_Same_0
      refine wp_in hi (wp_get0 hi (wp_get0 (show i < ks2.length by omega) ?_))
      have hr := List.getElem_mem hi
      refine wp_call (ih ks[i] hr (by have := hkid _ hr; omega) _) (wp_stop ?_ (by rw [wrap_succ hi (by omega)]))
      show (!eqR ks[i] (ks2[i]'(by omega))) = true ↔ _
      rw [List.getElem?_eq_getElem hi, List.getElem?_eq_getElem (show i < ks2.length by omega)]
      simp only [Option.some.injEq, ← eqR_iff]
      cases eqR ks[i] (ks2[i]'(by omega)) <;> simp
    · unfold L_ref15_Same_0
      exact wp_out (wp_some rfl)
    · have : ks = ks2 := List.ext_getElem? fun i => by
        by_cases hi : i < ks.length
        · exact hg i hi
        · rw [List.getElem?_eq_none (by omega), List.getElem?_eq_none (by omega)]
      subst this
      rw [eqR_iff.2 rfl]
    · obtain ⟨i, hi, hn⟩ := hb
      rw [eqR_no (fun e => hn (by cases e; rfl))]
theorem law_RegexSame : LawOk N_law15_RegexSame [.rx, .rx] := by
  rintro ⟨a, b, _⟩ ⟨ha, hb, _⟩
  have ha : okRx a := ha
  have hb : okRx b := hb
  refine ⟨outQ q_law15_RegexSame (true, ()), ?_, rfl⟩
  refine conv_of t_law15_RegexSame rfl (fun O n => x_law15_RegexSame O n a b) ?_
  unfold G_law15_RegexSame
  refine wp_call (C_law15_Large a ha) ?_
  refine wp_bind (wp_or (fun _ => wp_call (C_law15_Large b hb) (wp_some rfl)) ?_)
  refine wp_bif (fun _ => wp_call C_awake (wp_id (fun _ => rfl) rfl)) fun hs => ?_
  have hs : sz a ≤ 200 := by
    have h : (decide (200 < sz a) || decide (200 < sz b)) = false := hs
    simp at h
    omega
  refine wp_call (C_regex_Same a (by omega) b) (wp_call (C_ref15_Same a (by omega) b) ?_)
  refine wp_bind (wp_and (b := true) (fun _ => wp_call (C_regex_Same a (by omega) a) (wp_some (eqR_iff.2 rfl))) (wp_bind (wp_and (b := true) (fun _ => wp_call C_awake (wp_some rfl)) (wp_some ?_))))
  simp
end Go.Proofs.YtifgipebbagfcaaDoor
