/-
  'DfaNot': THE PLAIN LAW.
-/
import Derived.Test.YtbpdbooalkkenaaHLawDfaRun
set_option linter.unusedVariables false
set_option linter.unusedSimpArgs false
namespace Go.Proofs.Ytbpdbooalkkenaa
open Go Go.Av Go.Ev
open Classical in
noncomputable def notS (d : DF) : DF := if Good d then (d.1, d.2.1, d.2.2.1.map (! ·), d.2.2.2.1, ()) else ([], [], [], 0, ())
theorem notS_good {d : DF} (h : Good d) : notS d = (d.1, d.2.1, d.2.2.1.map (! ·), d.2.2.2.1, ()) := by unfold notS; rw [if_pos h]
theorem good_not {d : DF} (h : Good d) : Good (notS d) := by
  rw [notS_good h]
  have := h.small
  exact ⟨h.starts, by unfold Big at this ⊢; simpa using this, ⟨h.len.1, by simpa using h.len.2⟩, h.rows, h.start, h.to⟩
theorem okDF_good {d : DF} (h : Good d) : OkDF d := by
  have hl := good_len h
  exact ⟨by omega, by omega, fun r hr => by rw [h.rows r hr]; omega, by omega⟩
theorem C_dfa_Not (d : DF) : Calls' tbl N_dfa_Not [.d (pr [.list tI, .list (.list tI), .list tB, tI]) d] [] q_dfa_Not (notS d, ()) := by
  refine calls_of rfl (conv_of t_dfa_Not rfl (fun O n => x_dfa_Not O n d) ?_)
  unfold G_dfa_Not
  refine wp_call (C_dfa_Check d) (wp_bif (fun h => wp_some ?_) fun h => ?_)
  · have : ¬ Good d := fun hg => by rw [good_iff.2 hg] at h; simp at h
    rw [show notS d = ([], [], [], 0, ()) from by unfold notS; rw [if_neg this]]
  have hg : Good d := good_iff.1 (by simpa using h)
  have hl := good_len hg
  have hn := hg.len
  refine wp_guard (decide_eq_true (by simp; omega)) ?_
  refine wp_bind (wp_range (N := d.2.1.length) (I := fun i s => s = ((i : Int), (0 : Int), ([] : List Int) ++ d.1, d.2.2.2.1, d.2.1.take i, (d.2.2.1.take i).map (! ·), ())) (by simp) ?_ ?_)
  · rintro i s hi rfl
    have h2 : i < d.2.2.1.length := by omega
    unfold L_dfa_Not_0
    have hr := hg.rows _ (List.getElem_mem hi)
    refine wp_in hi (wp_get0 hi (wp_guard (decide_eq_true (by simp; omega)) (wp_guard (decide_eq_true (by simp; omega)) (wp_get0 h2 (wp_guard (decide_eq_true (by simp; omega)) (wp_some ?_))))))
    simp only [wrap_succ hi (by omega), List.take_add_one, List.getElem?_eq_getElem hi, List.getElem?_eq_getElem h2, List.map_append, Option.toList_some, List.map_cons, List.map_nil, List.nil_append]
  · rintro s rfl
    unfold L_dfa_Not_0
    refine wp_out (wp_some (wp_some ?_))
    rw [notS_good hg]
    simp only [List.take_length, List.nil_append]
    rw [List.take_of_length_le (by omega)]
theorem C_ref16_Not (d : DF) : Calls' tbl N_ref16_Not [.d (pr [.list tI, .list (.list tI), .list tB, tI]) d] [] q_ref16_Not (notS d, ()) := by
  refine calls_of rfl (conv_of t_ref16_Not rfl (fun O n => x_ref16_Not O n d) ?_)
  unfold G_ref16_Not
  refine wp_call (C_ref16_Check d) (wp_bif (fun h => wp_some ?_) fun h => ?_)
  · have : ¬ Good d := fun hg => by rw [good_iff.2 hg] at h; simp at h
    rw [show notS d = ([], [], [], 0, ()) from by unfold notS; rw [if_neg this]]
  have hg : Good d := good_iff.1 (by simpa using h)
  have hl := good_len hg
  have hn := hg.len
  refine wp_guard (decide_eq_true (by simp; omega)) ?_
  refine wp_bind (wp_range (N := d.2.1.length) (I := fun i s => s = ((i : Int), (0 : Int), ([] : List Int) ++ d.1, d.2.2.2.1, d.2.1.take i, (d.2.2.1.take i).map (! ·), ())) (by simp) ?_ ?_)
  · rintro i s hi rfl
    have h2 : i < d.2.2.1.length := by omega
    unfold L_ref16_Not_0
    have hr := hg.rows _ (List.getElem_mem hi)
    refine wp_in hi (wp_get0 hi (wp_guard (decide_eq_true (by simp; omega)) (wp_guard (decide_eq_true (by simp; omega)) (wp_get0 h2 (wp_guard (decide_eq_true (by simp; omega)) (wp_some ?_))))))
    simp only [wrap_succ hi (by omega), List.take_add_one, List.getElem?_eq_getElem hi, List.getElem?_eq_getElem h2, List.map_append, Option.toList_some, List.map_cons, List.map_nil, List.nil_append]
  · rintro s rfl
    unfold L_ref16_Not_0
    refine wp_out (wp_some (wp_some ?_))
    rw [notS_good hg]
    simp only [List.take_length, List.nil_append]
    rw [List.take_of_length_le (by omega)]
theorem run_good {d : DF} (hg : Good d) : ∀ (l : List Int) (s0 : Int), 0 ≤ s0 ∧ s0 < (d.2.1.length : Int) → (∀ v ∈ l, 0 ≤ v ∧ v ≤ 4294967295) → ∃ s, foldE (stepE d) s0 l = .inl s ∧ 0 ≤ s ∧ s < (d.2.1.length : Int)
  | [], s0, h0, _ => ⟨s0, rfl, h0⟩
  | x :: l, s0, h0, hv => by
    have hx := hv x (List.mem_cons_self ..)
    obtain ⟨_, _, _, h4⟩ := stepS_at hg h0.1 h0.2 hx.1
    obtain ⟨s, hs, h5⟩ := run_good hg l (stepS d s0 x) h4 fun v hv' => hv v (List.mem_cons_of_mem _ hv')
    refine ⟨s, ?_, h5⟩
    have e : stepE d s0 x = .inl (stepS d s0 x) := by
      unfold stepE
      rw [show (decide (x < 0) || decide (x > 4294967295)) = false by simp; omega]; rfl
    simp only [foldE, e, hs]
theorem run_bad {d : DF} : ∀ (l : List Int) (s0 : Int) (v : Int), v ∈ l → (v < 0 ∨ v > 4294967295) → foldE (stepE d) s0 l = .inr false
  | x :: l, s0, v, hv, hb => by
    cases hx : decide (x < 0) || decide (x > 4294967295)
    · have e : stepE d s0 x = .inl (stepS d s0 x) := by unfold stepE; rw [hx]; rfl
      have hv' : v ∈ l := by
        rcases List.mem_cons.1 hv with rfl | h
        · simp only [Bool.or_eq_false_iff, decide_eq_false_iff_not] at hx; omega
        · exact h
      simp only [foldE, e, run_bad l _ v hv' hb]
    · have e : stepE d s0 x = .inr false := by unfold stepE; rw [hx]; rfl
      simp only [foldE, e]
theorem match_bad {d : DF} {l : List Int} {v : Int} (hv : v ∈ l) (hb : v < 0 ∨ v > 4294967295) : matchS d l = false := by
  unfold matchS
  rw [run_bad l _ v hv hb]
  split <;> rfl
theorem stepE_not {d : DF} (h : Good d) : stepE (notS d) = stepE d := by rw [notS_good h]; rfl
theorem match_not {d : DF} {l : List Int} (hg : Good d) (hv : ∀ v ∈ l, 0 ≤ v ∧ v ≤ 4294967295) : matchS (notS d) l = !matchS d l := by
  unfold matchS
  rw [if_pos hg, if_pos (good_not hg), stepE_not hg]
  obtain ⟨s, hs, h1, h2⟩ := run_good hg l _ hg.start hv
  rw [show (notS d).2.2.2.1 = d.2.2.2.1 from by rw [notS_good hg], hs, show (notS d).2.2.1 = d.2.2.1.map (! ·) from by rw [notS_good hg]]
  have h3 : s.toNat < d.2.2.1.length := by have := hg.len; omega
  simp only [List.getD_eq_getElem?_getD, List.getElem?_map, List.getElem?_eq_getElem h3, Option.map_some, Option.getD_some]
theorem not_not_S {d : DF} (h : Good d) : notS (notS d) = d := by
  rw [notS_good (good_not h), notS_good h]
  refine Prod.ext rfl (Prod.ext rfl (Prod.ext ?_ rfl))
  simp only [List.map_map]
  exact (List.map_congr_left fun x _ => by simp).trans (List.map_id _)
theorem law_DfaNot : LawOk N_law16_DfaNot [pr [.list tI, .list (.list tI), .list tB, tI], .list tI] := by
  rintro ⟨d, path, _⟩ ⟨_, hp, _⟩
  have hp : path.length ≤ 9223372036854775807 := hp.1
  refine ⟨outQ q_law16_DfaNot (true, ()), ?_, rfl⟩
  refine conv_of t_law16_DfaNot rfl (fun O n => x_law16_DfaNot O n d path) ?_
  unfold G_law16_DfaNot
  refine wp_call (C_law16_Large d) ?_
  refine wp_bind (wp_or (fun _ => wp_some rfl) ?_)
  refine wp_bif (fun _ => wp_call C_awake (wp_some rfl)) fun _ => ?_
  have hok : OkDF (notS d) := by
    by_cases hg : Good d
    · exact okDF_good (good_not hg)
    · unfold notS; rw [if_neg hg]; exact ⟨by simp, by simp, by simp, by simp⟩
  refine wp_call (C_dfa_Not d) (wp_call (C_ref16_Not d) (wp_call (C_ref16_Equal _ _ hok) ?_))
  refine wp_bif (fun h => absurd h (by simp)) fun _ => ?_
  refine wp_call (C_ref16_Check d) (wp_bif (fun _ => wp_call C_awake (wp_some rfl)) fun h => ?_)
  have hg : Good d := good_iff.1 (by simpa using h)
  refine wp_bind (wp_foldE (xs := path) (σ := Unit) (f := fun _ v => bif decide (v < 0) || decide (v > 4294967295) then (.inr true : Unit ⊕ Bool) else .inl ()) (s0 := ()) (Inv := fun _ => True) (enc := fun i _ => ((i : Int), (notS d).1, (notS d).2.1, (notS d).2.2.1, (notS d).2.2.2.1, ())) (oE := fun _ => .inr ((notS d).1, (notS d).2.1, (notS d).2.2.1, (notS d).2.2.2.1, ())) (oB := fun b => .inl (b, ())) trivial (fun i hi s _ => ?_) (fun s _ => ?_) ?_)
  · unfold L_law16_DfaNot_0
    refine wp_in hi (wp_get0 hi (wp_bind (wp_or (fun _ => wp_some rfl) (wp_bif (fun hb => ?_) fun hb => wp_some ?_))))
    · have hb' : path[i] < 0 ∨ path[i] > 4294967295 := by simpa using hb
      have hm := List.getElem_mem hi
      refine wp_call (C_dfa_Match (notS d) path hp) (wp_bind (wp_and (b := true) (fun _ => wp_call (C_dfa_Match d path hp) (wp_some ?_)) (wp_bind (wp_and (b := true) (fun _ => wp_call C_awake (wp_some rfl)) (wp_some ?_)))))
      · rw [match_bad hm hb']; rfl
      · rw [match_bad hm hb', hb]; rfl
    · rw [hb]
      exact ⟨trivial, by rw [wrap_succ hi hp]⟩
  · unfold L_law16_DfaNot_0
    exact wp_out (wp_some rfl)
  · have hfold : ∀ l : List Int, (∀ v ∈ l, 0 ≤ v ∧ v ≤ 4294967295) ∧ foldE (fun (_ : Unit) v => bif decide (v < 0) || decide (v > 4294967295) then (.inr true : Unit ⊕ Bool) else .inl ()) () l = .inl () ∨ foldE (fun (_ : Unit) v => bif decide (v < 0) || decide (v > 4294967295) then (.inr true : Unit ⊕ Bool) else .inl ()) () l = .inr true := by
      intro l
      induction l with
      | nil => exact .inl ⟨by simp, rfl⟩
      | cons x l ih =>
        cases hx : decide (x < 0) || decide (x > 4294967295)
        · simp only [foldE, hx, cond_false]
          rcases ih with ⟨h1, h2⟩ | h2
          · refine .inl ⟨fun v hv => ?_, h2⟩
            rcases List.mem_cons.1 hv with rfl | hv
            · simp only [Bool.or_eq_false_iff, decide_eq_false_iff_not] at hx; omega
            · exact h1 v hv
          · exact .inr h2
        · right
          simp only [foldE, hx, cond_true]
    rcases hfold path with ⟨hv, h2⟩ | h2
    · rw [h2]
      refine wp_call (C_dfa_Match (notS d) path hp) (wp_call (C_dfa_Match d path hp) ?_)
      refine wp_bind (wp_and (b := true) (fun _ => wp_call (C_dfa_Not (notS d)) (wp_call (C_ref16_Equal _ _ (okDF_good (good_not (good_not hg)))) (wp_some ?_))) (wp_bind (wp_and (b := true) (fun _ => wp_call C_awake (wp_some rfl)) (wp_some ?_))))
      · exact decide_eq_true (not_not_S hg)
      · rw [match_not hg hv]
        cases matchS d path <;> rfl
    · rw [h2]
      exact wp_some rfl
end Go.Proofs.Ytbpdbooalkkenaa
