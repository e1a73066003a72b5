/-
  dfa: WHAT THE SMALL FUNCTIONS COMPUTE (both of the program and of the reference).
-/
import Derived.Test.YtbpdbooalkkenaaUGlueB
import Derived.Test.YtbpdbooalkkenaaUAw
import Derived.Test.YtbpdbooalkkenaaUL8
set_option linter.unusedVariables false
set_option linter.unusedSimpArgs false
namespace Go.Proofs.Ytbpdbooalkkenaa
open Go Go.Av Go.Ev
abbrev DF : Type := List Int × (List (List Int) × (List Bool × (Int × Unit)))
def Starts (xs : List Int) : Prop := 0 < xs.length ∧ (∀ (h : 0 < xs.length), xs[0] = 0) ∧ (∀ i (h : i + 1 < xs.length), xs[i] < xs[i + 1]) ∧ ∀ x ∈ xs, x ≤ 4294967295
def Big (d : DF) : Prop := d.2.2.1.length > 4096 ∨ d.2.1.length > 4096 ∨ d.1.length > 2000
open Classical in
noncomputable def checkS (d : DF) : Int :=
  if Big d then 4 else if ¬ Starts d.1 then 16 else if d.2.1.length = 0 ∨ d.2.2.1.length ≠ d.2.1.length then 14
  else if ¬ (∀ r ∈ d.2.1, r.length = d.1.length) then 14 else if d.2.2.2.1 < 0 ∨ d.2.2.2.1 ≥ (d.2.1.length : Int) then 5
  else if ¬ (∀ r ∈ d.2.1, ∀ t ∈ r, 0 ≤ t ∧ t < (d.2.1.length : Int)) then 5 else 0
theorem wrap_pred {i : Nat} (h0 : 0 < i) (hi : i ≤ 9223372036854775807) : IntKind.wrap .i64 ((i : Int) - 1) = ((i - 1 : Nat) : Int) := by
  rw [wrap_i64 (by omega) (by omega)]; omega
theorem starts_dfa {xs : List Int} : Starts xs ↔ (0 < xs.length ∧ ∀ i, (h : i < xs.length) → (i = 0 → xs[i] = 0) ∧ (∀ _ : 0 < i, xs[i - 1] < xs[i]) ∧ xs[i] ≤ 4294967295) := by
  constructor
  · rintro ⟨h0, h1, h2, h3⟩
    refine ⟨h0, fun i h => ⟨fun e => ?_, fun e => ?_, h3 _ (List.getElem_mem h)⟩⟩
    · subst e; exact h1 h0
    · obtain ⟨j, rfl⟩ : ∃ j, i = j + 1 := ⟨i - 1, by omega⟩
      exact h2 j h
  · rintro ⟨h0, h⟩
    refine ⟨h0, fun _ => (h 0 h0).1 rfl, fun i hi => (h (i + 1) hi).2.1 (by omega), fun x hx => ?_⟩
    obtain ⟨i, hi, rfl⟩ := List.mem_iff_getElem.1 hx
    exact (h i hi).2.2
theorem starts_ref {xs : List Int} : Starts xs ↔ (0 < xs.length ∧ (∀ h : 0 < xs.length, xs[0] = 0) ∧ ∀ i, (h : i < xs.length) → (∀ _ : 0 < i, xs[i - 1] < xs[i]) ∧ xs[i] ≤ 4294967295) := by
  rw [starts_dfa]
  constructor
  · rintro ⟨h0, h⟩
    exact ⟨h0, fun _ => (h 0 h0).1 rfl, fun i hi => (h i hi).2⟩
  · rintro ⟨h0, h1, h2⟩
    refine ⟨h0, fun i hi => ⟨fun e => ?_, h2 i hi⟩⟩
    subst e; exact h1 h0
theorem C_dfa_Check (d : DF) : Calls' tbl N_dfa_Check [.d (pr [.list tI, .list (.list tI), .list tB, tI]) d] [] q_dfa_Check (checkS d, ()) := by
  refine calls_of rfl (conv_of t_dfa_Check rfl (fun O n => x_dfa_Check O n d) ?_)
  unfold G_dfa_Check
  refine wp_bind (wp_or (fun _ => wp_some rfl) (wp_bind (wp_or (fun _ => wp_some rfl) ?_)))
  refine wp_bif (fun h => wp_some ?_) fun h => ?_
  · have : Big d := by
      simp only [Bool.or_eq_true, decide_eq_true_eq] at h
      unfold Big; omega
    rw [show checkS d = 4 from by unfold checkS; rw [if_pos this]]
  have nb : ¬ Big d := by
    simp only [Bool.or_eq_false_iff, decide_eq_false_iff_not] at h
    unfold Big; omega
  have hl1 : d.1.length ≤ 2000 := by unfold Big at nb; omega
  have hl2 : d.2.1.length ≤ 4096 := by unfold Big at nb; omega
  refine wp_bind (wp_all (N := d.1.length) (good := fun i => ∀ (h : i < d.1.length), (i = 0 → d.1[i] = 0) ∧ (∀ _ : 0 < i, d.1[i - 1] < d.1[i]) ∧ d.1[i] ≤ 4294967295) (e := ((16 : Int), ())) (g := ()) (fun i hi => ?_) ?_ (fun hs => ?_) (fun hb => ?_))
  · unfold L_dfa_Check_0
    refine wp_in hi (wp_get0 hi ?_)
    refine wp_bind (wp_and (fun _ => wp_some rfl) (wp_bind (wp_or (b := decide (0 < i) && decide (d.1[i] ≤ d.1[i - 1])) (fun _ => wp_bind (wp_and (b := decide (d.1[i] ≤ d.1[i - 1])) (fun h0 => ?_) (wp_some ?_))) (wp_bind (wp_or (fun _ => wp_some rfl) ?_)))))
    · have h0 : 0 < i := by simpa using h0
      rw [wrap_pred h0 (by omega)]
      exact wp_get0 (by omega) (wp_some rfl)
    · congr 1
      exact decide_eq_decide.2 (by omega)
    · refine wp_stop ?_ (by rw [wrap_succ hi (by omega)])
      simp only [Bool.or_eq_true, Bool.and_eq_true, decide_eq_true_eq, beq_iff_eq, bne_iff_ne]
      constructor
      · intro h1 h2
        have h3 := h2 hi
        rcases h1 with (⟨h1, h4⟩ | ⟨h1, h4⟩) | h1
        · exact h4 (h3.1 (by omega))
        · have := h3.2.1 h1; omega
        · have := h3.2.2; omega
      · intro h1
        by_cases h2 : i = 0
        · by_cases h3 : d.1[i] = 0
          · exact absurd (fun _ => ⟨fun _ => h3, fun h => absurd h (by omega), by omega⟩) h1
          · exact .inl (.inl ⟨by omega, h3⟩)
        · by_cases h3 : d.1[i] ≤ d.1[i - 1]
          · exact .inl (.inr ⟨by omega, h3⟩)
          · by_cases h4 : d.1[i] > 4294967295
            · exact .inr h4
            · exact absurd (fun _ => ⟨fun h => absurd h h2, fun _ => by omega, by omega⟩) h1
  · unfold L_dfa_Check_0
    exact wp_out (wp_some rfl)
  · refine wp_bif (fun h => wp_some ?_) fun h => ?_
    · have : ¬ Starts d.1 := fun hs => by have := hs.1; simp at h; simp [h] at this
      rw [show checkS d = 16 from by unfold checkS; rw [if_neg nb, if_pos this]]
    have hS : Starts d.1 := starts_dfa.2 ⟨by simp at h; exact List.length_pos_iff.2 h, fun i hi => hs i hi hi⟩
    refine wp_bind (wp_or (fun _ => wp_some rfl) ?_)
    refine wp_bif (fun h => wp_some ?_) fun h => ?_
    · have : d.2.1.length = 0 ∨ d.2.2.1.length ≠ d.2.1.length := by
        simp only [Bool.or_eq_true, beq_iff_eq, bne_iff_ne] at h
        omega
      rw [show checkS d = 14 from by unfold checkS; rw [if_neg nb, if_neg (not_not_intro hS), if_pos this]]
    have h1 : ¬ (d.2.1.length = 0 ∨ d.2.2.1.length ≠ d.2.1.length) := by
      simp only [Bool.or_eq_false_iff, beq_eq_false_iff_ne, bne_eq_false_iff_eq] at h
      omega
    refine wp_bind (wp_allx (xs := d.2.1) (P := fun r => r.length = d.1.length) (e := ((14 : Int), ())) (g := ()) (fun i hi => ?_) ?_ (fun hr => ?_) (fun hr => ?_))
    · unfold L_dfa_Check_1
      refine wp_in hi (wp_get0 hi (wp_stop ?_ (by rw [wrap_succ hi (by omega)])))
      simp only [bne_iff_ne]
      omega
    · unfold L_dfa_Check_1
      exact wp_out (wp_some rfl)
    · refine wp_bind (wp_or (fun _ => wp_some rfl) ?_)
      refine wp_bif (fun h => wp_some ?_) fun h => ?_
      · have : d.2.2.2.1 < 0 ∨ d.2.2.2.1 ≥ (d.2.1.length : Int) := by simpa using h
        rw [show checkS d = 5 from by unfold checkS; rw [if_neg nb, if_neg (not_not_intro hS), if_neg h1, if_neg (not_not_intro hr), if_pos this]]
      have h2 : ¬ (d.2.2.2.1 < 0 ∨ d.2.2.2.1 ≥ (d.2.1.length : Int)) := by simpa using h
      refine wp_bind (wp_allx (xs := d.2.1) (P := fun r => ∀ t ∈ r, 0 ≤ t ∧ t < (d.2.1.length : Int)) (e := ((5 : Int), ())) (g := ()) (fun i hi => ?_) ?_ (fun ht => ?_) (fun ht => ?_))
      · unfold L_dfa_Check_3
        refine wp_in hi (wp_get0 hi (wp_bind (wp_allx (xs := d.2.1[i]) (P := fun t => 0 ≤ t ∧ t < (d.2.1.length : Int)) (e := ((5 : Int), ())) (g := ()) (fun k hk => ?_) ?_ (fun h => ?_) (fun h => ?_))))
        · unfold L_dfa_Check_2
          have hk2 := hk
          rw [hr _ (List.getElem_mem hi)] at hk2
          refine wp_in hk (wp_get0 hk (wp_bind (wp_or (fun _ => wp_some rfl) (wp_stop ?_ (by rw [wrap_succ hk2 (by omega)])))))
          simp only [Bool.or_eq_true, decide_eq_true_eq]
          omega
        · unfold L_dfa_Check_2
          exact wp_out (wp_some rfl)
        · exact wp_some (.inl ⟨h, by rw [wrap_succ hi (by omega)]⟩)
        · exact wp_some (.inr ⟨h, rfl⟩)
      · unfold L_dfa_Check_3
        exact wp_out (wp_some rfl)
      · refine wp_some ?_
        rw [show checkS d = 0 from by unfold checkS; rw [if_neg nb, if_neg (not_not_intro hS), if_neg h1, if_neg (not_not_intro hr), if_neg h2, if_neg (not_not_intro ht)]]
      · refine wp_some ?_
        rw [show checkS d = 5 from by unfold checkS; rw [if_neg nb, if_neg (not_not_intro hS), if_neg h1, if_neg (not_not_intro hr), if_neg h2, if_pos ht]]
    · refine wp_some ?_
      rw [show checkS d = 14 from by unfold checkS; rw [if_neg nb, if_neg (not_not_intro hS), if_neg h1, if_pos hr]]
  · have : ¬ Starts d.1 := fun hs => by
      obtain ⟨i, hi, hb⟩ := hb
      exact hb fun h => (starts_dfa.1 hs).2 i h
    refine wp_some ?_
    rw [show checkS d = 16 from by unfold checkS; rw [if_neg nb, if_pos this]]
theorem C_ref16_Check (d : DF) : Calls' tbl N_ref16_Check [.d (pr [.list tI, .list (.list tI), .list tB, tI]) d] [] q_ref16_Check (checkS d, ()) := by
  refine calls_of rfl (conv_of t_ref16_Check rfl (fun O n => x_ref16_Check O n d) ?_)
  unfold G_ref16_Check
  refine wp_bind (wp_or (fun _ => wp_some rfl) (wp_bind (wp_or (fun _ => wp_some rfl) ?_)))
  refine wp_bif (fun h => wp_some ?_) fun h => ?_
  · have : Big d := by
      simp only [Bool.or_eq_true, decide_eq_true_eq] at h
      unfold Big; omega
    rw [show checkS d = 4 from by unfold checkS; rw [if_pos this]]
  have nb : ¬ Big d := by
    simp only [Bool.or_eq_false_iff, decide_eq_false_iff_not] at h
    unfold Big; omega
  have hl1 : d.1.length ≤ 2000 := by unfold Big at nb; omega
  have hl2 : d.2.1.length ≤ 4096 := by unfold Big at nb; omega
  refine wp_bind (wp_or (b := decide (∃ h : 0 < d.1.length, d.1[0] ≠ 0)) (fun h0 => ?_) ?_)
  · have h0 : 0 < d.1.length := by simp at h0; exact List.length_pos_iff.2 h0
    refine wp_get0 h0 (wp_some ?_)
    simp [h0]
    rfl
  refine wp_bif (fun h => wp_some ?_) fun h => ?_
  · have : ¬ Starts d.1 := fun hs => by
      simp only [Bool.or_eq_true, beq_iff_eq, decide_eq_true_eq] at h
      rcases h with h | ⟨h, h2⟩
      · have := hs.1; omega
      · exact h2 (hs.2.1 h)
    rw [show checkS d = 16 from by unfold checkS; rw [if_neg nb, if_pos this]]
  have hp : 0 < d.1.length ∧ ∀ h : 0 < d.1.length, d.1[0] = 0 := by
    simp only [Bool.or_eq_false_iff, beq_eq_false_iff_ne, decide_eq_false_iff_not, not_exists, Decidable.not_not] at h
    exact ⟨by omega, h.2⟩
  refine wp_bind (wp_all (N := d.1.length) (good := fun i => ∀ (h : i < d.1.length), (∀ _ : 0 < i, d.1[i - 1] < d.1[i]) ∧ d.1[i] ≤ 4294967295) (e := ((16 : Int), ())) (g := ()) (fun i hi => ?_) ?_ (fun hs => ?_) (fun hb => ?_))
  · unfold L_ref16_Check_0
    refine wp_in hi (wp_get0 hi ?_)
    refine wp_bind (wp_or (b := decide (0 < i) && decide (d.1[i] ≤ d.1[i - 1])) (fun _ => wp_bind (wp_and (b := decide (d.1[i] ≤ d.1[i - 1])) (fun h0 => ?_) (wp_some ?_))) ?_)
    · have h0 : 0 < i := by simpa using h0
      rw [wrap_pred h0 (by omega)]
      exact wp_get0 (by omega) (wp_some rfl)
    · congr 1
      exact decide_eq_decide.2 (by omega)
    · refine wp_stop ?_ (by rw [wrap_succ hi (by omega)])
      simp only [Bool.or_eq_true, Bool.and_eq_true, decide_eq_true_eq]
      constructor
      · intro h1 h2
        have h3 := h2 hi
        rcases h1 with h1 | ⟨h1, h4⟩
        · have := h3.2; omega
        · have := h3.1 h1; omega
      · intro h1
        by_cases h3 : 0 < i ∧ d.1[i] ≤ d.1[i - 1]
        · exact .inr h3
        · by_cases h4 : d.1[i] > 4294967295
          · exact .inl h4
          · exact absurd (fun _ => ⟨fun h => Int.not_le.1 fun hle => h3 ⟨h, hle⟩, Int.not_lt.1 h4⟩) h1
  · unfold L_ref16_Check_0
    exact wp_out (wp_some rfl)
  · have hS : Starts d.1 := starts_ref.2 ⟨hp.1, hp.2, fun i hi => hs i hi hi⟩
    refine wp_bind (wp_or (fun _ => wp_some rfl) ?_)
    refine wp_bif (fun h => wp_some ?_) fun h => ?_
    · have : d.2.1.length = 0 ∨ d.2.2.1.length ≠ d.2.1.length := by
        simp only [Bool.or_eq_true, beq_iff_eq, bne_iff_ne] at h
        omega
      rw [show checkS d = 14 from by unfold checkS; rw [if_neg nb, if_neg (not_not_intro hS), if_pos this]]
    have h1 : ¬ (d.2.1.length = 0 ∨ d.2.2.1.length ≠ d.2.1.length) := by
      simp only [Bool.or_eq_false_iff, beq_eq_false_iff_ne, bne_eq_false_iff_eq] at h
      omega
    refine wp_bind (wp_allx (xs := d.2.1) (P := fun r => r.length = d.1.length) (e := ((14 : Int), ())) (g := ()) (fun i hi => ?_) ?_ (fun hr => ?_) (fun hr => ?_))
    · unfold L_ref16_Check_1
      refine wp_in hi (wp_get0 hi (wp_stop ?_ (by rw [wrap_succ hi (by omega)])))
      simp only [bne_iff_ne]
      omega
    · unfold L_ref16_Check_1
      exact wp_out (wp_some rfl)
    · refine wp_bind (wp_or (fun _ => wp_some rfl) ?_)
      refine wp_bif (fun h => wp_some ?_) fun h => ?_
      · have : d.2.2.2.1 < 0 ∨ d.2.2.2.1 ≥ (d.2.1.length : Int) := by simpa using h
        rw [show checkS d = 5 from by unfold checkS; rw [if_neg nb, if_neg (not_not_intro hS), if_neg h1, if_neg (not_not_intro hr), if_pos this]]
      have h2 : ¬ (d.2.2.2.1 < 0 ∨ d.2.2.2.1 ≥ (d.2.1.length : Int)) := by simpa using h
      refine wp_bind (wp_allx (xs := d.2.1) (P := fun r => ∀ t ∈ r, 0 ≤ t ∧ t < (d.2.1.length : Int)) (e := ((5 : Int), ())) (g := ()) (fun i hi => ?_) ?_ (fun ht => ?_) (fun ht => ?_))
      · unfold L_ref16_Check_3
        refine wp_in hi (wp_get0 hi (wp_bind (wp_allx (xs := d.2.1[i]) (P := fun t => 0 ≤ t ∧ t < (d.2.1.length : Int)) (e := ((5 : Int), ())) (g := ()) (fun k hk => ?_) ?_ (fun h => ?_) (fun h => ?_))))
        · unfold L_ref16_Check_2
          have hk2 := hk
          rw [hr _ (List.getElem_mem hi)] at hk2
          refine wp_in hk (wp_get0 hk (wp_bind (wp_or (fun _ => wp_some rfl) (wp_stop ?_ (by rw [wrap_succ hk2 (by omega)])))))
          simp only [Bool.or_eq_true, decide_eq_true_eq]
          omega
        · unfold L_ref16_Check_2
          exact wp_out (wp_some rfl)
        · exact wp_some (.inl ⟨h, by rw [wrap_succ hi (by omega)]⟩)
        · exact wp_some (.inr ⟨h, rfl⟩)
      · unfold L_ref16_Check_3
        exact wp_out (wp_some rfl)
      · refine wp_some ?_
        rw [show checkS d = 0 from by unfold checkS; rw [if_neg nb, if_neg (not_not_intro hS), if_neg h1, if_neg (not_not_intro hr), if_neg h2, if_neg (not_not_intro ht)]]
      · refine wp_some ?_
        rw [show checkS d = 5 from by unfold checkS; rw [if_neg nb, if_neg (not_not_intro hS), if_neg h1, if_neg (not_not_intro hr), if_neg h2, if_pos ht]]
    · refine wp_some ?_
      rw [show checkS d = 14 from by unfold checkS; rw [if_neg nb, if_neg (not_not_intro hS), if_neg h1, if_pos hr]]
  · have : ¬ Starts d.1 := fun hs => by
      obtain ⟨i, hi, hb⟩ := hb
      exact hb fun h => (starts_ref.1 hs).2.2 i h
    refine wp_some ?_
    rw [show checkS d = 16 from by unfold checkS; rw [if_neg nb, if_pos this]]
end Go.Proofs.Ytbpdbooalkkenaa
