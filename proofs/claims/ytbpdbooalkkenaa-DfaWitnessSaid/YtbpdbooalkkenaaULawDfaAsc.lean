/-
  dfa: LISTS OF STARTS, merged and sorted.
-/
import Derived.Test.YtbpdbooalkkenaaULawDfaRun
import Derived.Test.YtbpdbooalkkenaaUPlAsc
import Derived.Test.YtbpdbooalkkenaaUEw4
set_option linter.unusedVariables false
set_option linter.unusedSimpArgs false
namespace Go.Proofs.Ytbpdbooalkkenaa
open Go Go.Av Go.Ev Go.Pl
theorem starts_asc {xs : List Int} (h : Starts xs) : Asc xs := List.pairwise_iff_getElem.2 fun i j _ hj hij => starts_lt h j i hj hij
theorem len_ne (x : Int) (l : List Int) : (((x :: l).length : Int) == (0 : Int)) = false := by
  simp only [List.length_cons, beq_eq_false_iff_ne]; omega
theorem tl_eq (x : Int) (l : List Int) : ((x :: l).take ((x :: l).length)).drop (Int.toNat (1 : Int)) = l := by simp
theorem C_dfa_merge (a b : List Int) (ha : Asc a) (hb : Asc b) (hla : a.length ≤ 1000000000) (hlb : b.length ≤ 1000000000) : Calls' tbl N_dfa_merge [.d (.list tI) a, .d (.list tI) b] [] q_dfa_merge (ascS (a ++ b), ()) := by
  refine calls_of rfl (conv_of t_dfa_merge rfl (fun O n => x_dfa_merge O n a b) ?_)
  unfold G_dfa_merge
  refine wp_bind (Go.Ev.wp_loop (σ := List Int × List Int × List Int × Unit) (fun s => Asc s.1 ∧ Asc s.2.1 ∧ Asc s.2.2.1 ∧ (∀ x ∈ s.2.2.1, (∀ y ∈ s.1, x < y) ∧ ∀ y ∈ s.2.1, x < y) ∧ (∀ x, (x ∈ s.2.2.1 ∨ x ∈ s.1 ∨ x ∈ s.2.1) ↔ x ∈ a ++ b) ∧ s.2.2.1.length + s.1.length + s.2.1.length ≤ 2000000000)
    (fun s => s.1.length + s.2.1.length) ⟨ha, hb, by simp [Asc], by simp, by simp, by simp; omega⟩ ?_)
  rintro ⟨xs, ys, out, _⟩ ⟨h1, h2, h3, h4, h5, h6⟩
  simp only at h1 h2 h3 h4 h5 h6
  have snoc : ∀ v : Int, (∀ x ∈ out, x < v) → Asc (out ++ [v]) := fun v hv => asc_append h3 (by simp [Asc]) fun x hx y hy => by simp at hy; subst hy; exact hv x hx
  unfold L_dfa_merge_0
  simp only
  refine wp_bind (wp_or (fun _ => wp_some rfl) (wp_bif (fun hne => ?_) fun he => ?_))
  · match xs, ys with
    | [], [] => simp at hne
    | [], y :: ys =>
      have hy : (∀ z ∈ ys, y < z) ∧ Asc ys := List.pairwise_cons.1 h2
      refine wp_bind (wp_or (b := false) (fun _ => wp_bind (wp_and (b := false) (fun h => absurd h (by simp)) (wp_some rfl))) (wp_bif (fun h => (by rw [len_ne] at h; cases h)) fun _ => ?_))
      refine wp_bind (wp_or (b := true) (fun h => absurd h (by simp)) (wp_bif (fun _ => ?_) fun h => absurd h (by simp)))
      refine wp_idx (x := y) (by simp) rfl (wp_guard (decide_eq_true (by simp at h6 ⊢; omega)) (wp_guard rfl (wp_guard (by simp) (wp_some ?_))))
      refine ⟨⟨h1, (by simpa only [tl_eq] using hy.2), snoc y fun x hx => (h4 x hx).2 y (by simp), fun x hx => ⟨by simp, fun z hz => ?_⟩, fun x => ?_, by simp at h6 ⊢; omega⟩, by simp⟩
      · simp at hz
        rcases List.mem_append.1 hx with hx | hx
        · exact (h4 x hx).2 z (by simp [hz])
        · simp at hx; subst hx; exact hy.1 z hz
      · rw [← h5 x]; simp; grind
    | x :: xs, [] =>
      have hx : (∀ z ∈ xs, x < z) ∧ Asc xs := List.pairwise_cons.1 h1
      refine wp_bind (wp_or (b := true) (fun h => absurd h (by simp)) (wp_bif (fun _ => ?_) fun h => absurd h (by simp)))
      refine wp_idx (x := x) (by simp) rfl (wp_guard (decide_eq_true (by simp at h6 ⊢; omega)) (wp_guard rfl (wp_guard (by simp) (wp_some ?_))))
      refine ⟨⟨(by simpa only [tl_eq] using hx.2), h2, snoc x fun z hz => (h4 z hz).1 x (by simp), fun w hw => ⟨fun z hz => ?_, by simp⟩, fun w => ?_, by simp at h6 ⊢; omega⟩, by simp⟩
      · simp at hz
        rcases List.mem_append.1 hw with hw | hw
        · exact (h4 w hw).1 z (by simp [hz])
        · simp at hw; subst hw; exact hx.1 z hz
      · rw [← h5 w]; simp; grind
    | x :: xs, y :: ys =>
      have hx : (∀ z ∈ xs, x < z) ∧ Asc xs := List.pairwise_cons.1 h1
      have hy : (∀ z ∈ ys, y < z) ∧ Asc ys := List.pairwise_cons.1 h2
      refine wp_bind (wp_or (b := decide (x < y)) (fun _ => wp_bind (wp_and (b := decide (x < y)) (fun _ => wp_idx (x := x) (by simp) rfl (wp_idx (x := y) (by simp) rfl (wp_some rfl))) (wp_some (by simp)))) (wp_bif (fun h => ?_) fun h => ?_))
      · have hlt : x < y := by rw [len_ne] at h; simpa using h
        refine wp_idx (x := x) (by simp) rfl (wp_guard (decide_eq_true (by simp at h6 ⊢; omega)) (wp_guard rfl (wp_guard (by simp) (wp_some ?_))))
        refine ⟨⟨(by simpa only [tl_eq] using hx.2), h2, snoc x fun z hz => (h4 z hz).1 x (by simp), fun w hw => ⟨fun z hz => ?_, fun z hz => ?_⟩, fun w => ?_, by simp at h6 ⊢; omega⟩, by simp⟩
        · simp at hz
          rcases List.mem_append.1 hw with hw | hw
          · exact (h4 w hw).1 z (by simp [hz])
          · simp at hw; subst hw; exact hx.1 z hz
        · rcases List.mem_append.1 hw with hw | hw
          · exact (h4 w hw).2 z hz
          · simp at hw; subst hw
            rcases List.mem_cons.1 hz with rfl | hz
            · exact hlt
            · have := hy.1 z hz; omega
        · rw [← h5 w]; simp; grind
      · have hge : ¬ x < y := by rw [len_ne] at h; simpa using h
        refine wp_bind (wp_or (b := decide (y < x)) (fun _ => wp_idx (x := y) (by simp) rfl (wp_idx (x := x) (by simp) rfl (wp_some rfl))) (wp_bif (fun h => ?_) fun h => ?_))
        · have hlt : y < x := by rw [len_ne] at h; simpa using h
          refine wp_idx (x := y) (by simp) rfl (wp_guard (decide_eq_true (by simp at h6 ⊢; omega)) (wp_guard rfl (wp_guard (by simp) (wp_some ?_))))
          refine ⟨⟨h1, (by simpa only [tl_eq] using hy.2), snoc y fun z hz => (h4 z hz).2 y (by simp), fun w hw => ⟨fun z hz => ?_, fun z hz => ?_⟩, fun w => ?_, by simp at h6 ⊢; omega⟩, by simp⟩
          · rcases List.mem_append.1 hw with hw | hw
            · exact (h4 w hw).1 z hz
            · simp at hw; subst hw
              rcases List.mem_cons.1 hz with rfl | hz
              · exact hlt
              · have := hx.1 z hz; omega
          · simp at hz
            rcases List.mem_append.1 hw with hw | hw
            · exact (h4 w hw).2 z (by simp [hz])
            · simp at hw; subst hw; exact hy.1 z hz
          · rw [← h5 w]; simp; grind
        · have hnl : ¬ y < x := by rw [len_ne] at h; simpa using h
          have hxy : x = y := by omega
          subst hxy
          refine wp_idx (x := x) (by simp) rfl (wp_guard (decide_eq_true (by simp at h6 ⊢; omega)) (wp_guard rfl (wp_guard (by simp) (wp_guard rfl (wp_guard (by simp) (wp_some ?_))))))
          refine ⟨⟨(by simpa only [tl_eq] using hx.2), (by simpa only [tl_eq] using hy.2), snoc x fun z hz => (h4 z hz).1 x (by simp), fun w hw => ⟨fun z hz => ?_, fun z hz => ?_⟩, fun w => ?_, by simp at h6 ⊢; omega⟩, by simp; omega⟩
          · simp at hz
            rcases List.mem_append.1 hw with hw | hw
            · exact (h4 w hw).1 z (by simp [hz])
            · simp at hw; subst hw; exact hx.1 z hz
          · simp at hz
            rcases List.mem_append.1 hw with hw | hw
            · exact (h4 w hw).2 z (by simp [hz])
            · simp at hw; subst hw; exact hy.1 z hz
          · rw [← h5 w]; simp; grind
  · have he1 : xs = [] := by cases xs with | nil => rfl | cons _ _ => simp at he
    have he2 : ys = [] := by cases ys with | nil => rfl | cons _ _ => simp at he
    subst he1 he2
    refine wp_some (wp_some ?_)
    rw [ascS_eq h3 fun x => by simpa using h5 x]
theorem C_ref16_sorted (l : List Int) (hl : l.length ≤ 1000000000) : Calls' tbl N_ref16_sorted [.d (.list tI) l] [] q_ref16_sorted (ascS l, ()) := by
  refine calls_of rfl (conv_of t_ref16_sorted rfl (fun O n => x_ref16_sorted O n l) ?_)
  unfold G_ref16_sorted
  refine wp_bind (wp_range (N := l.length) (I := fun i s => ∃ out : List Int, s = ((i : Int), out, ()) ∧ Asc out ∧ out.length ≤ i ∧ ∀ x, x ∈ out ↔ x ∈ l.take i) ⟨[], rfl, by simp [Asc], by simp, by simp⟩ ?_ ?_)
  · rintro i s hi ⟨out, rfl, h1, h2, h3⟩
    unfold L_ref16_sorted_2
    have hmem : ∀ c : List Int, (∀ x, x ∈ c ↔ x = l[i] ∨ x ∈ out) → ∀ x, x ∈ c ↔ x ∈ l.take (i + 1) := fun c hc x => by
      rw [hc x, h3 x, List.take_add_one, List.getElem?_eq_getElem hi, List.mem_append, Option.toList_some, List.mem_singleton]
      exact Or.comm
    refine wp_in hi (wp_bind (wp_get0 hi ?_))
    generalize hv : l[i] = v at hmem
    refine wp_bind (Go.Ev.wp_loop (σ := Int × List Int × Unit) (fun s => ∃ k : Nat, s = ((k : Int), out, ()) ∧ k ≤ out.length ∧ ∀ j (hj : j < out.length), j < k → out[j] < v) (fun s => out.length - s.1.toNat) ⟨0, rfl, by omega, fun j _ h => absurd h (by omega)⟩ ?_)
    rintro s ⟨k, rfl, g1, g2⟩
    unfold L_ref16_sorted_0
    refine wp_bind (wp_and (b := decide (∃ h : k < out.length, out[k] < v)) (fun h => ?_) (wp_bif (fun h => wp_some ?_) fun h => wp_some ?_))
    · have hk : k < out.length := by simpa using h
      refine wp_get0 hk (wp_get (x := out[k]) (by simp) (wp_some ?_))
      exact decide_eq_decide.2 ⟨fun h => ⟨hk, h⟩, fun ⟨_, h⟩ => h⟩
    · simp only [Bool.and_eq_true, decide_eq_true_eq] at h
      obtain ⟨hk, hlt⟩ := h.2
      refine ⟨⟨k + 1, by rw [wrap_succ hk (by omega)], by omega, fun j hj hjk => ?_⟩, ?_⟩
      · rcases Nat.lt_succ_iff_lt_or_eq.1 hjk with h | rfl
        · exact g2 j hj h
        · exact hlt
      · rw [wrap_succ hk (by omega)]
        simp only [Int.toNat_natCast]
        omega
    · have hge : ∀ h : k < out.length, v ≤ out[k] := fun hk => by
        simp only [Bool.and_eq_false_iff, decide_eq_false_iff_not, not_exists] at h
        rcases h with h | h
        · omega
        · have := h hk; omega
      have hbefore : ∀ x ∈ out.take k, x < v := fun x hx => by
        obtain ⟨j, hj, rfl⟩ := List.mem_iff_getElem.1 hx
        rw [List.getElem_take]
        exact g2 j (by simp at hj; omega) (by simp at hj; omega)
      refine wp_bind (wp_and (b := decide (∃ h : k < out.length, out[k] = v)) (fun h => ?_) (wp_bif (fun h => wp_some ?_) fun h => ?_))
      · have hk : k < out.length := by simpa using h
        refine wp_get0 hk (wp_get (x := out[k]) (by simp) (wp_some ?_))
        rw [show (out[k] == v) = decide (out[k] = v) from rfl]
        exact decide_eq_decide.2 ⟨fun h => ⟨hk, h⟩, fun ⟨_, h⟩ => h⟩
      · simp only [Bool.and_eq_true, decide_eq_true_eq] at h
        obtain ⟨hk, he⟩ := h.2
        refine wp_some ⟨out, by rw [wrap_succ hi (by omega)], h1, by omega, hmem out fun x => ⟨.inr, fun h => h.elim (fun e => by subst e; rw [← he]; exact List.getElem_mem hk) id⟩⟩
      · have hgt : ∀ h : k < out.length, v < out[k] := fun hk => by
          have h4 := hge hk
          simp only [Bool.and_eq_false_iff, decide_eq_false_iff_not, not_exists] at h
          rcases h with h | h
          · omega
          · have := h hk; omega
        have hafter : ∀ x ∈ out.drop k, v < x := fun x hx => by
          obtain ⟨j, hj, rfl⟩ := List.mem_iff_getElem.1 hx
          rw [List.getElem_drop]
          simp at hj
          have hk : k < out.length := by omega
          have h5 := hgt hk
          rcases Nat.eq_zero_or_pos j with rfl | hj0
          · simpa using h5
          · have := asc_lt h1 (i := k) (j := k + j) (by omega) (by omega); omega
        refine wp_guard (decide_eq_true (by simp; omega)) ?_
        simp only
        have hw : IntKind.wrap .i64 ((((out ++ [(0 : Int)]).length : Int)) - (1 : Int)) = (out.length : Int) := by
          rw [wrap_i64 (by simp only [List.length_append, List.length_singleton]; omega) (by simp only [List.length_append, List.length_singleton]; omega)]; simp
        rw [hw]
        refine wp_bind (Go.Ev.wp_loop (σ := Int × List Int × Unit) (fun s => ∃ m y, s = (((m : Nat) : Int), out.take m ++ [y] ++ out.drop m, ()) ∧ k ≤ m ∧ m ≤ out.length) (fun s => s.1.toNat) ⟨out.length, 0, by simp, g1, Nat.le_refl _⟩ ?_)
        rintro s ⟨m, y, rfl, m1, m2⟩
        unfold L_ref16_sorted_1
        refine wp_bif (fun h => ?_) fun h => ?_
        · have hkm : k < m := by simp at h; omega
          have hlen : (out.take m ++ [y] ++ out.drop m).length = out.length + 1 := by simp; omega
          simp only
          rw [wrap_pred (by omega) (by omega)]
          refine wp_get0 (by omega) (wp_get (x := out[m - 1]) ?_ (wp_get0 (by omega) (wp_get (x := y) ?_ (wp_some ?_))))
          · simp only [Int.toNat_natCast]
            rw [List.append_assoc, List.getElem?_append_left (by simp; omega), List.getElem?_take_of_lt (by omega), List.getElem?_eq_getElem]
          · simp only [Int.toNat_natCast]
            rw [List.append_assoc, List.getElem?_append_right (by simp; omega)]
            simp [Nat.min_eq_left m2]
          · refine ⟨⟨m - 1, out[m - 1], ?_, by omega, by omega⟩, by simp only [Int.toNat_natCast]; omega⟩
            congr 2
            simp only [Int.toNat_natCast]
            have e1 : (out.take m ++ [y] ++ out.drop m).set m out[m - 1] = out.take m ++ [out[m - 1]] ++ out.drop m := by
              rw [List.append_assoc, List.set_append_right _ _ (by simp; omega)]
              simp [Nat.min_eq_left m2]
            rw [e1]
            have e2 : out.take m = out.take (m - 1) ++ [out[m - 1]] := by
              have := List.take_add_one (l := out) (i := m - 1)
              rw [show m - 1 + 1 = m by omega, List.getElem?_eq_getElem (show m - 1 < out.length by omega)] at this
              exact this
            have e3 : out.drop (m - 1) = out[m - 1] :: out.drop m := by
              have := List.drop_eq_getElem_cons (l := out) (i := m - 1) (by omega)
              rw [show m - 1 + 1 = m by omega] at this
              exact this
            rw [e3]
            conv => lhs; rw [e2]
            simp
        · have hkm : k = m := by simp at h; omega
          subst hkm
          have hlen : (out.take k ++ [y] ++ out.drop k).length = out.length + 1 := by simp; omega
          refine wp_some (wp_get0 (by show k < (out.take k ++ [y] ++ out.drop k).length; omega) (wp_get (x := y) ?_ (wp_some (wp_some ?_))))
          · simp only [Int.toNat_natCast]
            rw [List.append_assoc, List.getElem?_append_right (by simp; omega)]
            simp [Nat.min_eq_left m2]
          · have e1 : (out.take k ++ [y] ++ out.drop k).set k v = out.take k ++ ([v] ++ out.drop k) := by
              rw [List.append_assoc, List.set_append_right _ _ (by simp; omega)]
              simp [Nat.min_eq_left m2]
            simp only [Int.toNat_natCast]
            rw [e1]
            refine ⟨_, by rw [wrap_succ hi (by omega)], ?_, by simp; omega, hmem _ fun x => ?_⟩
            · refine asc_append (List.Pairwise.sublist (List.take_sublist ..) h1) (asc_append (by simp [Asc]) (List.Pairwise.sublist (List.drop_sublist ..) h1) fun x hx z hz => ?_) fun x hx z hz => ?_
              · simp at hx; subst hx; exact hafter z hz
              · have h5 := hbefore x hx
                rcases List.mem_append.1 hz with hz | hz
                · simp at hz; subst hz; exact h5
                · have := hafter z hz; omega
            · have : x ∈ out ↔ x ∈ out.take k ∨ x ∈ out.drop k := by rw [← List.mem_append, List.take_append_drop]
              rw [this]; simp; grind
  · rintro s ⟨out, rfl, h1, h2, h3⟩
    unfold L_ref16_sorted_2
    refine wp_out (wp_some (wp_some ?_))
    rw [ascS_eq h1 fun x => by rw [h3 x, List.take_length]]
end Go.Proofs.Ytbpdbooalkkenaa
