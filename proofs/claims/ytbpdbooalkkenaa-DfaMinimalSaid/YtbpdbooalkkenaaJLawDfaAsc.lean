/-
  dfa: LISTS OF STARTS, merged and sorted.
-/
import Derived.Test.YtbpdbooalkkenaaJLawDfaRun
import Derived.Test.YtbpdbooalkkenaaJPlAsc
import Derived.Test.YtbpdbooalkkenaaJEw4
set_option linter.unusedVariables false
set_option linter.unusedSimpArgs false
namespace Go.Proofs.Ytbpdbooalkkenaa
open Go Go.Av Go.Ev Go.Pl
theorem starts_asc {xs : List Int} (h : Starts xs) : Asc xs := List.pairwise_iff_getElem.2 fun i j _ hj hij => starts_lt h j i hj hij
theorem len_ne (x : Int) (l : List Int) : (((x :: l).length : Int) == (0 : Int)) = false := by
  simp only [List.length_cons, beq_eq_false_iff_ne]; omega
theorem tl_eq (x : Int) (l : List Int) : ((x :: l).take ((x :: l).length)).drop (Int.toNat (1 : Int)) = l := by simp
theorem C_dfa_merge (a b : List Int) (ha : Asc a) (hb : Asc b) (hla : a.length ≤ 1000000000) (hlb : b.length ≤ 1000000000) : Calls' tbl N_dfa_merge [.d (.list tI) a, .d (.list tI) b] [] q_dfa_merge (ascS (a ++ b), ()) := by
  refine calls_of rfl (conv_of t_dfa_merge rfl (fun O n => x_dfa_merge O n a b) ?_)
  unfold G_dfa_merge
  refine wp_bind (Go.Ev.wp_loop (σ := List Int × List Int × List Int × Unit) (fun s => Asc s.1 ∧ Asc s.2.1 ∧ Asc s.2.2.1 ∧ (∀ x ∈ s.2.2.1, (∀ y ∈ s.1, x < y) ∧ ∀ y ∈ s.2.1, x < y) ∧ (∀ x, (x ∈ s.2.2.1 ∨ x ∈ s.1 ∨ x ∈ s.2.1) ↔ x ∈ a ++ b) ∧ s.2.2.1.length + s.1.length + s.2.1.length ≤ 2000000000)
    (fun s => s.1.length + s.2.1.length) ⟨ha, hb, by simp [Asc], by simp, by simp, by simp; omega⟩ ?_)
  rintro ⟨xs, ys, out, _⟩ ⟨h1, h2, h3, h4, h5, h6⟩
  simp only at h1 h2 h3 h4 h5 h6
  have snoc : ∀ v : Int, (∀ x ∈ out, x < v) → Asc (out ++ [v]) := fun v hv => asc_append h3 (by simp [Asc]) fun x hx y hy => by simp at hy; subst hy; exact hv x hx
  unfold L_dfa_merge_0
  simp only
  refine wp_bind (wp_or (fun _ => wp_some rfl) (wp_bif (fun hne => ?_) fun he => ?_))
  · match xs, ys with
    | [], [] => simp at hne
    | [], y :: ys =>
      have hy : (∀ z ∈ ys, y < z) ∧ Asc ys := List.pairwise_cons.1 h2
      refine wp_bind (wp_or (b := false) (fun _ => wp_bind (wp_and (b := false) (fun h => absurd h (by simp)) (wp_some rfl))) (wp_bif (fun h => (by rw [len_ne] at h; cases h)) fun _ => ?_))
      refine wp_bind (wp_or (b := true) (fun h => absurd h (by simp)) (wp_bif (fun _ => ?_) fun h => absurd h (by simp)))
      refine wp_idx (x := y) (by simp) rfl (wp_guard (decide_eq_true (by simp at h6 ⊢; omega)) (wp_guard rfl (wp_guard (by simp) (wp_some ?_))))
      refine ⟨⟨h1, (by simpa only [tl_eq] using hy.2), snoc y fun x hx => (h4 x hx).2 y (by simp), fun x hx => ⟨by simp, fun z hz => ?_⟩, fun x => ?_, by simp at h6 ⊢; omega⟩, by simp⟩
      · simp at hz
        rcases List.mem_append.1 hx with hx | hx
        · exact (h4 x hx).2 z (by simp [hz])
        · simp at hx; subst hx; exact hy.1 z hz
      · rw [← h5 x]; simp; grind
    | x :: xs, [] =>
      have hx : (∀ z ∈ xs, x < z) ∧ Asc xs := List.pairwise_cons.1 h1
      refine wp_bind (wp_or (b := true) (fun h => absurd h (by simp)) (wp_bif (fun _ => ?_) fun h => absurd h (by simp)))
      refine wp_idx (x := x) (by simp) rfl (wp_guard (decide_eq_true (by simp at h6 ⊢; omega)) (wp_guard rfl (wp_guard (by simp) (wp_some ?_))))
      refine ⟨⟨(by simpa only [tl_eq] using hx.2), h2, snoc x fun z hz => (h4 z hz).1 x (by simp), fun w hw => ⟨fun z hz => ?_, by simp⟩, fun w => ?_, by simp at h6 ⊢; omega⟩, by simp⟩
      · simp at hz
        rcases List.mem_append.1 hw with hw | hw
        · exact (h4 w hw).1 z (by simp [hz])
        · simp at hw; subst hw; exact hx.1 z hz
      · rw [← h5 w]; simp; grind
    | x :: xs, y :: ys =>
      have hx : (∀ z ∈ xs, x < z) ∧ Asc xs := List.pairwise_cons.1 h1
      have hy : (∀ z ∈ ys, y < z) ∧ Asc ys := List.pairwise_cons.1 h2
      refine wp_bind (wp_or (b := decide (x < y)) (fun _ => wp_bind (wp_and (b := decide (x < y)) (fun _ => wp_idx (x := x) (by simp) rfl (wp_idx (x := y) (by simp) rfl (wp_some rfl))) (wp_some (by simp)))) (wp_bif (fun h => ?_) fun h => ?_))
      · have hlt : x < y := by rw [len_ne] at h; simpa using h
        refine wp_idx (x := x) (by simp) rfl (wp_guard (decide_eq_true (by simp at h6 ⊢; omega)) (wp_guard rfl (wp_guard (by simp) (wp_some ?_))))
        refine ⟨⟨(by simpa only [tl_eq] using hx.2), h2, snoc x fun z hz => (h4 z hz).1 x (by simp), fun w hw => ⟨fun z hz => ?_, fun z hz => ?_⟩, fun w => ?_, by simp at h6 ⊢; omega⟩, by simp⟩
        · simp at hz
          rcases List.mem_append.1 hw with hw | hw
          · exact (h4 w hw).1 z (by simp [hz])
          · simp at hw; subst hw; exact hx.1 z hz
        · rcases List.mem_append.1 hw with hw | hw
          · exact (h4 w hw).2 z hz
          · simp at hw; subst hw
            rcases List.mem_cons.1 hz with rfl | hz
            · exact hlt
            · have := hy.1 z hz; omega
        · rw [← h5 w]; simp; grind
      · have hge : ¬ x < y := by rw [len_ne] at h; simpa using h
        refine wp_bind (wp_or (b := decide (y < x)) (fun _ => wp_idx (x := y) (by simp) rfl (wp_idx (x := x) (by simp) rfl (wp_some rfl))) (wp_bif (fun h => ?_) fun h => ?_))
        · have hlt : y < x := by rw [len_ne] at h; simpa using h
          refine wp_idx (x := y) (by simp) rfl (wp_guard (decide_eq_true (by simp at h6 ⊢; omega)) (wp_guard rfl (wp_guard (by simp) (wp_some ?_))))
          refine ⟨⟨h1, (by simpa only [tl_eq] using hy.2), snoc y fun z hz => (h4 z hz).2 y (by simp), fun w hw => ⟨fun z hz => ?_, fun z hz => ?_⟩, fun w => ?_, by simp at h6 ⊢; omega⟩, by simp⟩
          · rcases List.mem_append.1 hw with hw | hw
            · exact (h4 w hw).1 z hz
            · simp at hw; subst hw
              rcases List.mem_cons.1 hz with rfl | hz
              · exact hlt
              · have := hx.1 z hz; omega
          · simp at hz
            rcases List.mem_append.1 hw with hw | hw
            · exact (h4 w hw).2 z (by simp [hz])
            · simp at hw; subst hw; exact hy.1 z hz
          · rw [← h5 w]; simp; grind
        · have hnl : ¬ y < x := by rw [len_ne] at h; simpa using h
          have hxy : x = y := by omega
          subst hxy
          refine wp_idx (x := x) (by simp) rfl (wp_guard (decide_eq_true (by simp at h6 ⊢; omega)) (wp_guard rfl (wp_guard (by simp) (wp_guard rfl (wp_guard (by simp) (wp_some ?_))))))
          refine ⟨⟨(by simpa only [tl_eq] using hx.2), (by simpa only [tl_eq] using hy.2), snoc x fun z hz => (h4 z hz).1 x (by simp), fun w hw => ⟨fun z hz => ?_, fun z hz => ?_⟩, fun w => ?_, by simp at h6 ⊢; omega⟩, by simp; omega⟩
          · simp at hz
            rcases List.mem_append.1 hw with hw | hw
            · exact (h4 w hw).1 z (by simp [hz])
            · simp at hw; subst hw; exact hx.1 z hz
          · simp at hz
            rcases List.mem_append.1 hw with hw | hw
            · exact (h4 w hw).2 z (by simp [hz])
            · simp at hw; subst hw; exact hy.1 z hz
          · rw [← h5 w]; simp; grind
  · have he1 : xs = [] := by cases xs with | nil => rfl | cons _ _ => simp at he
    have he2 : ys = [] := by cases ys with | nil => rfl | cons _ _ => simp at he
    subst he1 he2
    refine wp_some (wp_some ?_)
    rw [ascS_eq h3 fun x => by simpa using h5 x]
end Go.Proofs.Ytbpdbooalkkenaa
