/-
  REGULAR EXPRESSIONS, PLAINLY: nodes, sizes, which are well formed, which are valid, which match the empty path.
-/
import Derived.Test.YtifgipebbagfcaaDoorKPlGlu
set_option linter.unusedVariables false
set_option linter.unusedSimpArgs false
namespace Go.Pl
open Go Go.Ev
def fitsB (k n : Int) : Bool := bif k == 0 || k == 1 || k == 2 then n == 0 else bif k == 3 then decide (n ≥ 2) else bif k == 4 then n != 1 else bif k == 5 || k == 6 || k == 7 then n == 1 else false
def knownB (k : Int) : Bool := k == 0 || k == 1 || k == 2 || k == 3 || k == 4 || k == 5 || k == 6 || k == 7
def nodeE (k lo hi n : Int) : Int :=
  bif !knownB k then 15 else bif k == 1 && (decide (lo < 0) || decide (lo > hi) || decide (hi > 4294967295)) then 5 else bif (k != 1 && (lo != 0 || hi != 0)) || !fitsB k n then 1 else 0
theorem knownB_iff {k : Int} : knownB k = true ↔ k = 0 ∨ k = 1 ∨ k = 2 ∨ k = 3 ∨ k = 4 ∨ k = 5 ∨ k = 6 ∨ k = 7 := by
  simp only [knownB, Bool.or_eq_true, beq_iff_eq, or_assoc]
structure Node (k lo hi n : Int) : Prop where
  known : k = 0 ∨ k = 1 ∨ k = 2 ∨ k = 3 ∨ k = 4 ∨ k = 5 ∨ k = 6 ∨ k = 7
  rng : k = 1 → 0 ≤ lo ∧ lo ≤ hi ∧ hi ≤ 4294967295
  zero : k ≠ 1 → lo = 0 ∧ hi = 0
  leaf : k = 0 ∨ k = 1 ∨ k = 2 → n = 0
  seq : k = 3 → 2 ≤ n
  alt : k = 4 → n ≠ 1
  one : k = 5 ∨ k = 6 ∨ k = 7 → n = 1
theorem nodeE_zero {k lo hi n : Int} : nodeE k lo hi n = 0 ↔ Node k lo hi n := by
  constructor
  · intro h
    unfold nodeE at h
    cases h1 : knownB k
    · rw [h1] at h; exact absurd h (by simp)
    rw [h1] at h
    have hk := knownB_iff.1 h1
    simp only [Bool.not_true, cond_false] at h
    cases h2 : (k == 1 && (decide (lo < 0) || decide (lo > hi) || decide (hi > 4294967295)))
    · rw [h2] at h
      simp only [cond_false] at h
      cases h3 : ((k != 1 && (lo != 0 || hi != 0)) || !fitsB k n)
      · simp only [Bool.or_eq_false_iff, Bool.and_eq_false_iff, bne_eq_false_iff_eq, Bool.not_eq_false', beq_eq_false_iff_ne, decide_eq_false_iff_not] at h2 h3
        obtain ⟨h3, h4⟩ := h3
        refine ⟨hk, fun e => ?_, fun e => ?_, fun e => ?_, fun e => ?_, fun e => ?_, fun e => ?_⟩
        · rcases h2 with h2 | h2
          · exact absurd e h2
          · omega
        · rcases h3 with h3 | h3
          · exact absurd h3 e
          · exact h3
        · rcases e with rfl | rfl | rfl <;> simpa [fitsB] using h4
        · subst e; simpa [fitsB] using h4
        · subst e; simpa [fitsB] using h4
        · rcases e with rfl | rfl | rfl <;> simpa [fitsB] using h4
      · rw [h3] at h; exact absurd h (by simp)
    · rw [h2] at h; exact absurd h (by simp)
  · intro h
    have h1 : knownB k = true := knownB_iff.2 h.known
    have h2 : (k == 1 && (decide (lo < 0) || decide (lo > hi) || decide (hi > 4294967295))) = false := by
      by_cases e : k = 1
      · have := h.rng e
        simp only [Bool.and_eq_false_iff, Bool.or_eq_false_iff, decide_eq_false_iff_not]
        exact .inr ⟨⟨by omega, by omega⟩, by omega⟩
      · simp [e]
    have h3 : (k != 1 && (lo != 0 || hi != 0)) = false := by
      by_cases e : k = 1
      · simp [e]
      · have := h.zero e
        simp [this]
    have h4 : fitsB k n = true := by
      rcases h.known with rfl | rfl | rfl | rfl | rfl | rfl | rfl | rfl
      · simpa [fitsB] using h.leaf (by simp)
      · simpa [fitsB] using h.leaf (by simp)
      · simpa [fitsB] using h.leaf (by simp)
      · simpa [fitsB] using h.seq rfl
      · simpa [fitsB] using h.alt rfl
      · simpa [fitsB] using h.one (by simp)
      · simpa [fitsB] using h.one (by simp)
      · simpa [fitsB] using h.one (by simp)
    unfold nodeE
    rw [h1, h2, h3, h4]; rfl
mutual
def sz : Rx → Nat
  | .mk _ _ _ ks => 1 + szs ks
def szs : List Rx → Nat
  | [] => 0
  | r :: rs => sz r + szs rs
end
theorem szs_mem : ∀ {ks : List Rx} {r : Rx}, r ∈ ks → sz r ≤ szs ks
  | x :: ks, r, h => by
    simp only [szs]
    rcases List.mem_cons.1 h with rfl | h
    · omega
    · have := szs_mem h; omega
theorem sz_pos (r : Rx) : 0 < sz r := by cases r; simp only [sz]; omega
theorem szs_len : ∀ ks : List Rx, ks.length ≤ szs ks
  | [] => Nat.le_refl _
  | r :: ks => by
    simp only [szs, List.length_cons]
    have := szs_len ks; have := sz_pos r; omega
theorem szs_app : ∀ l m : List Rx, szs (l ++ m) = szs l + szs m
  | [], m => by simp [szs]
  | r :: l, m => by simp only [List.cons_append, szs, szs_app l m]; omega
mutual
def wellB : Rx → Bool
  | .mk k lo hi ks => nodeE k lo hi ks.length == 0 && wellBs ks
def wellBs : List Rx → Bool
  | [] => true
  | r :: rs => wellB r && wellBs rs
end
theorem wellBs_iff : ∀ ks : List Rx, wellBs ks = true ↔ ∀ r ∈ ks, wellB r = true
  | [] => by simp [wellBs]
  | r :: ks => by simp [wellBs, wellBs_iff ks]
theorem well_iff {k lo hi : Int} {ks : List Rx} : wellB (.mk k lo hi ks) = true ↔ Node k lo hi ks.length ∧ ∀ r ∈ ks, wellB r = true := by
  simp only [wellB, Bool.and_eq_true, beq_iff_eq, nodeE_zero, wellBs_iff]
mutual
def chk : Rx → Int → Int → Int × Int
  | .mk k lo hi ks, lv, c => if lv > 16 then (c, 24) else if c ≥ 64 then (c, 4) else if nodeE k lo hi ks.length ≠ 0 then (c, nodeE k lo hi ks.length) else chks ks (lv + 1) (c + 1)
def chks : List Rx → Int → Int → Int × Int
  | [], _, c => (c, 0)
  | r :: rs, lv, c => if (chk r lv c).2 ≠ 0 then chk r lv c else chks rs lv (chk r lv c).1
end
theorem len_nil {ks : List Rx} (h : (ks.length : Int) = 0) : ks = [] := List.length_eq_zero_iff.1 (by omega)
theorem len_one {ks : List Rx} (h : (ks.length : Int) = 1) : ∃ r, ks = [r] := List.length_eq_one_iff.1 (by omega)
end Go.Pl
