/-
  REGULAR EXPRESSIONS, PLAINLY: nodes, sizes, which are well formed, which are valid, which match the empty path.
-/
import Derived.Test.YtifgipebbagfcaaDoorHPlGlu
set_option linter.unusedVariables false
set_option linter.unusedSimpArgs false
namespace Go.Pl
open Go Go.Ev
def fitsB (k n : Int) : Bool := bif k == 0 || k == 1 || k == 2 then n == 0 else bif k == 3 then decide (n ≥ 2) else bif k == 4 then n != 1 else bif k == 5 || k == 6 || k == 7 then n == 1 else false
def knownB (k : Int) : Bool := k == 0 || k == 1 || k == 2 || k == 3 || k == 4 || k == 5 || k == 6 || k == 7
def nodeE (k lo hi n : Int) : Int :=
  bif !knownB k then 15 else bif k == 1 && (decide (lo < 0) || decide (lo > hi) || decide (hi > 4294967295)) then 5 else bif (k != 1 && (lo != 0 || hi != 0)) || !fitsB k n then 1 else 0
structure Node (k lo hi n : Int) : Prop where
  known : k = 0 ∨ k = 1 ∨ k = 2 ∨ k = 3 ∨ k = 4 ∨ k = 5 ∨ k = 6 ∨ k = 7
  rng : k = 1 → 0 ≤ lo ∧ lo ≤ hi ∧ hi ≤ 4294967295
  zero : k ≠ 1 → lo = 0 ∧ hi = 0
  leaf : k = 0 ∨ k = 1 ∨ k = 2 → n = 0
  seq : k = 3 → 2 ≤ n
  alt : k = 4 → n ≠ 1
  one : k = 5 ∨ k = 6 ∨ k = 7 → n = 1
mutual
def sz : Rx → Nat
  | .mk _ _ _ ks => 1 + szs ks
def szs : List Rx → Nat
  | [] => 0
  | r :: rs => sz r + szs rs
end
theorem szs_mem : ∀ {ks : List Rx} {r : Rx}, r ∈ ks → sz r ≤ szs ks
  | x :: ks, r, h => by
    simp only [szs]
    rcases List.mem_cons.1 h with rfl | h
    · omega
    · have := szs_mem h; omega
theorem sz_pos (r : Rx) : 0 < sz r := by cases r; simp only [sz]; omega
theorem szs_len : ∀ ks : List Rx, ks.length ≤ szs ks
  | [] => Nat.le_refl _
  | r :: ks => by
    simp only [szs, List.length_cons]
    have := szs_len ks; have := sz_pos r; omega
theorem szs_app : ∀ l m : List Rx, szs (l ++ m) = szs l + szs m
  | [], m => by simp [szs]
  | r :: l, m => by simp only [List.cons_append, szs, szs_app l m]; omega
mutual
def chk : Rx → Int → Int → Int × Int
  | .mk k lo hi ks, lv, c => if lv > 16 then (c, 24) else if c ≥ 64 then (c, 4) else if nodeE k lo hi ks.length ≠ 0 then (c, nodeE k lo hi ks.length) else chks ks (lv + 1) (c + 1)
def chks : List Rx → Int → Int → Int × Int
  | [], _, c => (c, 0)
  | r :: rs, lv, c => if (chk r lv c).2 ≠ 0 then chk r lv c else chks rs lv (chk r lv c).1
end
end Go.Pl
