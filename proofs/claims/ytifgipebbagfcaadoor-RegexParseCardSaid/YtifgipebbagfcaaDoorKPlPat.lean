/-
  PATTERNS, PLAINLY: numerals, what is printed, what a parser reads; parsing undoes printing.
-/
import Derived.Lib.ItoaNum
import Derived.Test.YtifgipebbagfcaaDoorKPlRx
set_option linter.unusedVariables false
set_option linter.unusedSimpArgs false
namespace Go.Pl
open Go Go.Ev Go.Lib
def isDg (b : UInt8) : Prop := 48 ≤ b.toNat ∧ b.toNat ≤ 57
instance (b : UInt8) : Decidable (isDg b) := inferInstanceAs (Decidable (_ ∧ _))
def valD (l : List UInt8) : Nat := l.foldl (fun n b => 10 * n + (b.toNat - 48)) 0
theorem valD_snoc (l : List UInt8) (b : UInt8) : valD (l ++ [b]) = 10 * valD l + (b.toNat - 48) := by simp [valD, List.foldl_append]
theorem digit_nat {n : Nat} (h : n < 10) : (UInt8.ofNat (48 + n)).toNat = 48 + n := by simp; omega
theorem decD_spec : ∀ (n : Nat), (∀ b ∈ decDigits n, isDg b) ∧ valD (decDigits n) = n ∧ 0 < (decDigits n).length ∧ (1 < (decDigits n).length → ((decDigits n).getD 0 0).toNat ≠ 48) ∧ (0 < n → ((decDigits n).getD 0 0).toNat ≠ 48) := by
  intro n
  induction n using Nat.strongRecOn with
  | ind n ih =>
    rw [decDigits]
    by_cases h : n < 10
    · rw [dif_pos h]
      have := digit_nat h
      refine ⟨fun b hb => ?_, ?_, by simp, by simp, ?_⟩
      · simp only [List.mem_singleton] at hb; subst hb; unfold isDg; omega
      · show 10 * 0 + ((UInt8.ofNat (48 + n)).toNat - 48) = n; omega
      · intro h0; show (UInt8.ofNat (48 + n)).toNat ≠ 48; omega
    · rw [dif_neg h]
      obtain ⟨h1, h2, h3, h4, h5⟩ := ih (n / 10) (by omega)
      have hd := digit_nat (show n % 10 < 10 by omega)
      have hg : (decDigits (n / 10) ++ [UInt8.ofNat (48 + n % 10)]).getD 0 0 = (decDigits (n / 10)).getD 0 0 := by
        simp only [List.getD, List.getElem?_append_left h3]
      refine ⟨fun b hb => ?_, ?_, by simp, fun _ => ?_, fun _ => ?_⟩
      · simp only [List.mem_append, List.mem_singleton] at hb
        rcases hb with hb | rfl
        · exact h1 b hb
        · unfold isDg; omega
      · rw [valD_snoc, h2, hd]; omega
      · rw [hg]; exact h5 (by omega)
      · rw [hg]; exact h5 (by omega)
theorem decD_dig (n : Nat) : ∀ b ∈ decDigits n, isDg b := (decD_spec n).1
theorem decD_val (n : Nat) : valD (decDigits n) = n := (decD_spec n).2.1
theorem decD_pos (n : Nat) : 0 < (decDigits n).length := (decD_spec n).2.2.1
theorem decD_head (n : Nat) (h : 1 < (decDigits n).length) : ((decDigits n).getD 0 0).toNat ≠ 48 := (decD_spec n).2.2.2.1 h
theorem decD_len : ∀ (n k : Nat), n < 10 ^ (k + 1) → (decDigits n).length ≤ k + 1
  | n, 0, h => by
    rw [decDigits, dif_pos (by omega)]
    simp
  | n, k + 1, h => by
    rw [decDigits]
    split
    · simp
    · have := decD_len (n / 10) k (by rw [Nat.pow_succ] at h; omega)
      simp only [List.length_append, List.length_singleton]
      omega
theorem decD_len10 {n : Nat} (h : n ≤ 4294967295) : (decDigits n).length ≤ 10 := decD_len n 9 (by omega)
theorem takeD {l : List UInt8} {k : Nat} (h : k < l.length) : l.take (k + 1) = l.take k ++ [l.getD k 0] := by
  have e : l.getD k 0 = l[k] := by simp [List.getD, List.getElem?_eq_getElem h]
  rw [List.take_succ_eq_append_getElem h, e]
theorem valD_take_le (l : List UInt8) : ∀ (d k : Nat), k + d = l.length → valD (l.take k) ≤ valD l
  | 0, k, h => by rw [List.take_of_length_le (by omega)]; exact Nat.le_refl _
  | d + 1, k, h => by
    have h1 := valD_take_le l d (k + 1) (by omega)
    rw [takeD (by omega), valD_snoc] at h1
    omega
theorem valD_take {l : List UInt8} {k : Nat} (h : k ≤ l.length) : valD (l.take k) ≤ valD l := valD_take_le l (l.length - k) k (by omega)
def wrapB (p : Int) : Rx → Bool
  | .mk k _ _ ks => bif k == 4 then !ks.isEmpty else bif k == 3 then p != 4 else (k == 5 || k == 6 || k == 7) && (p == 5 || p == 6 || p == 7)
def encl (w : Bool) (l : List UInt8) : List UInt8 := bif w then 40 :: (l ++ [41]) else l
def jn (sep : UInt8) : List (List UInt8) → List UInt8
  | [] => []
  | [x] => x
  | x :: y :: l => x ++ sep :: jn sep (y :: l)
mutual
def pat : Rx → List UInt8
  | .mk k lo hi ks =>
    if k = 0 then [40, 41] else if k = 2 then [46]
    else if k = 1 then (if lo = hi then decDigits lo.toNat else 91 :: (decDigits lo.toNat ++ 45 :: (decDigits hi.toNat ++ [93])))
    else if k = 5 then (pats 5 ks).headD [] ++ [42] else if k = 6 then (pats 6 ks).headD [] ++ [43] else if k = 7 then (pats 7 ks).headD [] ++ [63]
    else if k = 4 then (if ks = [] then [33] else jn 124 (pats 4 ks)) else jn 32 (pats 3 ks)
def pats : Int → List Rx → List (List UInt8)
  | _, [] => []
  | p, r :: rs => encl (wrapB p r) (pat r) :: pats p rs
end
def inn (p : Int) (r : Rx) : List UInt8 := encl (wrapB p r) (pat r)
theorem pats_map (p : Int) : ∀ ks : List Rx, pats p ks = ks.map (inn p)
  | [] => by simp [pats]
  | r :: rs => by simp [pats, pats_map p rs, inn]
theorem jn_snoc (sep : UInt8) : ∀ (l : List (List UInt8)) (x : List UInt8), jn sep (l ++ [x]) = if l = [] then x else jn sep l ++ sep :: x
  | [], x => by simp [jn]
  | [y], x => by simp [jn]
  | y :: z :: l, x => by
    have := jn_snoc sep (z :: l) x
    simp only [List.cons_append, jn] at *
    rw [this]
    simp
theorem jn_len (sep : UInt8) : ∀ (l : List (List UInt8)), (jn sep l).length ≤ (l.map fun x => x.length + 1).sum
  | [] => by simp [jn]
  | [x] => by simp [jn]
  | x :: y :: l => by
    have := jn_len sep (y :: l)
    simp only [jn, List.length_append, List.length_cons, List.map_cons, List.sum_cons] at *
    omega
theorem inn_len (p : Int) (r : Rx) : (inn p r).length ≤ (pat r).length + 2 := by
  unfold inn encl
  cases wrapB p r <;> simp
theorem pat_len : ∀ (r : Rx), wellB r = true → (pat r).length + 3 ≤ 26 * sz r := by
  refine rx_ind fun k lo hi ks ih hw => ?_
  obtain ⟨hn, hks⟩ := well_iff.1 hw
  have hsum : ∀ p : Int, ∀ l : List Rx, (∀ r ∈ l, r ∈ ks) → ((l.map (inn p)).map fun x => x.length + 1).sum ≤ 26 * szs l := by
    intro p l
    induction l with
    | nil => intro _; simp
    | cons r l il =>
      intro h
      have h1 := ih r (h r (List.mem_cons_self ..)) (hks r (h r (List.mem_cons_self ..)))
      have h2 := il fun x hx => h x (List.mem_cons_of_mem _ hx)
      have h3 := inn_len p r
      simp only [List.map_cons, List.sum_cons, szs] at *
      omega
  have hd : ∀ p : Int, ((ks.map (inn p)).headD []).length ≤ 26 * szs ks := by
    intro p
    have h1 := hsum p ks fun _ h => h
    cases ks with
    | nil => simp
    | cons r l => simp only [List.map_cons, List.headD_cons, List.sum_cons] at *; omega
  have hj : ∀ (p : Int) (s : UInt8), (jn s (ks.map (inn p))).length ≤ 26 * szs ks := fun p s => Nat.le_trans (jn_len s _) (hsum p ks fun _ h => h)
  have hlo : k = 1 → (decDigits lo.toNat).length ≤ 10 ∧ (decDigits hi.toNat).length ≤ 10 := fun e => by
    have := hn.rng e
    exact ⟨decD_len10 (by omega), decD_len10 (by omega)⟩
  simp only [pat, pats_map, sz]
  split
  · simp; omega
  split
  · simp; omega
  split
  · rename_i h
    have := hlo h
    split <;> simp <;> omega
  split
  · have := hd 5; simp; simp at this; omega
  split
  · have := hd 6; simp; simp at this; omega
  split
  · have := hd 7; simp; simp at this; omega
  split
  · split
    · simp; omega
    · have := hj 4 124; omega
  · have := hj 3 32; omega
end Go.Pl
