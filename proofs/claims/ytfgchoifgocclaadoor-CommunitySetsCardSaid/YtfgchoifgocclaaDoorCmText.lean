/-
  NUMERALS AND THE TEXTS OF COMMUNITIES.
-/
import Derived.Lib.ItoaNum
namespace Go.Cm
open Go Go.Lib

def bs (l : List UInt8) : ByteArray := ⟨l.toArray⟩
theorem bs_list (l : List UInt8) : (bs l).toList = l := by rw [ByteArray.toList_eq]; simp [bs]
theorem list_bs (s : ByteArray) : bs s.toList = s := by rw [ByteArray.toList_eq]; apply ByteArray.ext; simp [bs]
theorem bs_inj {a b : ByteArray} (h : a.toList = b.toList) : a = b := by rw [← list_bs a, ← list_bs b, h]
theorem bs_size (l : List UInt8) : (bs l).size = l.length := by show l.toArray.size = l.length; simp
theorem size_list (s : ByteArray) : s.size = s.toList.length := by rw [ByteArray.toList_eq]; show s.data.size = s.data.toList.length; simp
theorem list_append (a b : ByteArray) : (a ++ b).toList = a.toList ++ b.toList := by rw [ByteArray.toList_eq, ByteArray.toList_eq, ByteArray.toList_eq, ByteArray.data_append, Array.toList_append]
theorem list_extract (s : ByteArray) (i j : Nat) : (s.extract i j).toList = (s.toList.take j).drop i := by
  rw [ByteArray.toList_eq, ByteArray.toList_eq, ByteArray.data_extract, Array.toList_extract]
  simp [List.extract_eq_take_drop, List.drop_take]

def isDig (b : UInt8) : Prop := 48 ≤ b.toNat ∧ b.toNat ≤ 57
def val (l : List UInt8) : Nat := l.foldl (fun n b => 10 * n + (b.toNat - 48)) 0
theorem val_snoc (l : List UInt8) (b : UInt8) : val (l ++ [b]) = 10 * val l + (b.toNat - 48) := by simp [val, List.foldl_append]
theorem digit_toNat {n : Nat} (h : n < 10) : (UInt8.ofNat (48 + n)).toNat = 48 + n := by simp; omega
theorem dec_spec : ∀ (n : Nat), (∀ b ∈ decDigits n, isDig b) ∧ val (decDigits n) = n ∧ 0 < (decDigits n).length ∧ (1 < (decDigits n).length → ((decDigits n).getD 0 0).toNat ≠ 48) ∧ (0 < n → ((decDigits n).getD 0 0).toNat ≠ 48) := by
  intro n
  induction n using Nat.strongRecOn with
  | ind n ih =>
    rw [decDigits]
    by_cases h : n < 10
    · rw [dif_pos h]
      have := digit_toNat h
      refine ⟨fun b hb => ?_, ?_, by simp, by simp, ?_⟩
      · simp only [List.mem_singleton] at hb; subst hb; unfold isDig; omega
      · show 10 * 0 + ((UInt8.ofNat (48 + n)).toNat - 48) = n; omega
      · intro h0; show (UInt8.ofNat (48 + n)).toNat ≠ 48; omega
    · rw [dif_neg h]
      obtain ⟨h1, h2, h3, h4, h5⟩ := ih (n / 10) (by omega)
      have hd := digit_toNat (show n % 10 < 10 by omega)
      have hg : (decDigits (n / 10) ++ [UInt8.ofNat (48 + n % 10)]).getD 0 0 = (decDigits (n / 10)).getD 0 0 := by
        simp only [List.getD, List.getElem?_append_left h3]
      refine ⟨fun b hb => ?_, ?_, by simp, fun _ => ?_, fun _ => ?_⟩
      · simp only [List.mem_append, List.mem_singleton] at hb
        rcases hb with hb | rfl
        · exact h1 b hb
        · unfold isDig; omega
      · rw [val_snoc, h2, hd]; omega
      · rw [hg]; exact h5 (by omega)
      · rw [hg]; exact h5 (by omega)
theorem dec_dig (n : Nat) : ∀ b ∈ decDigits n, isDig b := (dec_spec n).1
theorem dec_val (n : Nat) : val (decDigits n) = n := (dec_spec n).2.1
theorem dec_pos (n : Nat) : 0 < (decDigits n).length := (dec_spec n).2.2.1
theorem dec_head (n : Nat) (h : 1 < (decDigits n).length) : ((decDigits n).getD 0 0).toNat ≠ 48 := (dec_spec n).2.2.2.1 h
theorem dec_inj {a b : Nat} (h : decDigits a = decDigits b) : a = b := by rw [← dec_val a, ← dec_val b, h]
theorem take_getD {l : List UInt8} {k : Nat} (h : k < l.length) : l.take (k + 1) = l.take k ++ [l.getD k 0] := by
  have e : l.getD k 0 = l[k] := by simp [List.getD, List.getElem?_eq_getElem h]
  rw [List.take_succ_eq_append_getElem h, e]
theorem getD_in {l : List UInt8} {k : Nat} (h : k < l.length) : l.getD k 0 ∈ l := by
  have e : l.getD k 0 = l[k] := by simp [List.getD, List.getElem?_eq_getElem h]
  rw [e]; exact List.getElem_mem h
theorem val_take_le (l : List UInt8) : ∀ (d k : Nat), k + d = l.length → val (l.take k) ≤ val l
  | 0, k, h => by rw [List.take_of_length_le (by omega)]; exact Nat.le_refl _
  | d + 1, k, h => by
    have h1 := val_take_le l d (k + 1) (by omega)
    rw [take_getD (by omega), val_snoc] at h1
    omega
theorem val_take {l : List UInt8} {k : Nat} (h : k ≤ l.length) : val (l.take k) ≤ val l := val_take_le l (l.length - k) k (by omega)

/-! ### Texts -/
def t0 : List UInt8 := [103, 114, 97, 99, 101, 102, 117, 108, 45, 115, 104, 117, 116, 100, 111, 119, 110]
def t1 : List UInt8 := [110, 111, 45, 101, 120, 112, 111, 114, 116]
def t2 : List UInt8 := [110, 111, 45, 97, 100, 118, 101, 114, 116, 105, 115, 101]
def t3 : List UInt8 := [110, 111, 45, 101, 120, 112, 111, 114, 116, 45, 99, 111, 110, 102, 101, 100]
def plain (c : Int) : List UInt8 := decDigits (c / 65536).toNat ++ 58 :: decDigits (c % 65536).toNat
def text (c : Int) : List UInt8 := if c = 4294901760 then t0 else if c = 4294967041 then t1 else if c = 4294967042 then t2 else if c = 4294967043 then t3 else plain c
def ok32 (c : Int) : Prop := 0 ≤ c ∧ c < 4294967296

theorem split_inj {a a' b b' : List UInt8} (ha : ∀ x ∈ a, isDig x) (ha' : ∀ x ∈ a', isDig x) (h : a ++ 58 :: b = a' ++ 58 :: b') : a = a' ∧ b = b' := by
  induction a generalizing a' with
  | nil =>
    cases a' with
    | nil => simp at h; exact ⟨rfl, h⟩
    | cons y a' =>
      simp at h
      have := ha' y (by simp)
      rw [← h.1] at this
      unfold isDig at this
      have e : (58 : UInt8).toNat = 58 := rfl
      omega
  | cons x a ih =>
    cases a' with
    | nil =>
      simp at h
      have := ha x (by simp)
      rw [h.1] at this
      unfold isDig at this
      have e : (58 : UInt8).toNat = 58 := rfl
      omega
    | cons y a' =>
      simp at h
      obtain ⟨h1, h2⟩ := h
      obtain ⟨e1, e2⟩ := ih (a' := a') (fun z hz => ha z (by simp [hz])) (fun z hz => ha' z (by simp [hz])) h2
      exact ⟨by rw [h1, e1], e2⟩
theorem plain_inj {c d : Int} (hc : ok32 c) (hd : ok32 d) (h : plain c = plain d) : c = d := by
  obtain ⟨h1, h2⟩ := split_inj (dec_dig _) (dec_dig _) h
  have e1 := dec_inj h1
  have e2 := dec_inj h2
  obtain ⟨a1, a2⟩ := hc
  obtain ⟨b1, b2⟩ := hd
  omega
theorem plain_head (c : Int) : isDig ((plain c).getD 0 0) := by
  have h := dec_pos (c / 65536).toNat
  have e : (plain c).getD 0 0 = (decDigits (c / 65536).toNat).getD 0 0 := by
    simp only [plain, List.getD, List.getElem?_append_left h]
  rw [e]; exact dec_dig _ _ (getD_in h)
theorem plain_ne0 (c : Int) : plain c ≠ t0 := fun h => by have := plain_head c; rw [h] at this; revert this; unfold isDig t0; decide
theorem plain_ne1 (c : Int) : plain c ≠ t1 := fun h => by have := plain_head c; rw [h] at this; revert this; unfold isDig t1; decide
theorem plain_ne2 (c : Int) : plain c ≠ t2 := fun h => by have := plain_head c; rw [h] at this; revert this; unfold isDig t2; decide
theorem plain_ne3 (c : Int) : plain c ≠ t3 := fun h => by have := plain_head c; rw [h] at this; revert this; unfold isDig t3; decide
theorem text_inj {c d : Int} (hc : ok32 c) (hd : ok32 d) (h : text c = text d) : c = d := by
  unfold text at h
  have n01 : t0 ≠ t1 := by decide
  have n02 : t0 ≠ t2 := by decide
  have n03 : t0 ≠ t3 := by decide
  have n12 : t1 ≠ t2 := by decide
  have n13 : t1 ≠ t3 := by decide
  have n23 : t2 ≠ t3 := by decide
  have p0 := plain_ne0
  have p1 := plain_ne1
  have p2 := plain_ne2
  have p3 := plain_ne3
  have := @plain_inj c d hc hd
  grind
/-- What a parser of texts answers. -/
def Parsed (s : List UInt8) (c e : Int) : Prop := (ok32 c ∧ text c = s ∧ e = 0) ∨ ((∀ d, ok32 d → text d ≠ s) ∧ c = 0 ∧ e = 2)
theorem Parsed.uniq {s : List UInt8} {c e c' e' : Int} (h : Parsed s c e) (h' : Parsed s c' e') : c = c' ∧ e = e' := by
  rcases h with ⟨h1, h2, h3⟩ | ⟨h1, h2, h3⟩ <;> rcases h' with ⟨k1, k2, k3⟩ | ⟨k1, k2, k3⟩
  · exact ⟨text_inj h1 k1 (h2.trans k2.symm), h3.trans k3.symm⟩
  · exact absurd h2 (k1 c h1)
  · exact absurd k2 (h1 c' k1)
  · exact ⟨h2.trans k2.symm, h3.trans k3.symm⟩
theorem Parsed.known {c : Int} (h : ok32 c) : Parsed (text c) c 0 := .inl ⟨h, rfl, rfl⟩
end Go.Cm
