import Derived.Lib.ItoaNum
import Derived.Test.YtfgchoifgocclaaDoorML5
set_option linter.all false
/-
  NUMERALS AND THE TEXTS OF COMMUNITIES: plain facts.
-/
namespace Go.Pt
open Go Go.Lib Go.Av

def isDig (b : UInt8) : Prop := 48 ≤ b.toNat ∧ b.toNat ≤ 57
def val (l : List UInt8) : Nat := l.foldl (fun n b => 10 * n + (b.toNat - 48)) 0
theorem val_snoc (l : List UInt8) (b : UInt8) : val (l ++ [b]) = 10 * val l + (b.toNat - 48) := by simp [val, List.foldl_append]
theorem digit_toNat {n : Nat} (h : n < 10) : (UInt8.ofNat (48 + n)).toNat = 48 + n := by simp; omega
theorem dec_spec : ∀ (n : Nat), (∀ b ∈ decDigits n, isDig b) ∧ val (decDigits n) = n ∧ 0 < (decDigits n).length ∧ (1 < (decDigits n).length → ((decDigits n).getD 0 0).toNat ≠ 48) ∧ (0 < n → ((decDigits n).getD 0 0).toNat ≠ 48) := by
  intro n
  induction n using Nat.strongRecOn with
  | ind n ih =>
    rw [decDigits]
    by_cases h : n < 10
    · rw [dif_pos h]
      have := digit_toNat h
      refine ⟨fun b hb => ?_, ?_, by simp, by simp, ?_⟩
      · simp only [List.mem_singleton] at hb; subst hb; unfold isDig; omega
      · show 10 * 0 + ((UInt8.ofNat (48 + n)).toNat - 48) = n; omega
      · intro h0; show (UInt8.ofNat (48 + n)).toNat ≠ 48; omega
    · rw [dif_neg h]
      obtain ⟨h1, h2, h3, h4, h5⟩ := ih (n / 10) (by omega)
      have hd := digit_toNat (show n % 10 < 10 by omega)
      have hg : (decDigits (n / 10) ++ [UInt8.ofNat (48 + n % 10)]).getD 0 0 = (decDigits (n / 10)).getD 0 0 := by
        simp only [List.getD, List.getElem?_append_left h3]
      refine ⟨fun b hb => ?_, ?_, by simp, fun _ => ?_, fun _ => ?_⟩
      · simp only [List.mem_append, List.mem_singleton] at hb
        rcases hb with hb | rfl
        · exact h1 b hb
        · unfold isDig; omega
      · rw [val_snoc, h2, hd]; omega
      · rw [hg]; exact h5 (by omega)
      · rw [hg]; exact h5 (by omega)
theorem dec_dig (n : Nat) : ∀ b ∈ decDigits n, isDig b := (dec_spec n).1
theorem dec_val (n : Nat) : val (decDigits n) = n := (dec_spec n).2.1
theorem dec_pos (n : Nat) : 0 < (decDigits n).length := (dec_spec n).2.2.1
theorem dec_head (n : Nat) (h : 1 < (decDigits n).length) : ((decDigits n).getD 0 0).toNat ≠ 48 := (dec_spec n).2.2.2.1 h
theorem dec_inj {a b : Nat} (h : decDigits a = decDigits b) : a = b := by rw [← dec_val a, ← dec_val b, h]
theorem take_getD {l : List UInt8} {k : Nat} (h : k < l.length) : l.take (k + 1) = l.take k ++ [l.getD k 0] := by
  have e : l.getD k 0 = l[k] := by simp [List.getD, List.getElem?_eq_getElem h]
  rw [List.take_succ_eq_append_getElem h, e]
theorem getD_in {l : List UInt8} {k : Nat} (h : k < l.length) : l.getD k 0 ∈ l := by
  have e : l.getD k 0 = l[k] := by simp [List.getD, List.getElem?_eq_getElem h]
  rw [e]; exact List.getElem_mem h
theorem val_take_le (l : List UInt8) : ∀ (d k : Nat), k + d = l.length → val (l.take k) ≤ val l
  | 0, k, h => by rw [List.take_of_length_le (by omega)]; exact Nat.le_refl _
  | d + 1, k, h => by
    have h1 := val_take_le l d (k + 1) (by omega)
    rw [take_getD (by omega), val_snoc] at h1
    omega
theorem val_take {l : List UInt8} {k : Nat} (h : k ≤ l.length) : val (l.take k) ≤ val l := val_take_le l (l.length - k) k (by omega)

/-! ### Texts -/
def t0 : List UInt8 := [103, 114, 97, 99, 101, 102, 117, 108, 45, 115, 104, 117, 116, 100, 111, 119, 110]
def t1 : List UInt8 := [110, 111, 45, 101, 120, 112, 111, 114, 116]
def t2 : List UInt8 := [110, 111, 45, 97, 100, 118, 101, 114, 116, 105, 115, 101]
def t3 : List UInt8 := [110, 111, 45, 101, 120, 112, 111, 114, 116, 45, 99, 111, 110, 102, 101, 100]
def plain (c : Int) : List UInt8 := decDigits (c / 65536).toNat ++ 58 :: decDigits (c % 65536).toNat
def text (c : Int) : List UInt8 := if c = 4294901760 then t0 else if c = 4294967041 then t1 else if c = 4294967042 then t2 else if c = 4294967043 then t3 else plain c
def ok32 (c : Int) : Prop := 0 ≤ c ∧ c < 4294967296

theorem split_inj {a a' b b' : List UInt8} (ha : ∀ x ∈ a, isDig x) (ha' : ∀ x ∈ a', isDig x) (h : a ++ 58 :: b = a' ++ 58 :: b') : a = a' ∧ b = b' := by
  induction a generalizing a' with
  | nil =>
    cases a' with
    | nil => simp at h; exact ⟨rfl, h⟩
    | cons y a' =>
      simp at h
      have := ha' y (by simp)
      rw [← h.1] at this
      unfold isDig at this
      have e : (58 : UInt8).toNat = 58 := rfl
      omega
  | cons x a ih =>
    cases a' with
    | nil =>
      simp at h
      have := ha x (by simp)
      rw [h.1] at this
      unfold isDig at this
      have e : (58 : UInt8).toNat = 58 := rfl
      omega
    | cons y a' =>
      simp at h
      obtain ⟨h1, h2⟩ := h
      obtain ⟨e1, e2⟩ := ih (a' := a') (fun z hz => ha z (by simp [hz])) (fun z hz => ha' z (by simp [hz])) h2
      exact ⟨by rw [h1, e1], e2⟩
theorem plain_inj {c d : Int} (hc : ok32 c) (hd : ok32 d) (h : plain c = plain d) : c = d := by
  obtain ⟨h1, h2⟩ := split_inj (dec_dig _) (dec_dig _) h
  have e1 := dec_inj h1
  have e2 := dec_inj h2
  obtain ⟨a1, a2⟩ := hc
  obtain ⟨b1, b2⟩ := hd
  omega
theorem plain_head (c : Int) : isDig ((plain c).getD 0 0) := by
  have h := dec_pos (c / 65536).toNat
  have e : (plain c).getD 0 0 = (decDigits (c / 65536).toNat).getD 0 0 := by
    simp only [plain, List.getD, List.getElem?_append_left h]
  rw [e]; exact dec_dig _ _ (getD_in h)
theorem plain_ne0 (c : Int) : plain c ≠ t0 := fun h => by have := plain_head c; rw [h] at this; revert this; unfold isDig t0; decide
theorem plain_ne1 (c : Int) : plain c ≠ t1 := fun h => by have := plain_head c; rw [h] at this; revert this; unfold isDig t1; decide
theorem plain_ne2 (c : Int) : plain c ≠ t2 := fun h => by have := plain_head c; rw [h] at this; revert this; unfold isDig t2; decide
theorem plain_ne3 (c : Int) : plain c ≠ t3 := fun h => by have := plain_head c; rw [h] at this; revert this; unfold isDig t3; decide
theorem text_inj {c d : Int} (hc : ok32 c) (hd : ok32 d) (h : text c = text d) : c = d := by
  unfold text at h
  have n01 : t0 ≠ t1 := by decide
  have n02 : t0 ≠ t2 := by decide
  have n03 : t0 ≠ t3 := by decide
  have n12 : t1 ≠ t2 := by decide
  have n13 : t1 ≠ t3 := by decide
  have n23 : t2 ≠ t3 := by decide
  have p0 := plain_ne0
  have p1 := plain_ne1
  have p2 := plain_ne2
  have p3 := plain_ne3
  have := @plain_inj c d hc hd
  grind
/-- What a parser of texts answers. -/
def Parsed (s : List UInt8) (c e : Int) : Prop := (ok32 c ∧ text c = s ∧ e = 0) ∨ ((∀ d, ok32 d → text d ≠ s) ∧ c = 0 ∧ e = 2)
theorem Parsed.uniq {s : List UInt8} {c e c' e' : Int} (h : Parsed s c e) (h' : Parsed s c' e') : c = c' ∧ e = e' := by
  rcases h with ⟨h1, h2, h3⟩ | ⟨h1, h2, h3⟩ <;> rcases h' with ⟨k1, k2, k3⟩ | ⟨k1, k2, k3⟩
  · exact ⟨text_inj h1 k1 (h2.trans k2.symm), h3.trans k3.symm⟩
  · exact absurd h2 (k1 c h1)
  · exact absurd k2 (h1 c' k1)
  · exact ⟨h2.trans k2.symm, h3.trans k3.symm⟩
theorem Parsed.known {c : Int} (h : ok32 c) : Parsed (text c) c 0 := .inl ⟨h, rfl, rfl⟩
theorem w8 (n : Int) : IntKind.u8.wrap n = n % 256 := by simp [IntKind.wrap, IntKind.bits, IntKind.signed]
theorem w32 (n : Int) : IntKind.u32.wrap n = n % 4294967296 := by simp [IntKind.wrap, IntKind.bits, IntKind.signed]
theorem w64 (n : Int) : IntKind.u64.wrap n = n % 18446744073709551616 := by simp [IntKind.wrap, IntKind.bits, IntKind.signed]
theorem dec_len : ∀ (n k : Nat), n < 10 ^ (k + 1) → (Lib.decDigits n).length ≤ k + 1
  | n, 0, h => by
    rw [Lib.decDigits, dif_pos (by omega)]
    simp
  | n, k + 1, h => by
    rw [Lib.decDigits]
    split
    · simp
    · have := dec_len (n / 10) k (by rw [Nat.pow_succ] at h; omega)
      simp only [List.length_append, List.length_singleton]
      omega
theorem dec_len5 {n : Nat} (h : n ≤ 65535) : (Lib.decDigits n).length ≤ 5 := dec_len n 4 (by omega)

theorem shr16 {c : Int} (h : ok32 c) : IntKind.i64.wrap (c.fdiv (2 ^ 16)) = c / 65536 := by
  obtain ⟨h1, h2⟩ := h
  rw [IntKind.wrap_i64, Int.fdiv_eq_ediv_of_nonneg _ (by omega)]
  omega
theorem and16 {c : Int} (h : ok32 c) : bitsI .u32 .and c 65535 = c % 65536 := by
  obtain ⟨h1, h2⟩ := h
  obtain ⟨n, rfl⟩ : ∃ n : Nat, c = n := ⟨c.toNat, by omega⟩
  have e : (BitVec.ofInt IntKind.u32.bits (n : Int) &&& BitVec.ofInt IntKind.u32.bits 65535).toNat = n % 65536 := by
    have e1 : BitVec.ofInt IntKind.u32.bits (n : Int) = BitVec.ofNat 32 n := by simp [IntKind.bits]
    have e2 : BitVec.ofInt IntKind.u32.bits 65535 = BitVec.ofNat 32 65535 := rfl
    rw [e1, e2]
    show (BitVec.ofNat 32 n &&& BitVec.ofNat 32 65535).toNat = _
    rw [BitVec.toNat_and, BitVec.toNat_ofNat, BitVec.toNat_ofNat, Nat.mod_eq_of_lt (by omega : n < 2 ^ 32), Nat.mod_eq_of_lt (by omega : 65535 < 2 ^ 32), show 65535 = 2 ^ 16 - 1 from rfl, Nat.and_two_pow_sub_one_eq_mod]
  show IntKind.u32.wrap ((BitVec.ofInt IntKind.u32.bits (n : Int) &&& BitVec.ofInt IntKind.u32.bits 65535).toNat : Int) = _
  rw [e, w32]
  omega
theorem and16' {c : Int} (h : ok32 c) : IntKind.i64.wrap (bitsI .u32 .and c 65535) = c % 65536 := by
  rw [and16 h, IntKind.wrap_i64]; omega

theorem plain_len (c : Int) (h : ok32 c) : (Lib.decDigits (c / 65536).toNat).length ≤ 5 ∧ (Lib.decDigits (c % 65536).toNat).length ≤ 5 := by
  obtain ⟨h1, h2⟩ := h
  exact ⟨dec_len5 (by omega), dec_len5 (by omega)⟩
/-- No known word. -/
def Unk (s : List UInt8) : Prop := s ≠ t0 ∧ s ≠ t1 ∧ s ≠ t2 ∧ s ≠ t3
theorem unk_plain {s : List UInt8} (h : Unk s) {d : Int} (hd : text d = s) : plain d = s := by
  obtain ⟨h0, h1, h2, h3⟩ := h
  unfold text at hd
  grind
theorem plain_split {s : List UInt8} {k : Nat} {d : Int} (hk : k < s.length) (hno : ∀ b ∈ s.take k, b ≠ 58) (h58 : s.getD k 0 = 58) (h : plain d = s) : s.take k = Lib.decDigits (d / 65536).toNat ∧ s.drop (k + 1) = Lib.decDigits (d % 65536).toNat := by
  have e : s.getD k 0 = s[k] := by simp [List.getD, List.getElem?_eq_getElem hk]
  have hs : s.take k ++ 58 :: s.drop (k + 1) = s := by
    rw [← h58, e, ← List.drop_eq_getElem_cons hk, List.take_append_drop]
  have h' : Lib.decDigits (d / 65536).toNat ++ 58 :: Lib.decDigits (d % 65536).toNat = s.take k ++ 58 :: s.drop (k + 1) := by rw [hs]; exact h
  generalize Lib.decDigits (d % 65536).toNat = b at *
  have hdig := dec_dig (d / 65536).toNat
  generalize Lib.decDigits (d / 65536).toNat = a at *
  generalize s.take k = a', s.drop (k + 1) = b' at *
  clear h hs e h58 hk
  induction a generalizing a' with
  | nil =>
    cases a' with
    | nil => simp at h'; exact ⟨rfl, h'.symm⟩
    | cons y a' => simp at h'; exact absurd h'.1.symm (hno y (by simp))
  | cons x a ih =>
    cases a' with
    | nil =>
      simp at h'
      have := hdig x (by simp)
      rw [h'.1] at this
      unfold isDig at this
      have e : (58 : UInt8).toNat = 58 := rfl
      omega
    | cons y a' =>
      simp at h'
      obtain ⟨e1, e2⟩ := ih (fun z hz => hdig z (by simp [hz])) a' (fun z hz => hno z (by simp [hz])) h'.2
      exact ⟨by rw [h'.1, e1], e2⟩
theorem mem58 (d : Int) : (58 : UInt8) ∈ plain d := by simp [plain]

theorem or16 {a b : Nat} (ha : a ≤ 65535) (hb : b ≤ 65535) : bitsI .u32 .or (IntKind.u32.wrap (IntKind.u32.wrap (a : Int) * 2 ^ 16)) (IntKind.u32.wrap (b : Int)) = ((a * 65536 + b : Nat) : Int) := by
  have e0 : IntKind.u32.wrap (IntKind.u32.wrap (a : Int) * 2 ^ 16) = ((2 ^ 16 * a : Nat) : Int) := by rw [w32, w32]; omega
  have e1 : IntKind.u32.wrap (b : Int) = ((b : Nat) : Int) := by rw [w32]; omega
  rw [e0, e1]
  have f1 : BitVec.ofInt IntKind.u32.bits ((2 ^ 16 * a : Nat) : Int) = BitVec.ofNat 32 (2 ^ 16 * a) := BitVec.ofInt_natCast 32 _
  have f2 : BitVec.ofInt IntKind.u32.bits ((b : Nat) : Int) = BitVec.ofNat 32 b := BitVec.ofInt_natCast 32 _
  show IntKind.u32.wrap ((BitVec.ofInt IntKind.u32.bits ((2 ^ 16 * a : Nat) : Int) ||| BitVec.ofInt IntKind.u32.bits ((b : Nat) : Int)).toNat : Int) = _
  rw [f1, f2]
  show IntKind.u32.wrap ((BitVec.ofNat 32 (2 ^ 16 * a) ||| BitVec.ofNat 32 b).toNat : Int) = _
  rw [BitVec.toNat_or, BitVec.toNat_ofNat, BitVec.toNat_ofNat, Nat.mod_eq_of_lt (by omega : 2 ^ 16 * a < 2 ^ 32), Nat.mod_eq_of_lt (by omega : b < 2 ^ 32), ← Nat.two_pow_add_eq_or_of_lt (by omega : b < 2 ^ 16), w32]
  omega
theorem or_ok (x y : Int) : ok32 (bitsI .u32 .or x y) := by
  show ok32 (IntKind.u32.wrap _)
  rw [w32]
  exact ⟨by omega, by omega⟩


end Go.Pt
