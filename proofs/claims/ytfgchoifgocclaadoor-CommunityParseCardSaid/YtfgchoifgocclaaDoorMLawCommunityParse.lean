import Derived.Test.YtfgchoifgocclaaDoorMGlueB
import Derived.Test.YtfgchoifgocclaaDoorML8
import Derived.Test.YtfgchoifgocclaaDoorMPlText
set_option linter.all false
/-
  'CommunityParse': THE PLAIN LAW.
-/
namespace Go.Proofs.YtfgchoifgocclaaDoor
open Go Go.Av Go.Ev Go.Pt Go.Lib

theorem C_Itoa {n m : Int} (e : n = m) (h0 : 0 ≤ m) (h1 : m ≤ 65535) : Calls' tbl N_strconv_Itoa [.d tI n] [] q_strconv_Itoa (decDigits m.toNat, ()) := by
  subst e
  refine calls_nat t_strconv_Itoa ?_ rfl
  have hb : i64B n = true := by simp only [i64B, Bool.and_eq_true, decide_eq_true_eq]; omega
  have hi : Lib.itoa n = decDigits n.toNat := by unfold Lib.itoa; rw [if_neg (by omega)]
  simp only [natItoa, hb, cond_true, hi]
  rfl
theorem C_Decimal {n m : Int} (e : n = m) (h0 : 0 ≤ m) (h1 : m ≤ 65535) : Calls' tbl N_field_Decimal [.d tI n] [] q_field_Decimal (decDigits m.toNat, ()) := by
  refine calls_of rfl (conv_of t_field_Decimal rfl (fun O k => x_field_Decimal O k n) ?_)
  unfold G_field_Decimal
  exact wp_call (C_Itoa e h0 h1) (wp_some rfl)

theorem C_digits : ∀ (n : Nat) (m : Int), m = (n : Int) → n ≤ 65535 → Calls' tbl N_ref03_digits [.d tQ m] [] q_ref03_digits (decDigits n, ()) := by
  intro n
  induction n using Nat.strongRecOn with
  | ind n ih =>
    intro m hm hn
    subst hm
    refine calls_of rfl (conv_of t_ref03_digits rfl (fun O k => x_ref03_digits O k (n : Int)) ?_)
    unfold G_ref03_digits
    have e1 : IntKind.wrap .u8 (IntKind.wrap .u64 ((48 : Int) + (Int.tmod (n : Int) (10 : Int)))) = ((48 + n % 10 : Nat) : Int) := by
      rw [w8, w64, Int.tmod_eq_emod_of_nonneg (by omega)]; omega
    refine wp_guard rfl ?_
    refine wp_bif (fun hlt => ?_) (fun hge => ?_)
    · have hlt' : n < 10 := by have := of_decide_eq_true hlt; omega
      refine wp_some ?_
      have : decDigits n = [UInt8.ofNat (48 + n % 10)] := by rw [decDigits, dif_pos hlt', Nat.mod_eq_of_lt hlt']
      rw [this, e1]
      rfl
    · have hge' : 10 ≤ n := by have := of_decide_eq_false hge; omega
      have e3 : IntKind.wrap .u64 (Int.tdiv (n : Int) 10) = ((n / 10 : Nat) : Int) := by
        rw [w64, Int.tdiv_eq_ediv_of_nonneg (by omega)]; omega
      have hl := dec_len5 (show n / 10 ≤ 65535 by omega)
      refine wp_guard rfl (wp_call (ih (n / 10) (by omega) _ e3 (by omega)) (wp_guard ?_ (wp_some ?_)))
      · rw [decide_eq_true_eq]
        show (decDigits (n / 10)).length + 1 ≤ 9223372036854775807
        omega
      · rw [e1]
        have : decDigits n = decDigits (n / 10) ++ [UInt8.ofNat (48 + n % 10)] := by
          conv => lhs; rw [decDigits, dif_neg (by omega)]
        rw [this]
        rfl
theorem C_refDecimal {n m : Int} (e : n = m) (h0 : 0 ≤ m) (h1 : m ≤ 65535) : Calls' tbl N_ref03_Decimal [.d tI n] [] q_ref03_Decimal (decDigits m.toNat, ()) := by
  subst e
  refine calls_of rfl (conv_of t_ref03_Decimal rfl (fun O k => x_ref03_Decimal O k n) ?_)
  unfold G_ref03_Decimal
  refine wp_bif (fun hlt => absurd (of_decide_eq_true hlt) (by omega)) (fun _ => ?_)
  exact wp_call (C_digits n.toNat _ (by rw [w64]; omega) (by omega)) (wp_some rfl)

theorem text_of {c : Int} {a b : List UInt8} (ha : a = decDigits (c / 65536).toNat) (hb : b = decDigits (c % 65536).toNat) : (a ++ ([58] : List UInt8)) ++ b = plain c := by
  subst ha; subst hb; simp [plain]

theorem C_refText (c : Int) (hc : ok32 c) : Calls' tbl N_ref18_Text [.d tW c] [] q_ref18_Text (text c, ()) := by
  have hpl := plain_len c hc
  obtain ⟨hc0, hc1⟩ := hc
  refine calls_of rfl (conv_of t_ref18_Text rfl (fun O k => x_ref18_Text O k c) ?_)
  unfold G_ref18_Text
  unfold text
  refine wp_bif (fun h => ?_) (fun h0 => ?_)
  · rw [if_pos (by simpa using h)]; exact wp_some rfl
  rw [if_neg (by simpa using h0)]
  refine wp_bif (fun h => ?_) (fun h1 => ?_)
  · rw [if_pos (by simpa using h)]; exact wp_some rfl
  rw [if_neg (by simpa using h1)]
  refine wp_bif (fun h => ?_) (fun h2 => ?_)
  · rw [if_pos (by simpa using h)]; exact wp_some rfl
  rw [if_neg (by simpa using h2)]
  refine wp_bif (fun h => ?_) (fun h3 => ?_)
  · rw [if_pos (by simpa using h)]; exact wp_some rfl
  rw [if_neg (by simpa using h3)]
  refine wp_guard rfl (wp_call (C_refDecimal (shr16 ⟨hc0, hc1⟩) (by omega) (by omega)) (wp_guard ?_ (wp_call (C_refDecimal (and16' ⟨hc0, hc1⟩) (by omega) (by omega)) (wp_guard ?_ (wp_some ?_)))))
  · rw [decide_eq_true_eq]
    show (decDigits (c / 65536).toNat).length + 1 ≤ _
    omega
  · rw [decide_eq_true_eq, List.length_append]
    show (decDigits (c / 65536).toNat).length + 1 + (decDigits (c % 65536).toNat).length ≤ _
    omega
  · rw [text_of rfl rfl]


theorem C_names : Calls' tbl N_community_names [] [] q_community_names (((4294901760 : Int), (4294967041 : Int), (4294967042 : Int), (4294967043 : Int), ()), (t0, t1, t2, t3, ()), ()) := by
  refine calls_of rfl (conv_of t_community_names rfl (fun O k => x_community_names O k) ?_)
  unfold G_community_names
  exact wp_some rfl

theorem C_cText (c : Int) (hc : ok32 c) : Calls' tbl N_community_Text [.d tW c] [] q_community_Text (text c, ()) := by
  have hpl := plain_len c hc
  obtain ⟨hc0, hc1⟩ := hc
  refine calls_of rfl (conv_of t_community_Text rfl (fun O k => x_community_Text O k c) ?_)
  unfold G_community_Text
  refine wp_call C_names (wp_bind (wp_ofL ?_))
  unfold text
  refine wpL_step ?_
  unfold L_community_Text_0
  refine wp_bif (fun _ => wp_bind ⟨_, ?_, 0, fun _ _ => rfl⟩) (fun h => by cases h)
  refine wp_bif (fun h => wp_guard rfl (wp_bind ⟨_, wp_some ?_, 0, fun _ _ => rfl⟩)) (fun h0 => wp_some ?_)
  · rw [if_pos (by simpa using h)]; exact wp_some rfl
  rw [if_neg (by simpa using h0)]
  refine wpL_step ?_
  refine wp_bif (fun _ => wp_bind ⟨_, ?_, 0, fun _ _ => rfl⟩) (fun h => by cases h)
  refine wp_bif (fun h => wp_guard rfl (wp_bind ⟨_, wp_some ?_, 0, fun _ _ => rfl⟩)) (fun h1 => wp_some ?_)
  · rw [if_pos (by simpa using h)]; exact wp_some rfl
  rw [if_neg (by simpa using h1)]
  refine wpL_step ?_
  refine wp_bif (fun _ => wp_bind ⟨_, ?_, 0, fun _ _ => rfl⟩) (fun h => by cases h)
  refine wp_bif (fun h => wp_guard rfl (wp_bind ⟨_, wp_some ?_, 0, fun _ _ => rfl⟩)) (fun h2 => wp_some ?_)
  · rw [if_pos (by simpa using h)]; exact wp_some rfl
  rw [if_neg (by simpa using h2)]
  refine wpL_step ?_
  refine wp_bif (fun _ => wp_bind ⟨_, ?_, 0, fun _ _ => rfl⟩) (fun h => by cases h)
  refine wp_bif (fun h => wp_guard rfl (wp_bind ⟨_, wp_some ?_, 0, fun _ _ => rfl⟩)) (fun h3 => wp_some ?_)
  · rw [if_pos (by simpa using h)]; exact wp_some rfl
  rw [if_neg (by simpa using h3)]
  refine wpL_step ?_
  refine wp_bif (fun h => by cases h) (fun _ => wp_some ?_)
  show Wp _ _
  refine wp_guard rfl (wp_call (C_Decimal (shr16 ⟨hc0, hc1⟩) (by omega) (by omega)) (wp_guard ?_ (wp_call (C_Decimal (and16' ⟨hc0, hc1⟩) (by omega) (by omega)) (wp_guard ?_ (wp_some ?_)))))
  · rw [decide_eq_true_eq]
    show (decDigits (c / 65536).toNat).length + 1 ≤ _
    omega
  · rw [decide_eq_true_eq, List.length_append]
    show (decDigits (c / 65536).toNat).length + 1 + (decDigits (c % 65536).toNat).length ≤ _
    omega
  · rw [text_of rfl rfl]

theorem C_canonical (s : List UInt8) (hs : s.length ≤ 1000) : ∃ c, (∀ n, s = decDigits n → c = (true, ())) ∧ Calls' tbl N_field_canonical [.d tS s] [] q_field_canonical c := by
  refine calls_ex (sh := q_field_canonical) (fun _ => rfl) (conv_of t_field_canonical rfl (fun O k => x_field_canonical O k s) ?_)
  unfold G_field_canonical
  refine wp_bind (wp_or (b := decide ((s.length : Int) > (1 : Int)) && (((s.getD 0 0).toNat : Int) == (48 : Int))) (fun h0 => wp_bind (wp_and (b := (((s.getD 0 0).toNat : Int) == (48 : Int))) (fun h1 => ?_) (wp_some rfl))) ?_)
  · have hl : 1 < s.length := by have := of_decide_eq_true h1; omega
    refine wp_idx (x := s.getD 0 0) (Int.le_refl _) ?_ (wp_some rfl)
    rw [List.getD, Int.toNat_zero, List.getElem?_eq_getElem (show 0 < s.length by omega)]; rfl
  · refine wp_bif (fun h => wp_some ⟨(false, ()), rfl, fun n hn => ?_⟩) (fun h => ?_)
    · exfalso
      have hp := dec_pos n
      have hh := dec_head n
      rw [← hn] at hp hh
      simp only [Bool.or_eq_true, Bool.and_eq_true, decide_eq_true_eq, beq_iff_eq] at h
      rcases h with h | ⟨h1, h2⟩
      · rw [h] at hp; simp at hp
      · exact hh (by omega) (by omega)
    · refine wp_bind (Wp.imp (Q := fun r => match r with | .inl v => v.1 = false ∧ ∀ n, s ≠ decDigits n | .inr _ => True) (wp_range (N := s.length) (I := fun i st => st = ((i : Int), ())) rfl (fun i st hi hst => ?_) fun st hst => ?_) fun r hr => ?_)
      · subst hst
        unfold L_field_canonical_0
        have hx := List.getElem?_eq_getElem hi
        refine wp_bif (fun _ => ?_) (fun h => absurd h (by simp; omega))
        refine wp_idx (Int.natCast_nonneg _) hx ?_
        refine wp_bind (wp_or (b := decide ((s[i].toNat : Int) > (57 : Int))) (fun _ => wp_idx (Int.natCast_nonneg _) hx (wp_some rfl)) ?_)
        refine wp_bif (fun hb => wp_some ⟨rfl, fun n hn => ?_⟩) (fun _ => wp_some ?_)
        · have := dec_dig n s[i] (by rw [← hn]; exact List.getElem_mem hi)
          unfold isDig at this
          simp only [Bool.or_eq_true, decide_eq_true_eq] at hb
          omega
        · simp only
          rw [wrap_succ hi (by omega)]
      · subst hst
        unfold L_field_canonical_0
        exact wp_bif (fun h => absurd h (by simp)) fun _ => wp_some trivial
      · cases r with
        | inl v => exact wp_some ⟨_, rfl, fun n hn => absurd hn (hr.2 n)⟩
        | inr v => exact wp_some ⟨_, rfl, fun _ _ => rfl⟩

theorem C_Number (s : List UInt8) (hs : s.length ≤ 1000) : ∃ c, (∀ m : Nat, m ≤ 65535 → s = decDigits m → c = ((m : Int), (0 : Int), ())) ∧ Calls' tbl N_field_Number [.d tS s, .d tI (65535 : Int)] [] q_field_Number c := by
  obtain ⟨cc, hcc, hcall⟩ := C_canonical s hs
  refine calls_ex (sh := q_field_Number) (fun _ => rfl) (conv_of t_field_Number rfl (fun O k => x_field_Number O k s 65535) ?_)
  unfold G_field_Number
  refine wp_call hcall (wp_bif (fun h => wp_some ⟨_, rfl, fun m hm hn => ?_⟩) (fun _ => ?_))
  · rw [hcc m hn] at h; cases h
  refine wp_bind (Wp.imp (Q := fun r => match r with | .inl v => ∀ m : Nat, m ≤ 65535 → s ≠ decDigits m | .inr v => ∀ m : Nat, m ≤ 65535 → s = decDigits m → v.1 = m) (wp_range (N := s.length) (I := fun i st => st.2.1 = (i : Int) ∧ ∀ m : Nat, m ≤ 65535 → s = decDigits m → st.1 = (val (s.take i) : Int)) ⟨rfl, fun _ _ _ => rfl⟩ (fun i st hi hst => ?_) fun st hst => ?_) fun r hr => ?_)
  · obtain ⟨n, j, _⟩ := st
    obtain ⟨h1, h2⟩ := hst
    simp only at h1 h2
    subst h1
    unfold L_field_Number_0
    have hx := List.getElem?_eq_getElem hi
    have hk : ∀ m : Nat, m ≤ 65535 → s = decDigits m → n = (val (s.take i) : Int) ∧ val (s.take i) ≤ 65535 ∧ isDig s[i] ∧ val (s.take (i + 1)) ≤ 65535 ∧ val (s.take (i + 1)) = 10 * val (s.take i) + (s[i].toNat - 48) := fun m hm hn => by
      have hv : val s = m := by rw [hn, dec_val]
      have hd : isDig s[i] := dec_dig m s[i] (by rw [← hn]; exact List.getElem_mem hi)
      have e : s.getD i 0 = s[i] := by simp [List.getD, hx]
      exact ⟨h2 m hm hn, by have := val_take (l := s) (k := i) (by omega); omega, hd, by have := val_take (l := s) (k := i + 1) (by omega); omega, by rw [take_getD hi, val_snoc, e]⟩
    have hdg : isDig s[i] → IntKind.wrap .i64 (IntKind.wrap .u8 ((s[i].toNat : Int) - 48)) = ((s[i].toNat - 48 : Nat) : Int) := fun h => by
      unfold isDig at h
      rw [w8, wrap_i64 (by omega) (by omega)]; omega
    refine wp_bif (fun _ => ?_) (fun h => absurd h (by simp; omega))
    refine wp_idx (Int.natCast_nonneg _) hx ?_
    refine wp_guard rfl (wp_bif (fun hb => wp_some fun m hm hn => ?_) (fun _ => wp_some ⟨?_, fun m hm hn => ?_⟩))
    · obtain ⟨g1, g2, g3, g4, g5⟩ := hk m hm hn
      have hb' := of_decide_eq_true hb
      rw [hdg g3, g1] at hb'
      unfold isDig at g3
      rw [wrap_i64 (n := 9223372036854775807 - ((s[i].toNat - 48 : Nat) : Int)) (by omega) (by omega), Int.tdiv_eq_ediv_of_nonneg (by omega), wrap_i64 (by omega) (by omega)] at hb'
      omega
    · simp only
      rw [wrap_succ hi (by omega)]
    · obtain ⟨g1, g2, g3, g4, g5⟩ := hk m hm hn
      simp only
      rw [hdg g3, g1, wrap_i64 (n := 10 * ((val (s.take i) : Nat) : Int)) (by omega) (by omega), wrap_i64 (by omega) (by omega), g5]
      omega
  · obtain ⟨n, j, _⟩ := st
    obtain ⟨h1, h2⟩ := hst
    simp only at h1 h2
    subst h1
    unfold L_field_Number_0
    refine wp_bif (fun h => absurd h (by simp)) fun _ => wp_some fun m hm hn => ?_
    simp only
    rw [h2 m hm hn, List.take_of_length_le (Nat.le_refl _), hn, dec_val]
  · cases r with
    | inl v => exact wp_some ⟨_, rfl, fun m hm hn => absurd hn (hr m hm)⟩
    | inr v =>
      refine wp_bif (fun hb => wp_some ⟨_, rfl, fun m hm hn => ?_⟩) (fun _ => wp_some ⟨_, rfl, fun m hm hn => ?_⟩)
      · have := hr m hm hn
        have := of_decide_eq_true hb
        omega
      · rw [hr m hm hn]


theorem parsed_t0 : Parsed t0 4294901760 0 := .inl ⟨⟨by decide, by decide⟩, by simp [text], rfl⟩
theorem parsed_t1 : Parsed t1 4294967041 0 := .inl ⟨⟨by decide, by decide⟩, by simp [text], rfl⟩
theorem parsed_t2 : Parsed t2 4294967042 0 := .inl ⟨⟨by decide, by decide⟩, by simp [text], rfl⟩
theorem parsed_t3 : Parsed t3 4294967043 0 := .inl ⟨⟨by decide, by decide⟩, by simp [text], rfl⟩

theorem eq_of_beqL {a b : List UInt8} (h : (a == b) = true) : a = b := by simpa using h
theorem ne_of_beqL {a b : List UInt8} (h : (a == b) = false) : a ≠ b := by simpa using h

theorem C_cParse (s : List UInt8) (hs : s.length ≤ 1000) : ∃ c : Int × Int × Unit, Parsed s c.1 c.2.1 ∧ Calls' tbl N_community_Parse [.d tS s] [] q_community_Parse c := by
  refine calls_ex (sh := q_community_Parse) (fun _ => rfl) (conv_of t_community_Parse rfl (fun O k => x_community_Parse O k s) ?_)
  unfold G_community_Parse
  refine wp_call C_names (wp_bind (wp_ofL ?_))
  refine wpL_step ?_
  unfold L_community_Parse_0
  refine wp_bif (fun _ => wp_bind ⟨_, ?_, 0, fun _ _ => rfl⟩) (fun h => by cases h)
  refine wp_bif (fun h => wp_guard rfl (wp_bind ⟨_, wp_some ?_, 0, fun _ _ => rfl⟩)) (fun h0 => wp_some ?_)
  · exact wp_some ⟨_, rfl, by rw [eq_of_beqL h]; exact parsed_t0⟩
  refine wpL_step ?_
  refine wp_bif (fun _ => wp_bind ⟨_, ?_, 0, fun _ _ => rfl⟩) (fun h => by cases h)
  refine wp_bif (fun h => wp_guard rfl (wp_bind ⟨_, wp_some ?_, 0, fun _ _ => rfl⟩)) (fun h1 => wp_some ?_)
  · exact wp_some ⟨_, rfl, by rw [eq_of_beqL h]; exact parsed_t1⟩
  refine wpL_step ?_
  refine wp_bif (fun _ => wp_bind ⟨_, ?_, 0, fun _ _ => rfl⟩) (fun h => by cases h)
  refine wp_bif (fun h => wp_guard rfl (wp_bind ⟨_, wp_some ?_, 0, fun _ _ => rfl⟩)) (fun h2 => wp_some ?_)
  · exact wp_some ⟨_, rfl, by rw [eq_of_beqL h]; exact parsed_t2⟩
  refine wpL_step ?_
  refine wp_bif (fun _ => wp_bind ⟨_, ?_, 0, fun _ _ => rfl⟩) (fun h => by cases h)
  refine wp_bif (fun h => wp_guard rfl (wp_bind ⟨_, wp_some ?_, 0, fun _ _ => rfl⟩)) (fun h3 => wp_some ?_)
  · exact wp_some ⟨_, rfl, by rw [eq_of_beqL h]; exact parsed_t3⟩
  refine wpL_step ?_
  refine wp_bif (fun h => by cases h) (fun _ => wp_some ?_)
  have hu : Unk s := ⟨ne_of_beqL h0, ne_of_beqL h1, ne_of_beqL h2, ne_of_beqL h3⟩
  clear h0 h1 h2 h3
  show Wp _ _
  refine wp_bind (Wp.imp (Q := fun r => match r with | .inl v => Parsed s v.1 v.2.1 | .inr _ => ∀ b ∈ s, b ≠ 58) (wp_range (N := s.length) (I := fun i st => st = ((i : Int), ()) ∧ ∀ b ∈ s.take i, b ≠ 58) ⟨rfl, fun b hb => by simp at hb⟩ (fun i st hi hst => ?_) fun st hst => ?_) fun r hr => ?_)
  · obtain ⟨rfl, hno⟩ := hst
    unfold L_community_Parse_1
    have hx := List.getElem?_eq_getElem hi
    refine wp_bif (fun _ => ?_) (fun h => absurd h (by simp; omega))
    refine wp_idx (Int.natCast_nonneg _) hx ?_
    refine wp_bif (fun hne => wp_some ⟨?_, fun b hb => ?_⟩) (fun heq => ?_)
    · simp only
      rw [wrap_succ hi (by omega)]
    · rw [List.take_succ_eq_append_getElem hi] at hb
      rcases List.mem_append.1 hb with hb | hb
      · exact hno b hb
      · simp only [List.mem_singleton] at hb
        subst hb
        intro e
        rw [e] at hne
        exact absurd hne (by decide)
    · have h58 : s[i] = 58 := by
        simp only [bne_eq_false_iff_eq] at heq
        apply UInt8.toNat_inj.1
        have : (58 : UInt8).toNat = 58 := rfl
        omega
      have hg58 : s.getD i 0 = 58 := by simp [List.getD, hx, h58]
      obtain ⟨hi1, hr1, hcall1⟩ := C_Number ((s.take i).drop 0) (by simp; omega)
      have ew : (IntKind.wrap .i64 ((((i : Int), ()) : Int × Unit).1 + (1 : Int))).toNat = i + 1 := by
        show (IntKind.wrap .i64 ((i : Int) + 1)).toNat = _
        rw [wrap_succ hi (by omega)]; rfl
      obtain ⟨lo1, hr2, hcall2⟩ := C_Number ((s.take s.length).drop (i + 1)) (by simp; omega)
      refine wp_guard (by simp) (wp_guard (by simp; omega) (wp_call (c := hi1) hcall1 (wp_guard ?_ (wp_guard ?_ ?_))))
      · show decide (0 ≤ IntKind.wrap .i64 ((i : Int) + 1)) = true
        rw [wrap_succ hi (by omega)]; exact decide_eq_true (by omega)
      · rw [ew]; simp; omega
      rw [ew]
      refine wp_call (c := lo1) hcall2 (wp_guard rfl (wp_bind (wp_or (b := lo1.2.1 != 0) (fun _ => wp_some rfl) ?_)))
      refine wp_bind (wp_or (b := !(text (bitsI .u32 .or (IntKind.wrap .u32 ((IntKind.wrap .u32 hi1.1) * 2 ^ (min (Int.toNat (16 : Int)) (IntKind.bits .u32)))) (IntKind.wrap .u32 lo1.1)) == s)) (fun _ => wp_call (C_cText _ (or_ok _ _)) (wp_some rfl)) ?_)
      refine wp_bif (fun hbad => wp_some (.inr ⟨fun d hd ht => ?_, rfl, rfl⟩)) (fun hgood => wp_some (.inl ⟨or_ok _ _, ?_, rfl⟩))
      · obtain ⟨g1, g2⟩ := plain_split hi hno hg58 (unk_plain hu ht)
        obtain ⟨d0, d1⟩ := hd
        have e1 := hr1 (d / 65536).toNat (by omega) (by simpa using g1)
        have e2 := hr2 (d % 65536).toNat (by omega) (by simpa using g2)
        subst e1; subst e2
        have ec : bitsI .u32 .or (IntKind.wrap .u32 ((IntKind.wrap .u32 ((d / 65536).toNat : Int)) * 2 ^ 16)) (IntKind.wrap .u32 ((d % 65536).toNat : Int)) = d := by
          rw [or16 (by omega) (by omega)]; omega
        have ec' : bitsI .u32 .or (IntKind.wrap .u32 ((IntKind.wrap .u32 ((d / 65536).toNat : Int)) * 2 ^ (min (Int.toNat (16 : Int)) (IntKind.bits .u32)))) (IntKind.wrap .u32 ((d % 65536).toNat : Int)) = d := ec
        simp only [ec', ht] at hbad
        simp at hbad
      · simp only [Bool.or_eq_false_iff, Bool.not_eq_false'] at hgood
        exact eq_of_beqL hgood.2
  · obtain ⟨rfl, hno⟩ := hst
    unfold L_community_Parse_1
    refine wp_bif (fun h => absurd h (by simp)) fun _ => wp_some fun b hb => hno b (by rw [List.take_of_length_le (Nat.le_refl _)]; exact hb)
  · cases r with
    | inl v => exact wp_some ⟨_, rfl, hr⟩
    | inr v => exact wp_some ⟨_, rfl, .inr ⟨fun d hd ht => hr 58 (by rw [← unk_plain hu ht]; exact mem58 d) rfl, rfl, rfl⟩⟩


theorem text_k0 : text 4294901760 = t0 := by simp [text]
theorem text_k1 : text 4294967041 = t1 := by simp [text]
theorem text_k2 : text 4294967042 = t2 := by simp [text]
theorem text_k3 : text 4294967043 = t3 := by simp [text]

/-- How far the reference has read, if the text is that of d. -/
def Read (s : List UInt8) (i : Nat) (k p0 p1 : Int) : Prop := ∀ d, ok32 d → plain d = s →
  (i ≤ (decDigits (d / 65536).toNat).length ∧ k = 0 ∧ p0 = (val ((decDigits (d / 65536).toNat).take i) : Int) ∧ p1 = 0) ∨
  ((decDigits (d / 65536).toNat).length < i ∧ k = 1 ∧ p0 = d / 65536 ∧ p1 = (val ((decDigits (d % 65536).toNat).take (i - (decDigits (d / 65536).toNat).length - 1)) : Int))

theorem read_step {s : List UInt8} {i : Nat} {k p0 p1 : Int} (hi : i < s.length) (h : Read s i k p0 p1) : ∀ d, ok32 d → plain d = s →
    (isDig s[i] ∧ ((k = 0 ∧ p0 ≤ 65535 ∧ 0 ≤ p0 ∧ i + 1 ≤ (decDigits (d / 65536).toNat).length ∧ p1 = 0 ∧ 10 * p0 + ((s[i].toNat : Int) - 48) = (val ((decDigits (d / 65536).toNat).take (i + 1)) : Int)) ∨
      (k = 1 ∧ p1 ≤ 65535 ∧ 0 ≤ p1 ∧ (decDigits (d / 65536).toNat).length < i + 1 ∧ p0 = d / 65536 ∧ 10 * p1 + ((s[i].toNat : Int) - 48) = (val ((decDigits (d % 65536).toNat).take (i + 1 - (decDigits (d / 65536).toNat).length - 1)) : Int)))) ∨
    (s[i] = 58 ∧ k = 0 ∧ p0 = d / 65536 ∧ p1 = 0 ∧ i = (decDigits (d / 65536).toNat).length) := by
  intro d hd hp
  have hd' := hd
  obtain ⟨d0, d1⟩ := hd'
  have hA := dec_val (d / 65536).toNat
  have hB := dec_val (d % 65536).toNat
  have hAd := dec_dig (d / 65536).toNat
  have hBd := dec_dig (d % 65536).toNat
  have h' := h d hd hp
  unfold plain at hp
  generalize decDigits (d / 65536).toNat = a at *
  generalize decDigits (d % 65536).toNat = b at *
  rcases h' with ⟨h1, h2, h3, h4⟩ | ⟨h1, h2, h3, h4⟩
  · rcases Nat.lt_or_ge i a.length with hl | hl
    · left
      have e : s[i] = a[i] := by simp only [← hp]; rw [List.getElem_append_left hl]
      have hv := val_take (l := a) (k := i) (by omega)
      have hg : a.getD i 0 = a[i] := by simp [List.getD, List.getElem?_eq_getElem hl]
      have hs := val_snoc (a.take i) a[i]
      rw [← hg, ← take_getD hl, hg] at hs
      have hdg := hAd a[i] (List.getElem_mem hl)
      refine ⟨by rw [e]; exact hdg, .inl ⟨h2, by omega, by omega, by omega, h4, ?_⟩⟩
      rw [h3, hs, e]
      unfold isDig at hdg
      omega
    · right
      have hia : i = a.length := by omega
      have e : s[i] = 58 := by
        simp only [← hp]
        rw [List.getElem_append_right (by omega)]
        simp [hia]
      refine ⟨e, h2, ?_, h4, hia⟩
      rw [h3, hia, List.take_of_length_le (Nat.le_refl _), hA]
      omega
  · left
    have hlen : s.length = a.length + 1 + b.length := by rw [← hp]; simp; omega
    have hl : i - a.length - 1 < b.length := by omega
    have e : s[i] = b[i - a.length - 1] := by
      simp only [← hp]
      rw [List.getElem_append_right (by omega)]
      obtain ⟨j, hj⟩ : ∃ j, i - a.length = j + 1 := ⟨i - a.length - 1, by omega⟩
      simp only [hj, List.getElem_cons_succ]
      congr 1
    have hv := val_take (l := b) (k := i - a.length - 1) (by omega)
    have hg : b.getD (i - a.length - 1) 0 = b[i - a.length - 1] := by simp [List.getD, List.getElem?_eq_getElem hl]
    have hs := val_snoc (b.take (i - a.length - 1)) b[i - a.length - 1]
    rw [← hg, ← take_getD hl, hg] at hs
    have hdg := hBd b[i - a.length - 1] (List.getElem_mem hl)
    refine ⟨by rw [e]; exact hdg, .inr ⟨h2, by omega, by omega, by omega, h3, ?_⟩⟩
    rw [show i + 1 - a.length - 1 = i - a.length - 1 + 1 by omega, h4, hs, e]
    unfold isDig at hdg
    omega

theorem row2 (x y k : Int) (hk : k = 0 ∨ k = 1) : Ev.rowAt tI 2 (.agg [.d tI x, .d tI y]) k = some (if k = 0 then x else y) := by
  rcases hk with rfl | rfl <;> rfl

theorem C_refParse (s : List UInt8) (hs : s.length ≤ 1000) : ∃ c : Int × Int × Unit, Parsed s c.1 c.2.1 ∧ Calls' tbl N_ref18_Parse [.d tS s] [] q_ref18_Parse c := by
  refine calls_ex (sh := q_ref18_Parse) (fun _ => rfl) (conv_of t_ref18_Parse rfl (fun O k => x_ref18_Parse O k s) ?_)
  unfold G_ref18_Parse
  refine wp_bind (wp_ofL ?_)
  have ok0 : ok32 4294901760 := ⟨by decide, by decide⟩
  have ok1 : ok32 4294967041 := ⟨by decide, by decide⟩
  have ok2 : ok32 4294967042 := ⟨by decide, by decide⟩
  have ok3 : ok32 4294967043 := ⟨by decide, by decide⟩
  refine wpL_step ?_
  unfold L_ref18_Parse_0
  refine wp_bif (fun _ => wp_idx (x := 4294901760) (by decide) rfl (wp_call (C_refText _ ok0) ?_)) (fun h => by cases h)
  refine wp_bif (fun h => wp_some (wp_some ⟨_, rfl, by rw [← eq_of_beqL h]; exact Parsed.known ok0⟩)) (fun h0 => wp_some ?_)
  refine wpL_step ?_
  refine wp_bif (fun _ => wp_idx (x := 4294967041) (by decide) rfl (wp_call (C_refText _ ok1) ?_)) (fun h => by cases h)
  refine wp_bif (fun h => wp_some (wp_some ⟨_, rfl, by rw [← eq_of_beqL h]; exact Parsed.known ok1⟩)) (fun h1 => wp_some ?_)
  refine wpL_step ?_
  refine wp_bif (fun _ => wp_idx (x := 4294967042) (by decide) rfl (wp_call (C_refText _ ok2) ?_)) (fun h => by cases h)
  refine wp_bif (fun h => wp_some (wp_some ⟨_, rfl, by rw [← eq_of_beqL h]; exact Parsed.known ok2⟩)) (fun h2 => wp_some ?_)
  refine wpL_step ?_
  refine wp_bif (fun _ => wp_idx (x := 4294967043) (by decide) rfl (wp_call (C_refText _ ok3) ?_)) (fun h => by cases h)
  refine wp_bif (fun h => wp_some (wp_some ⟨_, rfl, by rw [← eq_of_beqL h]; exact Parsed.known ok3⟩)) (fun h3 => wp_some ?_)
  refine wpL_step ?_
  refine wp_bif (fun h => by cases h) (fun _ => wp_some ?_)
  have hu : Unk s := ⟨fun e => ne_of_beqL h0 (by rw [e]; exact text_k0), fun e => ne_of_beqL h1 (by rw [e]; exact text_k1), fun e => ne_of_beqL h2 (by rw [e]; exact text_k2), fun e => ne_of_beqL h3 (by rw [e]; exact text_k3)⟩
  clear h0 h1 h2 h3
  show Wp _ _
  refine wp_bind (Wp.imp (Q := fun r => match r with | .inl v => v.1 = 0 ∧ v.2.1 = 2 ∧ ∀ d, ok32 d → plain d ≠ s | .inr v => ∀ d, ok32 d → plain d = s → v.1 = d / 65536 ∧ v.2.1 = d % 65536) (wp_range (N := s.length) (I := fun i st => (st.1 = 0 ∨ st.1 = 1) ∧ st.2.1 = (i : Int) ∧ Read s i st.1 st.2.2.1 st.2.2.2.1) ⟨.inl rfl, rfl, fun d hd hp => .inl ⟨Nat.zero_le _, rfl, rfl, rfl⟩⟩ (fun i st hi hst => ?_) fun st hst => ?_) fun r hr => ?_)
  · obtain ⟨k, j, p0, p1, _⟩ := st
    obtain ⟨hk, hj, hR⟩ := hst
    simp only at hk hj hR
    subst hj
    have hst := read_step hi hR
    unfold L_ref18_Parse_1
    have hx := List.getElem?_eq_getElem hi
    have hkb : (decide (0 ≤ k) && decide (k < 2)) = true := by rcases hk with rfl | rfl <;> rfl
    refine wp_bif (fun _ => ?_) (fun h => absurd h (by simp; omega))
    refine wp_bind (wp_idx (Int.natCast_nonneg _) hx ?_)
    refine wp_bind (wp_and (b := decide ((s[i].toNat : Int) ≤ 57)) (fun _ => wp_idx (Int.natCast_nonneg _) hx (wp_some rfl)) ?_)
    refine wp_bind (wp_and (b := decide ((if k = 0 then p0 else p1) ≤ (65535 : Int))) (fun _ => wp_guard hkb (wp_bind ⟨_, wp_some rfl, 0, fun _ _ => row2 p0 p1 k hk⟩)) ?_)
    refine wp_bif (fun hb => ?_) (fun hb => ?_)
    · refine wp_guard hkb (wp_bind ⟨_, ?_, 0, fun _ _ => row2 p0 p1 k hk⟩)
      refine wp_idx (Int.natCast_nonneg _) hx (wp_guard hkb (wp_guard hkb (wp_some (wp_some ⟨hk, ?_, fun d hd hp => ?_⟩))))
      · simp only
        rw [wrap_succ hi (by omega)]
      · simp only [Bool.and_eq_true, decide_eq_true_eq] at hb
        have hw8 : IntKind.wrap .i64 (IntKind.wrap .u8 ((s[i].toNat : Int) - 48)) = (s[i].toNat : Int) - 48 := by
          rw [w8, wrap_i64 (by omega) (by omega)]; omega
        simp only [hw8]
        rcases hst d hd hp with ⟨h1, ⟨rfl, h2, h2', h3, h4, h5⟩ | ⟨rfl, h2, h2', h3, h4, h5⟩⟩ | ⟨h1, _⟩
        · left
          refine ⟨h3, rfl, ?_, ?_⟩
          · simp only [if_true, decide_true, cond_true]
            rw [wrap_i64 (n := 10 * p0) (by omega) (by omega), wrap_i64 (by omega) (by omega), h5]
          · exact h4
        · right
          refine ⟨h3, rfl, h4, ?_⟩
          show IntKind.wrap .i64 (IntKind.wrap .i64 (10 * p1) + _) = _
          rw [wrap_i64 (n := 10 * p1) (by omega) (by omega), wrap_i64 (by omega) (by omega), h5]
        · rw [h1] at hb
          exact absurd hb.1.2 (by decide)
    · refine wp_idx (Int.natCast_nonneg _) hx ?_
      refine wp_bind (wp_and (b := (k == (0 : Int))) (fun _ => wp_some rfl) ?_)
      have hnd : ∀ d, ok32 d → plain d = s → (s[i] = 58 ∧ k = 0 ∧ p0 = d / 65536 ∧ p1 = 0 ∧ i = (decDigits (d / 65536).toNat).length) := fun d hd hp => by
        rcases hst d hd hp with ⟨h1, h2⟩ | h1
        · exfalso
          unfold isDig at h1
          have : (decide ((s[i].toNat : Int) ≥ 48) && decide ((s[i].toNat : Int) ≤ 57) && decide ((if k = 0 then p0 else p1) ≤ 65535)) = true := by
            simp only [Bool.and_eq_true, decide_eq_true_eq]
            refine ⟨⟨by omega, by omega⟩, ?_⟩
            rcases h2 with ⟨rfl, h2, _⟩ | ⟨rfl, h2, _⟩
            · simpa using h2
            · simpa using h2
          rw [this] at hb; cases hb
        · exact h1
      refine wp_bif (fun h58 => wp_some (wp_some ⟨.inr rfl, ?_, fun d hd hp => ?_⟩)) (fun hn => wp_some (wp_some ⟨rfl, rfl, fun d hd hp => ?_⟩))
      · simp only
        rw [wrap_succ hi (by omega)]
      · obtain ⟨g1, g2, g3, g4, g5⟩ := hnd d hd hp
        right
        refine ⟨by omega, rfl, g3, ?_⟩
        rw [show i + 1 - (decDigits (d / 65536).toNat).length - 1 = 0 by omega]
        exact g4
      · obtain ⟨g1, g2, _⟩ := hnd d hd hp
        rw [g1, g2] at hn
        exact absurd hn (by decide)
  · obtain ⟨k, j, p0, p1, _⟩ := st
    obtain ⟨hk, hj, hR⟩ := hst
    simp only at hk hj hR
    subst hj
    unfold L_ref18_Parse_1
    refine wp_bif (fun h => absurd h (by simp)) fun _ => wp_some fun d hd hp => ?_
    have h' := hR d hd hp
    have hd' := hd
    obtain ⟨d0, d1⟩ := hd'
    have hlen : s.length = (decDigits (d / 65536).toNat).length + 1 + (decDigits (d % 65536).toNat).length := by rw [← hp]; simp [plain]; omega
    rcases h' with ⟨h1, _⟩ | ⟨h1, _, h3, h4⟩
    · omega
    · refine ⟨h3, ?_⟩
      simp only
      rw [h4, List.take_of_length_le (by omega), dec_val]
      omega
  · cases r with
    | inl v => exact wp_some ⟨_, rfl, .inr ⟨fun d hd ht => hr.2.2 d hd (unk_plain hu ht), hr.1, hr.2.1⟩⟩
    | inr v =>
      refine wp_guard rfl (wp_bind (wp_or (b := decide (v.2.1 > (65535 : Int))) (fun _ => wp_guard rfl (wp_some rfl)) ?_))
      refine wp_bif (fun hb => wp_some ⟨_, rfl, .inr ⟨fun d hd ht => ?_, rfl, rfl⟩⟩) (fun _ => ?_)
      · obtain ⟨g1, g2⟩ := hr d hd (unk_plain hu ht)
        obtain ⟨d0, d1⟩ := hd
        simp only [Bool.or_eq_true, decide_eq_true_eq] at hb
        omega
      · refine wp_guard rfl (wp_guard rfl (wp_guard rfl (wp_call (C_refText _ ⟨?_, ?_⟩) ?_)))
        · rw [w32]; omega
        · rw [w32]; omega
        · refine wp_bif (fun hb => wp_some ⟨_, rfl, .inr ⟨fun d hd ht => ?_, rfl, rfl⟩⟩) (fun hb => wp_some ⟨_, rfl, .inl ⟨⟨?_, ?_⟩, ?_, rfl⟩⟩)
          · obtain ⟨g1, g2⟩ := hr d hd (unk_plain hu ht)
            have hd' := hd
            obtain ⟨d0, d1⟩ := hd'
            have ec : IntKind.wrap .u32 ((IntKind.wrap .u32 ((IntKind.wrap .u32 v.1) * 2 ^ 16)) + (IntKind.wrap .u32 v.2.1)) = d := by
              rw [g1, g2, w32, w32, w32, w32]; omega
            have ec' : IntKind.wrap .u32 ((IntKind.wrap .u32 ((IntKind.wrap .u32 v.1) * 2 ^ (min (Int.toNat (16 : Int)) (IntKind.bits .u32)))) + (IntKind.wrap .u32 v.2.1)) = d := ec
            simp only [ec', ht] at hb
            simp at hb
          · rw [w32]; omega
          · rw [w32]; omega
          · simp only [Bool.not_eq_false'] at hb
            exact eq_of_beqL hb

theorem C_awake : Calls' tbl N_law18_awake [] [] q_law18_awake (true, ()) := ⟨60, fun n hn => by
  obtain ⟨k, rfl⟩ : ∃ k, n = k + 60 := ⟨n - 60, by omega⟩
  kernel_rfl⟩

theorem law_CommunityParse : LawOk N_law18_CommunityParse [.str] := by
  rintro ⟨s, _⟩ ⟨hr, _⟩
  refine ⟨outQ q_law18_CommunityParse (true, ()), ?_, rfl⟩
  refine conv_of t_law18_CommunityParse rfl (fun O n => x_law18_CommunityParse O n s) ?_
  unfold G_law18_CommunityParse
  refine wp_bif (fun _ => wp_call C_awake (wp_some rfl)) (fun hlen => ?_)
  have hs : s.length ≤ 1000 := by have := of_decide_eq_false hlen; omega
  obtain ⟨c, hc, hcall⟩ := C_cParse s hs
  obtain ⟨d, hd, hcall'⟩ := C_refParse s hs
  obtain ⟨e1, e2⟩ := hc.uniq hd
  refine wp_call (c := c) hcall (wp_call (c := d) hcall' ?_)
  refine wp_bind (wp_and (b := true) (fun _ => wp_some (by rw [e2]; simp)) ?_)
  have hcd : (c.1 == d.1 && true) = true := by rw [e1]; simp
  rw [hcd]
  refine wp_bind (wp_bif (fun _ => wp_bind (wp_or (b := true) (fun h0 => ?_) ?_)) (fun h => by cases h))
  · rcases hc with ⟨h1, h2, h3⟩ | ⟨_, _, h3⟩
    · exact wp_call (C_cText c.1 h1) (wp_some (by rw [h2]; simp))
    · rw [h3] at h0; exact absurd h0 (by decide)
  · rw [Bool.or_true]
    refine wp_some ?_
    refine wp_bind (wp_bif (fun _ => wp_call C_awake (wp_some ?_)) (fun h => by cases h))
    exact wp_some rfl

end Go.Proofs.YtfgchoifgocclaaDoor
