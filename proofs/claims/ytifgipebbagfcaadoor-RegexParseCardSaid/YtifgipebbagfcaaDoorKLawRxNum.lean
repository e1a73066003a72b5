/-
  NUMBERS IN PATTERNS: what both parsers make of the digits at a place.
-/
import Derived.Test.YtifgipebbagfcaaDoorKLawRxPrint
set_option linter.unusedVariables false
set_option linter.unusedSimpArgs false
namespace Go.Ev
open Go Go.RowKit Go.Av
section
variable {tbl : Nat → Option Fun'}
def CallsP' (tbl : Nat → Option Fun') (f : Nat) (ars : List V) (os : List Ob) (sh : Sh) (o : Option (HL sh.sl)) : Prop := ∃ n0, ∀ n, n0 ≤ n → callP (evF tbl n) f ars os sh = some o
theorem callsP_ex {f : Nat} {ars : List V} {os : List Ob} {sh : Sh} {R : Option (HL sh.sl) → Prop} (hp : ∀ c, packR sh (outQ sh c) = some c) (h : Conv tbl f ars os fun o => ∃ c : Option (HL sh.sl), o = c.map (outQ sh) ∧ R c) : ∃ o, R o ∧ CallsP' tbl f ars os sh o := by
  obtain ⟨o, ⟨c, rfl, hr⟩, n0, hn⟩ := h
  refine ⟨c, hr, n0, fun n hn' => ?_⟩
  have e := hn n hn'
  unfold callP
  have e : evF tbl n f ars os = _ := e
  cases c with
  | none => rw [e]; rfl
  | some c =>
    rw [e]
    have := hp c
    unfold packR at this
    simp only [Option.map_some]
    cases hb : (Nat.beq (outQ sh c).fr.length sh.n && oneOk sh.n (outQ sh c).fr)
    · rw [hb] at this; cases this
    · rw [hb] at this
      simp only [cond_true] at this
      simp only [cond_true, this]
theorem callsP_of {f : Nat} {ars : List V} {os : List Ob} {sh : Sh} {o : Option (HL sh.sl)} (hp : ∀ c, packR sh (outQ sh c) = some c) (h : Conv tbl f ars os (· = o.map (outQ sh))) : CallsP' tbl f ars os sh o := by
  obtain ⟨o', rfl, h2⟩ := callsP_ex (R := fun c => c = o) hp (conv_mono h fun x hx => ⟨o, hx, rfl⟩)
  exact h2
theorem wp_callP {f : Nat} {ars : List V} {os : List Ob} {sh : Sh} {β : Type} {k : Nat → Option (HL sh.sl) → Option β} {Q : β → Prop} {o : Option (HL sh.sl)} (h : CallsP' tbl f ars os sh o) (hk : Wp (fun n => k n o) Q) : Wp (fun n => Option.bind (callP (evF tbl n) f ars os sh) (k n)) Q := by
  obtain ⟨n0, hn⟩ := h
  exact wp_bind ⟨o, hk, n0, hn⟩
end
end Go.Ev
namespace Go.Proofs.YtifgipebbagfcaaDoor
open Go Go.Av Go.Ev Go.Pl Go.Lib
theorem C_canonical (s : List UInt8) (hs : s.length ≤ 10000) : ∃ c : Bool × Unit, ((∀ n, s = decDigits n → c = (true, ())) ∧ (c.1 = true → s ≠ [])) ∧ Calls' tbl N_field_canonical [.d tS s] [] q_field_canonical c := by
  refine calls_ex (sh := q_field_canonical) (fun _ => rfl) (conv_of t_field_canonical rfl (fun O k => x_field_canonical O k s) ?_)
  unfold G_field_canonical
  refine wp_bind (wp_or (b := decide ((s.length : Int) > (1 : Int)) && (((s.getD 0 0).toNat : Int) == (48 : Int))) (fun h0 => wp_bind (wp_and (b := (((s.getD 0 0).toNat : Int) == (48 : Int))) (fun h1 => ?_) (wp_some rfl))) ?_)
  · have hl : 1 < s.length := by have := of_decide_eq_true h1; omega
    refine wp_idx (x := s.getD 0 0) (Int.le_refl _) ?_ (wp_some rfl)
    rw [List.getD, Int.toNat_zero, List.getElem?_eq_getElem (show 0 < s.length by omega)]; rfl
  · refine wp_bif (fun h => wp_some ⟨(false, ()), rfl, fun n hn => ?_, fun h => by cases h⟩) (fun h => ?_)
    · exfalso
      have hp := decD_pos n
      have hh := decD_head n
      rw [← hn] at hp hh
      simp only [Bool.or_eq_true, Bool.and_eq_true, decide_eq_true_eq, beq_iff_eq] at h
      rcases h with h | ⟨h1, h2⟩
      · rw [h] at hp; simp at hp
      · exact hh (by omega) (by omega)
    · have hne : s ≠ [] := by
        rintro rfl
        simp at h
      refine wp_bind (Wp.imp (Q := fun r => match r with | .inl v => v.1 = false ∧ ∀ n, s ≠ decDigits n | .inr _ => True) (wp_range (N := s.length) (I := fun i st => st = ((i : Int), ())) rfl (fun i st hi hst => ?_) fun st hst => ?_) fun r hr => ?_)
      · subst hst
        unfold L_field_canonical_0
        have hx := List.getElem?_eq_getElem hi
        refine wp_bif (fun _ => ?_) (fun h => absurd h (by simp; omega))
        refine wp_idx (Int.natCast_nonneg _) hx ?_
        refine wp_bind (wp_or (b := decide ((s[i].toNat : Int) > (57 : Int))) (fun _ => wp_idx (Int.natCast_nonneg _) hx (wp_some rfl)) ?_)
        refine wp_bif (fun hb => wp_some ⟨rfl, fun n hn => ?_⟩) (fun _ => wp_some ?_)
        · have := decD_dig n s[i] (by rw [← hn]; exact List.getElem_mem hi)
          unfold isDg at this
          simp only [Bool.or_eq_true, decide_eq_true_eq] at hb
          omega
        · simp only
          rw [wrap_succ hi (by omega)]
      · subst hst
        unfold L_field_canonical_0
        exact wp_bif (fun h => absurd h (by simp)) fun _ => wp_some trivial
      · cases r with
        | inl v => exact wp_some ⟨_, rfl, fun n hn => absurd hn (hr.2 n), fun _ => hne⟩
        | inr v => exact wp_some ⟨_, rfl, fun _ _ => rfl, fun _ => hne⟩
theorem C_Number (s : List UInt8) (hs : s.length ≤ 10000) : ∃ c : Int × Int × Unit, ((∀ m : Nat, m ≤ 4294967295 → s = decDigits m → c = ((m : Int), (0 : Int), ())) ∧ (c.2.1 = 0 → s ≠ [])) ∧ Calls' tbl N_field_Number [.d tS s, .d tI (4294967295 : Int)] [] q_field_Number c := by
  obtain ⟨cc, ⟨hcc, hce⟩, hcall⟩ := C_canonical s hs
  refine calls_ex (sh := q_field_Number) (fun _ => rfl) (conv_of t_field_Number rfl (fun O k => x_field_Number O k s 4294967295) ?_)
  unfold G_field_Number
  refine wp_call hcall (wp_bif (fun h => wp_some ⟨_, rfl, fun m hm hn => ?_, fun h0 => by cases h0⟩) (fun hc => ?_))
  · rw [hcc m hn] at h; cases h
  have hne : s ≠ [] := hce (by cases e : cc.1 <;> simp [e] at hc ⊢)
  refine wp_bind (Wp.imp (Q := fun r => match r with | .inl v => ∀ m : Nat, m ≤ 4294967295 → s ≠ decDigits m | .inr v => ∀ m : Nat, m ≤ 4294967295 → s = decDigits m → v.1 = m) (wp_range (N := s.length) (I := fun i st => st.2.1 = (i : Int) ∧ ∀ m : Nat, m ≤ 4294967295 → s = decDigits m → st.1 = (valD (s.take i) : Int)) ⟨rfl, fun _ _ _ => rfl⟩ (fun i st hi hst => ?_) fun st hst => ?_) fun r hr => ?_)
  · obtain ⟨n, j, _⟩ := st
    obtain ⟨h1, h2⟩ := hst
    simp only at h1 h2
    subst h1
    unfold L_field_Number_0
    have hx := List.getElem?_eq_getElem hi
    have hk : ∀ m : Nat, m ≤ 4294967295 → s = decDigits m → n = (valD (s.take i) : Int) ∧ valD (s.take i) ≤ 4294967295 ∧ isDg s[i] ∧ valD (s.take (i + 1)) ≤ 4294967295 ∧ valD (s.take (i + 1)) = 10 * valD (s.take i) + (s[i].toNat - 48) := fun m hm hn => by
      have hv : valD s = m := by rw [hn, decD_val]
      have hd : isDg s[i] := decD_dig m s[i] (by rw [← hn]; exact List.getElem_mem hi)
      have e : s.getD i 0 = s[i] := by simp [List.getD, hx]
      exact ⟨h2 m hm hn, by have := valD_take (l := s) (k := i) (by omega); omega, hd, by have := valD_take (l := s) (k := i + 1) (by omega); omega, by rw [takeD hi, valD_snoc, e]⟩
    have hdg : isDg s[i] → IntKind.wrap .i64 (IntKind.wrap .u8 ((s[i].toNat : Int) - 48)) = ((s[i].toNat - 48 : Nat) : Int) := fun h => by
      unfold isDg at h
      rw [wrap_u8, wrap_i64 (by omega) (by omega)]; omega
    refine wp_bif (fun _ => ?_) (fun h => absurd h (by simp; omega))
    refine wp_idx (Int.natCast_nonneg _) hx ?_
    refine wp_guard rfl (wp_bif (fun hb => wp_some fun m hm hn => ?_) (fun _ => wp_some ⟨?_, fun m hm hn => ?_⟩))
    · obtain ⟨g1, g2, g3, g4, g5⟩ := hk m hm hn
      have hb' := of_decide_eq_true hb
      rw [hdg g3, g1] at hb'
      unfold isDg at g3
      rw [wrap_i64 (n := 9223372036854775807 - ((s[i].toNat - 48 : Nat) : Int)) (by omega) (by omega), Int.tdiv_eq_ediv_of_nonneg (by omega), wrap_i64 (by omega) (by omega)] at hb'
      omega
    · simp only
      rw [wrap_succ hi (by omega)]
    · obtain ⟨g1, g2, g3, g4, g5⟩ := hk m hm hn
      simp only
      rw [hdg g3, g1, wrap_i64 (n := 10 * ((valD (s.take i) : Nat) : Int)) (by omega) (by omega), wrap_i64 (by omega) (by omega), g5]
      omega
  · obtain ⟨n, j, _⟩ := st
    obtain ⟨h1, h2⟩ := hst
    simp only at h1 h2
    subst h1
    unfold L_field_Number_0
    refine wp_bif (fun h => absurd h (by simp)) fun _ => wp_some fun m hm hn => ?_
    simp only
    rw [h2 m hm hn, List.take_of_length_le (Nat.le_refl _), hn, decD_val]
  · cases r with
    | inl v => exact wp_some ⟨_, rfl, fun m hm hn => absurd hn (hr m hm), fun _ => hne⟩
    | inr v =>
      refine wp_bif (fun hb => wp_some ⟨_, rfl, fun m hm hn => ?_, fun _ => hne⟩) (fun _ => wp_some ⟨_, rfl, fun m hm hn => ?_, fun _ => hne⟩)
      · have := hr m hm hn
        have := of_decide_eq_true hb
        omega
      · rw [hr m hm hn]
theorem C_peek (s : List UInt8) (i : Nat) : Calls' tbl N_regex_parser_peek_r [.ptr 0 0] [.box T_str_regex_parser [.d tS s, .d tI (i : Int)]] q_regex_parser_peek_r ((pk s i : Int), s, (i : Int), ()) := by
  refine calls_of rfl (conv_of t_regex_parser_peek_r rfl (fun O m => x_regex_parser_peek_r O m s (i : Int)) ?_)
  unfold G_regex_parser_peek_r
  refine wp_bif (fun h => ?_) fun h => wp_some ?_
  · have h : i < s.length := by have := of_decide_eq_true h; omega
    refine wp_get0 h (wp_some ?_)
    rw [pk_get h]
  · have h : ¬ i < s.length := by have := of_decide_eq_false h; omega
    rw [pk_end h]; rfl
structure Run (s : List UInt8) (i j : Nat) : Prop where
  le : i ≤ j
  top : j ≤ s.length
  all : ∀ k, i ≤ k → k < j → dg (pk s k)
theorem run_txt {s : List UInt8} {i j m : Nat} {t : List UInt8} (h : Run s i j) (he : ¬ dg (pk s j)) (hd0 : s.drop i = decDigits m ++ t) (ht : ¬ dg (hd t)) : j = i + (decDigits m).length ∧ (s.take j).drop i = decDigits m := by
  have h1 : ∀ k, i ≤ k → k < i + (decDigits m).length → dg (pk s k) := fun k hk1 hk2 => by
    have hl : k - i < (decDigits m).length := by omega
    have e : s[k]? = some (decDigits m)[k - i] := by
      have h2 : (s.drop i)[k - i]? = s[k]? := by rw [List.getElem?_drop]; congr 1; omega
      rw [← h2, hd0, List.getElem?_append_left hl, List.getElem?_eq_getElem hl]
    have h3 := decD_dig m _ (List.getElem_mem hl)
    unfold pk
    rw [List.getD, e]
    exact h3
  have h2 : ¬ dg (pk s (i + (decDigits m).length)) := by
    rw [pk_hd, drop_app hd0]; exact ht
  have hj : j = i + (decDigits m).length := by
    apply Classical.byContradiction
    intro hn
    have := h.le
    rcases Nat.lt_or_gt_of_ne hn with hlt | hgt
    · exact he (h1 j this hlt)
    · exact h2 (h.all _ (by omega) hgt)
  refine ⟨hj, ?_⟩
  rw [List.drop_take, hd0, hj, Nat.add_sub_cancel_left, List.take_left]
theorem C_num_at (s : List UInt8) (hs : s.length ≤ 10000) (i : Nat) (hi : i ≤ s.length) : ∃ o : Option (Int × Nat), (∀ n j, o = some (n, j) → i < j ∧ j ≤ s.length) ∧
    (∀ (m : Nat) t, s.drop i = decDigits m ++ t → m ≤ 4294967295 → ¬ dg (hd t) → o = some ((m : Int), i + (decDigits m).length)) ∧
    CallsP' tbl N_regex_parser_number_r [.ptr 0 0] [.box T_str_regex_parser [.d tS s, .d tI (i : Int)]] q_regex_parser_number_r (o.map fun x => (x.1, s, (x.2 : Int), ())) := by
  suffices h : ∃ v : Option (HL q_regex_parser_number_r.sl), (∃ o : Option (Int × Nat), v = o.map (fun x => (x.1, s, (x.2 : Int), ())) ∧ (∀ n j, o = some (n, j) → i < j ∧ j ≤ s.length) ∧
      (∀ (m : Nat) t, s.drop i = decDigits m ++ t → m ≤ 4294967295 → ¬ dg (hd t) → o = some ((m : Int), i + (decDigits m).length))) ∧ CallsP' tbl N_regex_parser_number_r [.ptr 0 0] [.box T_str_regex_parser [.d tS s, .d tI (i : Int)]] q_regex_parser_number_r v by
    obtain ⟨v, ⟨o, rfl, h1, h2⟩, h3⟩ := h
    exact ⟨o, h1, h2, h3⟩
  refine callsP_ex (fun _ => rfl) (conv_of t_regex_parser_number_r rfl (fun O m => x_regex_parser_number_r O m s (i : Int)) ?_)
  unfold G_regex_parser_number_r
  refine wp_bind (Ev.wp_mono (Ev.wp_loop (Q := fun t => ∃ j : Nat, t = (s, (j : Int), ()) ∧ Run s i j ∧ ¬ dg (pk s j)) (fun t => ∃ j : Nat, t = (s, (j : Int), ()) ∧ Run s i j) (fun t => s.length - t.2.1.toNat) ⟨i, rfl, ⟨Nat.le_refl _, hi, fun k h1 h2 => absurd h2 (by omega)⟩⟩ ?_) ?_)
  · rintro t ⟨j, rfl, hr⟩
    unfold L_regex_parser_number_r_0
    refine wp_call (C_peek s j) (wp_bif (fun h => ?_) fun h => wp_some ⟨j, rfl, hr, ?_⟩)
    · have h : (pk s j : Int) ≥ 48 := of_decide_eq_true h
      have hlt := pk_lt (s := s) (i := j) (by omega)
      refine wp_call (C_peek s j) (wp_bif (fun h' => wp_some ?_) fun h' => wp_some ⟨j, rfl, hr, ?_⟩)
      · have h' : (pk s j : Int) ≤ 57 := of_decide_eq_true h'
        refine ⟨⟨j + 1, ?_, ⟨by have := hr.le; omega, by omega, fun k h1 h2 => ?_⟩⟩, ?_⟩
        · show (s, IntKind.wrap .i64 ((j : Int) + 1), ()) = _
          rw [wrap_succ hlt (by omega)]
        · by_cases e : k = j
          · subst e; exact ⟨by omega, by omega⟩
          · exact hr.all k h1 (by omega)
        · show s.length - (IntKind.wrap .i64 ((j : Int) + 1)).toNat < s.length - (j : Int).toNat
          rw [wrap_succ hlt (by omega)]; omega
      · have h' : ¬ (pk s j : Int) ≤ 57 := of_decide_eq_false h'
        unfold Pl.dg; omega
    · have h : ¬ (pk s j : Int) ≥ 48 := of_decide_eq_false h
      unfold Pl.dg; omega
  · rintro t ⟨j, rfl, hr, he⟩
    have h1 := hr.le
    have h2 := hr.top
    refine wp_guard (decide_eq_true (by omega)) (wp_guard (decide_eq_true (by show 0 ≤ (j : Int); omega)) (wp_guard ?_ ?_))
    · show (decide (Int.toNat (i : Int) ≤ Int.toNat (j : Int)) && decide (Int.toNat (j : Int) ≤ s.length)) = true
      simp only [Bool.and_eq_true, decide_eq_true_eq]; omega
    show Wp (fun n => Option.bind (callR (evF tbl n) N_field_Number [.d tS ((s.take (Int.toNat (j : Int))).drop (Int.toNat (i : Int))), .d tI (4294967295 : Int)] [] q_field_Number) _) _
    rw [Int.toNat_natCast, Int.toNat_natCast]
    obtain ⟨c, ⟨c1, c2⟩, hc⟩ := C_Number ((s.take j).drop i) (by rw [List.length_drop, List.length_take]; omega)
    refine wp_call (c := c) hc (wp_bind (wp_bif (fun h => wp_some ?_) fun h => wp_some ?_))
    · have h : c.2.1 ≠ 0 := by simpa using h
      refine wp_some ⟨none, rfl, none, rfl, (fun _ _ h => by cases h), fun m t hd0 hm ht => ?_⟩
      obtain ⟨_, e2⟩ := run_txt hr he hd0 ht
      rw [c1 m hm e2] at h
      exact absurd rfl h
    · have h : c.2.1 = 0 := by simpa using h
      refine wp_some ⟨some (c.1, s, (j : Int), ()), rfl, some (c.1, j), rfl, ?_, fun m t hd0 hm ht => ?_⟩
      · intro n k hk
        cases hk
        have hne := c2 h
        refine ⟨?_, h2⟩
        apply Classical.byContradiction
        intro hn
        apply hne
        rw [List.drop_eq_nil_of_le (by rw [List.length_take]; omega)]
      · obtain ⟨e1, e2⟩ := run_txt hr he hd0 ht
        rw [c1 m hm e2, ← e1]
theorem C_num (s : List UInt8) (hs : s.length ≤ 10000) : ∃ num : Nat → Option (Int × Nat), NumOk s num ∧ ∀ i, i ≤ s.length →
    CallsP' tbl N_regex_parser_number_r [.ptr 0 0] [.box T_str_regex_parser [.d tS s, .d tI (i : Int)]] q_regex_parser_number_r ((num i).map fun x => (x.1, s, (x.2 : Int), ())) := by
  have h : ∀ i : Nat, ∃ o : Option (Int × Nat), i ≤ s.length → (∀ n j, o = some (n, j) → i < j ∧ j ≤ s.length) ∧
    (∀ (m : Nat) t, s.drop i = decDigits m ++ t → m ≤ 4294967295 → ¬ dg (hd t) → o = some ((m : Int), i + (decDigits m).length)) ∧
    CallsP' tbl N_regex_parser_number_r [.ptr 0 0] [.box T_str_regex_parser [.d tS s, .d tI (i : Int)]] q_regex_parser_number_r (o.map fun x => (x.1, s, (x.2 : Int), ())) := fun i => by
    by_cases hi : i ≤ s.length
    · obtain ⟨o, ho⟩ := C_num_at s hs i hi
      exact ⟨o, fun _ => ho⟩
    · exact ⟨none, fun h => absurd h hi⟩
  refine ⟨fun i => Classical.choose (h i), ⟨fun i n j hi e => ?_, fun i m t hd0 hm ht => ?_⟩, fun i hi => ?_⟩
  · exact (Classical.choose_spec (h i) hi).1 n j e
  · have hi : i ≤ s.length := Nat.le_of_lt (drop_lt hd0 (dec_hd m).1)
    exact (Classical.choose_spec (h i) hi).2.1 m t hd0 hm ht
  · exact (Classical.choose_spec (h i) hi).2.2
theorem C_next (s : List UInt8) (i : Nat) (c : Nat) (hc : c ≠ 0) (hs : s.length ≤ 10000) (hi : i ≤ s.length) : Calls' tbl N_ref15_parser_next_rd [.ptr 0 0, .d tY (c : Int)] [.box T_str_ref15_parser [.d tS s, .d tI (i : Int)]] q_ref15_parser_next_rd (decide (pk s i = c), s, ((if pk s i = c then i + 1 else i : Nat) : Int), ()) := by
  refine calls_of rfl (conv_of t_ref15_parser_next_rd rfl (fun O m => x_ref15_parser_next_rd O m (c : Int) s (i : Int)) ?_)
  unfold G_ref15_parser_next_rd
  refine wp_bind (wp_and (b := decide (pk s i = c)) (fun h => ?_) ?_)
  · have h : i < s.length := by have := of_decide_eq_true h; omega
    refine wp_get0 h (wp_some ?_)
    rw [pk_get h]
    by_cases e : s[i].toNat = c
    · rw [decide_eq_true e, e]; simp
    · rw [decide_eq_false e]; simp; omega
  · by_cases e : pk s i = c
    · have hlt := pk_lt (s := s) (i := i) (by omega)
      rw [decide_eq_true e, decide_eq_true (show (i : Int) < (s.length : Int) by omega), if_pos e]
      refine wp_bifT rfl (wp_some ?_)
      rw [wrap_succ hlt (by omega)]
    · rw [decide_eq_false e, Bool.and_false, if_neg e]
      exact wp_bifF rfl (wp_some rfl)
theorem C_num15_at (s : List UInt8) (hs : s.length ≤ 10000) (i : Nat) (hi : i ≤ s.length) : ∃ (v : Int) (ok : Bool) (j : Nat), (i ≤ j ∧ j ≤ s.length ∧ (ok = true → i < j)) ∧
    (∀ (m : Nat) t, s.drop i = decDigits m ++ t → m ≤ 4294967295 → ¬ dg (hd t) → v = (m : Int) ∧ ok = true ∧ j = i + (decDigits m).length) ∧
    Calls' tbl N_ref15_parser_number_r [.ptr 0 0] [.box T_str_ref15_parser [.d tS s, .d tI (i : Int)]] q_ref15_parser_number_r (v, ok, s, (j : Int), ()) := by
  suffices h : ∃ c : HL q_ref15_parser_number_r.sl, (∃ (v : Int) (ok : Bool) (j : Nat), c = (v, ok, s, (j : Int), ()) ∧ (i ≤ j ∧ j ≤ s.length ∧ (ok = true → i < j)) ∧
    (∀ (m : Nat) t, s.drop i = decDigits m ++ t → m ≤ 4294967295 → ¬ dg (hd t) → v = (m : Int) ∧ ok = true ∧ j = i + (decDigits m).length)) ∧
    Calls' tbl N_ref15_parser_number_r [.ptr 0 0] [.box T_str_ref15_parser [.d tS s, .d tI (i : Int)]] q_ref15_parser_number_r c by
    obtain ⟨c, ⟨v, ok, j, rfl, h1, h2⟩, h3⟩ := h
    exact ⟨v, ok, j, h1, h2, h3⟩
  refine calls_ex (fun _ => rfl) (conv_of t_ref15_parser_number_r rfl (fun O m => x_ref15_parser_number_r O m s (i : Int)) ?_)
  unfold G_ref15_parser_number_r
  refine wp_bind (Ev.wp_mono (Ev.wp_loop (Q := fun r => match r with
      | .inl t => ∃ j : Nat, t = ((0 : Int), false, s, (j : Int), ()) ∧ (i ≤ j ∧ j ≤ s.length) ∧ ∃ k, Run s i k ∧ 4294967295 < valD ((s.take k).drop i)
      | .inr t => ∃ j : Nat, t = ((valD ((s.take j).drop i) : Int), s, (j : Int), ()) ∧ Run s i j ∧ ¬ dg (pk s j))
      (fun t => ∃ j : Nat, t = ((valD ((s.take j).drop i) : Int), s, (j : Int), ()) ∧ Run s i j ∧ valD ((s.take j).drop i) ≤ 4294967295) (fun t => s.length - t.2.2.1.toNat) ⟨i, ?_, ⟨Nat.le_refl _, hi, fun k h1 h2 => absurd h2 (by omega)⟩, ?_⟩ ?_) ?_)
  · rw [List.drop_eq_nil_of_le (by rw [List.length_take]; omega)]; rfl
  · rw [List.drop_eq_nil_of_le (by rw [List.length_take]; omega)]; exact Nat.zero_le _
  · rintro t ⟨j, rfl, hr, hv⟩
    unfold L_ref15_parser_number_r_0
    dsimp only
    have h1 := hr.le
    have h2 := hr.top
    refine wp_bind (wp_and (b := decide (48 ≤ pk s j)) (fun h => ?_) ?_)
    · have h : j < s.length := by have := of_decide_eq_true h; omega
      refine wp_get0 h (wp_some ?_)
      rw [pk_get h]
      by_cases e : 48 ≤ s[j].toNat
      · rw [decide_eq_true e, decide_eq_true (by omega)]
      · rw [decide_eq_false e, decide_eq_false (by omega)]
    refine wp_bind (wp_and (b := decide (pk s j ≤ 57)) (fun h => ?_) ?_)
    · have h : j < s.length := by
        rw [Bool.and_eq_true] at h
        have := of_decide_eq_true h.1; omega
      refine wp_get0 h (wp_some ?_)
      rw [pk_get h]
      by_cases e : s[j].toNat ≤ 57
      · rw [decide_eq_true e, decide_eq_true (by omega)]
      · rw [decide_eq_false e, decide_eq_false (by omega)]
    refine wp_bif (fun h => ?_) fun h => wp_some ⟨j, rfl, hr, ?_⟩
    · simp only [Bool.and_eq_true, decide_eq_true_eq] at h
      obtain ⟨⟨h3, h4⟩, h5⟩ := h
      have hlt : j < s.length := by omega
      refine wp_get0 hlt ?_
      have ej := pk_get hlt
      have hdg : IntKind.wrap .i64 (IntKind.wrap .u8 ((s[j].toNat : Int) - 48)) = ((s[j].toNat - 48 : Nat) : Int) := by
        rw [wrap_u8, wrap_i64 (by omega) (by omega)]; omega
      have hrun : Run s i (j + 1) := ⟨by omega, by omega, fun k k1 k2 => by
        by_cases e : k = j
        · subst e; exact ⟨h4, h5⟩
        · exact hr.all k k1 (by omega)⟩
      have e10 : valD ((s.take (j + 1)).drop i) = 10 * valD ((s.take j).drop i) + (s[j].toNat - 48) := by
        rw [List.take_succ_eq_append_getElem hlt, List.drop_append_of_le_length (by rw [List.length_take]; omega), valD_snoc]
      have ew : IntKind.wrap .i64 ((IntKind.wrap .i64 ((10 : Int) * ((valD ((s.take j).drop i) : Nat) : Int))) + (IntKind.wrap .i64 (IntKind.wrap .u8 ((s[j].toNat : Int) - (48 : Int))))) = ((valD ((s.take (j + 1)).drop i) : Nat) : Int) := by
        rw [hdg, wrap_i64 (n := 10 * ((valD ((s.take j).drop i) : Nat) : Int)) (by omega) (by omega), wrap_i64 (by omega) (by omega), e10]; omega
      rw [ew, wrap_succ hlt (by omega)]
      refine wp_bif (fun hb => wp_some ⟨j + 1, rfl, ⟨by omega, by omega⟩, j + 1, hrun, ?_⟩) fun hb => wp_some ⟨⟨j + 1, rfl, hrun, ?_⟩, ?_⟩
      · have := of_decide_eq_true hb; omega
      · have := of_decide_eq_false hb; omega
      · show s.length - (((j + 1 : Nat) : Int)).toNat < s.length - (j : Int).toNat
        omega
    · simp only [Bool.and_eq_false_iff, decide_eq_false_iff_not] at h
      unfold Pl.dg
      rcases h with (h | h) | h
      · have : pk s j = 0 := pk_end (by omega)
        omega
      · omega
      · omega
  · rintro (t | t) ht
    · obtain ⟨j, rfl, hj, k, hk, hv⟩ := ht
      refine wp_some ⟨_, rfl, 0, false, j, rfl, ⟨hj.1, hj.2, fun h => by cases h⟩, fun m t hd0 hm ht => ?_⟩
      exfalso
      have hle : k ≤ i + (decDigits m).length := by
        apply Classical.byContradiction
        intro hn
        have h2 : ¬ dg (pk s (i + (decDigits m).length)) := by rw [pk_hd, drop_app hd0]; exact ht
        exact h2 (hk.all _ (by omega) (by omega))
      have e : (s.take k).drop i = (decDigits m).take (k - i) := by
        rw [List.drop_take, hd0, List.take_append_of_le_length (by omega)]
      rw [e] at hv
      have h1 := valD_take (l := decDigits m) (k := k - i) (by omega)
      rw [decD_val] at h1
      omega
    · obtain ⟨j, rfl, hr, he⟩ := ht
      have h1 := hr.le
      refine wp_some ⟨_, rfl, ((valD ((s.take j).drop i) : Nat) : Int), decide (i < j), j, ?_, ⟨h1, hr.top, fun h => of_decide_eq_true h⟩, fun m t hd0 hm ht => ?_⟩
      · show (_, decide ((j : Int) > (i : Int)), _) = _
        have : decide ((j : Int) > (i : Int)) = decide (i < j) := by
          by_cases e : i < j
          · rw [decide_eq_true e, decide_eq_true (by omega)]
          · rw [decide_eq_false e, decide_eq_false (by omega)]
        rw [this]
      · obtain ⟨e1, e2⟩ := run_txt hr he hd0 ht
        have := decD_pos m
        exact ⟨by rw [e2, decD_val], decide_eq_true (by omega), e1⟩
theorem C_num15 (s : List UInt8) (hs : s.length ≤ 10000) : ∃ num : Nat → Option (Int × Nat), NumOk s num ∧ ∀ i, i ≤ s.length → ∃ (v : Int) (ok : Bool) (j : Nat), (i ≤ j ∧ j ≤ s.length) ∧ num i = (if ok then some (v, j) else none) ∧
    Calls' tbl N_ref15_parser_number_r [.ptr 0 0] [.box T_str_ref15_parser [.d tS s, .d tI (i : Int)]] q_ref15_parser_number_r (v, ok, s, (j : Int), ()) := by
  have h : ∀ i : Nat, ∃ o : Int × Bool × Nat, i ≤ s.length → (i ≤ o.2.2 ∧ o.2.2 ≤ s.length ∧ (o.2.1 = true → i < o.2.2)) ∧
    (∀ (m : Nat) t, s.drop i = decDigits m ++ t → m ≤ 4294967295 → ¬ dg (hd t) → o.1 = (m : Int) ∧ o.2.1 = true ∧ o.2.2 = i + (decDigits m).length) ∧
    Calls' tbl N_ref15_parser_number_r [.ptr 0 0] [.box T_str_ref15_parser [.d tS s, .d tI (i : Int)]] q_ref15_parser_number_r (o.1, o.2.1, s, (o.2.2 : Int), ()) := fun i => by
    by_cases hi : i ≤ s.length
    · obtain ⟨v, ok, j, ho⟩ := C_num15_at s hs i hi
      exact ⟨(v, ok, j), fun _ => ho⟩
    · exact ⟨(0, false, 0), fun h => absurd h hi⟩
  refine ⟨fun i => if (Classical.choose (h i)).2.1 then some ((Classical.choose (h i)).1, (Classical.choose (h i)).2.2) else none, ⟨fun i n j hi e => ?_, fun i m t hd0 hm ht => ?_⟩, fun i hi => ?_⟩
  · have hsp := Classical.choose_spec (h i) hi
    split at e
    · rename_i ht
      cases e
      exact ⟨hsp.1.2.2 ht, hsp.1.2.1⟩
    · cases e
  · have hi : i ≤ s.length := Nat.le_of_lt (drop_lt hd0 (dec_hd m).1)
    obtain ⟨e1, e2, e3⟩ := (Classical.choose_spec (h i) hi).2.1 m t hd0 hm ht
    rw [if_pos e2, e1, e3]
  · have hsp := Classical.choose_spec (h i) hi
    exact ⟨_, _, _, ⟨hsp.1.1, hsp.1.2.1⟩, rfl, hsp.2.2⟩
end Go.Proofs.YtifgipebbagfcaaDoor
