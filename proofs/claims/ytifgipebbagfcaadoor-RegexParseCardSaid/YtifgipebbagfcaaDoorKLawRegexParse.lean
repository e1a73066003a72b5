/-
  'RegexParse': exactly the patterns of valid expressions are accepted.
-/
import Derived.Test.YtifgipebbagfcaaDoorKLawRxRead15
import Derived.Test.YtifgipebbagfcaaDoorKLawRegexSame
set_option linter.unusedVariables false
set_option linter.unusedSimpArgs false
namespace Go.Proofs.YtifgipebbagfcaaDoor
open Go Go.Av Go.Ev Go.Pl Go.Lib
def ParsedX (s : List UInt8) (c : Rx × Int × Unit) : Prop := (∃ r, checkE r = 0 ∧ pat r = s ∧ c = (r, 0, ())) ∨ ((∀ r, checkE r = 0 → pat r ≠ s) ∧ c = (.mk 0 0 0 [], 2, ()))
theorem valid_dep {r : Rx} (h : checkE r = 0) : wellB r = true ∧ sz r ≤ 64 ∧ dep r ≤ 16 := by
  obtain ⟨h1, h2⟩ := checkE_ok h
  have := chk_dep r 1 0 h
  exact ⟨h1, h2, by omega⟩
theorem parse_of {num : Nat → Option (Int × Nat)} {s : List UInt8} (hn : NumOk s num) {b : Nat} (hb : 16 ≤ b) {r : Rx} (h : checkE r = 0) (hp : pat r = s) : pAlt num s b 0 = some (r, s.length) := by
  obtain ⟨h1, _, h3⟩ := valid_dep h
  subst hp
  exact parse_pat hn h1 (by omega)
theorem ParsedX.uniq {s : List UInt8} (hs : s.length ≤ 10000) {c c' : Rx × Int × Unit} (h : ParsedX s c) (h' : ParsedX s c') : c = c' := by
  obtain ⟨num, hn, _⟩ := C_num s hs
  rcases h with ⟨r, h1, h2, rfl⟩ | ⟨h1, rfl⟩ <;> rcases h' with ⟨r', k1, k2, rfl⟩ | ⟨k1, rfl⟩
  · have e1 := parse_of hn (b := 16) (by decide) h1 h2
    rw [parse_of hn (by decide) k1 k2] at e1
    cases e1; rfl
  · exact absurd h2 (k1 r h1)
  · exact absurd k2 (h1 r' k1)
  · rfl
theorem ok_valid : ∀ (r : Rx), wellB r = true → sz r ≤ 1000 → okRx r := by
  refine rx_ind fun k lo up ks ih hw hs => ?_
  obtain ⟨nd, hks⟩ := well_iff.1 hw
  have hl := szs_len ks
  simp only [sz] at hs
  have h1 : lo = 0 ∧ up = 0 ∨ 0 ≤ lo ∧ lo ≤ up ∧ up ≤ 4294967295 := by
    by_cases e : k = 1
    · exact .inr (nd.rng e)
    · exact .inl (nd.zero e)
  have hk := nd.known
  have m1 : IntKind.i64.min = -9223372036854775808 := rfl
  have m2 : IntKind.i64.max = 9223372036854775807 := rfl
  refine ⟨⟨by omega, by omega⟩, ⟨by omega, by omega⟩, ⟨by omega, by omega⟩, Nat.le_trans (show ks.length ≤ 1000 by omega) (by decide), (okRxs_iff ks).2 fun r hr => ih r hr (hks r hr) (by have := szs_mem hr; omega)⟩
theorem ParsedX.ok {s : List UInt8} {c : Rx × Int × Unit} (h : ParsedX s c) : okRx c.1 := by
  rcases h with ⟨r, h1, _, rfl⟩ | ⟨_, rfl⟩
  · obtain ⟨h2, h3, _⟩ := valid_dep h1
    exact ok_valid r h2 (by omega)
  · exact ⟨by decide, by decide, by decide, by decide, trivial⟩
theorem C_regex_Parse (s : List UInt8) (hs : s.length ≤ 10000) : ∃ c : Rx × Int × Unit, ParsedX s c ∧ Calls' tbl N_regex_Parse [.d tS s] [] q_regex_Parse c := by
  obtain ⟨num, hn, hc⟩ := C_num s hs
  refine calls_ex (sh := q_regex_Parse) (fun _ => rfl) (conv_ofD t_regex_Parse rfl (fun O n => x_regex_Parse O n s) ?_)
  unfold G_regex_Parse
  refine wp_callP (C_alts hs hn hc 33 0 rfl 0 (Nat.zero_le _)) ?_
  cases e : pAlt num s 33 0 with
  | none =>
    refine wp_some ⟨_, rfl, .inr ⟨fun r hr hp => ?_, rfl⟩⟩
    rw [parse_of hn (by decide) hr hp] at e; cases e
  | some x =>
    obtain ⟨r, j⟩ := x
    obtain ⟨b1, b2, b3⟩ := bnd_alt hn 33 0 r j (Nat.zero_le _) e
    have hbad : ∀ r', checkE r' = 0 → pat r' = s → r' = r := fun r' h1 h2 => by
      rw [parse_of hn (by decide) h1 h2] at e; cases e; rfl
    show Wp (fun n => Option.bind (Option.bind (callR (evF tbl n) N_regex_Print [.d .rx (Rx.mk r.out.1 r.out.2.1 r.out.2.2.1 r.out.2.2.2.1)] [] q_regex_Print) _) _) _
    rw [rx_eta]
    refine wp_bind (wp_call (C_regex_Print r (by omega)) (wp_bind (wp_or (b := !(pat r == s)) (fun h => wp_some ?_) ?_)))
    · have h : checkE r = 0 := by
        have h : (checkE r != 0) = false := h
        simpa using h
      rw [if_pos h]
    · refine wp_bif (fun h => wp_some (wp_some ⟨_, rfl, .inr ⟨fun r' h1 h2 => ?_, rfl⟩⟩)) fun h => wp_some (wp_some ⟨_, rfl, .inl ⟨r, ?_, ?_, ?_⟩⟩)
      · have := hbad r' h1 h2
        subst this
        have h : (checkE r' != 0 || !(pat r' == s)) = true := h
        rw [h1, h2] at h
        simp at h
      · have h : (checkE r != 0 || !(pat r == s)) = false := h
        simp at h
        exact h.1
      · have h : (checkE r != 0 || !(pat r == s)) = false := h
        simp at h
        exact h.2
      · show (Rx.mk r.out.1 r.out.2.1 r.out.2.2.1 r.out.2.2.2.1, (0 : Int), ()) = _
        rw [rx_eta]
theorem C_ref15_Parse (s : List UInt8) (hs : s.length ≤ 10000) : ∃ c : Rx × Int × Unit, ParsedX s c ∧ Calls' tbl N_ref15_Parse [.d tS s] [] q_ref15_Parse c := by
  obtain ⟨num, hn, hc⟩ := C_num15 s hs
  refine calls_ex (sh := q_ref15_Parse) (fun _ => rfl) (conv_of t_ref15_Parse rfl (fun O n => x_ref15_Parse O n s) ?_)
  unfold G_ref15_Parse
  obtain ⟨r, ok, j, hj, e, hcall⟩ := C_alts15 hs hn hc 32 1 rfl 0 (Nat.zero_le _)
  refine wp_call hcall ?_
  have hgood : ∀ r', checkE r' = 0 → pat r' = s → r' = r ∧ ok = true ∧ j = s.length := fun r' h1 h2 => by
    rw [parse_of hn (by decide) h1 h2] at e
    cases ok with
    | false => cases e
    | true => cases e; exact ⟨rfl, rfl, rfl⟩
  refine wp_bind (wp_or (b := decide (j < s.length)) (fun _ => wp_some ?_) ?_)
  · show decide ((j : Int) < (s.length : Int)) = _
    by_cases h : j < s.length
    · rw [decide_eq_true h, decide_eq_true (by omega)]
    · rw [decide_eq_false h, decide_eq_false (by omega)]
  rw [rx_eta]
  have hz : ok = true → sz r ≤ 1000000 := fun h => by
    rw [h] at e
    have := bnd_alt hn 32 0 r j (Nat.zero_le _) e
    omega
  refine wp_bind (wp_or (b := (checkE r != 0)) (fun h => ?_) ?_)
  · have h : ((!ok) || decide (j < s.length)) = false := h
    have hok : ok = true := by cases ok <;> simp_all
    exact wp_call (C_ref15_Check r (hz hok)) (wp_some rfl)
  refine wp_bind (wp_or (b := !(pat r == s)) (fun h => ?_) ?_)
  · have h : ((!ok) || decide (j < s.length) || (checkE r != 0)) = false := h
    have h0 : checkE r = 0 := by simp at h; exact h.2
    obtain ⟨h1, h2, _⟩ := valid_dep h0
    exact wp_call (C_ref15_pattern r h1 (by omega)) (wp_some rfl)
  refine wp_bif (fun h => wp_some ⟨_, rfl, .inr ⟨fun r' h1 h2 => ?_, rfl⟩⟩) fun h => wp_some ⟨_, rfl, .inl ⟨r, ?_, ?_, rfl⟩⟩
  · obtain ⟨rfl, rfl, rfl⟩ := hgood r' h1 h2
    have h : ((!true) || decide (s.length < s.length) || (checkE r' != 0) || !(pat r' == s)) = true := h
    rw [h1, h2] at h
    simp at h
  · have h : ((!ok) || decide (j < s.length) || (checkE r != 0) || !(pat r == s)) = false := h
    simp at h
    exact h.1.2
  · have h : ((!ok) || decide (j < s.length) || (checkE r != 0) || !(pat r == s)) = false := h
    simp at h
    exact h.2
theorem parse_law (s : List UInt8) : Conv tbl N_law15_RegexParse [.d tS s] [] (· = some (outQ q_law15_RegexParse (true, ()))) := by
  refine conv_of t_law15_RegexParse rfl (fun O n => x_law15_RegexParse O n s) ?_
  unfold G_law15_RegexParse
  refine wp_bif (fun _ => wp_call C_awake (wp_id (fun _ => rfl) rfl)) fun hs => ?_
  have hs : s.length ≤ 2000 := by
    have := of_decide_eq_false hs
    omega
  obtain ⟨c, hc1, hc2⟩ := C_regex_Parse s (by omega)
  obtain ⟨c', hc3, hc4⟩ := C_ref15_Parse s (by omega)
  have hc : c' = c := hc3.uniq (by omega) hc1
  subst hc
  refine wp_call hc2 (wp_call hc4 ?_)
  refine wp_bind (wp_and (b := true) (fun _ => ?_) ?_)
  · rw [rx_eta]
    exact wp_call (C_ref15_Same c'.1 hc1.ok c'.1) (wp_some (eqR_iff.2 rfl))
  rw [show (c'.2.1 == c'.2.1) = true from beq_self_eq_true _]
  refine wp_bind (wp_and (b := true) (fun _ => wp_call C_awake (wp_some rfl)) (wp_some ?_))
  rfl
theorem law_RegexParse : LawOk N_law15_RegexParse [.str] := by
  rintro ⟨s, _⟩ _
  exact ⟨outQ q_law15_RegexParse (true, ()), parse_law s, rfl⟩
end Go.Proofs.YtifgipebbagfcaaDoor
