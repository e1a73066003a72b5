/-
  'DfaBoth': THE PLAIN LAW.
-/
import Derived.Test.YtbpdbooalkkenaaMLawDfaProd
import Derived.Test.YtbpdbooalkkenaaMLawDfaNot
set_option linter.unusedVariables false
set_option linter.unusedSimpArgs false
namespace Go.Proofs.Ytbpdbooalkkenaa
open Go Go.Av Go.Ev Go.Pl
theorem prod_len {a b : DF} (ha : Good a) (hb : Good b) : (prodS a b).1.length ≤ 4000 ∧ (prodS a b).2.1.length = (allP a b).1.length := by
  refine ⟨labs_len ha hb, ?_⟩
  rw [prod_rows ha hb, List.length_map]
theorem v_cases {a b : DF} (ha : Good a) (hb : Good b) : (expPE a b (spL 4096) (a.2.1.length * b.2.1.length) = .inl (allP a b) ∧ (allP a b).1.length ≤ 4096) ∨ ∃ r, expPE a b (spL 4096) (a.2.1.length * b.2.1.length) = .inr r := by
  cases h : expPE a b (spL 4096) (a.2.1.length * b.2.1.length) with
  | inr r => exact .inr ⟨r, rfl⟩
  | inl S =>
    obtain ⟨hS, hq⟩ := (explE_spec _).1 S h
    subst hS
    refine .inl ⟨rfl, Nat.le_of_not_lt fun hlt => ?_⟩
    have hlen : 4096 < (allP a b).1.length := hlt
    have := hq 4095 _ (List.getElem?_eq_getElem (l := (allP a b).1) hlen)
    have hl : ((allP a b).1.take 4096).length = 4096 := by simp; omega
    have h2 : decide (4096 ≤ ((allP a b).1.take 4096).length) = false := this
    rw [hl] at h2
    simp at h2
def zD : DF := ([], [], [], 0, ())
def BothR (a b : DF) (c : DF × Int × Unit) : Prop :=
  c.2.1 = 0 → Good a ∧ Good b ∧ Good c.1 ∧ ∀ w, Valid w → accS c.1 (runD c.1 w) = (accS a (runD a w) && accS b (runD b w))
def cutD (m : DF) : DF × Int × Unit := if m.1.length > 2000 then (zD, 8, ()) else (m, 0, ())
theorem okDF_zD : OkDF zD := ⟨by simp [zD], by simp [zD], by simp [zD], by simp [zD]⟩
theorem prod_good {m : DF} (h : Canon m) (h1 : m.1.length ≤ 2000) (h2 : m.2.1.length ≤ 4096) : Good m := by
  have hw := h.wf
  exact ⟨hw.starts, by unfold Big; have := hw.len; omega, hw.len, hw.rows, hw.start, hw.to⟩
theorem acc_take {a b : DF} {L : List PR} {i : Nat} (hi : i < L.length) : (L.take i).map (fun x => accS a x.1 && accS b x.2.1) ++ ([accS a L[i].1 && accS b L[i].2.1] : List Bool) = (L.take (i + 1)).map fun x => accS a x.1 && accS b x.2.1 := by
  simp only [List.take_add_one, List.getElem?_eq_getElem hi, List.map_append, Option.toList_some, List.map_cons, List.map_nil]
theorem both_dfa {a b : DF} (ha : Good a) (hb : Good b) {m : DF} (hx : expPE a b (spL 4096) (a.2.1.length * b.2.1.length) = .inl (allP a b)) (hlen : (allP a b).1.length ≤ 4096)
    (hm : Calls' tbl N_dfa_minimal [.d (pr [.list tI, .list (.list tI), .list tB, tI]) (prodS a b)] [] q_dfa_minimal (m, ())) :
    Calls' tbl N_dfa_Both [.d (pr [.list tI, .list (.list tI), .list tB, tI]) a, .d (pr [.list tI, .list (.list tI), .list tB, tI]) b] [] q_dfa_Both (cutD m) := by
  refine calls_of rfl (conv_of t_dfa_Both rfl (fun O n => x_dfa_Both O n a b) ?_)
  unfold G_dfa_Both
  refine wp_call (C_dfa_Check a) ?_
  rw [good_iff.2 ha]
  refine wp_bif (fun h => by cases h) fun _ => wp_call (C_dfa_Check b) ?_
  rw [good_iff.2 hb]
  refine wp_bif (fun h => by cases h) fun _ => wp_call (C_dfa_multiply_v1 ha hb) ?_
  rw [show resV a b = resM a b false (allP a b) from by unfold resV; rw [hx]]
  refine wp_bif (fun h => by cases h) fun _ => ?_
  have hok : OkP a b (allP a b).1 (allP a b).2.1 := expl_ok _
  refine wp_bind (wp_range (N := (allP a b).1.length) (I := fun i s => s = ((i : Int), (0 : Int), labs a b, (0 : Int), rowsL (allP a b).2.2, ((allP a b).1.take i).map (fun x => accS a x.1 && accS b x.2.1), (allP a b).1, ())) (by simp [resM]) ?_ ?_)
  · rintro i s hi rfl
    have hin := okP_in ha hb hok (List.getElem?_eq_getElem hi)
    obtain ⟨h1, e1⟩ := acc_at ha hin.1.1 hin.1.2
    obtain ⟨h2, e2⟩ := acc_at hb hin.2.1 hin.2.2
    unfold L_dfa_Both_0
    refine wp_in hi (wp_get0 hi (wp_get (x := (allP a b).1[i]) (by simp [List.getElem?_eq_getElem hi]) (wp_getZ hin.1.1 h1 ?_)))
    refine wp_bind (wp_and (b := accS b (allP a b).1[i].2.1) (fun _ => wp_getZ hin.2.1 h2 (wp_some e2)) ?_)
    rw [e1]
    refine wp_guard (decide_eq_true (by simp; omega)) (wp_some ?_)
    simp only [acc_take hi]
    rw [wrap_succ hi (by omega)]
  · rintro s rfl
    unfold L_dfa_Both_0
    refine wp_out (wp_some ?_)
    rw [List.take_length]
    refine wp_call hm ?_
    refine wp_bif (fun h => ?_) fun h => ?_
    · have h1 : m.1.length > 2000 := by
        have : (m.1.length : Int) > 2000 := by simpa using h
        omega
      have e : cutD m = (zD, 8, ()) := if_pos h1
      exact wp_id (fun _ => rfl) (by rw [e]; rfl)
    · have h1 : ¬ m.1.length > 2000 := by
        have : ¬ (m.1.length : Int) > 2000 := by simpa using h
        omega
      have e : cutD m = (m, 0, ()) := if_neg h1
      exact wp_id (fun _ => rfl) (by rw [e])
theorem both_ref {a b : DF} (ha : Good a) (hb : Good b) {m : DF} (hx : expPE a b (spL 4096) (a.2.1.length * b.2.1.length) = .inl (allP a b)) (hlen : (allP a b).1.length ≤ 4096)
    (hm : Calls' tbl N_ref16_Normal [.d (pr [.list tI, .list (.list tI), .list tB, tI]) (prodS a b)] [] q_ref16_Normal (m, ())) :
    Calls' tbl N_ref16_Both [.d (pr [.list tI, .list (.list tI), .list tB, tI]) a, .d (pr [.list tI, .list (.list tI), .list tB, tI]) b] [] q_ref16_Both (cutD m) := by
  refine calls_of rfl (conv_of t_ref16_Both rfl (fun O n => x_ref16_Both O n a b) ?_)
  unfold G_ref16_Both
  refine wp_call (C_ref16_Check a) ?_
  rw [good_iff.2 ha]
  refine wp_bif (fun h => by cases h) fun _ => wp_call (C_ref16_Check b) ?_
  rw [good_iff.2 hb]
  refine wp_bif (fun h => by cases h) fun _ => wp_call (C_ref16_pairs ha hb 4096) ?_
  have hok : OkP a b (allP a b).1 (allP a b).2.1 := expl_ok _
  have hrl : (recL (allP a b).1 (allP a b).2.1).length = (allP a b).1.length := recL_len hok.len
  rw [show resR a b 4096 = (recL (allP a b).1 (allP a b).2.1, rowsL (allP a b).2.2, labs a b, true, ()) from by unfold resR; rw [hx]]
  refine wp_bif (fun h => by cases h) fun _ => ?_
  refine wp_bind (wp_range (N := (allP a b).1.length) (I := fun i s => s = ((i : Int), (0 : Int), labs a b, rowsL (allP a b).2.2, (0 : Int), ((allP a b).1.take i).map (fun x => accS a x.1 && accS b x.2.1), ())) (by simp) ?_ ?_)
  · rintro i s hi rfl
    have hin := okP_in ha hb hok (List.getElem?_eq_getElem hi)
    obtain ⟨h1, e1⟩ := acc_at ha hin.1.1 hin.1.2
    obtain ⟨h2, e2⟩ := acc_at hb hin.2.1 hin.2.2
    obtain ⟨t, ht, hr⟩ := recL_get hok.len (List.getElem?_eq_getElem hi)
    unfold L_ref16_Both_0
    refine wp_in (by rw [hrl]; exact hi) (wp_getn hr (wp_getZ (i := (mk4 (allP a b).1[i] t).1) hin.1.1 h1 ?_))
    refine wp_bind (wp_and (b := accS b (allP a b).1[i].2.1) (fun _ => wp_getZ (i := (mk4 (allP a b).1[i] t).2.1) hin.2.1 h2 (wp_some e2)) ?_)
    have e1' : a.2.2.1[(mk4 (allP a b).1[i] t).1.toNat] = accS a (allP a b).1[i].1 := e1
    rw [e1']
    refine wp_guard (decide_eq_true (by simp; omega)) (wp_some ?_)
    simp only [acc_take hi]
    rw [wrap_succ hi (by omega)]
  · rintro s rfl
    unfold L_ref16_Both_0
    rw [← hrl]
    refine wp_out (wp_some ?_)
    rw [hrl, List.take_length]
    refine wp_call hm ?_
    refine wp_bif (fun h => ?_) fun h => ?_
    · have h1 : m.1.length > 2000 := by
        have : (m.1.length : Int) > 2000 := by simpa using h
        omega
      have e : cutD m = (zD, 8, ()) := if_pos h1
      exact wp_id (fun _ => rfl) (by rw [e]; rfl)
    · have h1 : ¬ m.1.length > 2000 := by
        have : ¬ (m.1.length : Int) > 2000 := by simpa using h
        omega
      have e : cutD m = (m, 0, ()) := if_neg h1
      exact wp_id (fun _ => rfl) (by rw [e])
theorem both_both (a b : DF) : ∃ c : DF × Int × Unit, BothR a b c ∧ OkDF c.1 ∧
    Calls' tbl N_dfa_Both [.d (pr [.list tI, .list (.list tI), .list tB, tI]) a, .d (pr [.list tI, .list (.list tI), .list tB, tI]) b] [] q_dfa_Both c ∧
    Calls' tbl N_ref16_Both [.d (pr [.list tI, .list (.list tI), .list tB, tI]) a, .d (pr [.list tI, .list (.list tI), .list tB, tI]) b] [] q_ref16_Both c := by
  by_cases ha : Good a
  · by_cases hb : Good b
    · have hla := good_len ha
      have hlb := good_len hb
      rcases v_cases ha hb with ⟨hx, hlen⟩ | ⟨r, hr⟩
      · obtain ⟨p1, p2⟩ := prod_len ha hb
        obtain ⟨⟨x, _⟩, ⟨⟨h1, h2⟩, hx1, hx2⟩, h3⟩ := C_dfa_minimal (prod_wf ha hb) (by omega) (by omega)
        obtain ⟨⟨y, _⟩, ⟨g1, g2⟩, g3⟩ := C_ref16_Normal (prod_wf ha hb) (by omega) (by omega)
        have hxy : x = y := canon_unique h1 g1 fun w hw => (h2 w hw).trans (g2 w hw).symm
        subst hxy
        simp only at hx1 hx2 h1 h2
        refine ⟨cutD x, ?_, ?_, both_dfa ha hb hx hlen h3, both_ref ha hb hx hlen g3⟩
        · unfold cutD
          split
          · intro h; cases h
          · intro _
            exact ⟨ha, hb, prod_good h1 (by show x.1.length ≤ 2000; omega) (by show x.2.1.length ≤ 4096; omega), fun w hw => (h2 w hw).trans (prod_lang ha hb hw)⟩
        · unfold cutD
          split
          · exact okDF_zD
          · exact okDF_good (prod_good h1 (by show x.1.length ≤ 2000; omega) (by show x.2.1.length ≤ 4096; omega))
      · refine ⟨(zD, 8, ()), (fun h => absurd h (by decide) : BothR a b (zD, 8, ())), okDF_zD, ?_, ?_⟩
        · refine calls_of rfl (conv_of t_dfa_Both rfl (fun O n => x_dfa_Both O n a b) ?_)
          unfold G_dfa_Both
          refine wp_call (C_dfa_Check a) ?_
          rw [good_iff.2 ha]
          refine wp_bif (fun h => by cases h) fun _ => wp_call (C_dfa_Check b) ?_
          rw [good_iff.2 hb]
          refine wp_bif (fun h => by cases h) fun _ => wp_call (C_dfa_multiply_v1 ha hb) ?_
          rw [show resV a b = resM a b true r from by unfold resV; rw [hr]]
          exact wp_bif (fun _ => wp_some rfl) fun h => by cases h
        · refine calls_of rfl (conv_of t_ref16_Both rfl (fun O n => x_ref16_Both O n a b) ?_)
          unfold G_ref16_Both
          refine wp_call (C_ref16_Check a) ?_
          rw [good_iff.2 ha]
          refine wp_bif (fun h => by cases h) fun _ => wp_call (C_ref16_Check b) ?_
          rw [good_iff.2 hb]
          refine wp_bif (fun h => by cases h) fun _ => wp_call (C_ref16_pairs ha hb 4096) ?_
          rw [show resR a b 4096 = ([], [], [], false, ()) from by unfold resR; rw [hr]]
          exact wp_bif (fun _ => wp_some rfl) fun h => by cases h
    · have hc : checkS b ≠ 0 := fun e => hb (good_iff.1 e)
      have hbb : (checkS b != (0 : Int)) = true := by simpa using hc
      refine ⟨(zD, checkS b, ()), (fun h => absurd h hc : BothR a b (zD, checkS b, ())), okDF_zD, ?_, ?_⟩
      · refine calls_of rfl (conv_of t_dfa_Both rfl (fun O n => x_dfa_Both O n a b) ?_)
        unfold G_dfa_Both
        refine wp_call (C_dfa_Check a) ?_
        rw [good_iff.2 ha]
        refine wp_bif (fun h => by cases h) fun _ => wp_call (C_dfa_Check b) ?_
        exact wp_bif (fun _ => wp_some rfl) fun h => by rw [hbb] at h; cases h
      · refine calls_of rfl (conv_of t_ref16_Both rfl (fun O n => x_ref16_Both O n a b) ?_)
        unfold G_ref16_Both
        refine wp_call (C_ref16_Check a) ?_
        rw [good_iff.2 ha]
        refine wp_bif (fun h => by cases h) fun _ => wp_call (C_ref16_Check b) ?_
        exact wp_bif (fun _ => wp_some rfl) fun h => by rw [hbb] at h; cases h
  · have hc : checkS a ≠ 0 := fun e => ha (good_iff.1 e)
    have hbb : (checkS a != (0 : Int)) = true := by simpa using hc
    refine ⟨(zD, checkS a, ()), (fun h => absurd h hc : BothR a b (zD, checkS a, ())), okDF_zD, ?_, ?_⟩
    · refine calls_of rfl (conv_of t_dfa_Both rfl (fun O n => x_dfa_Both O n a b) ?_)
      unfold G_dfa_Both
      refine wp_call (C_dfa_Check a) ?_
      exact wp_bif (fun _ => wp_some rfl) fun h => by rw [hbb] at h; cases h
    · refine calls_of rfl (conv_of t_ref16_Both rfl (fun O n => x_ref16_Both O n a b) ?_)
      unfold G_ref16_Both
      refine wp_call (C_ref16_Check a) ?_
      exact wp_bif (fun _ => wp_some rfl) fun h => by rw [hbb] at h; cases h
theorem match_both {a b m : DF} (ha : Good a) (hb : Good b) (hm : Good m) (hl : ∀ w, Valid w → accS m (runD m w) = (accS a (runD a w) && accS b (runD b w))) (l : List Int) : matchS m l = (matchS a l && matchS b l) := by
  by_cases hv : ∀ v ∈ l, 0 ≤ v ∧ v ≤ 4294967295
  · rw [match_valid ha hv, match_valid hb hv, match_valid hm hv]
    exact hl l hv
  · have : ∃ v ∈ l, v < 0 ∨ v > 4294967295 := by
      refine Classical.byContradiction fun hn => hv fun v hv' => ?_
      have h1 : ¬ (v < 0 ∨ v > 4294967295) := fun h => hn ⟨v, hv', h⟩
      omega
    obtain ⟨v, h1, h2⟩ := this
    rw [match_bad h1 h2, match_bad h1 h2]; rfl
theorem law_DfaBoth : LawOk N_law16_DfaBoth [pr [.list tI, .list (.list tI), .list tB, tI], pr [.list tI, .list (.list tI), .list tB, tI], .list tI] := by
  rintro ⟨a, b, path, _⟩ ⟨_, _, hp, _⟩
  have hp : path.length ≤ 9223372036854775807 := hp.1
  refine ⟨outQ q_law16_DfaBoth (true, ()), ?_, rfl⟩
  refine conv_of t_law16_DfaBoth rfl (fun O n => x_law16_DfaBoth O n a b path) ?_
  unfold G_law16_DfaBoth
  refine wp_call (C_law16_Large a) ?_
  refine wp_bind (wp_or (fun _ => wp_call (C_law16_Large b) (wp_some rfl)) ?_)
  refine wp_bind (wp_or (fun _ => wp_some rfl) ?_)
  refine wp_bif (fun _ => wp_call C_awake (wp_some rfl)) fun _ => ?_
  obtain ⟨c, hc, hok, h1, h2⟩ := both_both a b
  refine wp_call h1 (wp_call h2 (wp_bind (wp_or (b := false) (fun _ => wp_call (C_ref16_Equal _ _ hok) (wp_some (by simp))) ?_)))
  refine wp_bif (fun h => absurd h (by simp)) fun _ => ?_
  refine wp_bind (wp_or (b := true) (fun h0 => ?_) ?_)
  · have h0 : c.2.1 = 0 := by simpa using h0
    obtain ⟨ha, hb, hm, hl⟩ := hc h0
    refine wp_call (C_dfa_Match c.1 path hp) (wp_call (C_dfa_Match a path hp) ?_)
    refine wp_bind (wp_and (b := matchS b path) (fun _ => wp_call (C_dfa_Match b path hp) (wp_some rfl)) (wp_some ?_))
    simp [match_both ha hb hm hl path]
  · rw [Bool.or_true]
    exact wp_bind (wp_bif (fun _ => wp_call C_awake (wp_some (wp_some rfl))) fun h => by cases h)
end Go.Proofs.Ytbpdbooalkkenaa
