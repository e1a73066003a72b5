/-
  dfa: THE PRODUCT OF TWO AUTOMATA AND WITNESSES (the reference's way).
-/
import Derived.Test.YtbpdbooalkkenaaULawDfaWit
set_option linter.unusedVariables false
set_option linter.unusedSimpArgs false
namespace Go.Proofs.Ytbpdbooalkkenaa
open Go Go.Av Go.Ev Go.Pl
abbrev P4 : Type := Int × (Int × (Int × (Int × Unit)))
def mk4 (x : PR) (t : Int × Int) : P4 := (x.1, x.2.1, t.1, t.2, ())
def tagL (T : List (Nat × Int)) : List (Int × Int) := (-1, 0) :: T.map fun t => ((t.1 : Int), t.2)
def recL (L : List PR) (T : List (Nat × Int)) : List P4 := List.zipWith mk4 L (tagL T)
theorem recL_len {L : List PR} {T : List (Nat × Int)} (h : L.length = T.length + 1) : (recL L T).length = L.length := by
  simp [recL, tagL, h]
theorem recL_get {L : List PR} {T : List (Nat × Int)} (h : L.length = T.length + 1) {k : Nat} {x : PR} (hx : L[k]? = some x) : ∃ t, (tagL T)[k]? = some t ∧ (recL L T)[k]? = some (mk4 x t) := by
  have hk := (List.getElem?_eq_some_iff.1 hx).1
  have hk2 : k < (tagL T).length := by simp [tagL]; omega
  refine ⟨(tagL T)[k], List.getElem?_eq_getElem hk2, ?_⟩
  unfold recL
  rw [List.getElem?_zipWith, hx, List.getElem?_eq_getElem hk2]
theorem recL_add {L : List PR} {T : List (Nat × Int)} (h : L.length = T.length + 1) (y : PR) (i : Nat) (c : Int) : recL (L ++ [y]) (T ++ [(i, c)]) = recL L T ++ [mk4 y ((i : Int), c)] := by
  unfold recL tagL
  rw [List.map_append, ← List.cons_append, List.zipWith_append (by simp [h])]
  rfl
theorem find_ref16_pairs {L : List PR} {T : List (Nat × Int)} (hl : L.length = T.length + 1) (hb : L.length ≤ 16777216) (y : PR) (nx : List (List Int)) (row : List Int) :
    Wp (fun n => loopN n (L_ref16_pairs_0 (evF tbl n) n y.1 y.2.1) ((0 : Int), recL L T, nx, row, ())) fun r => r = ((pos L y : Int), recL L T, nx, row, ()) := by
  have hrl := recL_len hl
  refine Go.Ev.wp_loop (σ := Int × List P4 × List (List Int) × List Int × Unit) (fun s => ∃ k : Nat, s = ((k : Int), recL L T, nx, row, ()) ∧ k ≤ L.length ∧ ∀ j z, j < k → L[j]? = some z → z ≠ y) (fun s => L.length - s.1.toNat) ⟨0, rfl, by omega, fun j z h => absurd h (by omega)⟩ ?_
  rintro s ⟨k, rfl, h1, h2⟩
  unfold L_ref16_pairs_0
  simp only
  by_cases hk : k < L.length
  · have hx := List.getElem?_eq_getElem hk
    obtain ⟨t, _, ht⟩ := recL_get hl hx
    have hr : k < (recL L T).length := by omega
    refine wp_bind (wp_and (b := decide (L[k] ≠ y)) (fun _ => wp_get0 hr (wp_get (x := mk4 L[k] t) (by simpa using ht) (wp_bind (wp_or (b := decide (L[k].2.1 ≠ y.2.1)) (fun _ => wp_get0 hr (wp_get (x := mk4 L[k] t) (by simpa using ht) (wp_some ?_))) (wp_some ?_))))) ?_)
    · show (L[k].2.1 != y.2.1) = _
      by_cases h : L[k].2.1 = y.2.1 <;> simp [h]
    · show ((L[k].1 != y.1) || _) = _
      by_cases h : L[k].1 = y.1 <;> by_cases h' : L[k].2.1 = y.2.1
      · have : L[k] = y := Prod.ext h (Prod.ext h' rfl)
        simp [h, h', this]
      · have : L[k] ≠ y := fun e => h' (by rw [e])
        simp [h, h', this]
      · have : L[k] ≠ y := fun e => h (by rw [e])
        simp [h, h', this]
      · have : L[k] ≠ y := fun e => h (by rw [e])
        simp [h, h', this]
    · have hlt : decide ((k : Int) < ((recL L T).length : Int)) = true := decide_eq_true (by omega)
      rw [hlt, Bool.true_and]
      refine wp_bif (fun hc => wp_some ?_) fun hc => wp_some ?_
      · have hc : L[k] ≠ y := by simpa using hc
        rw [wrap_succ hk (by omega)]
        refine ⟨⟨k + 1, rfl, hk, fun j z hj hz => ?_⟩, by simp only [Int.toNat_natCast]; omega⟩
        rcases Nat.lt_succ_iff_lt_or_eq.1 hj with h | rfl
        · exact h2 j z h hz
        · rw [hx] at hz; cases hz; exact hc
      · have hc : L[k] = y := by simpa using hc
        rw [pos_of h1 h2 fun z hz => by rw [hx] at hz; cases hz; exact hc]
  · have hlt : decide ((k : Int) < ((recL L T).length : Int)) = false := decide_eq_false (by omega)
    rw [hlt]
    refine wp_bind (wp_some (wp_some ?_))
    rw [pos_of h1 h2 fun z hz => by rw [List.getElem?_eq_none (by omega)] at hz; cases hz]
abbrev spL (lim : Nat) : List PR → PR → Bool := fun L _ => decide (lim ≤ L.length)
theorem row_ref16_pairs {a b : DF} (ha : Good a) (hb : Good b) {i : Nat} {L : List PR} {T : List (Nat × Int)} {R : List (List Nat)} (h : OkP a b L T) {x : PR} (hx : L[i]? = some x) (lim : Nat) :
    Wp (fun n => loopN n (L_ref16_pairs_1 (evF tbl n) n a b (lim : Int) (labs a b, ()) ((i : Int), recL L T, rowsL R, ())) ((0 : Int), recL L T, rowsL R, [], ()))
      fun r => match foldS (rowE (spL lim) (stepP a b) x i) (L, T, []) (labs a b) with
        | .inl r' => r = .inr (recL r'.1 r'.2.1, rowsL R, r'.2.2.map (fun (k : Nat) => (k : Int)), ()) ∧ OkP a b r'.1 r'.2.1 ∧ r'.2.2.length = (labs a b).length
        | .inr _ => r = .inl (false, ()) := by
  have hk := labs_len ha hb
  have hB := prod_le ha hb
  have hla := good_len ha
  have hlb := good_len hb
  refine wp_foldI (xs := labs a b) (f := rowE (spL lim) (stepP a b) x i) (s0 := (L, T, [])) (Inv := fun j st => OkP a b st.1 st.2.1 ∧ L <+: st.1 ∧ st.2.2.length = j)
    (enc := fun j st => ((j : Int), recL st.1 st.2.1, rowsL R, st.2.2.map (fun (k : Nat) => (k : Int)), ()))
    (oE := fun st => .inr (recL st.1 st.2.1, rowsL R, st.2.2.map (fun (k : Nat) => (k : Int)), ())) (oB := fun r => .inl (false, ())) ⟨h, List.prefix_refl _, rfl⟩ (fun j hj st hst => ?_) (fun st hst => ?_) (fun r hr hs => ?_)
  · obtain ⟨Lj, Tj, rj⟩ := st
    obtain ⟨g1, g2, g3⟩ := hst
    simp only at g1 g2 g3
    subst g3
    have hx' := pre_get g2 hx
    have hi := (List.getElem?_eq_some_iff.1 hx').1
    have hin := okP_in ha hb g1 hx'
    have hlen := okP_len ha hb g1
    have hrl := recL_len g1.len
    have hv := (labs_spec ha hb _ (List.getElem_mem hj)).1
    obtain ⟨t, _, ht⟩ := recL_get g1.len hx'
    obtain ⟨p1, p2, p3, p4⟩ := stepS_at ha hin.1.1 hin.1.2 hv
    obtain ⟨r1, r2, r3, r4⟩ := stepS_at hb hin.2.1 hin.2.2 hv
    unfold L_ref16_pairs_1
    simp only
    refine wp_in hj (wp_get0 hj (wp_get0 (by omega) (wp_get (x := ((x.1, x.2.1, t.1, t.2, ()) : P4)) ht ?_)))
    dsimp only
    refine wp_getZ hin.1.1 p1 (wp_call (Cs_ref16_class a.1 _ ha.starts (by omega) hv) (wp_get0 p2 ?_))
    refine wp_get0 (by omega) (wp_get (x := ((x.1, x.2.1, t.1, t.2, ()) : P4)) ht ?_)
    dsimp only
    refine wp_getZ hin.2.1 r1 (wp_call (Cs_ref16_class b.1 _ hb.starts (by omega) hv) (wp_get0 r2 ?_))
    rw [p3, r3]
    generalize hy : stepP a b x (labs a b)[rj.length] = y
    have e1 : stepS a x.1 (labs a b)[rj.length] = y.1 := by rw [← hy]; rfl
    have e2 : stepS b x.2.1 (labs a b)[rj.length] = y.2.1 := by rw [← hy]; rfl
    rw [e1, e2]
    refine wp_bind (Wp.imp (find_ref16_pairs g1.len (by omega) y _ _) fun r hr => ?_)
    subst hr
    simp only
    by_cases hm : y ∈ Lj
    · have hlt := pos_lt.1 hm
      rw [rowE_mem hy hm]
      have hne : ((pos Lj y : Int) == ((recL Lj Tj).length : Int)) = false := by simp only [beq_eq_false_iff_ne]; omega
      rw [hne]
      refine wp_bind (wp_some (wp_guard (decide_eq_true (by simp; omega)) (wp_some ?_)))
      refine ⟨⟨g1, g2, by simp⟩, ?_⟩
      rw [wrap_succ hj (by omega)]
      simp
    · have hpos := pos_out hm
      have heq : ((pos Lj y : Int) == ((recL Lj Tj).length : Int)) = true := by simp only [beq_iff_eq]; omega
      rw [heq]
      refine wp_bind (wp_bif (fun _ => wp_bif (fun hc => wp_some ?_) fun hc => ?_) fun h => by cases h)
      · have hc : spL lim Lj y = true := by
          rw [hpos] at hc
          simp only [decide_eq_true_eq] at hc
          exact decide_eq_true (by omega)
        rw [rowE_stop hy hm hc]
        exact wp_some rfl
      · have hc : spL lim Lj y = false := by
          rw [hpos] at hc
          simp only [decide_eq_false_iff_not] at hc
          exact decide_eq_false (by omega)
        rw [rowE_new hy hm hc]
        have hok : OkP a b (Lj ++ [y]) (Tj ++ [(i, (labs a b)[rj.length])]) := by rw [← hy] at hm ⊢; exact g1.add hx' (List.getElem_mem hj) hm
        refine wp_guard (decide_eq_true (by simp; omega)) (wp_some (wp_guard (decide_eq_true (by simp; omega)) (wp_some ?_)))
        refine ⟨⟨hok, g2.trans (List.prefix_append _ _), by simp⟩, ?_⟩
        rw [wrap_succ hj (by omega), recL_add g1.len, hpos]
        simp [mk4]
  · unfold L_ref16_pairs_1
    exact wp_out (wp_some rfl)
  · rw [foldE_S] at hr
    rw [hr]
    cases r with
    | inl st =>
      obtain ⟨g1, g2, g3⟩ := hs st rfl
      exact ⟨rfl, g1, g3⟩
    | inr r => rfl
noncomputable def resR (a b : DF) (lim : Nat) : List P4 × List (List Int) × List Int × Bool × Unit :=
  match expPE a b (spL lim) (a.2.1.length * b.2.1.length) with
  | .inl S => (recL S.1 S.2.1, rowsL S.2.2, labs a b, true, ())
  | .inr _ => ([], [], [], false, ())
theorem C_ref16_pairs {a b : DF} (ha : Good a) (hb : Good b) (lim : Nat) : Calls' tbl N_ref16_pairs [.d (pr [.list tI, .list (.list tI), .list tB, tI]) a, .d (pr [.list tI, .list (.list tI), .list tB, tI]) b, .d tI (lim : Int)] [] q_ref16_pairs (resR a b lim) := by
  refine calls_of rfl (conv_of t_ref16_pairs rfl (fun O n => x_ref16_pairs O n a b (lim : Int)) ?_)
  unfold G_ref16_pairs
  have hla := good_len ha
  have hlb := good_len hb
  have hB := prod_le ha hb
  have hk := labs_len ha hb
  refine wp_guard (decide_eq_true (by omega)) (wp_guard (decide_eq_true (by omega)) (wp_call (C_ref16_sorted (a.1 ++ b.1) (by simp; omega)) ?_))
  refine wp_bind (Go.Ev.wp_loop (σ := Int × List P4 × List (List Int) × Unit) (fun s => ∃ (i : Nat) (S : SR), s = ((i : Int), recL S.1 S.2.1, rowsL S.2.2, ()) ∧ expPE a b (spL lim) i = .inl S ∧ i ≤ S.1.length) (fun s => a.2.1.length * b.2.1.length - s.1.toNat) ⟨0, ([startP a b], [], []), rfl, rfl, by simp⟩ ?_)
  rintro s ⟨i, S, rfl, hS, hiS⟩
  have hSe : S = expP a b i := ((explE_spec i).1 S hS).1
  subst hSe
  have hok : OkP a b (expP a b i).1 (expP a b i).2.1 := expl_ok i
  have hlen := okP_len ha hb hok
  have hrl := rows_len (a := a) (b := b) i
  have hrec := recL_len hok.len
  unfold L_ref16_pairs_2
  simp only
  refine wp_bif (fun h => ?_) fun h => ?_
  · have hi : i < (expP a b i).1.length := by simp only [decide_eq_true_eq] at h; omega
    have hx := List.getElem?_eq_getElem hi
    refine wp_bind (Wp.imp (row_ref16_pairs ha hb (R := (expP a b i).2.2) hok hx lim) fun r hr => ?_)
    have hsucc : expPE a b (spL lim) (i + 1) = match foldS (rowE (spL lim) (stepP a b) (expP a b i).1[i] i) ((expP a b i).1, (expP a b i).2.1, []) (labs a b) with
        | .inl r => .inl (r.1, r.2.1, (expP a b i).2.2 ++ [r.2.2])
        | .inr r => .inr (r.1, r.2, (expP a b i).2.2) := by
      have hS' : explE (stepP a b) (startP a b) (labs a b) (spL lim) i = .inl (expP a b i) := hS
      simp only [expPE, explE, hS', hx]
      generalize foldS (rowE (spL lim) (stepP a b) (expP a b i).1[i] i) ((expP a b i).1, (expP a b i).2.1, []) (labs a b) = z
      cases z <;> rfl
    cases hf : foldS (rowE (spL lim) (stepP a b) (expP a b i).1[i] i) ((expP a b i).1, (expP a b i).2.1, []) (labs a b) with
    | inl r' =>
      rw [hf] at hr hsucc
      obtain ⟨rfl, h2, h3⟩ := hr
      refine wp_guard (decide_eq_true (by simp [rowsL]; omega)) (wp_some ?_)
      have hpre := ((explE_spec (i + 1)).1 _ hsucc).1
      have hp := (expl_pre (f := stepP a b) (s0 := startP a b) (ls := labs a b) i).1
      rw [← hpre] at hp
      have hpl : (expP a b i).1.length ≤ r'.1.length := hp.length_le
      refine ⟨⟨i + 1, (r'.1, r'.2.1, (expP a b i).2.2 ++ [r'.2.2]), ?_, hsucc, Nat.le_trans hi hpl⟩, ?_⟩
      · simp only [rowsL, List.map_append, List.map_cons, List.map_nil]
        rw [wrap_succ hi (by omega)]
      · rw [wrap_succ hi (by omega)]
        simp only [Int.toNat_natCast]
        omega
    | inr r' =>
      rw [hf] at hr hsucc
      subst hr
      refine wp_some (wp_some ?_)
      have he : expPE a b (spL lim) (a.2.1.length * b.2.1.length) = .inr (r'.1, r'.2, (expP a b i).2.2) := explE_stop (by omega) hsucc
      rw [show resR a b lim = ([], [], [], false, ()) from by unfold resR; rw [he]]
  · have hi : (expP a b i).1.length ≤ i := by simp only [decide_eq_false_iff_not] at h; omega
    refine wp_some (wp_some ?_)
    have he : expPE a b (spL lim) (a.2.1.length * b.2.1.length) = .inl (expP a b i) := explE_fin (by omega) hS hi
    rw [show resR a b lim = (recL (expP a b i).1 (expP a b i).2.1, rowsL (expP a b i).2.2, labs a b, true, ()) from by unfold resR; rw [he]]
    rfl
theorem expPE_all {a b : DF} (ha : Good a) (hb : Good b) {lim : Nat} (hl : a.2.1.length * b.2.1.length < lim) : ∀ i, expPE a b (spL lim) i = .inl (expP a b i) := by
  intro i
  cases h : expPE a b (spL lim) i with
  | inl S => rw [((explE_spec i).1 S h).1]
  | inr r =>
    obtain ⟨L, y, g1, _, _, g4, g5, _⟩ := (explE_spec i).2 r h
    have h1 : lim ≤ L.length := by simpa using g4
    have h2 := g5.length_le
    have h3 := okP_len ha hb (expl_ok i)
    rw [g1] at h2
    simp only [List.length_append, List.length_singleton] at h2
    omega
theorem trace_ref16 {a b : DF} {L : List PR} {T : List (Nat × Int)} (hok : OkP a b L T) (hl : L.length ≤ 16777216) (c : List (List Int) × List Int × Bool × Unit) {k : Nat} {p : List Int} (hk : k < L.length) (hp : Tr T k p) :
    Wp (fun n => loopN n (L_ref16_Witness_0 (evF tbl n) n (recL L T, c)) ((k : Int), ([] : List Int), ())) fun r => r = (p, ()) := by
  have hrl := recL_len hok.len
  have hpl := hp.len hok
  refine Go.Ev.wp_loop (σ := Int × List Int × Unit) (fun s => ∃ (k : Nat) (q back : List Int), s = ((k : Int), back, ()) ∧ Tr T k q ∧ p = q ++ back ∧ k < L.length) (fun s => s.1.toNat) ⟨k, p, [], rfl, hp, by simp, hk⟩ ?_
  rintro s ⟨k, q, back, rfl, hq, rfl, hk⟩
  have hx := List.getElem?_eq_getElem hk
  obtain ⟨t, ht1, ht⟩ := recL_get hok.len hx
  have hbk : back.length ≤ L.length := by
    simp only [List.length_append] at hpl
    omega
  unfold L_ref16_Witness_0
  refine wp_getn ht ?_
  cases hq with
  | zero =>
    have : t = (-1, 0) := by simpa [tagL] using ht1.symm
    subst this
    refine wp_bif (fun h => by cases h) fun _ => wp_some ?_
    simp
  | @step k j e q h1 h2 =>
    have hj := (hok.link _ _ _ h1).1
    have : t = ((j : Int), e) := by
      have := ht1.symm
      simp [tagL, h1] at this
      exact this
    subst this
    refine wp_bif (fun _ => ?_) fun h => by simp [mk4] at h
    refine wp_getn ht (wp_guard (decide_eq_true (by simp; omega)) ?_)
    refine wp_getn ht (wp_some ?_)
    refine ⟨⟨j, q, e :: back, rfl, h2, by simp, by omega⟩, ?_⟩
    simp only [mk4, Int.toNat_natCast]
    omega
theorem C_ref16_Witness {a b : DF} (ha : Good a) (hb : Good b) : ∃ c, WitR a b c ∧ Calls' tbl N_ref16_Witness [.d (pr [.list tI, .list (.list tI), .list tB, tI]) a, .d (pr [.list tI, .list (.list tI), .list tB, tI]) b] [] q_ref16_Witness c := by
  refine calls_ex (sh := q_ref16_Witness) (fun _ => rfl) (conv_of t_ref16_Witness rfl (fun O n => x_ref16_Witness O n a b) ?_)
  unfold G_ref16_Witness
  have hB := prod_le ha hb
  refine wp_call (C_ref16_Check a) (wp_bind (wp_or (fun _ => wp_call (C_ref16_Check b) (wp_some rfl)) ?_))
  rw [good_of_check ha hb]
  refine wp_bif (fun h => by cases h) fun _ => ?_
  rw [wrap_prod ha hb, wrap_i64 (n := ((a.2.1.length * b.2.1.length : Nat) : Int) + 1) (by omega) (by omega)]
  simp only
  rw [show ((a.2.1.length * b.2.1.length : Nat) : Int) + 1 = ((a.2.1.length * b.2.1.length + 1 : Nat) : Int) from rfl]
  refine wp_call (C_ref16_pairs ha hb _) ?_
  have hres : resR a b (a.2.1.length * b.2.1.length + 1) = (recL (allP a b).1 (allP a b).2.1, rowsL (allP a b).2.2, labs a b, true, ()) := by
    unfold resR
    rw [expPE_all ha hb (Nat.lt_succ_self _)]
  rw [hres]
  have hok : OkP a b (allP a b).1 (allP a b).2.1 := expl_ok _
  have hlen := okP_len ha hb hok
  have hrl := recL_len hok.len
  refine wp_bind (wp_range (N := (recL (allP a b).1 (allP a b).2.1).length) (I := fun i s => s = ((i : Int), ()) ∧ ∀ j y, j < i → (allP a b).1[j]? = some y → diffP a b y = false) ⟨rfl, fun j y h => absurd h (by omega)⟩ ?_ ?_)
  · rintro i s hi ⟨rfl, hq⟩
    have hi' : i < (allP a b).1.length := by omega
    have hx := List.getElem?_eq_getElem hi'
    obtain ⟨t, _, ht⟩ := recL_get hok.len hx
    have hin := okP_in ha hb hok hx
    obtain ⟨h1, e1⟩ := acc_at ha hin.1.1 hin.1.2
    obtain ⟨h2, e2⟩ := acc_at hb hin.2.1 hin.2.2
    unfold L_ref16_Witness_1
    refine wp_in hi (wp_getn ht ?_)
    refine wp_getZ hin.1.1 h1 (wp_getZ hin.2.1 h2 ?_)
    dsimp only [mk4]
    rw [e1, e2]
    refine wp_bif (fun hc => wp_some ?_) fun hc => ?_
    · rw [wrap_succ hi (by omega)]
      refine ⟨rfl, fun j y hj hy => ?_⟩
      rcases Nat.lt_succ_iff_lt_or_eq.1 hj with h | rfl
      · exact hq j y h hy
      · rw [hx] at hy
        cases hy
        unfold diffP
        simpa using hc
    · obtain ⟨p, hp⟩ := hok.tr i hi'
      refine wp_bind (Wp.imp (trace_ref16 hok (by omega) _ hi' hp) fun r hr => ?_)
      subst hr
      refine wp_some (wp_some ⟨_, rfl, .inl ⟨i, _, hx, ?_, hq, hp, rfl⟩⟩)
      unfold diffP
      simpa using hc
  · rintro s ⟨rfl, hq⟩
    unfold L_ref16_Witness_1
    refine wp_out (wp_some (wp_some ⟨_, rfl, .inr ⟨fun y hy => ?_, rfl⟩⟩))
    obtain ⟨j, hj, rfl⟩ := List.mem_iff_getElem.1 hy
    exact hq j _ (by omega) (List.getElem?_eq_getElem hj)
end Go.Proofs.Ytbpdbooalkkenaa
