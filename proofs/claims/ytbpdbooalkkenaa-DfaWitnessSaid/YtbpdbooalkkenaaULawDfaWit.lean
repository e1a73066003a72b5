/-
  dfa: WITNESSES (both of the program and of the reference).
-/
import Derived.Test.YtbpdbooalkkenaaULawDfaMul
set_option linter.unusedVariables false
set_option linter.unusedSimpArgs false
namespace Go.Proofs.Ytbpdbooalkkenaa
open Go Go.Av Go.Ev Go.Pl
noncomputable abbrev expP (a b : DF) (i : Nat) : SR := expl (stepP a b) (startP a b) (labs a b) i
noncomputable abbrev expPE (a b : DF) (sp : List PR → PR → Bool) (i : Nat) : SR ⊕ SR := explE (stepP a b) (startP a b) (labs a b) sp i
noncomputable abbrev allP (a b : DF) : SR := expP a b (a.2.1.length * b.2.1.length)
theorem allP_fin {a b : DF} (ha : Good a) (hb : Good b) : (allP a b).1.length ≤ a.2.1.length * b.2.1.length := okP_len ha hb (expl_ok _)
noncomputable def resM (a b : DF) (f : Bool) (S : SR) : Bool × List Int × List PR × List Int × List Int × List (List Int) × Unit := (f, labs a b, S.1, fromL S.2.1, byL S.2.1, rowsL S.2.2, ())
def MulR (a b : DF) (c : Bool × List Int × List PR × List Int × List Int × List (List Int) × Unit) : Prop :=
  (∃ S, c = resM a b false S ∧ diffP a b (startP a b) = false ∧ expPE a b (fun _ y => diffP a b y) (a.2.1.length * b.2.1.length) = .inl S) ∨
  (∃ S, c = resM a b true S ∧ ((diffP a b (startP a b) = true ∧ S = ([startP a b], [], [])) ∨ (diffP a b (startP a b) = false ∧ expPE a b (fun _ y => diffP a b y) (a.2.1.length * b.2.1.length) = .inr S)))
theorem rows_len {a b : DF} (i : Nat) : (expP a b i).2.2.length ≤ i := by
  rw [expl_rows i i (Nat.le_refl _), List.length_map, List.length_take]; omega
theorem mk_guard {k : Nat} (h : k ≤ 1000000000) : (decide (0 ≤ (k : Int)) && decide ((k : Int) ≤ (k : Int)) && decide ((k : Int) ≤ 9223372036854775807) && decide (8 * (k : Int) ≤ 281474976710656)) = true := by
  simp only [Bool.and_eq_true, decide_eq_true_eq]; omega
theorem C_dfa_multiply {a b : DF} (ha : Good a) (hb : Good b) : ∃ c, MulR a b c ∧ Calls' tbl N_dfa_multiply_dddf [.d (pr [.list tI, .list (.list tI), .list tB, tI]) a, .d (pr [.list tI, .list (.list tI), .list tB, tI]) b, .d tI ((a.2.1.length * b.2.1.length : Nat) : Int), .fnD F_dfa_Witness_1 [⟨pr [.list tI, .list (.list tI), .list tB, tI], a⟩, ⟨pr [.list tI, .list (.list tI), .list tB, tI], b⟩]] [] q_dfa_multiply_dddf c := by
  refine calls_ex (sh := q_dfa_multiply_dddf) (fun _ => rfl) (conv_of t_dfa_multiply_dddf rfl (fun O n => x_dfa_multiply_dddf O n a b ((a.2.1.length * b.2.1.length : Nat) : Int) a b) ?_)
  unfold G_dfa_multiply_dddf
  have hla := good_len ha
  have hlb := good_len hb
  have hB := prod_le ha hb
  have hk := labs_len ha hb
  refine wp_call (C_dfa_merge a.1 b.1 (starts_asc ha.starts) (starts_asc hb.starts) (by omega) (by omega)) ?_
  refine wp_idx (x := startP a b) (by simp) rfl (wp_get (x := startP a b) rfl (wp_guard rfl ?_))
  refine wp_idx (x := startP a b) (by simp) rfl (wp_get (x := startP a b) rfl (wp_call (C_dfa_Witness_1 ha hb (start_in ha hb)) ?_))
  refine wp_bif (fun hd => wp_some ⟨_, rfl, .inr ⟨([startP a b], [], []), rfl, .inl ⟨hd, rfl⟩⟩⟩) fun hd => ?_
  refine wp_bind (Go.Ev.wp_loop (fun s => ∃ i S, s = encM a b i S ∧ expPE a b (fun _ y => diffP a b y) i = .inl S ∧ i ≤ S.1.length) (fun s => a.2.1.length * b.2.1.length - s.1.toNat) ⟨0, ([startP a b], [], []), rfl, rfl, by simp⟩ ?_)
  rintro s ⟨i, S, rfl, hS, hiS⟩
  have hSe : S = expP a b i := ((explE_spec i).1 S hS).1
  subst hSe
  have hok : OkP a b (expP a b i).1 (expP a b i).2.1 := expl_ok i
  have hlen := okP_len ha hb hok
  have hrl := rows_len (a := a) (b := b) i
  unfold L_dfa_multiply_dddf_1
  simp only [encM]
  refine wp_bif (fun h => ?_) fun h => ?_
  · have hi : i < (expP a b i).1.length := by simpa using h
    have hx := List.getElem?_eq_getElem hi
    refine wp_guard (mk_guard (by omega)) (wp_bind (Wp.imp (row_dfa_multiply_dddf ha hb (R := (expP a b i).2.2) hok hx) fun r hr => ?_))
    have hsucc : expPE a b (fun _ y => diffP a b y) (i + 1) = match foldS (rowE (fun _ y => diffP a b y) (stepP a b) (expP a b i).1[i] i) ((expP a b i).1, (expP a b i).2.1, []) (labs a b) with
        | .inl r => .inl (r.1, r.2.1, (expP a b i).2.2 ++ [r.2.2])
        | .inr r => .inr (r.1, r.2, (expP a b i).2.2) := by
      have hS' : explE (stepP a b) (startP a b) (labs a b) (fun _ y => diffP a b y) i = .inl (expP a b i) := hS
      simp only [expPE, explE, hS', hx]
      generalize foldS (rowE (fun _ y => diffP a b y) (stepP a b) (expP a b i).1[i] i) ((expP a b i).1, (expP a b i).2.1, []) (labs a b) = z
      cases z <;> rfl
    cases hf : foldS (rowE (fun _ y => diffP a b y) (stepP a b) (expP a b i).1[i] i) ((expP a b i).1, (expP a b i).2.1, []) (labs a b) with
    | inl r' =>
      rw [hf] at hr hsucc
      obtain ⟨rfl, h2, h3⟩ := hr
      refine wp_guard (decide_eq_true (by simp [rowsL]; omega)) (wp_some ?_)
      have hpre := ((explE_spec (i + 1)).1 _ hsucc).1
      have hp := (expl_pre (f := stepP a b) (s0 := startP a b) (ls := labs a b) i).1
      rw [← hpre] at hp
      have hpl : (expP a b i).1.length ≤ r'.1.length := hp.length_le
      refine ⟨⟨i + 1, (r'.1, r'.2.1, (expP a b i).2.2 ++ [r'.2.2]), ?_, hsucc, Nat.le_trans hi hpl⟩, ?_⟩
      · simp only [encM, rowsL, List.map_append, List.map_cons, List.map_nil]
        rw [wrap_succ hi (by omega)]
      · rw [wrap_succ hi (by omega)]
        simp only [Int.toNat_natCast]
        omega
    | inr r' =>
      rw [hf] at hr hsucc
      subst hr
      refine wp_some (wp_some ⟨_, rfl, .inr ⟨(r'.1, r'.2, (expP a b i).2.2), rfl, .inr ⟨hd, ?_⟩⟩⟩)
      exact explE_stop (by omega) hsucc
  · have hi : (expP a b i).1.length ≤ i := by simpa using h
    refine wp_some (wp_some ⟨_, rfl, .inl ⟨expP a b i, rfl, hd, ?_⟩⟩)
    exact explE_fin (by omega) hS hi
def WitR (a b : DF) (c : List Int × Bool × Unit) : Prop :=
  (∃ k x, (allP a b).1[k]? = some x ∧ diffP a b x = true ∧ (∀ j y, j < k → (allP a b).1[j]? = some y → diffP a b y = false) ∧ Tr (allP a b).2.1 k c.1 ∧ c.2.1 = true) ∨
  ((∀ y ∈ (allP a b).1, diffP a b y = false) ∧ c = ([], false, ()))
theorem witR_unique {a b : DF} {c c' : List Int × Bool × Unit} (h : WitR a b c) (h' : WitR a b c') : c = c' := by
  rcases h with ⟨k, x, h1, h2, h3, h4, h5⟩ | ⟨h1, rfl⟩ <;> rcases h' with ⟨k', x', g1, g2, g3, g4, g5⟩ | ⟨g1, rfl⟩
  · have hk : k = k' := by
      rcases Nat.lt_trichotomy k k' with hl | he | hl
      · have := g3 k x hl h1; rw [h2] at this; cases this
      · exact he
      · have := h3 k' x' hl g1; rw [g2] at this; cases this
    subst hk
    exact Prod.ext (h4.unique g4) (Prod.ext (h5.trans g5.symm) rfl)
  · have := g1 x (List.mem_of_getElem? h1); rw [h2] at this; cases this
  · have := h1 x' (List.mem_of_getElem? g1); rw [g2] at this; cases this
  · rfl
theorem fromL_succ {T : List (Nat × Int)} {k j : Nat} {c : Int} (h : T[k]? = some (j, c)) : (fromL T)[k + 1]? = some (j : Int) := by
  simp [fromL, h]
theorem byL_succ {T : List (Nat × Int)} {k j : Nat} {c : Int} (h : T[k]? = some (j, c)) : (byL T)[k + 1]? = some c := by
  simp [byL, h]
theorem mulR_wit {a b : DF} (ha : Good a) (hb : Good b) {c : Bool × List Int × List PR × List Int × List Int × List (List Int) × Unit} (h : MulR a b c) :
    (c.1 = false ∧ WitR a b ([], false, ())) ∨ (∃ (L : List PR) (T : List (Nat × Int)) (p : List Int) (R : List (List Nat)), c = resM a b true (L, T, R) ∧ OkP a b L T ∧ L.length ≤ a.2.1.length * b.2.1.length ∧ Tr T (L.length - 1) p ∧ WitR a b (p, true, ())) := by
  have h0 : (allP a b).1[0]? = some (startP a b) := (expl_ok _).head
  rcases h with ⟨S, rfl, h1, h2⟩ | ⟨S, rfl, ⟨h1, rfl⟩ | ⟨h1, h2⟩⟩
  · refine .inl ⟨rfl, .inr ⟨fun y hy => ?_, rfl⟩⟩
    obtain ⟨rfl, hq⟩ := (explE_spec _).1 S h2
    obtain ⟨k, hk, rfl⟩ := List.mem_iff_getElem.1 hy
    have hy := List.getElem?_eq_getElem hk
    generalize (allP a b).1[k] = y at hy
    cases k with
    | zero => rw [h0] at hy; cases hy; exact h1
    | succ k => exact hq k _ hy
  · refine .inr ⟨[startP a b], [], [], [], rfl, expl_ok 0, ?_, .zero, .inl ⟨0, _, h0, h1, fun j _ h => absurd h (by omega), .zero, rfl⟩⟩
    have this1 : 1 ≤ (allP a b).1.length := (expl_pre_le (f := stepP a b) (s0 := startP a b) (ls := labs a b) (Nat.zero_le (a.2.1.length * b.2.1.length))).1.length_le
    have := allP_fin ha hb
    simp only [List.length_singleton]
    omega
  · obtain ⟨L, y, g1, g2, g3, g4, g5, g6⟩ := (explE_spec _).2 S h2
    obtain ⟨SL, ST, SR⟩ := S
    simp only at g1 g5 g6
    subst g1
    have hT := expl_ok (f := stepP a b) (s0 := startP a b) (ls := labs a b) (a.2.1.length * b.2.1.length)
    have hLp : 0 < L.length := List.length_pos_iff.2 g2
    have hTl := explE_len _ _ h2
    have hok := hT.pre g5 g6 hTl
    obtain ⟨p, hp⟩ := hok.tr L.length (by simp)
    refine .inr ⟨L ++ [y], ST, p, SR, rfl, hok, okP_len ha hb hok, by simpa using hp, .inl ⟨L.length, y, pre_get g5 (by simp), g4, fun j z hj hz => ?_, hp.mono g6, rfl⟩⟩
    have hz' : L[j]? = some z := by
      have e := hz
      obtain ⟨t, ht⟩ := g5
      rw [← ht, List.append_assoc, List.getElem?_append_left hj] at e
      exact e
    cases j with
    | zero =>
      have := hok.head
      rw [List.getElem?_append_left hLp, hz'] at this
      cases this; exact h1
    | succ j => exact g3 j z hz'
theorem good_of_check {a b : DF} (ha : Good a) (hb : Good b) : ((checkS a != (0 : Int)) || (checkS b != (0 : Int))) = false := by
  rw [good_iff.2 ha, good_iff.2 hb]; rfl
theorem wrap_prod {a b : DF} (ha : Good a) (hb : Good b) : IntKind.wrap .i64 ((a.2.1.length : Int) * (b.2.1.length : Int)) = ((a.2.1.length * b.2.1.length : Nat) : Int) := by
  have := prod_le ha hb
  have e : (a.2.1.length : Int) * (b.2.1.length : Int) = ((a.2.1.length * b.2.1.length : Nat) : Int) := by simp
  rw [e, wrap_i64 (by omega) (by omega)]
theorem C_dfa_Witness {a b : DF} (ha : Good a) (hb : Good b) : ∃ c, WitR a b c ∧ Calls' tbl N_dfa_Witness [.d (pr [.list tI, .list (.list tI), .list tB, tI]) a, .d (pr [.list tI, .list (.list tI), .list tB, tI]) b] [] q_dfa_Witness c := by
  refine calls_ex (sh := q_dfa_Witness) (fun _ => rfl) (conv_of t_dfa_Witness rfl (fun O n => x_dfa_Witness O n a b) ?_)
  unfold G_dfa_Witness
  have hB := prod_le ha hb
  refine wp_call (C_dfa_Check a) (wp_bind (wp_or (fun _ => wp_call (C_dfa_Check b) (wp_some rfl)) ?_))
  rw [good_of_check ha hb]
  refine wp_bif (fun h => by cases h) fun _ => ?_
  obtain ⟨c, hm, hc⟩ := C_dfa_multiply ha hb
  rw [wrap_prod ha hb]
  refine wp_call hc ?_
  rcases mulR_wit ha hb hm with ⟨h1, hw⟩ | ⟨L, T, p, R, rfl, hok, hL, hp, hw⟩
  · rw [h1]
    exact wp_bif (fun _ => wp_some ⟨_, rfl, hw⟩) fun h => by cases h
  refine wp_bif (fun h => by cases h) fun _ => ?_
  have hlen := hok.len
  have hpl := hp.len hok
  have hw0 : IntKind.wrap .i64 ((L.length : Int) - 1) = ((L.length - 1 : Nat) : Int) := by rw [wrap_i64 (by omega) (by omega)]; omega
  refine wp_bind (Go.Ev.wp_loop (σ := Int × List Int × List PR × List Int × List Int × List (List Int) × List Int × Unit)
    (fun s => ∃ (k : Nat) (q back : List Int), s = ((k : Int), labs a b, L, fromL T, byL T, rowsL R, back, ()) ∧ Tr T k q ∧ p = q ++ back.reverse ∧ k < L.length) (fun s => s.1.toNat) ⟨L.length - 1, p, [], ?_, hp, by simp, by omega⟩ ?_)
  · show (IntKind.wrap .i64 ((L.length : Int) - 1), _) = _
    rw [hw0]; rfl
  · rintro s ⟨k, q, back, rfl, hq, rfl, hk⟩
    have hfl : (fromL T).length = T.length + 1 := by simp [fromL]
    have hbl : (byL T).length = T.length + 1 := by simp [byL]
    have hbk : back.length ≤ L.length := by
      have := hpl
      simp only [List.length_append, List.length_reverse] at this
      omega
    unfold L_dfa_Witness_0
    simp only
    cases hq with
    | zero =>
      refine wp_get0 (by omega) (wp_get (x := (-1 : Int)) rfl (wp_bif (fun h => by cases h) fun _ => wp_some ?_))
      simp only [List.nil_append, List.length_reverse, List.reverse_reverse] at *
      refine wp_guard (mk_guard (by omega)) ?_
      refine wp_bind (wp_range (N := back.length) (I := fun i s => s = ((i : Int), back, List.replicate (back.length - i) (0 : Int) ++ (back.take i).reverse, ())) (by simp only [Nat.sub_zero, List.take_zero, List.reverse_nil, List.append_nil]; rfl) ?_ ?_)
      · rintro i s hi rfl
        unfold L_dfa_Witness_1
        simp only
        have hw1 : IntKind.wrap .i64 (IntKind.wrap .i64 ((back.length : Int) - 1) - (i : Int)) = ((back.length - 1 - i : Nat) : Int) := by
          rw [wrap_i64 (n := (back.length : Int) - 1) (by omega) (by omega), wrap_i64 (by omega) (by omega)]; omega
        rw [hw1]
        have hil : (List.replicate (back.length - i) (0 : Int) ++ (back.take i).reverse).length = back.length := by simp; omega
        refine wp_in hi (wp_get0 hi (wp_get (x := back[i]) (by simp) (wp_get0 (by omega) (wp_get (x := (List.replicate (back.length - i) (0 : Int) ++ (back.take i).reverse)[back.length - 1 - i]) ?_ (wp_some ?_)))))
        · simp only [Int.toNat_natCast]
          exact List.getElem?_eq_getElem _
        · rw [wrap_succ hi (by omega)]
          simp only [Int.toNat_natCast]
          obtain ⟨m, hm⟩ : ∃ m, back.length - i = m + 1 := ⟨back.length - i - 1, by omega⟩
          rw [hm, show back.length - 1 - i = m by omega, show back.length - (i + 1) = m by omega, List.set_append_left _ _ (by simp), List.take_add_one, List.getElem?_eq_getElem hi, List.reverse_append]
          have e : (List.replicate (m + 1) (0 : Int)).set m back[i] = List.replicate m 0 ++ [back[i]] := by
            rw [List.replicate_succ', List.set_append_right _ _ (by simp)]
            simp
          rw [e]
          simp
      · rintro s rfl
        unfold L_dfa_Witness_1
        refine wp_out (wp_some (wp_some ⟨_, rfl, ?_⟩))
        simpa using hw
    | @step k j c q h1 h2 =>
      have hj := (hok.link _ _ _ h1).1
      refine wp_get0 (by omega) (wp_get (x := (j : Int)) (by simpa using fromL_succ h1) (wp_bif (fun _ => ?_) fun h => by simp at h))
      refine wp_get0 (by omega) (wp_get (x := c) (by simpa using byL_succ h1) (wp_guard (decide_eq_true (by simp; omega)) ?_))
      refine wp_get0 (by omega) (wp_get (x := (j : Int)) (by simpa using fromL_succ h1) (wp_some ?_))
      refine ⟨⟨j, q, back ++ [c], rfl, h2, by simp, by omega⟩, ?_⟩
      simp only [Int.toNat_natCast]
      omega
end Go.Proofs.Ytbpdbooalkkenaa
