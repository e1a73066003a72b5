/-
  dfa: THE PRODUCT OF TWO AUTOMATA, explored up to a number of states (the program's way).
-/
import Derived.Test.YtbpdbooalkkenaaMLawDfaPairs
set_option linter.unusedVariables false
set_option linter.unusedSimpArgs false
namespace Go.Proofs.Ytbpdbooalkkenaa
open Go Go.Av Go.Ev Go.Pl
theorem C_dfa_Both_1 (x : PR) : Calls' tbl N_dfa_Both_1 [.d (pr [tI, tI]) x] [] q_dfa_Both_1 (false, ()) :=
  calls_of rfl (conv_of t_dfa_Both_1 rfl (fun O n => x_dfa_Both_1 O n x) (by unfold G_dfa_Both_1; exact wp_some rfl))
theorem row_dfa_multiply_v1 {a b : DF} (ha : Good a) (hb : Good b) {i : Nat} {L : List PR} {T : List (Nat × Int)} {R : List (List Nat)} (h : OkP a b L T) {x : PR} (hx : L[i]? = some x) :
    Wp (fun n => loopN n (L_dfa_multiply_dddf_v1_0 (evF tbl n) n a b (4096 : Int) (encM a b i (L, T, R))) ((0 : Int), labs a b, L, fromL T, byL T, rowsL R, kvFrom 0 L, List.replicate (labs a b).length 0, ()))
      fun r => match foldS (rowE (spL 4096) (stepP a b) x i) (L, T, []) (labs a b) with
        | .inl r' => r = .inr (labs a b, r'.1, fromL r'.2.1, byL r'.2.1, rowsL R, kvFrom 0 r'.1, r'.2.2.map (fun (k : Nat) => (k : Int)), ()) ∧ OkP a b r'.1 r'.2.1 ∧ r'.2.2.length = (labs a b).length
        | .inr r' => r = .inl (true, labs a b, r'.1, fromL r'.2, byL r'.2, rowsL R, ()) := by
  have hk := labs_len ha hb
  have hB := prod_le ha hb
  have hla := good_len ha
  have hlb := good_len hb
  refine wp_foldI (xs := labs a b) (f := rowE (spL 4096) (stepP a b) x i) (s0 := (L, T, [])) (Inv := fun j st => OkP a b st.1 st.2.1 ∧ L <+: st.1 ∧ st.2.2.length = j)
    (enc := fun j st => ((j : Int), labs a b, st.1, fromL st.2.1, byL st.2.1, rowsL R, kvFrom 0 st.1, rowZ (labs a b).length st.2.2, ()))
    (oE := fun st => .inr (labs a b, st.1, fromL st.2.1, byL st.2.1, rowsL R, kvFrom 0 st.1, rowZ (labs a b).length st.2.2, ())) (oB := fun r => .inl (true, labs a b, r.1, fromL r.2, byL r.2, rowsL R, ())) ⟨h, List.prefix_refl _, rfl⟩ (fun j hj st hst => ?_) (fun st hst => ?_) (fun r hr hs => ?_)
  · obtain ⟨Lj, Tj, rj⟩ := st
    obtain ⟨g1, g2, g3⟩ := hst
    simp only at g1 g2 g3
    subst g3
    have hx' := pre_get g2 hx
    have hi := (List.getElem?_eq_some_iff.1 hx').1
    have hxi := (List.getElem?_eq_some_iff.1 hx').2
    have hin := okP_in ha hb g1 hx'
    have hlen := okP_len ha hb g1
    have hv := (labs_spec ha hb _ (List.getElem_mem hj)).1
    have hT : Tj.length < Lj.length := by have := g1.len; omega
    obtain ⟨p1, p2, p3, p4⟩ := stepS_at ha hin.1.1 hin.1.2 hv
    obtain ⟨r1, r2, r3, r4⟩ := stepS_at hb hin.2.1 hin.2.2 hv
    unfold L_dfa_multiply_dddf_v1_0
    simp only [encM]
    refine wp_in hj (wp_get0 hj (wp_get0 hi (wp_get (x := x) (by simpa using hx') ?_)))
    refine wp_getZ hin.1.1 p1 (wp_call (Cs_dfa_class a.1 _ ha.starts (by omega) hv) (wp_get0 p2 ?_))
    refine wp_get0 hi (wp_get (x := x) (by simpa using hx') (wp_getZ hin.2.1 r1 (wp_call (Cs_dfa_class b.1 _ hb.starts (by omega) hv) (wp_get0 r2 ?_))))
    rw [p3, r3]
    have hfold : ((stepS a x.1 (labs a b)[rj.length], stepS b x.2.1 (labs a b)[rj.length], ()) : PR) = stepP a b x (labs a b)[rj.length] := rfl
    simp only [hfold]
    generalize hy : stepP a b x (labs a b)[rj.length] = y
    have hyin : PIn a b y := by rw [← hy]; exact stepP_in ha hb hv hin
    have hkv := kvGet_from y Lj 0
    have hrz : rj.length < (rowZ (labs a b).length rj).length := by unfold rowZ; simp; omega
    by_cases hm : y ∈ Lj
    · rw [if_pos hm] at hkv
      have e : rowE (spL 4096) (stepP a b) x i (Lj, Tj, rj) (labs a b)[rj.length] = .inl (Lj, Tj, rj ++ [pos Lj y]) := rowE_mem hy hm
      rw [e]
      refine wp_bind (wp_bif (fun hc => by rw [hkv] at hc; simp at hc) fun _ => wp_some ?_)
      refine wp_get0 hrz (wp_get (x := (rowZ (labs a b).length rj)[rj.length]) (by simp) (wp_some ?_))
      refine ⟨⟨g1, g2, by simp⟩, ?_⟩
      rw [hkv, wrap_succ hj (by omega)]
      simp only [Option.getD_some, Int.toNat_natCast, Nat.zero_add]
      rw [rowZ_set hj]
    · rw [if_neg hm] at hkv
      have hok : OkP a b (Lj ++ [y]) (Tj ++ [(i, (labs a b)[rj.length])]) := by rw [← hy] at hm ⊢; exact g1.add hx' (List.getElem_mem hj) hm
      have hlt := okP_len ha hb hok
      simp only [List.length_append, List.length_singleton] at hlt
      have hset := kvSet_from y Lj 0 hm
      simp only [Nat.zero_add] at hset
      have ef : fromL (Tj ++ [(i, (labs a b)[rj.length])]) = fromL Tj ++ [(i : Int)] := by simp [fromL]
      have eb : byL (Tj ++ [(i, (labs a b)[rj.length])]) = byL Tj ++ [(labs a b)[rj.length]] := by simp [byL]
      refine wp_bind (wp_bif (fun _ => ?_) fun hc => by rw [hkv] at hc; simp at hc)
      refine wp_guard (decide_eq_true (by rw [kvFrom_len]; simp only [maxLen]; omega)) ?_
      refine wp_guard (decide_eq_true (by simp; omega)) (wp_guard (decide_eq_true (by simp [fromL]; omega)) (wp_guard (decide_eq_true (by simp [byL]; omega)) ?_))
      refine wp_bind (wp_or (b := false) (fun _ => wp_call (C_dfa_Both_1 y) (wp_some rfl)) ?_)
      rw [Bool.or_false]
      refine wp_bif (fun hd => wp_some ?_) fun hd => wp_some ?_
      · have hd : spL 4096 Lj y = true := by
          simp only [decide_eq_true_eq] at hd
          exact decide_eq_true (by omega)
        have e : rowE (spL 4096) (stepP a b) x i (Lj, Tj, rj) (labs a b)[rj.length] = .inr (Lj ++ [y], Tj ++ [(i, (labs a b)[rj.length])]) := rowE_stop hy hm hd
        rw [e]
        refine wp_some ?_
        dsimp only
        rw [ef, eb]
      · have hd : spL 4096 Lj y = false := by
          simp only [decide_eq_false_iff_not] at hd
          exact decide_eq_false (by omega)
        have e : rowE (spL 4096) (stepP a b) x i (Lj, Tj, rj) (labs a b)[rj.length] = .inl (Lj ++ [y], Tj ++ [(i, (labs a b)[rj.length])], rj ++ [Lj.length]) := rowE_new hy hm hd
        rw [e]
        refine wp_get0 hrz (wp_get (x := (rowZ (labs a b).length rj)[rj.length]) (by simp) (wp_some ?_))
        refine ⟨⟨hok, g2.trans (List.prefix_append _ _), by simp⟩, ?_⟩
        rw [wrap_succ hj (by omega), ef, eb]
        simp only [Int.toNat_natCast]
        rw [rowZ_set hj, hset]
  · unfold L_dfa_multiply_dddf_v1_0
    exact wp_out (wp_some rfl)
  · rw [foldE_S] at hr
    rw [hr]
    cases r with
    | inl st =>
      obtain ⟨g1, g2, g3⟩ := hs st rfl
      refine ⟨?_, g1, g3⟩
      simp only [rowZ, g3, Nat.sub_self, List.replicate_zero, List.append_nil]
    | inr r => rfl
noncomputable def resV (a b : DF) : Bool × List Int × List PR × List Int × List Int × List (List Int) × Unit :=
  match expPE a b (spL 4096) (a.2.1.length * b.2.1.length) with
  | .inl S => resM a b false S
  | .inr S => resM a b true S
theorem C_dfa_multiply_v1 {a b : DF} (ha : Good a) (hb : Good b) : Calls' tbl N_dfa_multiply_dddf_v1 [.d (pr [.list tI, .list (.list tI), .list tB, tI]) a, .d (pr [.list tI, .list (.list tI), .list tB, tI]) b, .d tI (4096 : Int), .fnD F_dfa_Both_1 []] [] q_dfa_multiply_dddf_v1 (resV a b) := by
  refine calls_of rfl (conv_of t_dfa_multiply_dddf_v1 rfl (fun O n => x_dfa_multiply_dddf_v1 O n a b (4096 : Int)) ?_)
  unfold G_dfa_multiply_dddf_v1
  have hla := good_len ha
  have hlb := good_len hb
  have hB := prod_le ha hb
  have hk := labs_len ha hb
  refine wp_call (C_dfa_merge a.1 b.1 (starts_asc ha.starts) (starts_asc hb.starts) (by omega) (by omega)) ?_
  refine wp_idx (x := startP a b) (by simp) rfl (wp_get (x := startP a b) rfl (wp_guard rfl ?_))
  refine wp_idx (x := startP a b) (by simp) rfl (wp_get (x := startP a b) rfl (wp_call (C_dfa_Both_1 _) ?_))
  refine wp_bif (fun h => by cases h) fun _ => ?_
  refine wp_bind (Go.Ev.wp_loop (fun s => ∃ i S, s = encM a b i S ∧ expPE a b (spL 4096) i = .inl S ∧ i ≤ S.1.length) (fun s => a.2.1.length * b.2.1.length - s.1.toNat) ⟨0, ([startP a b], [], []), rfl, rfl, by simp⟩ ?_)
  rintro s ⟨i, S, rfl, hS, hiS⟩
  have hSe : S = expP a b i := ((explE_spec i).1 S hS).1
  subst hSe
  have hok : OkP a b (expP a b i).1 (expP a b i).2.1 := expl_ok i
  have hlen := okP_len ha hb hok
  have hrl := rows_len (a := a) (b := b) i
  unfold L_dfa_multiply_dddf_v1_1
  simp only [encM]
  refine wp_bif (fun h => ?_) fun h => ?_
  · have hi : i < (expP a b i).1.length := by simpa using h
    have hx := List.getElem?_eq_getElem hi
    refine wp_guard (mk_guard (by omega)) (wp_bind (Wp.imp (row_dfa_multiply_v1 ha hb (R := (expP a b i).2.2) hok hx) fun r hr => ?_))
    have hsucc : expPE a b (spL 4096) (i + 1) = match foldS (rowE (spL 4096) (stepP a b) (expP a b i).1[i] i) ((expP a b i).1, (expP a b i).2.1, []) (labs a b) with
        | .inl r => .inl (r.1, r.2.1, (expP a b i).2.2 ++ [r.2.2])
        | .inr r => .inr (r.1, r.2, (expP a b i).2.2) := by
      have hS' : explE (stepP a b) (startP a b) (labs a b) (spL 4096) i = .inl (expP a b i) := hS
      simp only [expPE, explE, hS', hx]
      generalize foldS (rowE (spL 4096) (stepP a b) (expP a b i).1[i] i) ((expP a b i).1, (expP a b i).2.1, []) (labs a b) = z
      cases z <;> rfl
    cases hf : foldS (rowE (spL 4096) (stepP a b) (expP a b i).1[i] i) ((expP a b i).1, (expP a b i).2.1, []) (labs a b) with
    | inl r' =>
      rw [hf] at hr hsucc
      obtain ⟨rfl, h2, h3⟩ := hr
      refine wp_guard (decide_eq_true (by simp [rowsL]; omega)) (wp_some ?_)
      have hpre := ((explE_spec (i + 1)).1 _ hsucc).1
      have hp := (expl_pre (f := stepP a b) (s0 := startP a b) (ls := labs a b) i).1
      rw [← hpre] at hp
      have hpl : (expP a b i).1.length ≤ r'.1.length := hp.length_le
      refine ⟨⟨i + 1, (r'.1, r'.2.1, (expP a b i).2.2 ++ [r'.2.2]), ?_, hsucc, Nat.le_trans hi hpl⟩, ?_⟩
      · simp only [encM, rowsL, List.map_append, List.map_cons, List.map_nil]
        rw [wrap_succ hi (by omega)]
      · rw [wrap_succ hi (by omega)]
        simp only [Int.toNat_natCast]
        omega
    | inr r' =>
      rw [hf] at hr hsucc
      subst hr
      refine wp_some (wp_some ?_)
      have he : expPE a b (spL 4096) (a.2.1.length * b.2.1.length) = .inr (r'.1, r'.2, (expP a b i).2.2) := explE_stop (by omega) hsucc
      rw [show resV a b = resM a b true (r'.1, r'.2, (expP a b i).2.2) from by unfold resV; rw [he]]
      rfl
  · have hi : (expP a b i).1.length ≤ i := by simpa using h
    refine wp_some (wp_some ?_)
    have he : expPE a b (spL 4096) (a.2.1.length * b.2.1.length) = .inl (expP a b i) := explE_fin (by omega) hS hi
    rw [show resV a b = resM a b false (expP a b i) from by unfold resV; rw [he]]
    rfl
end Go.Proofs.Ytbpdbooalkkenaa
