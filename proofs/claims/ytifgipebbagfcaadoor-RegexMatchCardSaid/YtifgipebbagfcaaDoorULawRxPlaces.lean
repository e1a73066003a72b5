/-
  EXPRESSIONS: THE POSITIONS, as the program's matcher collects them; and its matcher.
-/
import Derived.Test.YtifgipebbagfcaaDoorULawRxWalk
set_option linter.unusedVariables false
set_option linter.unusedSimpArgs false
namespace Go.Proofs.YtifgipebbagfcaaDoor
open Go Go.Av Go.Ev Go.Pl
def matB (M : Nat) (P : List (Nat × Nat)) : List (List Bool) := (List.range M).map fun i => (List.range M).map fun k => decide ((i, k) ∈ P)
theorem matB_len (M : Nat) (P : List (Nat × Nat)) : (matB M P).length = M := by simp [matB]
theorem matB_get {M : Nat} {P : List (Nat × Nat)} {i : Nat} (h : i < (matB M P).length) : (matB M P)[i] = (List.range M).map fun k => decide ((i, k) ∈ P) := by simp [matB]
theorem matB_set {M : Nat} {P : List (Nat × Nat)} {i k : Nat} (hi : i < M) (hk : k < M) : (matB M P).set i (((List.range M).map fun k => decide ((i, k) ∈ P)).set k true) = matB M (P ++ [(i, k)]) := by
  refine List.ext_getElem (by simp [matB]) fun a h1 h2 => ?_
  simp only [List.getElem_set, matB_get, List.length_set] at h1 ⊢
  split
  · rename_i e
    subst e
    refine List.ext_getElem (by simp) fun b h3 h4 => ?_
    simp only [List.getElem_set, List.getElem_map, List.getElem_range, List.mem_append, List.mem_singleton, Prod.mk.injEq, true_and]
    by_cases hb : k = b
    · subst hb; simp
    · rw [if_neg hb]
      refine decide_eq_decide.2 ⟨.inl, fun h => ?_⟩
      rcases h with h | h
      · exact h
      · exact absurd h.symm hb
  · rename_i e
    refine List.map_congr_left fun b _ => decide_eq_decide.2 ?_
    simp only [List.mem_append, List.mem_singleton, Prod.mk.injEq]
    constructor
    · exact .inl
    · rintro (h | ⟨h, _⟩)
      · exact h
      · exact absurd h.symm e
theorem C_regex_join (a b : List Int) (ha : a.length ≤ 1000000) (hb : b.length ≤ 1000000) : Calls' tbl N_regex_join [.d (.list tI) a, .d (.list tI) b] [] q_regex_join (a ++ b, ()) := by
  refine calls_of rfl (conv_of t_regex_join rfl (fun O m => x_regex_join O m a b) ?_)
  unfold G_regex_join
  refine wp_guard (decide_eq_true (by simp; omega)) (wp_guard (decide_eq_true (by simp; omega)) (wp_some ?_))
  simp
theorem C_regex_places_add (x y : Int) (lo hi : List Int) (F : List (List Bool)) (h1 : lo.length ≤ 1000000) (h2 : hi.length ≤ 1000000) : Calls' tbl N_regex_places_add_rdd [.ptr 0 0, .d tI x, .d tI y] [.box T_str_regex_places [.sl 1, .sl 2, .sl 3], .vec T_i64 tI lo, .vec T_i64 tI hi, .tree T_sl_bool (.s 4 1 .e .e) (.list tB) F none] q_regex_places_add_rdd
    (([(lo.length : Int)], [(lo.length : Int)], false, ()), lo ++ [x], hi ++ [y], F, ()) := by
  refine calls_of rfl (conv_of t_regex_places_add_rdd rfl (fun O m => x_regex_places_add_rdd O m x y lo hi F) ?_)
  unfold G_regex_places_add_rdd
  exact wp_guard (decide_eq_true (by simp; omega)) (wp_guard (decide_eq_true (by simp; omega)) (wp_some rfl))
theorem C_regex_places_link {M : Nat} (P : List (Nat × Nat)) (lo up : List Int) {la fi : List Nat} (hla : ∀ p ∈ la, p < M) (hfi : ∀ q ∈ fi, q < M) (h1 : la.length ≤ 1000000) (h2 : fi.length ≤ 1000000) (hM : M ≤ 1000000) :
    Calls' tbl N_regex_places_link_rdd [.ptr 0 0, .d (.list tI) (cL la), .d (.list tI) (cL fi)] [.box T_str_regex_places [.sl 1, .sl 2, .sl 3], .vec T_i64 tI lo, .vec T_i64 tI up, .tree T_sl_bool (.s 4 1 .e .e) (.list tB) (matB M P) none] q_regex_places_link_rdd (lo, up, matB M (P ++ prodL la fi), ()) := by
  refine calls_of rfl (conv_of t_regex_places_link_rdd rfl (fun O m => x_regex_places_link_rdd O m (cL la) (cL fi) lo up (matB M P)) ?_)
  unfold G_regex_places_link_rdd
  refine wp_bind (wp_range (N := (cL la).length) (I := fun i s => s = ((i : Int), lo, up, matB M (P ++ prodL (la.take i) fi), ())) (by simp [prodL]) ?_ ?_)
  · rintro i s hi' rfl
    have hi : i < la.length := by rw [cL_len] at hi'; exact hi'
    have hp := hla _ (List.getElem_mem hi)
    unfold L_regex_places_link_rdd_1
    refine wp_in hi' (wp_get0 hi' ?_)
    rw [cL_get hi]
    refine wp_bind (wp_range (N := (cL fi).length) (I := fun j s => s = ((j : Int), lo, up, matB M (P ++ prodL (la.take i) fi ++ prodL [la[i]] (fi.take j)), ())) (by simp [prodL]) ?_ ?_)
    · rintro j s hj' rfl
      have hj : j < fi.length := by rw [cL_len] at hj'; exact hj'
      have hq := hfi _ (List.getElem_mem hj)
      unfold L_regex_places_link_rdd_0
      refine wp_in hj' (wp_get0 hj' ?_)
      rw [cL_get hj]
      have hpl : la[i] < (matB M (P ++ prodL (la.take i) fi ++ prodL [la[i]] (fi.take j))).length := by rw [matB_len]; exact hp
      have hg := List.getElem?_eq_getElem hpl
      rw [matB_get] at hg
      refine wp_get0 hpl (wp_guard (decide_eq_true (by omega)) ?_)
      simp only [Int.toNat_natCast]
      refine wp_get hg (wp_get hg (wp_guard (Nat.beq_refl _) ?_))
      have hql : fi[j] < ((List.range M).map fun k => decide ((la[i], k) ∈ P ++ prodL (la.take i) fi ++ prodL [la[i]] (fi.take j))).length := by simpa using hq
      refine wp_get0 hql (wp_get (List.getElem?_eq_getElem hql) (wp_get hg (wp_some ?_)))
      rw [wrap_succ hj' (by rw [cL_len]; omega), matB_set hp hq]
      congr 4
      rw [List.take_add_one, List.getElem?_eq_getElem hj]
      simp only [prodL, List.flatMap_cons, List.flatMap_nil, List.append_nil, List.map_append, Option.toList_some, List.map_cons, List.map_nil, List.append_assoc]
    · rintro s rfl
      unfold L_regex_places_link_rdd_0
      refine wp_out (wp_some (wp_some ?_))
      rw [wrap_succ hi' (by rw [cL_len]; omega), cL_len, List.take_length, prodL_take hi, List.append_assoc]
  · rintro s rfl
    unfold L_regex_places_link_rdd_1
    refine wp_out (wp_some (wp_some ?_))
    rw [cL_len, List.take_length]
theorem lieS {ks : List Rx} (hks : ∀ r ∈ ks, wellB r = true) (o i : Nat) : Lie o (gluS (ks.take i) o (Pl.g0 true)) ∧ (gluS (ks.take i) o (Pl.g0 true)).sp.length = cnts (ks.take i) := by
  have hl := glu_lie (.mk 3 0 0 (ks.take i)) o
  have e : glu (.mk 3 0 0 (ks.take i)) o = gluS (ks.take i) o (Pl.g0 true) := by simp [glu]
  rw [e] at hl
  refine ⟨hl, ?_⟩
  have : ∀ (l : List Rx) (a : G), (∀ r ∈ l, r ∈ ks) → (gluS l o a).sp.length = a.sp.length + cnts l := by
    intro l
    induction l with
    | nil => intro a _; simp [gluS, cnts]
    | cons r l ihl =>
      intro a hl
      have hr := hl r (List.mem_cons_self ..)
      obtain ⟨g1, g2⟩ := glu_well r (hks r hr) (o + a.sp.length)
      have g3 := ihl (seqG a (glu r (o + a.sp.length))) fun x hx => hl x (List.mem_cons_of_mem _ hx)
      simp only [gluS, g3, cnts]
      simp only [seqG, List.length_append, g1]
      omega
  have := this (ks.take i) (Pl.g0 true) fun r hr => List.mem_of_mem_take hr
  simpa [Pl.g0] using this
theorem lieA {ks : List Rx} (hks : ∀ r ∈ ks, wellB r = true) (o i : Nat) : Lie o (gluA (ks.take i) o (Pl.g0 false)) ∧ (gluA (ks.take i) o (Pl.g0 false)).sp.length = cnts (ks.take i) := by
  have hl := glu_lie (.mk 4 0 0 (ks.take i)) o
  have e : glu (.mk 4 0 0 (ks.take i)) o = gluA (ks.take i) o (Pl.g0 false) := by simp [glu]
  rw [e] at hl
  refine ⟨hl, ?_⟩
  have : ∀ (l : List Rx) (a : G), (∀ r ∈ l, r ∈ ks) → (gluA l o a).sp.length = a.sp.length + cnts l := by
    intro l
    induction l with
    | nil => intro a _; simp [gluA, cnts]
    | cons r l ihl =>
      intro a hl
      have hr := hl r (List.mem_cons_self ..)
      obtain ⟨g1, g2⟩ := glu_well r (hks r hr) (o + a.sp.length)
      have g3 := ihl (altG a (glu r (o + a.sp.length))) fun x hx => hl x (List.mem_cons_of_mem _ hx)
      simp only [gluA, g3, cnts]
      simp only [altG, List.length_append, g1]
      omega
  have := this (ks.take i) (Pl.g0 false) fun r hr => List.mem_of_mem_take hr
  simpa [Pl.g0] using this
theorem cnts_take_le (ks : List Rx) (i : Nat) : cnts (ks.take i) ≤ cnts ks := by
  have : cnts ks = cnts (ks.take i) + cnts (ks.drop i) := by rw [← cnts_app, List.take_append_drop]
  omega
theorem cnts_take_lt {ks : List Rx} {i : Nat} (h : i < ks.length) : cnts (ks.take i) + cnt ks[i] ≤ cnts ks := by
  have e : cnts (ks.take (i + 1)) = cnts (ks.take i) + cnt ks[i] := by
    rw [List.take_add_one, List.getElem?_eq_getElem h, cnts_app]; simp [cnts]
  have := cnts_take_le ks (i + 1); omega
theorem C_regex_places_walk {M : Nat} (hM : M ≤ 1000000) : ∀ (r : Rx), wellB r = true → sz r ≤ 1000000 → ∀ (lo hi : List Int) (P : List (Nat × Nat)), hi.length = lo.length → lo.length + cnt r ≤ M →
    Calls' tbl N_regex_places_walk_rd [.ptr 0 0, .d .rx r] [.box T_str_regex_places [.sl 1, .sl 2, .sl 3], .vec T_i64 tI lo, .vec T_i64 tI hi, .tree T_sl_bool (.s 4 1 .e .e) (.list tB) (matB M P) none] q_regex_places_walk_rd
      ((cL (glu r lo.length).fi, cL (glu r lo.length).la, (glu r lo.length).em, ()), lo ++ (glu r lo.length).sp.map (·.1), hi ++ (glu r lo.length).sp.map (·.2), matB M (P ++ (glu r lo.length).pr), ()) := by
  refine rx_ind fun k lw up ks ih hw hs lo hi P hhi hcn => ?_
  obtain ⟨hlen, hkid⟩ := rx_kid hs
  obtain ⟨hn, hks⟩ := well_iff.1 hw
  have hcs : cnts ks ≤ cnt (.mk k lw up ks) := by simp only [cnt]; omega
  refine calls_of rfl (conv_of t_regex_places_walk_rd rfl (fun O m => x_regex_places_walk_rd O m (.mk k lw up ks) lo hi (matB M P)) ?_)
  unfold G_regex_places_walk_rd
  have hv3 : (bif (k == (0 : Int)) then some true else some (k == (3 : Int))) = some (k == 0 || k == 3) := by cases (k == (0 : Int)) <;> rfl
  refine wp_bind (wp_id (a := (k == 0 || k == 3)) (fun _ => hv3) ?_)
  rcases hn.known with rfl | rfl | rfl | rfl | rfl | rfl | rfl | rfl
  · have := len_nil (hn.leaf (by simp)); subst this
    refine wp_id (a := some (outQ q_regex_places_walk_rd (([], [], true, ()), lo, hi, matB M P, ()))) (fun _ => rfl) ?_
    simp [glu, Pl.g0, cL]
  · have := len_nil (hn.leaf (by simp)); subst this
    refine wp_bind (wp_call (C_regex_places_add lw up lo hi _ (by omega) (by omega)) (wp_some (wp_some ?_)))
    simp [glu, gAt, cL]
  · have := len_nil (hn.leaf (by simp)); subst this
    refine wp_bind (wp_call (C_regex_places_add 0 4294967295 lo hi _ (by omega) (by omega)) (wp_some (wp_some ?_)))
    simp [glu, gAt, cL]
  · have eg : glu (.mk 3 lw up ks) lo.length = gluS ks lo.length (Pl.g0 true) := by simp [glu]
    rw [eg]
    show Wp (fun n => Option.bind (Option.bind (loopN n (L_regex_places_walk_rd_0 (evF tbl n) n (.mk 3 lw up ks)) ((0 : Int), lo, hi, matB M P, false, ([] : List Int), ([] : List Int), true, ())) _) _) _
    refine wp_bind (wp_bind (wp_range (N := ks.length) (I := fun i s => s = ((i : Int), lo ++ (gluS (ks.take i) lo.length (Pl.g0 true)).sp.map (·.1), hi ++ (gluS (ks.take i) lo.length (Pl.g0 true)).sp.map (·.2), matB M (P ++ (gluS (ks.take i) lo.length (Pl.g0 true)).pr), false, cL (gluS (ks.take i) lo.length (Pl.g0 true)).fi, cL (gluS (ks.take i) lo.length (Pl.g0 true)).la, (gluS (ks.take i) lo.length (Pl.g0 true)).em, ())) (by simp [gluS, Pl.g0, cL]) ?_ ?_))
    · rintro i s hi' rfl
      obtain ⟨l1, l2⟩ := lieS hks lo.length i
      rw [gluS_take hi']
      have hct := cnts_take_lt hi'
      generalize gluS (ks.take i) lo.length (Pl.g0 true) = a at *
      have hr := List.getElem_mem hi'
      obtain ⟨w1, w2⟩ := glu_well ks[i] (hks _ hr) (lo.length + a.sp.length)
      have hlx := glu_lie ks[i] (lo.length + a.sp.length)
      unfold L_regex_places_walk_rd_0
      refine wp_in hi' (wp_get0 hi' ?_)
      rw [rx_eta]
      have hsz := hkid _ hr
      have hc := ih ks[i] hr (hks _ hr) (by omega) (lo ++ a.sp.map (·.1)) (hi ++ a.sp.map (·.2)) (P ++ a.pr) (by simp [hhi]) (by simp; omega)
      rw [show (lo ++ a.sp.map (·.1)).length = lo.length + a.sp.length by simp] at hc
      generalize glu ks[i] (lo.length + a.sp.length) = x at *
      have h1 := l1.fl; have h2 := l1.ll; have h3 := hlx.fl; have h4 := hlx.ll
      refine wp_call hc (wp_call (C_regex_places_link (P ++ a.pr ++ x.pr) _ _ (la := a.la) (fi := x.fi) (fun p hp => by have := l1.la p hp; omega) (fun q hq => by have := hlx.fi q hq; omega) (by omega) (by omega) hM) ?_)
      have hfin : ∀ b : Bool, a.em = b → ∀ b2 : Bool, x.em = b2 → ((((i + 1 : Nat) : Int), lo ++ a.sp.map (·.1) ++ x.sp.map (·.1), hi ++ a.sp.map (·.2) ++ x.sp.map (·.2), matB M (P ++ a.pr ++ x.pr ++ prodL a.la x.fi), false, (bif b then cL a.fi ++ cL x.fi else cL a.fi), (bif b2 then cL a.la else []) ++ cL x.la, b && b2, ()) : Int × List Int × List Int × List (List Bool) × Bool × List Int × List Int × Bool × Unit) = (((i + 1 : Nat) : Int), lo ++ (seqG a x).sp.map (·.1), hi ++ (seqG a x).sp.map (·.2), matB M (P ++ (seqG a x).pr), false, cL (seqG a x).fi, cL (seqG a x).la, (seqG a x).em, ()) := fun b hb b2 hb2 => by
        simp only [seqG, hb, hb2, List.map_append, List.append_assoc]
        cases b <;> cases b2 <;> simp [cL_app, cL]
      show Wp (fun n => Option.bind (bif a.em then _ else _) _) _
      cases hb : a.em
      · refine wp_bind (wp_some ?_)
        show Wp (fun n => Option.bind (bif !x.em then _ else _) _) _
        cases hb2 : x.em
        · refine wp_bind (wp_some (wp_call (C_regex_join [] (cL x.la) (by simp) (by rw [cL_len]; omega)) (wp_bind (wp_some (wp_some ?_)))))
          rw [wrap_succ hi' (by omega)]; exact hfin false hb false hb2
        · refine wp_bind (wp_some (wp_call (C_regex_join (cL a.la) (cL x.la) (by rw [cL_len]; omega) (by rw [cL_len]; omega)) (wp_bind (wp_some (wp_some ?_)))))
          rw [wrap_succ hi' (by omega)]; exact hfin false hb true hb2
      · refine wp_bind (wp_call (C_regex_join (cL a.fi) (cL x.fi) (by rw [cL_len]; omega) (by rw [cL_len]; omega)) (wp_some ?_))
        show Wp (fun n => Option.bind (bif !x.em then _ else _) _) _
        cases hb2 : x.em
        · refine wp_bind (wp_some (wp_call (C_regex_join [] (cL x.la) (by simp) (by rw [cL_len]; omega)) (wp_bind (wp_some (wp_some ?_)))))
          rw [wrap_succ hi' (by omega)]; exact hfin true hb false hb2
        · refine wp_bind (wp_some (wp_call (C_regex_join (cL a.la) (cL x.la) (by rw [cL_len]; omega) (by rw [cL_len]; omega)) (wp_bind (wp_some (wp_some ?_)))))
          rw [wrap_succ hi' (by omega)]; exact hfin true hb true hb2
    · rintro s rfl
      unfold L_regex_places_walk_rd_0
      refine wp_out (wp_some (wp_some (wp_some ?_)))
      rw [List.take_length]
  · have eg : glu (.mk 4 lw up ks) lo.length = gluA ks lo.length (Pl.g0 false) := by simp [glu]
    rw [eg]
    show Wp (fun n => Option.bind (Option.bind (loopN n (L_regex_places_walk_rd_1 (evF tbl n) n (.mk 4 lw up ks)) ((0 : Int), lo, hi, matB M P, false, ([] : List Int), ([] : List Int), false, ())) _) _) _
    refine wp_bind (wp_bind (wp_range (N := ks.length) (I := fun i s => s = ((i : Int), lo ++ (gluA (ks.take i) lo.length (Pl.g0 false)).sp.map (·.1), hi ++ (gluA (ks.take i) lo.length (Pl.g0 false)).sp.map (·.2), matB M (P ++ (gluA (ks.take i) lo.length (Pl.g0 false)).pr), false, cL (gluA (ks.take i) lo.length (Pl.g0 false)).fi, cL (gluA (ks.take i) lo.length (Pl.g0 false)).la, (gluA (ks.take i) lo.length (Pl.g0 false)).em, ())) (by simp [gluA, Pl.g0, cL]) ?_ ?_))
    · rintro i s hi' rfl
      obtain ⟨l1, l2⟩ := lieA hks lo.length i
      rw [gluA_take hi']
      have hct := cnts_take_lt hi'
      generalize gluA (ks.take i) lo.length (Pl.g0 false) = a at *
      have hr := List.getElem_mem hi'
      obtain ⟨w1, w2⟩ := glu_well ks[i] (hks _ hr) (lo.length + a.sp.length)
      have hlx := glu_lie ks[i] (lo.length + a.sp.length)
      unfold L_regex_places_walk_rd_1
      refine wp_in hi' (wp_get0 hi' ?_)
      rw [rx_eta]
      have hsz := hkid _ hr
      have hc := ih ks[i] hr (hks _ hr) (by omega) (lo ++ a.sp.map (·.1)) (hi ++ a.sp.map (·.2)) (P ++ a.pr) (by simp [hhi]) (by simp; omega)
      rw [show (lo ++ a.sp.map (·.1)).length = lo.length + a.sp.length by simp] at hc
      generalize glu ks[i] (lo.length + a.sp.length) = x at *
      have h1 := l1.fl; have h2 := l1.ll; have h3 := hlx.fl; have h4 := hlx.ll
      refine wp_call hc (wp_call (C_regex_join (cL a.fi) (cL x.fi) (by rw [cL_len]; omega) (by rw [cL_len]; omega)) (wp_call (C_regex_join (cL a.la) (cL x.la) (by rw [cL_len]; omega) (by rw [cL_len]; omega)) ?_))
      refine wp_bind (wp_or (b := x.em) (fun _ => wp_some rfl) (wp_some ?_))
      rw [wrap_succ hi' (by omega)]
      simp only [altG, List.map_append, cL_app, List.append_assoc]
    · rintro s rfl
      unfold L_regex_places_walk_rd_1
      refine wp_out (wp_some (wp_some (wp_some ?_)))
      rw [List.take_length]
  · obtain ⟨x, rfl⟩ := len_one (hn.one (by simp))
    have hr : x ∈ [x] := List.mem_singleton.2 rfl
    have hsz := hkid _ hr
    have hct : cnt x ≤ M - lo.length := by simp only [cnts] at hcs; omega
    have hc := ih x hr (hks _ hr) (by omega) lo hi P hhi (by simp only [cnts] at hcs; omega)
    have hlx := glu_lie x lo.length
    obtain ⟨w1, w2⟩ := glu_well x (hks _ hr) lo.length
    have eA : gluA [x] lo.length (Pl.g0 false) = glu x lo.length := rfl
    have h3 := hlx.fl; have h4 := hlx.ll
    refine wp_bind (wp_call hc (wp_bind (wp_call (C_regex_places_link (P ++ (glu x lo.length).pr) _ _ (la := (glu x lo.length).la) (fi := (glu x lo.length).fi) (fun p hp => by have := hlx.la p hp; omega) (fun q hq => by have := hlx.fi q hq; omega) (by omega) (by omega) hM) (wp_some ?_))))
    refine wp_bind (wp_or (b := (5 : Int) != 6) (fun _ => wp_some rfl) (wp_some (wp_some ?_)))
    have eg : glu (.mk 5 lw up [x]) lo.length = if (5 : Int) = 5 then emG (loopG (glu x lo.length)) else loopG (glu x lo.length) := rfl
    rw [eg]
    simp [emG, loopG]
  · obtain ⟨x, rfl⟩ := len_one (hn.one (by simp))
    have hr : x ∈ [x] := List.mem_singleton.2 rfl
    have hsz := hkid _ hr
    have hct : cnt x ≤ M - lo.length := by simp only [cnts] at hcs; omega
    have hc := ih x hr (hks _ hr) (by omega) lo hi P hhi (by simp only [cnts] at hcs; omega)
    have hlx := glu_lie x lo.length
    obtain ⟨w1, w2⟩ := glu_well x (hks _ hr) lo.length
    have eA : gluA [x] lo.length (Pl.g0 false) = glu x lo.length := rfl
    have h3 := hlx.fl; have h4 := hlx.ll
    refine wp_bind (wp_call hc (wp_bind (wp_call (C_regex_places_link (P ++ (glu x lo.length).pr) _ _ (la := (glu x lo.length).la) (fi := (glu x lo.length).fi) (fun p hp => by have := hlx.la p hp; omega) (fun q hq => by have := hlx.fi q hq; omega) (by omega) (by omega) hM) (wp_some ?_))))
    refine wp_bind (wp_or (b := (6 : Int) != 6) (fun _ => wp_some rfl) (wp_some (wp_some ?_)))
    have eg : glu (.mk 6 lw up [x]) lo.length = if (6 : Int) = 5 then emG (loopG (glu x lo.length)) else loopG (glu x lo.length) := rfl
    rw [eg]
    simp [emG, loopG]
  · obtain ⟨x, rfl⟩ := len_one (hn.one (by simp))
    have hr : x ∈ [x] := List.mem_singleton.2 rfl
    have hsz := hkid _ hr
    have hc := ih x hr (hks _ hr) (by omega) lo hi P hhi (by simp only [cnts] at hcs; omega)
    refine wp_bind (wp_call hc (wp_bind (wp_some ?_)))
    refine wp_bind (wp_or (b := true) (fun _ => wp_some rfl) (wp_some (wp_some ?_)))
    have eg : glu (.mk 7 lw up [x]) lo.length = emG (glu x lo.length) := rfl
    rw [eg]
    simp [emG]
end Go.Proofs.YtifgipebbagfcaaDoor
