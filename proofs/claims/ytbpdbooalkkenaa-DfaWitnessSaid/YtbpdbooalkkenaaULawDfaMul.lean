/-
  dfa: THE PRODUCT OF TWO AUTOMATA, explored (the program's way).
-/
import Derived.Test.YtbpdbooalkkenaaULawDfaAsc
import Derived.Test.YtbpdbooalkkenaaUPlExpl
set_option linter.unusedVariables false
set_option linter.unusedSimpArgs false
namespace Go.Proofs.Ytbpdbooalkkenaa
open Go Go.Av Go.Ev Go.Pl
theorem foldE_S {σ α β : Type} (f : σ → α → σ ⊕ β) : ∀ (l : List α) (s : σ), foldE f s l = foldS f s l
  | [], _ => rfl
  | x :: l, s => by
    simp only [foldE, foldS]
    cases f s x with
    | inl s' => exact foldE_S f l s'
    | inr b => rfl
abbrev PR : Type := Int × (Int × Unit)
noncomputable def stepP (a b : DF) (x : PR) (v : Int) : PR := (stepS a x.1 v, stepS b x.2.1 v, ())
def startP (a b : DF) : PR := (a.2.2.2.1, b.2.2.2.1, ())
noncomputable def labs (a b : DF) : List Int := ascS (a.1 ++ b.1)
def PIn (a b : DF) (x : PR) : Prop := (0 ≤ x.1 ∧ x.1 < (a.2.1.length : Int)) ∧ 0 ≤ x.2.1 ∧ x.2.1 < (b.2.1.length : Int)
def accS (d : DF) (s : Int) : Bool := d.2.2.1.getD s.toNat false
def diffP (a b : DF) (x : PR) : Bool := true ^^ (accS a x.1 == accS b x.2.1)
def kvFrom : Nat → List PR → List (PR × Int)
  | _, [] => []
  | k, x :: l => (x, (k : Int)) :: kvFrom (k + 1) l
def fromL (T : List (Nat × Int)) : List Int := (-1) :: T.map fun t => (t.1 : Int)
def byL (T : List (Nat × Int)) : List Int := 0 :: T.map (·.2)
def rowsL (R : List (List Nat)) : List (List Int) := R.map fun r => r.map fun (k : Nat) => (k : Int)
theorem eqD_pr (x y : PR) : eqD (pr [tI, tI]) x y = decide (x = y) := by
  obtain ⟨x1, x2, _⟩ := x
  obtain ⟨y1, y2, _⟩ := y
  show ((x1 == y1) && ((x2 == y2) && true)) = _
  by_cases h1 : x1 = y1 <;> by_cases h2 : x2 = y2 <;> simp [h1, h2]
theorem kvGet_from (y : PR) : ∀ (L : List PR) (k : Nat), kvGet (pr [tI, tI]) tI (kvFrom k L) y = if y ∈ L then some (((k + pos L y : Nat) : Int)) else none
  | [], k => by simp [kvFrom, kvGet]
  | x :: L, k => by
    have ih := kvGet_from y L (k + 1)
    simp only [kvFrom, kvGet]
    rw [eqD_pr y x, ih]
    by_cases h : y = x
    · subst h; simp [pos_eq]
    · have h' : x ≠ y := fun e => h e.symm
      rw [decide_eq_false h]
      have e : pos (x :: L) y = pos L y + 1 := pos_ne h'
      simp only [cond_false, List.mem_cons, h, false_or, e]
      split
      · congr 1; omega
      · rfl
theorem kvSet_from (y : PR) : ∀ (L : List PR) (k : Nat), y ∉ L → kvSet (pr [tI, tI]) tI (kvFrom k L) y (((k + L.length : Nat) : Int)) = kvFrom k (L ++ [y])
  | [], k, _ => by simp [kvFrom, kvSet]
  | x :: L, k, h => by
    have h1 : y ≠ x := fun e => h (by simp [e])
    have h2 : y ∉ L := fun e => h (by simp [e])
    have ih := kvSet_from y L (k + 1) h2
    simp only [List.cons_append, kvFrom, kvSet]
    rw [eqD_pr y x, decide_eq_false h1]
    simp only [cond_false, List.length_cons]
    rw [show k + (L.length + 1) = k + 1 + L.length by omega, ih]
theorem kvFrom_len : ∀ (L : List PR) (k : Nat), (kvFrom k L).length = L.length
  | [], _ => rfl
  | _ :: L, k => by simp [kvFrom, kvFrom_len L (k + 1)]
theorem labs_spec {a b : DF} (ha : Good a) (hb : Good b) : ∀ v ∈ labs a b, 0 ≤ v ∧ v ≤ 4294967295 := by
  intro v hv
  have hall : ∀ {d : DF}, Good d → ∀ v ∈ d.1, 0 ≤ v ∧ v ≤ 4294967295 := fun {d} hd v hv => by
    refine ⟨?_, hd.starts.2.2.2 v hv⟩
    obtain ⟨i, hi, rfl⟩ := List.mem_iff_getElem.1 hv
    have h0 := hd.starts.2.1 hd.starts.1
    rcases Nat.eq_zero_or_pos i with rfl | hp
    · omega
    · have := starts_lt hd.starts i 0 hi hp; omega
  have hex : ∃ c, Asc c ∧ ∀ x, x ∈ c ↔ x ∈ a.1 ++ b.1 := by
    refine Classical.byContradiction fun hn => ?_
    unfold labs ascS at hv
    rw [dif_neg hn] at hv
    cases hv
  obtain ⟨c, hc, hm⟩ := hex
  unfold labs at hv
  rw [ascS_eq hc hm, hm v] at hv
  rcases List.mem_append.1 hv with h | h
  · exact hall ha v h
  · exact hall hb v h
theorem labs_len {a b : DF} (ha : Good a) (hb : Good b) : (labs a b).length ≤ 4000 := by
  have hla := good_len ha
  have hlb := good_len hb
  by_cases hex : ∃ c, Asc c ∧ ∀ x, x ∈ c ↔ x ∈ a.1 ++ b.1
  · obtain ⟨c, hc, hm⟩ := hex
    unfold labs
    rw [ascS_eq hc hm]
    have := nodup_len c (a.1 ++ b.1) (hc.imp fun h e => by omega) fun x hx => (hm x).1 hx
    simp at this
    omega
  · unfold labs ascS
    rw [dif_neg hex]
    simp
theorem stepP_in {a b : DF} (ha : Good a) (hb : Good b) {x : PR} {v : Int} (hv : 0 ≤ v) (hx : PIn a b x) : PIn a b (stepP a b x v) := by
  obtain ⟨_, _, _, h1⟩ := stepS_at ha hx.1.1 hx.1.2 hv
  obtain ⟨_, _, _, h2⟩ := stepS_at hb hx.2.1 hx.2.2 hv
  exact ⟨h1, h2⟩
theorem start_in {a b : DF} (ha : Good a) (hb : Good b) : PIn a b (startP a b) := ⟨ha.start, hb.start⟩
def grid (n m : Nat) : List PR := (List.range n).flatMap fun (i : Nat) => (List.range m).map fun (j : Nat) => ((i : Int), (j : Int), ())
theorem grid_len (n m : Nat) : (grid n m).length = n * m := by
  unfold grid
  rw [List.length_flatMap]
  simp only [List.length_map, List.length_range]
  induction n with
  | zero => simp
  | succ n ih => rw [List.range_succ, List.map_append, List.sum_append, ih, Nat.succ_mul]; simp
theorem grid_mem {n m : Nat} {x : PR} : x ∈ grid n m ↔ (0 ≤ x.1 ∧ x.1 < (n : Int)) ∧ 0 ≤ x.2.1 ∧ x.2.1 < (m : Int) := by
  obtain ⟨x1, x2, _⟩ := x
  unfold grid
  simp only [List.mem_flatMap, List.mem_range, List.mem_map, Prod.mk.injEq, and_true]
  constructor
  · rintro ⟨i, hi, j, hj, rfl, rfl⟩
    omega
  · rintro ⟨h1, h2⟩
    exact ⟨x1.toNat, by omega, x2.toNat, by omega, by omega, by omega⟩
abbrev OkP (a b : DF) : List PR → List (Nat × Int) → Prop := Ok (stepP a b) (startP a b) (labs a b)
theorem okP_in {a b : DF} (ha : Good a) (hb : Good b) {L : List PR} {T : List (Nat × Int)} (h : OkP a b L T) {k : Nat} {x : PR} (hx : L[k]? = some x) : PIn a b x :=
  h.inv (P := PIn a b) (start_in ha hb) (fun _ c hc hx => stepP_in ha hb (labs_spec ha hb c hc).1 hx) k x hx
theorem okP_len {a b : DF} (ha : Good a) (hb : Good b) {L : List PR} {T : List (Nat × Int)} (h : OkP a b L T) : L.length ≤ a.2.1.length * b.2.1.length := by
  rw [← grid_len]
  exact h.bound (grid_mem.2 (start_in ha hb)) fun x c hc hx => grid_mem.2 (stepP_in ha hb (labs_spec ha hb c hc).1 (grid_mem.1 hx))
theorem prod_le {a b : DF} (ha : Good a) (hb : Good b) : a.2.1.length * b.2.1.length ≤ 16777216 :=
  Nat.le_trans (Nat.mul_le_mul (good_len ha).1 (good_len hb).1) (by decide)
theorem acc_at {d : DF} (h : Good d) {s : Int} (h0 : 0 ≤ s) (hs : s < (d.2.1.length : Int)) : ∃ h1 : s.toNat < d.2.2.1.length, d.2.2.1[s.toNat] = accS d s := by
  have h1 : s.toNat < d.2.2.1.length := by have := h.len; omega
  exact ⟨h1, by unfold accS; simp only [List.getD_eq_getElem?_getD, List.getElem?_eq_getElem h1, Option.getD_some]⟩
theorem C_dfa_Witness_1 {a b : DF} (ha : Good a) (hb : Good b) {x : PR} (hx : PIn a b x) : Calls' tbl N_dfa_Witness_1_dpp [.d (pr [tI, tI]) x, .dp (pr [.list tI, .list (.list tI), .list tB, tI]) a, .dp (pr [.list tI, .list (.list tI), .list tB, tI]) b] [] q_dfa_Witness_1_dpp (diffP a b x, ()) := by
  refine calls_of rfl (conv_of t_dfa_Witness_1_dpp rfl (fun O n => x_dfa_Witness_1_dpp O n x a b) ?_)
  unfold G_dfa_Witness_1_dpp
  obtain ⟨h1, e1⟩ := acc_at ha hx.1.1 hx.1.2
  obtain ⟨h2, e2⟩ := acc_at hb hx.2.1 hx.2.2
  refine wp_getZ hx.1.1 h1 (wp_getZ hx.2.1 h2 (wp_some ?_))
  rw [e1, e2]
  rfl
abbrev SR : Type := List PR × List (Nat × Int) × List (List Nat)
noncomputable def encM (a b : DF) (i : Nat) (S : SR) : Int × List Int × List PR × List Int × List Int × List (List Int) × List (PR × Int) × Unit :=
  ((i : Int), labs a b, S.1, fromL S.2.1, byL S.2.1, rowsL S.2.2, kvFrom 0 S.1, ())
def rowZ (k : Nat) (r : List Nat) : List Int := (r.map fun (k : Nat) => (k : Int)) ++ List.replicate (k - r.length) 0
theorem rowZ_set {k : Nat} {r : List Nat} {n : Nat} (h : r.length < k) : (rowZ k r).set r.length (n : Int) = rowZ k (r ++ [n]) := by
  unfold rowZ
  rw [List.set_append_right _ _ (by simp), List.length_map, Nat.sub_self]
  obtain ⟨m, hm⟩ : ∃ m, k - r.length = m + 1 := ⟨k - r.length - 1, by omega⟩
  rw [hm, List.replicate_succ, List.set_cons_zero, List.length_append, show k - (r.length + [n].length) = m by simp; omega]
  simp
theorem row_dfa_multiply_dddf {a b : DF} (ha : Good a) (hb : Good b) {i : Nat} {L : List PR} {T : List (Nat × Int)} {R : List (List Nat)} (h : OkP a b L T) {x : PR} (hx : L[i]? = some x) :
    Wp (fun n => loopN n (L_dfa_multiply_dddf_0 (evF tbl n) n a b ((a.2.1.length * b.2.1.length : Nat) : Int) a b (encM a b i (L, T, R))) ((0 : Int), labs a b, L, fromL T, byL T, rowsL R, kvFrom 0 L, List.replicate (labs a b).length 0, ()))
      fun r => match foldS (rowE (fun _ y => diffP a b y) (stepP a b) x i) (L, T, []) (labs a b) with
        | .inl r' => r = .inr (labs a b, r'.1, fromL r'.2.1, byL r'.2.1, rowsL R, kvFrom 0 r'.1, r'.2.2.map (fun (k : Nat) => (k : Int)), ()) ∧ OkP a b r'.1 r'.2.1 ∧ r'.2.2.length = (labs a b).length
        | .inr r' => r = .inl (true, labs a b, r'.1, fromL r'.2, byL r'.2, rowsL R, ()) := by
  have hk := labs_len ha hb
  have hB := prod_le ha hb
  have hla := good_len ha
  have hlb := good_len hb
  refine wp_foldI (xs := labs a b) (f := rowE (fun _ y => diffP a b y) (stepP a b) x i) (s0 := (L, T, [])) (Inv := fun j st => OkP a b st.1 st.2.1 ∧ L <+: st.1 ∧ st.2.2.length = j)
    (enc := fun j st => ((j : Int), labs a b, st.1, fromL st.2.1, byL st.2.1, rowsL R, kvFrom 0 st.1, rowZ (labs a b).length st.2.2, ()))
    (oE := fun st => .inr (labs a b, st.1, fromL st.2.1, byL st.2.1, rowsL R, kvFrom 0 st.1, rowZ (labs a b).length st.2.2, ())) (oB := fun r => .inl (true, labs a b, r.1, fromL r.2, byL r.2, rowsL R, ())) ⟨h, List.prefix_refl _, rfl⟩ (fun j hj st hst => ?_) (fun st hst => ?_) (fun r hr hs => ?_)
  · obtain ⟨Lj, Tj, rj⟩ := st
    obtain ⟨g1, g2, g3⟩ := hst
    simp only at g1 g2 g3
    subst g3
    have hx' := pre_get g2 hx
    have hi := (List.getElem?_eq_some_iff.1 hx').1
    have hxi := (List.getElem?_eq_some_iff.1 hx').2
    have hin := okP_in ha hb g1 hx'
    have hlen := okP_len ha hb g1
    have hv := (labs_spec ha hb _ (List.getElem_mem hj)).1
    have hT : Tj.length < Lj.length := by have := g1.len; omega
    obtain ⟨p1, p2, p3, p4⟩ := stepS_at ha hin.1.1 hin.1.2 hv
    obtain ⟨r1, r2, r3, r4⟩ := stepS_at hb hin.2.1 hin.2.2 hv
    unfold L_dfa_multiply_dddf_0
    simp only [encM]
    refine wp_in hj (wp_get0 hj (wp_get0 hi (wp_get (x := x) (by simpa using hx') ?_)))
    refine wp_getZ hin.1.1 p1 (wp_call (Cs_dfa_class a.1 _ ha.starts (by omega) hv) (wp_get0 p2 ?_))
    refine wp_get0 hi (wp_get (x := x) (by simpa using hx') (wp_getZ hin.2.1 r1 (wp_call (Cs_dfa_class b.1 _ hb.starts (by omega) hv) (wp_get0 r2 ?_))))
    rw [p3, r3]
    have hfold : ((stepS a x.1 (labs a b)[rj.length], stepS b x.2.1 (labs a b)[rj.length], ()) : PR) = stepP a b x (labs a b)[rj.length] := rfl
    simp only [hfold]
    generalize hy : stepP a b x (labs a b)[rj.length] = y
    have hyin : PIn a b y := by rw [← hy]; exact stepP_in ha hb hv hin
    have hkv := kvGet_from y Lj 0
    have hrz : rj.length < (rowZ (labs a b).length rj).length := by unfold rowZ; simp; omega
    by_cases hm : y ∈ Lj
    · rw [if_pos hm] at hkv
      have e : rowE (fun _ y => diffP a b y) (stepP a b) x i (Lj, Tj, rj) (labs a b)[rj.length] = .inl (Lj, Tj, rj ++ [pos Lj y]) := rowE_mem hy hm
      rw [e]
      refine wp_bind (wp_bif (fun hc => by rw [hkv] at hc; simp at hc) fun _ => wp_some ?_)
      refine wp_get0 hrz (wp_get (x := (rowZ (labs a b).length rj)[rj.length]) (by simp) (wp_some ?_))
      refine ⟨⟨g1, g2, by simp⟩, ?_⟩
      rw [hkv, wrap_succ hj (by omega)]
      simp only [Option.getD_some, Int.toNat_natCast, Nat.zero_add]
      rw [rowZ_set hj]
    · rw [if_neg hm] at hkv
      have hok : OkP a b (Lj ++ [y]) (Tj ++ [(i, (labs a b)[rj.length])]) := by rw [← hy] at hm ⊢; exact g1.add hx' (List.getElem_mem hj) hm
      have hlt := okP_len ha hb hok
      simp only [List.length_append, List.length_singleton] at hlt
      have hset := kvSet_from y Lj 0 hm
      simp only [Nat.zero_add] at hset
      have ef : fromL (Tj ++ [(i, (labs a b)[rj.length])]) = fromL Tj ++ [(i : Int)] := by simp [fromL]
      have eb : byL (Tj ++ [(i, (labs a b)[rj.length])]) = byL Tj ++ [(labs a b)[rj.length]] := by simp [byL]
      refine wp_bind (wp_bif (fun _ => ?_) fun hc => by rw [hkv] at hc; simp at hc)
      refine wp_guard (decide_eq_true (by rw [kvFrom_len]; simp only [maxLen]; omega)) ?_
      refine wp_guard (decide_eq_true (by simp; omega)) (wp_guard (decide_eq_true (by simp [fromL]; omega)) (wp_guard (decide_eq_true (by simp [byL]; omega)) ?_))
      refine wp_bind (wp_or (b := diffP a b y) (fun _ => wp_call (C_dfa_Witness_1 ha hb hyin) (wp_some rfl)) ?_)
      have hnm : decide ((Lj.length : Int) ≥ ((a.2.1.length * b.2.1.length : Nat) : Int)) = false := decide_eq_false (by omega)
      rw [hnm, Bool.false_or]
      refine wp_bif (fun hd => wp_some ?_) fun hd => wp_some ?_
      · have e : rowE (fun _ y => diffP a b y) (stepP a b) x i (Lj, Tj, rj) (labs a b)[rj.length] = .inr (Lj ++ [y], Tj ++ [(i, (labs a b)[rj.length])]) := rowE_stop hy hm hd
        rw [e]
        refine wp_some ?_
        dsimp only
        rw [ef, eb]
      · have e : rowE (fun _ y => diffP a b y) (stepP a b) x i (Lj, Tj, rj) (labs a b)[rj.length] = .inl (Lj ++ [y], Tj ++ [(i, (labs a b)[rj.length])], rj ++ [Lj.length]) := rowE_new hy hm hd
        rw [e]
        refine wp_get0 hrz (wp_get (x := (rowZ (labs a b).length rj)[rj.length]) (by simp) (wp_some ?_))
        refine ⟨⟨hok, g2.trans (List.prefix_append _ _), by simp⟩, ?_⟩
        rw [wrap_succ hj (by omega), ef, eb]
        simp only [Int.toNat_natCast]
        rw [rowZ_set hj, hset]
  · unfold L_dfa_multiply_dddf_0
    exact wp_out (wp_some rfl)
  · rw [foldE_S] at hr
    rw [hr]
    cases r with
    | inl st =>
      obtain ⟨g1, g2, g3⟩ := hs st rfl
      refine ⟨?_, g1, g3⟩
      simp only [rowZ, g3, Nat.sub_self, List.replicate_zero, List.append_nil]
    | inr r => rfl
end Go.Proofs.Ytbpdbooalkkenaa
