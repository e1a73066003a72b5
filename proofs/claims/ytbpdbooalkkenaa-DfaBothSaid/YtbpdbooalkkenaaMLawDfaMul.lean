/-
  dfa: THE PRODUCT OF TWO AUTOMATA, explored (the program's way).
-/
import Derived.Test.YtbpdbooalkkenaaMLawDfaAsc
import Derived.Test.YtbpdbooalkkenaaMPlExpl
set_option linter.unusedVariables false
set_option linter.unusedSimpArgs false
namespace Go.Proofs.Ytbpdbooalkkenaa
open Go Go.Av Go.Ev Go.Pl
theorem foldE_S {σ α β : Type} (f : σ → α → σ ⊕ β) : ∀ (l : List α) (s : σ), foldE f s l = foldS f s l
  | [], _ => rfl
  | x :: l, s => by
    simp only [foldE, foldS]
    cases f s x with
    | inl s' => exact foldE_S f l s'
    | inr b => rfl
theorem mk_guard {k : Nat} (h : k ≤ 1000000000) : (decide (0 ≤ (k : Int)) && decide ((k : Int) ≤ (k : Int)) && decide ((k : Int) ≤ 9223372036854775807) && decide (8 * (k : Int) ≤ 281474976710656)) = true := by
  simp only [Bool.and_eq_true, decide_eq_true_eq]; omega
abbrev PR : Type := Int × (Int × Unit)
noncomputable def stepP (a b : DF) (x : PR) (v : Int) : PR := (stepS a x.1 v, stepS b x.2.1 v, ())
def startP (a b : DF) : PR := (a.2.2.2.1, b.2.2.2.1, ())
noncomputable def labs (a b : DF) : List Int := ascS (a.1 ++ b.1)
def PIn (a b : DF) (x : PR) : Prop := (0 ≤ x.1 ∧ x.1 < (a.2.1.length : Int)) ∧ 0 ≤ x.2.1 ∧ x.2.1 < (b.2.1.length : Int)
def accS (d : DF) (s : Int) : Bool := d.2.2.1.getD s.toNat false
def kvFrom : Nat → List PR → List (PR × Int)
  | _, [] => []
  | k, x :: l => (x, (k : Int)) :: kvFrom (k + 1) l
def fromL (T : List (Nat × Int)) : List Int := (-1) :: T.map fun t => (t.1 : Int)
def byL (T : List (Nat × Int)) : List Int := 0 :: T.map (·.2)
def rowsL (R : List (List Nat)) : List (List Int) := R.map fun r => r.map fun (k : Nat) => (k : Int)
theorem eqD_pr (x y : PR) : eqD (pr [tI, tI]) x y = decide (x = y) := by
  obtain ⟨x1, x2, _⟩ := x
  obtain ⟨y1, y2, _⟩ := y
  show ((x1 == y1) && ((x2 == y2) && true)) = _
  by_cases h1 : x1 = y1 <;> by_cases h2 : x2 = y2 <;> simp [h1, h2]
theorem kvGet_from (y : PR) : ∀ (L : List PR) (k : Nat), kvGet (pr [tI, tI]) tI (kvFrom k L) y = if y ∈ L then some (((k + pos L y : Nat) : Int)) else none
  | [], k => by simp [kvFrom, kvGet]
  | x :: L, k => by
    have ih := kvGet_from y L (k + 1)
    simp only [kvFrom, kvGet]
    rw [eqD_pr y x, ih]
    by_cases h : y = x
    · subst h; simp [pos_eq]
    · have h' : x ≠ y := fun e => h e.symm
      rw [decide_eq_false h]
      have e : pos (x :: L) y = pos L y + 1 := pos_ne h'
      simp only [cond_false, List.mem_cons, h, false_or, e]
      split
      · congr 1; omega
      · rfl
theorem kvSet_from (y : PR) : ∀ (L : List PR) (k : Nat), y ∉ L → kvSet (pr [tI, tI]) tI (kvFrom k L) y (((k + L.length : Nat) : Int)) = kvFrom k (L ++ [y])
  | [], k, _ => by simp [kvFrom, kvSet]
  | x :: L, k, h => by
    have h1 : y ≠ x := fun e => h (by simp [e])
    have h2 : y ∉ L := fun e => h (by simp [e])
    have ih := kvSet_from y L (k + 1) h2
    simp only [List.cons_append, kvFrom, kvSet]
    rw [eqD_pr y x, decide_eq_false h1]
    simp only [cond_false, List.length_cons]
    rw [show k + (L.length + 1) = k + 1 + L.length by omega, ih]
theorem kvFrom_len : ∀ (L : List PR) (k : Nat), (kvFrom k L).length = L.length
  | [], _ => rfl
  | _ :: L, k => by simp [kvFrom, kvFrom_len L (k + 1)]
theorem labs_spec {a b : DF} (ha : Good a) (hb : Good b) : ∀ v ∈ labs a b, 0 ≤ v ∧ v ≤ 4294967295 := by
  intro v hv
  have hall : ∀ {d : DF}, Good d → ∀ v ∈ d.1, 0 ≤ v ∧ v ≤ 4294967295 := fun {d} hd v hv => by
    refine ⟨?_, hd.starts.2.2.2 v hv⟩
    obtain ⟨i, hi, rfl⟩ := List.mem_iff_getElem.1 hv
    have h0 := hd.starts.2.1 hd.starts.1
    rcases Nat.eq_zero_or_pos i with rfl | hp
    · omega
    · have := starts_lt hd.starts i 0 hi hp; omega
  have hex : ∃ c, Asc c ∧ ∀ x, x ∈ c ↔ x ∈ a.1 ++ b.1 := by
    refine Classical.byContradiction fun hn => ?_
    unfold labs ascS at hv
    rw [dif_neg hn] at hv
    cases hv
  obtain ⟨c, hc, hm⟩ := hex
  unfold labs at hv
  rw [ascS_eq hc hm, hm v] at hv
  rcases List.mem_append.1 hv with h | h
  · exact hall ha v h
  · exact hall hb v h
theorem labs_len {a b : DF} (ha : Good a) (hb : Good b) : (labs a b).length ≤ 4000 := by
  have hla := good_len ha
  have hlb := good_len hb
  by_cases hex : ∃ c, Asc c ∧ ∀ x, x ∈ c ↔ x ∈ a.1 ++ b.1
  · obtain ⟨c, hc, hm⟩ := hex
    unfold labs
    rw [ascS_eq hc hm]
    have := nodup_len c (a.1 ++ b.1) (hc.imp fun h e => by omega) fun x hx => (hm x).1 hx
    simp at this
    omega
  · unfold labs ascS
    rw [dif_neg hex]
    simp
theorem stepP_in {a b : DF} (ha : Good a) (hb : Good b) {x : PR} {v : Int} (hv : 0 ≤ v) (hx : PIn a b x) : PIn a b (stepP a b x v) := by
  obtain ⟨_, _, _, h1⟩ := stepS_at ha hx.1.1 hx.1.2 hv
  obtain ⟨_, _, _, h2⟩ := stepS_at hb hx.2.1 hx.2.2 hv
  exact ⟨h1, h2⟩
theorem start_in {a b : DF} (ha : Good a) (hb : Good b) : PIn a b (startP a b) := ⟨ha.start, hb.start⟩
def grid (n m : Nat) : List PR := (List.range n).flatMap fun (i : Nat) => (List.range m).map fun (j : Nat) => ((i : Int), (j : Int), ())
theorem grid_len (n m : Nat) : (grid n m).length = n * m := by
  unfold grid
  rw [List.length_flatMap]
  simp only [List.length_map, List.length_range]
  induction n with
  | zero => simp
  | succ n ih => rw [List.range_succ, List.map_append, List.sum_append, ih, Nat.succ_mul]; simp
theorem grid_mem {n m : Nat} {x : PR} : x ∈ grid n m ↔ (0 ≤ x.1 ∧ x.1 < (n : Int)) ∧ 0 ≤ x.2.1 ∧ x.2.1 < (m : Int) := by
  obtain ⟨x1, x2, _⟩ := x
  unfold grid
  simp only [List.mem_flatMap, List.mem_range, List.mem_map, Prod.mk.injEq, and_true]
  constructor
  · rintro ⟨i, hi, j, hj, rfl, rfl⟩
    omega
  · rintro ⟨h1, h2⟩
    exact ⟨x1.toNat, by omega, x2.toNat, by omega, by omega, by omega⟩
abbrev OkP (a b : DF) : List PR → List (Nat × Int) → Prop := Ok (stepP a b) (startP a b) (labs a b)
theorem okP_in {a b : DF} (ha : Good a) (hb : Good b) {L : List PR} {T : List (Nat × Int)} (h : OkP a b L T) {k : Nat} {x : PR} (hx : L[k]? = some x) : PIn a b x :=
  h.inv (P := PIn a b) (start_in ha hb) (fun _ c hc hx => stepP_in ha hb (labs_spec ha hb c hc).1 hx) k x hx
theorem okP_len {a b : DF} (ha : Good a) (hb : Good b) {L : List PR} {T : List (Nat × Int)} (h : OkP a b L T) : L.length ≤ a.2.1.length * b.2.1.length := by
  rw [← grid_len]
  exact h.bound (grid_mem.2 (start_in ha hb)) fun x c hc hx => grid_mem.2 (stepP_in ha hb (labs_spec ha hb c hc).1 (grid_mem.1 hx))
theorem prod_le {a b : DF} (ha : Good a) (hb : Good b) : a.2.1.length * b.2.1.length ≤ 16777216 :=
  Nat.le_trans (Nat.mul_le_mul (good_len ha).1 (good_len hb).1) (by decide)
theorem acc_at {d : DF} (h : Good d) {s : Int} (h0 : 0 ≤ s) (hs : s < (d.2.1.length : Int)) : ∃ h1 : s.toNat < d.2.2.1.length, d.2.2.1[s.toNat] = accS d s := by
  have h1 : s.toNat < d.2.2.1.length := by have := h.len; omega
  exact ⟨h1, by unfold accS; simp only [List.getD_eq_getElem?_getD, List.getElem?_eq_getElem h1, Option.getD_some]⟩
abbrev SR : Type := List PR × List (Nat × Int) × List (List Nat)
noncomputable def encM (a b : DF) (i : Nat) (S : SR) : Int × List Int × List PR × List Int × List Int × List (List Int) × List (PR × Int) × Unit :=
  ((i : Int), labs a b, S.1, fromL S.2.1, byL S.2.1, rowsL S.2.2, kvFrom 0 S.1, ())
def rowZ (k : Nat) (r : List Nat) : List Int := (r.map fun (k : Nat) => (k : Int)) ++ List.replicate (k - r.length) 0
theorem rowZ_set {k : Nat} {r : List Nat} {n : Nat} (h : r.length < k) : (rowZ k r).set r.length (n : Int) = rowZ k (r ++ [n]) := by
  unfold rowZ
  rw [List.set_append_right _ _ (by simp), List.length_map, Nat.sub_self]
  obtain ⟨m, hm⟩ : ∃ m, k - r.length = m + 1 := ⟨k - r.length - 1, by omega⟩
  rw [hm, List.replicate_succ, List.set_cons_zero, List.length_append, show k - (r.length + [n].length) = m by simp; omega]
  simp
end Go.Proofs.Ytbpdbooalkkenaa
