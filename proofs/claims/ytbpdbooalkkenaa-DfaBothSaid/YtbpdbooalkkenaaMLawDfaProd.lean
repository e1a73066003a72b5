/-
  dfa: THE AUTOMATON OF PAIRS accepts what both accept; no program in sight.
-/
import Derived.Test.YtbpdbooalkkenaaMLawDfaMinimal
import Derived.Test.YtbpdbooalkkenaaMLawDfaMulV
set_option linter.unusedVariables false
set_option linter.unusedSimpArgs false
namespace Go.Proofs.Ytbpdbooalkkenaa
open Go Go.Av Go.Ev Go.Pl
theorem pos_get {κ : Type} [DecidableEq κ] {L : List κ} {x : κ} (h : x ∈ L) : L[pos L x]? = some x := by
  have hp := pos_lt.1 h
  unfold pos at hp ⊢
  rw [List.getElem?_eq_getElem hp, List.getElem_idxOf]
noncomputable def prodS (a b : DF) : DF := (labs a b, rowsL (allP a b).2.2, (allP a b).1.map fun x => accS a x.1 && accS b x.2.1, 0, ())
section
variable {a b : DF}
theorem allP_closed (ha : Good a) (hb : Good b) : ∀ x ∈ (allP a b).1, ∀ c ∈ labs a b, stepP a b x c ∈ (allP a b).1 := fun x hx c hc =>
  expl_closed _ x (by rw [List.take_of_length_le (allP_fin ha hb)]; exact hx) c hc
theorem prod_rows (ha : Good a) (hb : Good b) : (prodS a b).2.1 = (allP a b).1.map fun x => (labs a b).map fun c => (pos (allP a b).1 (stepP a b x c) : Int) := by
  show rowsL (allP a b).2.2 = _
  rw [expl_rows _ _ (Nat.le_refl _), List.take_of_length_le (allP_fin ha hb)]
  unfold rowsL
  rw [List.map_map]
  refine List.map_congr_left fun x _ => ?_
  show ((labs a b).map fun c => pos (allP a b).1 (stepP a b x c)).map (fun (k : Nat) => (k : Int)) = _
  rw [List.map_map]; rfl
theorem labs_starts (ha : Good a) (hb : Good b) : Starts (labs a b) := by
  obtain ⟨hasc, hm⟩ := labs_mem a b
  have h0 : (0 : Int) ∈ labs a b := (hm 0).2 (.inl (by have := ha.starts.2.1 ha.starts.1; rw [← this]; exact List.getElem_mem _))
  have hp := List.length_pos_of_mem h0
  refine ⟨hp, fun h => ?_, fun i h => asc_lt hasc (by omega) h, fun v hv => (labs_spec ha hb v hv).2⟩
  obtain ⟨i, hi, e⟩ := List.mem_iff_getElem.1 h0
  have h1 := (labs_spec ha hb _ (List.getElem_mem h)).1
  rcases Nat.eq_zero_or_pos i with rfl | hi0
  · exact e
  · have := asc_lt hasc hi0 hi; omega
theorem prod_wf (ha : Good a) (hb : Good b) : WF (prodS a b) := by
  have hr := prod_rows ha hb
  have h0 : 0 < (allP a b).1.length := (List.getElem?_eq_some_iff.1 (expl_ok (f := stepP a b) (s0 := startP a b) (ls := labs a b) _).head).1
  have hn : (prodS a b).2.1.length = (allP a b).1.length := by rw [hr, List.length_map]
  refine ⟨labs_starts ha hb, ⟨by omega, by rw [hn]; simp [prodS]⟩, fun r hr' => ?_, ⟨Int.le_refl _, by rw [hn]; show (0 : Int) < _; omega⟩, fun r hr' t ht => ?_⟩
  · rw [hr] at hr'
    obtain ⟨x, _, rfl⟩ := List.mem_map.1 hr'
    simp [prodS]
  · rw [hr] at hr'
    obtain ⟨x, hx, rfl⟩ := List.mem_map.1 hr'
    obtain ⟨c, hc, rfl⟩ := List.mem_map.1 ht
    have := pos_lt.1 (allP_closed ha hb x hx c hc)
    rw [hn]; omega
theorem prod_col (ha : Good a) (hb : Good b) {x : PR} (hx : x ∈ (allP a b).1) {j : Nat} (hj : j < (labs a b).length) : colS (prodS a b) (pos (allP a b).1 x : Int) j = (pos (allP a b).1 (stepP a b x (labs a b)[j]) : Int) := by
  have e : (allP a b).1[pos (allP a b).1 x]? = some x := pos_get hx
  unfold colS
  rw [prod_rows ha hb]
  simp only [Int.toNat_natCast, List.getD_eq_getElem?_getD, List.getElem?_map, e, Option.map_some, Option.getD_some, List.getElem?_eq_getElem hj]
theorem prod_step (ha : Good a) (hb : Good b) {x : PR} (hx : x ∈ (allP a b).1) {v : Int} (hv : 0 ≤ v) : stepS (prodS a b) (pos (allP a b).1 x : Int) v = (pos (allP a b).1 (stepP a b x v) : Int) := by
  obtain ⟨hasc, hm⟩ := labs_mem a b
  obtain ⟨h1, h2, h3⟩ := class_wf (labs_starts ha hb) hv
  have hc0 := (labs_spec ha hb _ (List.getElem_mem h1)).1
  have hall : ∀ x ∈ labs a b, x ≤ v → x ≤ (labs a b)[classS (labs a b) v] := fun y hy hyv => by
    obtain ⟨j, hj, rfl⟩ := List.mem_iff_getElem.1 hy
    rcases Nat.lt_or_ge (classS (labs a b) v) j with hl | hge
    · have := h3 j hj hl; omega
    · rcases Nat.lt_or_eq_of_le hge with hl | he
      · have := asc_lt hasc hl h1; omega
      · simp only [he]; exact Int.le_refl _
  rw [step_col]
  show colS (prodS a b) (pos (allP a b).1 x : Int) (classS (labs a b) v) = _
  rw [prod_col ha hb hx h1]
  have e : stepP a b x (labs a b)[classS (labs a b) v] = stepP a b x v := by
    unfold stepP stepS
    rw [class_same ha.starts hc0 h2 fun y hy hyv => hall y ((hm y).2 (.inl hy)) hyv, class_same hb.starts hc0 h2 fun y hy hyv => hall y ((hm y).2 (.inr hy)) hyv]
  rw [e]
theorem allP_step (ha : Good a) (hb : Good b) {x : PR} (hx : x ∈ (allP a b).1) {v : Int} (hv : 0 ≤ v) : stepP a b x v ∈ (allP a b).1 := by
  obtain ⟨c, hc, e1, e2⟩ := label_of ha hb hv
  have e : stepP a b x v = stepP a b x c := by
    unfold stepP stepS
    rw [e1, e2]
  rw [e]; exact allP_closed ha hb x hx c hc
theorem prod_run (ha : Good a) (hb : Good b) : ∀ (w : List Int) (x : PR), x ∈ (allP a b).1 → Valid w → w.foldl (stepS (prodS a b)) (pos (allP a b).1 x : Int) = (pos (allP a b).1 (w.foldl (stepP a b) x) : Int) ∧ w.foldl (stepP a b) x ∈ (allP a b).1
  | [], x, hx, _ => ⟨rfl, hx⟩
  | v :: w, x, hx, hw => by
    have hv := (hw v (List.mem_cons_self ..)).1
    rw [List.foldl_cons, List.foldl_cons, prod_step ha hb hx hv]
    exact prod_run ha hb w _ (allP_step ha hb hx hv) fun u hu => hw u (List.mem_cons_of_mem _ hu)
theorem prod_lang (ha : Good a) (hb : Good b) {w : List Int} (hw : Valid w) : accS (prodS a b) (runD (prodS a b) w) = (accS a (runD a w) && accS b (runD b w)) := by
  have hhead : (allP a b).1[0]? = some (startP a b) := (expl_ok _).head
  have hs : startP a b ∈ (allP a b).1 := List.mem_of_getElem? hhead
  have hp0 : pos (allP a b).1 (startP a b) = 0 := (pos_of (Nat.zero_le _) (fun j z hj => by omega) (fun z hz => by rw [hhead] at hz; cases hz; rfl)).symm
  obtain ⟨h1, h2⟩ := prod_run ha hb w _ hs hw
  rw [hp0] at h1
  have e0 : runD (prodS a b) w = (pos (allP a b).1 (w.foldl (stepP a b) (startP a b)) : Int) := h1
  rw [e0]
  have e : (allP a b).1[pos (allP a b).1 (w.foldl (stepP a b) (startP a b))]? = some (w.foldl (stepP a b) (startP a b)) := pos_get h2
  have e2 : accS (prodS a b) (pos (allP a b).1 (w.foldl (stepP a b) (startP a b)) : Int) = (accS a (w.foldl (stepP a b) (startP a b)).1 && accS b (w.foldl (stepP a b) (startP a b)).2.1) := by
    show ((allP a b).1.map fun x => accS a x.1 && accS b x.2.1).getD _ false = _
    simp only [Int.toNat_natCast, List.getD_eq_getElem?_getD, List.getElem?_map, e, Option.map_some, Option.getD_some]
  rw [e2, foldl_stepP]
  rfl
end
end Go.Proofs.Ytbpdbooalkkenaa
