/-
  dfa: COMPARISON OF AUTOMATA (both of the program and of the reference).
-/
import Derived.Test.YtbpdbooalkkenaaULawDfaBase
set_option linter.unusedVariables false
set_option linter.unusedSimpArgs false
namespace Go.Proofs.Ytbpdbooalkkenaa
open Go Go.Av Go.Ev
def OkDF (d : DF) : Prop := d.1.length ≤ 9223372036854775807 ∧ d.2.1.length ≤ 9223372036854775807 ∧ (∀ r ∈ d.2.1, r.length ≤ 9223372036854775807) ∧ d.2.2.1.length ≤ 9223372036854775807
theorem okDF_of {d : DF} (h : okD (pr [.list tI, .list (.list tI), .list tB, tI]) d) : OkDF d := ⟨h.1.1, h.2.1.1, fun r hr => (h.2.1.2 r hr).1, h.2.2.1.1⟩
def largeS (d : DF) : Bool := decide (d.2.1.length > 60) || decide (d.2.2.1.length > 60) || decide (d.1.length > 60) || d.2.1.any fun r => decide (r.length > 60)
theorem C_law16_Large (d : DF) : Calls' tbl N_law16_Large [.d (pr [.list tI, .list (.list tI), .list tB, tI]) d] [] q_law16_Large (largeS d, ()) := by
  refine calls_of rfl (conv_of t_law16_Large rfl (fun O n => x_law16_Large O n d) ?_)
  unfold G_law16_Large
  refine wp_bind (wp_or (fun _ => wp_some rfl) (wp_bind (wp_or (fun _ => wp_some rfl) ?_)))
  refine wp_bif (fun h => wp_some ?_) fun h => ?_
  · simp only [Bool.or_eq_true, decide_eq_true_eq] at h
    have : largeS d = true := by
      simp only [largeS, Bool.or_eq_true, decide_eq_true_eq]
      left; omega
    rw [this]
  simp only [Bool.or_eq_false_iff, decide_eq_false_iff_not] at h
  refine wp_bind (wp_allx (xs := d.2.1) (P := fun r => r.length ≤ 60) (e := (true, ())) (g := ()) (fun i hi => ?_) ?_ (fun hr => wp_some ?_) (fun hr => wp_some ?_))
  · unfold L_law16_Large_0
    refine wp_in hi (wp_get0 hi (wp_stop ?_ (by rw [wrap_succ hi (by omega)])))
    simp only [decide_eq_true_eq]
    omega
  · unfold L_law16_Large_0
    exact wp_out (wp_some rfl)
  · have : largeS d = false := by
      simp only [largeS, Bool.or_eq_false_iff, decide_eq_false_iff_not, List.any_eq_false, decide_eq_true_eq]
      exact ⟨⟨⟨by omega, by omega⟩, by omega⟩, fun r h => by have := hr r h; omega⟩
    rw [this]
  · have : largeS d = true := by
      simp only [largeS, Bool.or_eq_true, decide_eq_true_eq, List.any_eq_true]
      right
      exact Classical.byContradiction fun hn => hr fun r h => by
        apply Classical.byContradiction
        intro h2
        exact hn ⟨r, h, by omega⟩
    rw [this]
theorem same_iff {α : Type} {a b : List α} (hl : a.length = b.length) : (∀ i, i < a.length → a[i]? = b[i]?) ↔ a = b := by
  constructor
  · intro h
    refine List.ext_getElem? fun i => ?_
    by_cases hi : i < a.length
    · exact h i hi
    · rw [List.getElem?_eq_none (by omega), List.getElem?_eq_none (by omega)]
  · rintro rfl _ _; rfl
theorem C_dfa_equal (a b : List Int) (hl : a.length ≤ 9223372036854775807) : Calls' tbl N_dfa_equal [.d (.list tI) a, .d (.list tI) b] [] q_dfa_equal (decide (a = b), ()) := by
  refine calls_of rfl (conv_of t_dfa_equal rfl (fun O n => x_dfa_equal O n a b) ?_)
  unfold G_dfa_equal
  refine wp_bif (fun h => wp_some ?_) fun h => ?_
  · have : a ≠ b := fun e => by subst e; simp at h
    simp [this]
  have hab : a.length = b.length := by simp only [bne_eq_false_iff_eq] at h; omega
  refine wp_bind (wp_all (N := a.length) (good := fun i => a[i]? = b[i]?) (e := (false, ())) (g := ()) (fun i hi => ?_) ?_ (fun hs => wp_some ?_) (fun hb => wp_some ?_))
  · unfold L_dfa_equal_0
    refine wp_in hi (wp_get0 hi (wp_get0 (by omega) (wp_stop ?_ (by rw [wrap_succ hi (by omega)]))))
    rw [List.getElem?_eq_getElem hi, List.getElem?_eq_getElem (by omega)]
    simp
  · unfold L_dfa_equal_0
    exact wp_out (wp_some rfl)
  · simp [(same_iff hab).1 hs]
  · have : a ≠ b := fun e => by obtain ⟨i, hi, hn⟩ := hb; subst e; exact hn rfl
    simp [this]
theorem rows_dfa_Equal (a b : DF) (ha : OkDF a) (hn : a.2.1.length = b.2.1.length) (hm : a.2.2.1.length = b.2.2.1.length) (h1 : a.1 = b.1) (h2 : a.2.2.2.1 = b.2.2.2.1) : Wp (fun n =>
    Option.bind (loopN n (L_dfa_Equal_0 (evF tbl n) n a b) ((0 : Int), ())) fun (v8 : (Bool × Unit) ⊕ Unit) =>
    Sum.elim (fun v9 =>
    retQ q_dfa_Equal (v9.1, ())) (fun v10 =>
    Option.bind (loopN n (L_dfa_Equal_1 (evF tbl n) n a b) ((0 : Int), ())) fun (v14 : (Bool × Unit) ⊕ Unit) =>
    Sum.elim (fun v15 =>
    retQ q_dfa_Equal (v15.1, ())) (fun v16 =>
    retQ q_dfa_Equal (true, ())) v14) v8) fun o => o = some (outQ q_dfa_Equal (decide (a = b), ())) := by
  refine wp_bind (wp_all (N := a.2.1.length) (good := fun i => a.2.1[i]? = b.2.1[i]?) (e := (false, ())) (g := ()) (fun i hi => ?_) ?_ (fun hs => ?_) (fun hb => wp_some ?_))
  · unfold L_dfa_Equal_0
    refine wp_in hi (wp_get0 hi (wp_get0 (by omega) (wp_call (C_dfa_equal _ _ (ha.2.2.1 _ (List.getElem_mem hi))) (wp_stop ?_ (by rw [wrap_succ hi ha.2.1])))))
    rw [List.getElem?_eq_getElem hi, List.getElem?_eq_getElem (by omega)]
    simp
  · unfold L_dfa_Equal_0
    exact wp_out (wp_some rfl)
  · have hs := (same_iff hn).1 hs
    refine wp_bind (wp_all (N := a.2.2.1.length) (good := fun i => a.2.2.1[i]? = b.2.2.1[i]?) (e := (false, ())) (g := ()) (fun i hi => ?_) ?_ (fun ht => wp_some ?_) (fun hb => wp_some ?_))
    · unfold L_dfa_Equal_1
      refine wp_in hi (wp_get0 hi (wp_get0 (by omega) (wp_stop ?_ (by rw [wrap_succ hi ha.2.2.2]))))
      rw [List.getElem?_eq_getElem hi, List.getElem?_eq_getElem (by omega)]
      simp
    · unfold L_dfa_Equal_1
      exact wp_out (wp_some rfl)
    · have ht := (same_iff hm).1 ht
      have : a = b := Prod.ext h1 (Prod.ext hs (Prod.ext ht (Prod.ext h2 rfl)))
      rw [decide_eq_true this]
    · have : a ≠ b := fun e => by obtain ⟨i, hi, hn⟩ := hb; subst e; exact hn rfl
      rw [decide_eq_false this]
  · have : a ≠ b := fun e => by obtain ⟨i, hi, hn⟩ := hb; subst e; exact hn rfl
    rw [decide_eq_false this]
theorem C_ref16_equal (a b : List Int) (hl : a.length ≤ 9223372036854775807) : Calls' tbl N_ref16_equal [.d (.list tI) a, .d (.list tI) b] [] q_ref16_equal (decide (a = b), ()) := by
  refine calls_of rfl (conv_of t_ref16_equal rfl (fun O n => x_ref16_equal O n a b) ?_)
  unfold G_ref16_equal
  refine wp_bif (fun h => wp_some ?_) fun h => ?_
  · have : a ≠ b := fun e => by subst e; simp at h
    simp [this]
  have hab : a.length = b.length := by simp only [bne_eq_false_iff_eq] at h; omega
  refine wp_bind (wp_all (N := a.length) (good := fun i => a[i]? = b[i]?) (e := (false, ())) (g := ()) (fun i hi => ?_) ?_ (fun hs => wp_some ?_) (fun hb => wp_some ?_))
  · unfold L_ref16_equal_0
    refine wp_in hi (wp_get0 hi (wp_get0 (by omega) (wp_stop ?_ (by rw [wrap_succ hi (by omega)]))))
    rw [List.getElem?_eq_getElem hi, List.getElem?_eq_getElem (by omega)]
    simp
  · unfold L_ref16_equal_0
    exact wp_out (wp_some rfl)
  · simp [(same_iff hab).1 hs]
  · have : a ≠ b := fun e => by obtain ⟨i, hi, hn⟩ := hb; subst e; exact hn rfl
    simp [this]
theorem rows_ref16_Equal (a b : DF) (ha : OkDF a) (hn : a.2.1.length = b.2.1.length) (hm : a.2.2.1.length = b.2.2.1.length) (h1 : a.1 = b.1) (h2 : a.2.2.2.1 = b.2.2.2.1) : Wp (fun n =>
    Option.bind (loopN n (L_ref16_Equal_0 (evF tbl n) n a b) ((0 : Int), ())) fun (v8 : (Bool × Unit) ⊕ Unit) =>
    Sum.elim (fun v9 =>
    retQ q_ref16_Equal (v9.1, ())) (fun v10 =>
    Option.bind (loopN n (L_ref16_Equal_1 (evF tbl n) n a b) ((0 : Int), ())) fun (v14 : (Bool × Unit) ⊕ Unit) =>
    Sum.elim (fun v15 =>
    retQ q_ref16_Equal (v15.1, ())) (fun v16 =>
    retQ q_ref16_Equal (true, ())) v14) v8) fun o => o = some (outQ q_ref16_Equal (decide (a = b), ())) := by
  refine wp_bind (wp_all (N := a.2.1.length) (good := fun i => a.2.1[i]? = b.2.1[i]?) (e := (false, ())) (g := ()) (fun i hi => ?_) ?_ (fun hs => ?_) (fun hb => wp_some ?_))
  · unfold L_ref16_Equal_0
    refine wp_in hi (wp_get0 hi (wp_get0 (by omega) (wp_call (C_ref16_equal _ _ (ha.2.2.1 _ (List.getElem_mem hi))) (wp_stop ?_ (by rw [wrap_succ hi ha.2.1])))))
    rw [List.getElem?_eq_getElem hi, List.getElem?_eq_getElem (by omega)]
    simp
  · unfold L_ref16_Equal_0
    exact wp_out (wp_some rfl)
  · have hs := (same_iff hn).1 hs
    refine wp_bind (wp_all (N := a.2.2.1.length) (good := fun i => a.2.2.1[i]? = b.2.2.1[i]?) (e := (false, ())) (g := ()) (fun i hi => ?_) ?_ (fun ht => wp_some ?_) (fun hb => wp_some ?_))
    · unfold L_ref16_Equal_1
      refine wp_in hi (wp_get0 hi (wp_get0 (by omega) (wp_stop ?_ (by rw [wrap_succ hi ha.2.2.2]))))
      rw [List.getElem?_eq_getElem hi, List.getElem?_eq_getElem (by omega)]
      simp
    · unfold L_ref16_Equal_1
      exact wp_out (wp_some rfl)
    · have ht := (same_iff hm).1 ht
      have : a = b := Prod.ext h1 (Prod.ext hs (Prod.ext ht (Prod.ext h2 rfl)))
      rw [decide_eq_true this]
    · have : a ≠ b := fun e => by obtain ⟨i, hi, hn⟩ := hb; subst e; exact hn rfl
      rw [decide_eq_false this]
  · have : a ≠ b := fun e => by obtain ⟨i, hi, hn⟩ := hb; subst e; exact hn rfl
    rw [decide_eq_false this]
theorem C_dfa_Equal (a b : DF) (ha : OkDF a) : Calls' tbl N_dfa_Equal [.d (pr [.list tI, .list (.list tI), .list tB, tI]) a, .d (pr [.list tI, .list (.list tI), .list tB, tI]) b] [] q_dfa_Equal (decide (a = b), ()) := by
  refine calls_of rfl (conv_of t_dfa_Equal rfl (fun O n => x_dfa_Equal O n a b) ?_)
  unfold G_dfa_Equal
  refine wp_bind (wp_or (fun _ => wp_call (C_dfa_equal _ _ ha.1) (wp_some rfl)) (wp_bind (wp_or (fun _ => wp_some rfl) (wp_bind (wp_or (fun _ => wp_some rfl) ?_)))))
  refine wp_bif (fun h => wp_some ?_) fun h => ?_
  · simp only [Bool.or_eq_true, bne_iff_ne, Bool.not_eq_true', decide_eq_false_iff_not] at h
    have : a ≠ b := fun e => by subst e; simp at h
    rw [decide_eq_false this]
  · simp only [Bool.or_eq_false_iff, bne_eq_false_iff_eq, Bool.not_eq_false', decide_eq_true_eq] at h
    exact rows_dfa_Equal a b ha (by omega) (by omega) h.1.1.2 h.1.1.1
theorem C_ref16_Equal (a b : DF) (ha : OkDF a) : Calls' tbl N_ref16_Equal [.d (pr [.list tI, .list (.list tI), .list tB, tI]) a, .d (pr [.list tI, .list (.list tI), .list tB, tI]) b] [] q_ref16_Equal (decide (a = b), ()) := by
  refine calls_of rfl (conv_of t_ref16_Equal rfl (fun O n => x_ref16_Equal O n a b) ?_)
  unfold G_ref16_Equal
  refine wp_call (C_ref16_equal _ _ ha.1) ?_
  refine wp_bind (wp_or (fun _ => wp_some rfl) (wp_bind (wp_or (fun _ => wp_some rfl) (wp_bind (wp_or (fun _ => wp_some rfl) ?_)))))
  refine wp_bif (fun h => wp_some ?_) fun h => ?_
  · simp only [Bool.or_eq_true, bne_iff_ne, Bool.not_eq_true', decide_eq_false_iff_not] at h
    have : a ≠ b := fun e => by subst e; simp at h
    rw [decide_eq_false this]
  · simp only [Bool.or_eq_false_iff, bne_eq_false_iff_eq, Bool.not_eq_false', decide_eq_true_eq] at h
    exact rows_ref16_Equal a b ha (by omega) (by omega) h.1.1.1 h.2
end Go.Proofs.Ytbpdbooalkkenaa
