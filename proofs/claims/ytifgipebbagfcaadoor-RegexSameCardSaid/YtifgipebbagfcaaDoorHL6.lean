/- Part ML6 of the layer: an abstract and a typed machine over the loaded code, proved sound. -/
import Derived.Test.YtifgipebbagfcaaDoorHL5
set_option linter.unusedVariables false
set_option linter.unusedSimpArgs false
namespace Go.Ev
open Go Go.RowKit Go.Av
section
variable {R : Type} {P : Program} {O : Oracle} {d : Option Nat} {s : S} {κ kp : S → Option R} {r : R}
theorem sub_of {p : PV} {off : Nat} {u : Ty} {y : u.den} (h2 : ((p.cells).drop off).take u.sz = cellsP u y) (h1 : off + u.sz ≤ p.cells.length) : p.sub off u.sz u.ag = encP u y := by
  cases hu : u.ag
  · have hs := sz_one hu
    rw [hs, encP_one y hu] at h2
    have hlt : off < p.cells.length := by omega
    rw [List.drop_eq_getElem_cons hlt] at h2
    simp only [List.take_succ_cons, List.take_zero, List.cons.injEq, and_true] at h2
    simp only [PV.sub, List.getD, List.getElem?_eq_getElem hlt, Option.getD_some]
    exact h2
  · simp only [PV.sub]
    rw [encP_agg y hu, ← h2]
theorem pv_toPV (l : List PV) : (l.map BV.pv).mapM BV.toPV = some l := by
  induction l with
  | nil => rfl
  | cons x l ih => rw [List.map_cons, List.mapM_cons, ih]; rfl
theorem drop_len_add {α : Type} (l m : List α) (k n : Nat) (h : l.length = n) : (l ++ m).drop (k + n) = m.drop k := by
  rw [← h, Nat.add_comm, List.drop_append]
  simp
def RowIn (t : Ty) (n : Nat) (m : Int) (c : t.den) (cs : List PV) : Prop := ∃ k : Nat, m = (k : Int) ∧ k < n ∧ (cs.drop (k * t.sz)).take t.sz = cellsP t c ∧ k * t.sz + t.sz ≤ cs.length
theorem rowIn_step {t : Ty} {n : Nat} {m : Int} {c x : t.den} {cs : List PV} {o : Option t.den} (h : (bif decide (m = 0) then some x else o) = some c) (hr : o = some c → RowIn t n (m - 1) c cs) : RowIn t (n + 1) m c (cellsP t x ++ cs) := by
  by_cases h0 : m = 0
  · subst h0
    simp only [decide_true, cond_true, Option.some.injEq] at h
    subst h
    refine ⟨0, rfl, by omega, ?_, ?_⟩
    · rw [Nat.zero_mul, List.drop_zero, List.take_append_of_le_length (by rw [cellsP_len]; exact Nat.le_refl _), List.take_of_length_le (by rw [cellsP_len]; exact Nat.le_refl _)]
    · simp [cellsP_len]
  · simp only [h0, decide_false, cond_false] at h
    obtain ⟨k, hk, hlt, h1, h2⟩ := hr h
    refine ⟨k + 1, by omega, by omega, ?_, ?_⟩
    · rw [Nat.add_mul, Nat.one_mul, drop_len_add _ _ _ _ (cellsP_len t x), h1]
    · rw [List.length_append, cellsP_len t x, Nat.add_mul]; omega
theorem rowAt_enc (t : Ty) : ∀ (n : Nat) (v : V) (m : Int) (c : t.den) (cs : List PV), rowAt t n v m = some c → ((cellsV v).map encB).mapM BV.toPV = some cs → RowIn t n m c cs := by
  intro n
  induction n with
  | zero => intro v m c cs h; simp [rowAt] at h
  | succ n ih =>
    intro v m c cs h hcs
    cases v with
    | d u x =>
      cases u with
      | pair a b =>
        simp only [rowAt] at h
        have hc : cs = cellsP a x.1 ++ cellsP b x.2 := by
          rw [show cellsV (V.d (.pair a b) x) = leafs (.pair a b) x from rfl, (leafs_enc (.pair a b) x).1, pv_toPV] at hcs
          cases hcs; rfl
        split at h
        · rename_i y hy
          obtain ⟨e1, rfl⟩ := cast?_enc hy
          have : cellsP a x.1 = cellsP a y := by show (encP _ _).cells = (encP _ _).cells; rw [e1]
          rw [hc, this]
          exact rowIn_step h fun h => ih (.d b x.2) (m - 1) c _ h (by
            rw [show cellsV (V.d b x.2) = leafs b x.2 from rfl, (leafs_enc b x.2).1, pv_toPV])
        · cases h
      | _ => simp [rowAt] at h
    | agg vs =>
      simp only [rowAt] at h
      split at h
      · rename_i x l hx
        obtain ⟨l0, rfl, hl0⟩ := asm_enc t vs x l hx
        rw [show cellsV (V.agg (l0 ++ l)) = l0 ++ l from rfl, List.map_append, List.mapM_append, hl0] at hcs
        simp only [Option.bind_eq_bind, Option.bind_some] at hcs
        cases hl : (l.map encB).mapM BV.toPV with
        | none => rw [hl] at hcs; cases hcs
        | some cs' =>
          rw [hl] at hcs
          simp only [Option.bind_some, Option.pure_def, Option.some.injEq] at hcs
          rw [← hcs]
          exact rowIn_step h fun h => ih (.agg l) (m - 1) c cs' h hl
      · cases h
    | _ => simp [rowAt] at h
theorem mapM_len {α β : Type} {f : α → Option β} : ∀ {l : List α} {m : List β}, l.mapM f = some m → m.length = l.length
  | [], m, h => by cases h; rfl
  | x :: l, m, h => by
    rw [List.mapM_cons] at h
    cases hx : f x with
    | none => rw [hx] at h; cases h
    | some y =>
      cases hl : l.mapM f with
      | none => rw [hx, hl] at h; cases h
      | some m' => rw [hx, hl] at h; cases h; simp [mapM_len hl]
theorem rowAt_part (t : Ty) : ∀ (n : Nat) (vs : List V) (m : Int) (c : t.den), rowAt t n (.agg vs) m = some c → ∃ j : Nat, m = (j : Int) ∧ j < n ∧ (((vs.drop (j * t.sz)).take t.sz).map encB).mapM BV.toPV = some (cellsP t c) ∧ j * t.sz + t.sz ≤ vs.length := by
  intro n
  induction n with
  | zero => intro vs m c h; simp [rowAt] at h
  | succ n ih =>
    intro vs m c h
    simp only [rowAt] at h
    split at h
    · rename_i x l hx
      obtain ⟨l0, rfl, hl0⟩ := asm_enc t vs x l hx
      have hlen : l0.length = t.sz := by
        have := mapM_len hl0
        rw [cellsP_len, List.length_map] at this
        exact this.symm
      by_cases h0 : m = 0
      · subst h0
        simp only [decide_true, cond_true, Option.some.injEq] at h
        subst h
        refine ⟨0, rfl, by omega, ?_, by simp [hlen]⟩
        rw [Nat.zero_mul, List.drop_zero, List.take_append_of_le_length (by omega), List.take_of_length_le (by omega)]
        exact hl0
      · simp only [h0, decide_false, cond_false] at h
        obtain ⟨j, hj, hlt, h1, h2⟩ := ih l (m - 1) c h
        refine ⟨j + 1, by omega, by omega, ?_, ?_⟩
        · rw [Nat.add_mul, Nat.one_mul, drop_len_add _ _ _ _ hlen]
          exact h1
        · rw [List.length_append, hlen, Nat.add_mul]; omega
    · cases h
theorem whole_enc (t : Ty) (cs : List V) (h : t.ag = false → cs ≠ []) : encA (whole t cs) = ofCells t.ag (cs.map encB) := by
  unfold whole
  cases ht : t.ag
  · cases cs with
    | nil => exact absurd rfl (h ht)
    | cons v cs => cases v <;> rfl
  · rfl
theorem cellsD_pv : ∀ (vs : List V), vs.all V.cellD = true → ∃ cs, (vs.map encB).mapM BV.toPV = some cs
  | [], _ => ⟨[], rfl⟩
  | v :: vs, h => by
    simp only [List.all_cons, Bool.and_eq_true] at h
    obtain ⟨cs, hcs⟩ := cellsD_pv vs h.2
    have : ∃ p, (encB v).toPV = some p := by cases v <;> first | exact ⟨_, rfl⟩ | (have := h.1; simp [V.cellD] at this)
    obtain ⟨p, hp⟩ := this
    exact ⟨p :: cs, by simp only [List.map_cons, List.mapM_cons, hp, hcs]; rfl⟩
theorem agg_pv {v : V} {cs : List PV} (h : ((cellsV v).map encB).mapM BV.toPV = some cs) (hv : (∃ a b x, v = .d (.pair a b) x) ∨ ∃ vs, v = .agg vs) : ∃ p, (encA v).toPV = some p ∧ p.cells = cs ∧ p.isAgg = true := by
  rcases hv with ⟨a, b, x, rfl⟩ | ⟨vs, rfl⟩
  · rw [show cellsV (V.d (.pair a b) x) = leafs (.pair a b) x from rfl, (leafs_enc (.pair a b) x).1, pv_toPV] at h
    cases h
    exact ⟨_, rfl, rfl, rfl⟩
  · refine ⟨.agg cs, ?_, rfl, rfl⟩
    show ((vs.map encB).mapM BV.toPV).map PV.agg = _
    rw [show cellsV (V.agg vs) = vs from rfl] at h
    rw [h]; rfl
theorem rowAt_form {t : Ty} {n : Nat} {v : V} {m : Int} {c : t.den} (h : rowAt t n v m = some c) : (∃ a b x, v = .d (.pair a b) x) ∨ ∃ vs, v = .agg vs := by
  cases n with
  | zero => simp [rowAt] at h
  | succ n =>
    cases v with
    | d u x => cases u with
      | pair a b => exact .inl ⟨a, b, x, rfl⟩
      | _ => simp [rowAt] at h
    | agg vs => exact .inr ⟨vs, rfl⟩
    | _ => simp [rowAt] at h
theorem pu_idxV {n : Nat} {t : Ty} {x i : X} (hw : x.wf = true ∧ i.wf = true) (h : evOp O d (.idxV n t x i) s κ kp = some r) : Pu P s (.idxV n t.sz t.ag x.er i.er) d κ r := by
  simp only [evOp] at h
  split at h
  · rename_i v hx
    obtain ⟨h1, h⟩ := bif_eq h
    rw [Bool.and_eq_true] at h1
    obtain ⟨k, m, hi, h⟩ := intOf_eq h
    obtain ⟨c, hc, hfin⟩ := bind_eq h
    have hf := rowAt_form hc
    obtain ⟨cs, hcs⟩ : ∃ cs, ((cellsV v).map encB).mapM BV.toPV = some cs := by
      rcases hf with ⟨a, b, y, rfl⟩ | ⟨vs, rfl⟩
      · exact ⟨_, by rw [show cellsV (V.d (.pair a b) y) = leafs (.pair a b) y from rfl, (leafs_enc (.pair a b) y).1, pv_toPV]⟩
      · exact cellsD_pv vs h1.2
    obtain ⟨p, hp, hpc, hpa⟩ := agg_pv hcs hf
    obtain ⟨j, rfl, hj, h3, h4⟩ := rowAt_enc t n v m c cs hc hcs
    have hlen : cs.length = n * t.sz := by
      have := Nat.eq_of_beq_eq_true h1.1
      have h2 := congrArg List.length hpc
      have hm : cs.length = ((cellsV v).map encB).length := mapM_len hcs
      rw [hm, List.length_map, this]
    refine ⟨_, ⟨_, get_er hw.1 hx, _, get_er hw.2 hi, _, rfl, _, _, rfl, p, hp, by omega, by omega, sz_one, by rw [hpc, hlen], hpa, ?_⟩, hfin⟩
    show AV.p (p.sub ((j : Int).toNat * t.sz) t.sz t.ag) = AV.p (encP t c)
    rw [sub_of (u := t) (y := c)]
    · rw [hpc]; exact h3
    · rw [hpc]; exact h4
  · cases h
theorem pu_idxA {t : Ty} {x i : X} (hw : x.wf = true ∧ i.wf = true) (h : evOp O d (.idxA t x i) s κ kp = some r) : Pu P s (.idxA t.sz x.er i.er) d κ r := by
  simp only [evOp] at h
  split at h
  · rename_i id hx
    split at h
    · rename_i e u xs ho
      obtain ⟨h1, h5⟩ := bif_eq h
      have hu : u = t := by simpa using h1
      obtain ⟨k, m, hi, h6⟩ := intOf_eq h5
      obtain ⟨c, hc, h7⟩ := bind_eq h6
      clear h h1 h5 h6
      subst hu
      obtain ⟨h2, h3⟩ := getI_eq hc
      have hlt := (List.getElem?_eq_some_iff.1 h3).1
      refine ⟨_, ⟨_, get_er hw.1 hx, _, get_er hw.2 hi, _, rfl, _, _, rfl, .inr ⟨id, rfl, _, by rw [hp_get, ho]; rfl, .inl ⟨e, _, rfl, h2, ?_, show _ = _ from rfl⟩⟩⟩, h7⟩
      rw [List.length_map]; omega
    · rename_i e kk u xs hole ho
      obtain ⟨h1, h5⟩ := bif_eq h
      have hu : u = t := by simpa using h1
      obtain ⟨k, m, hi, h6⟩ := intOf_eq h5
      obtain ⟨c, hc, h7⟩ := bind_eq h6
      clear h h1 h5 h6
      subst hu
      obtain ⟨h2, h3⟩ := getI_eq hc
      have hlt := (List.getElem?_eq_some_iff.1 h3).1
      refine ⟨_, ⟨_, get_er hw.1 hx, _, get_er hw.2 hi, _, rfl, _, _, rfl, .inr ⟨id, rfl, _, by rw [hp_get, ho]; rfl, .inr ⟨e, kk, _, _, rfl, h2, ?_, show _ = _ from rfl⟩⟩⟩, h7⟩
      rw [List.length_map]; omega
    · cases h
  · rename_i u xs hx
    split at h
    · rename_i ys hy
      obtain ⟨e1, e2⟩ := cast?_enc hy
      obtain ⟨k, m, hi, h⟩ := intOf_eq h
      obtain ⟨c, hc, h⟩ := bind_eq h
      obtain ⟨h2, h3⟩ := getI_eq hc
      have hlt := (List.getElem?_eq_some_iff.1 h3).1
      refine ⟨_, ⟨_, get_er hw.1 hx, _, get_er hw.2 hi, _, rfl, _, _, rfl, .inl ⟨ys.map (encP t), ?_, h2, ?_, ?_⟩⟩, h⟩
      · show AV.p (encP _ _) = _
        rw [← e1]; rfl
      · rw [List.length_map]; omega
      · show AV.p (.pto ((ys.map (encP t)).getD m.toNat .any)) = _
        simp only [List.getD, List.getElem?_map, h3, Option.map_some, Option.getD_some]
        rfl
    · cases h
  · cases h
theorem pu_idxP {n : Nat} {t : Ty} {x i : X} (hw : x.wf = true ∧ i.wf = true) (h : evOp O d (.idxP n t x i) s κ kp = some r) : Pu P s (.idxP n t.sz t.ag x.er i.er) d κ r := by
  simp only [evOp] at h
  split at h
  · rename_i id off k m hx
    obtain ⟨h1, h⟩ := guardB_eq h
    simp only [Bool.and_eq_true, decide_eq_true_eq] at h1
    exact ⟨_, ⟨_, get_er hw.1 hx, _, get_er (s := s) hw.2 rfl, _, rfl, k, _, rfl, h1.1, h1.2, .inl ⟨id, off, rfl, rfl⟩⟩, h⟩
  · rename_i id off hx hne
    obtain ⟨k, m, hi, h⟩ := intOf_eq h
    obtain ⟨h1, h⟩ := guardB_eq h
    simp only [Bool.and_eq_true, decide_eq_true_eq] at h1
    exact ⟨_, ⟨_, get_er hw.1 hx, _, get_er hw.2 hi, _, rfl, k, _, rfl, h1.1, h1.2, .inl ⟨id, off, rfl, rfl⟩⟩, h⟩
  · rename_i u y hx
    obtain ⟨h1, h⟩ := bif_eq h
    simp only [Bool.and_eq_true] at h1
    have hsz := Nat.eq_of_beq_eq_true h1.1
    obtain ⟨k, m, hi, h⟩ := intOf_eq h
    obtain ⟨c, hc, hfin⟩ := bind_eq h
    have hcs : ((cellsV (.d u y)).map encB).mapM BV.toPV = some (cellsP u y) := by
      rw [show cellsV (V.d u y) = leafs u y from rfl, (leafs_enc u y).1, pv_toPV]
    obtain ⟨j, rfl, hj, h3, h4⟩ := rowAt_enc t n _ m c _ hc hcs
    have hsub : (encP u y).sub ((j : Int).toNat * t.sz) t.sz t.ag = encP t c := sub_of h3 h4
    refine ⟨_, ⟨_, get_er hw.1 hx, _, get_er hw.2 hi, _, rfl, k, _, rfl, by omega, by omega, .inr ⟨encP u y, rfl, ?_, sz_one, ?_, ?_⟩⟩, hfin⟩
    · show (cellsP u y).length = _
      rw [cellsP_len, hsz]
    · rw [hsub, encP_ag]
    · rw [hsub]; rfl
  · cases h
theorem pu_fldA {off : Nat} {t : Ty} {x : X} (hw : x.wf = true) (h : evOp O d (.fldA off t x) s κ kp = some r) : Pu P s (.fldA off t.sz t.ag x.er) d κ r := by
  simp only [evOp] at h
  split at h
  · rename_i u y hx
    split at h
    · rename_i z hz
      obtain ⟨h1, h2, h3⟩ := part_sub hz
      refine ⟨_, ⟨_, get_er hw hx, .inl ⟨encP u y, rfl, h1, h2, ?_, ?_⟩⟩, h⟩
      · rw [h3, encP_ag]
      · rw [h3]; rfl
    · cases h
  · rename_i id o hx; exact ⟨_, ⟨_, get_er hw hx, .inr (.inl ⟨id, o, rfl, rfl⟩)⟩, h⟩
  · rename_i id i o hx; exact ⟨_, ⟨_, get_er hw hx, .inr (.inr ⟨id, i, o, rfl, rfl⟩)⟩, h⟩
  · cases h
theorem ne_nil_of {α : Type} {l : List α} {n off : Nat} (h : off + n ≤ l.length) (hn : n = 1) : (l.drop off).take n ≠ [] := by
  intro e
  have := congrArg List.length e
  simp only [List.length_take, List.length_drop, List.length_nil] at this
  omega
theorem pu_fld {off : Nat} {t : Ty} {x : X} (hw : x.wf = true) (h : evOp O d (.fld off t x) s κ kp = some r) : Pu P s (.fld off t.sz t.ag x.er) d κ r := by
  simp only [evOp] at h
  split at h
  · rename_i u y hx
    obtain ⟨hu, h⟩ := bif_eq h
    split at h
    · rename_i z hz
      obtain ⟨h1, h2, h3⟩ := part_sub hz
      refine ⟨_, ⟨_, get_er hw hx, .inl ⟨encP u y, rfl, ?_, h1, h2, ?_⟩⟩, h⟩
      · rw [encP_ag, hu]
      · rw [h3]; rfl
    · cases h
  · rename_i vs hx
    obtain ⟨h1, h⟩ := bif_eq h
    have hle := Nat.le_of_ble_eq_true h1
    refine ⟨_, ⟨_, get_er hw hx, .inr ⟨_, rfl, by rw [List.length_map]; exact hle, sz_one, ?_⟩⟩, h⟩
    rw [whole_enc t _ fun ht => ne_nil_of hle (sz_one ht), List.map_take, List.map_drop]
  · cases h
theorem pu_load {t : Ty} {x : X} (hw : x.wf = true) (h : evOp O d (.load t x) s κ kp = some r) : Pu P s (.load t.sz t.ag x.er) d κ r := by
  simp only [evOp, loadT] at h
  split at h
  · rename_i u y hx
    split at h
    · rename_i z hz
      obtain ⟨e1, rfl⟩ := cast?_enc hz
      refine ⟨_, ⟨_, get_er hw hx, ?_⟩, h⟩
      show (encP u y).isAgg = _ ∧ _ ∧ AV.p (encP u y) = AV.p (encP u z)
      exact ⟨encP_ag u y, cellsP_len u y, by rw [e1]⟩
    · cases h
  · rename_i id off hx
    split at h
    · rename_i tid cs ho
      obtain ⟨h1, h⟩ := bif_eq h
      have hle := Nat.le_of_ble_eq_true h1
      refine ⟨_, ⟨_, get_er hw hx, ?_⟩, h⟩
      show bindA _ _
      refine ⟨_, by rw [hp_get, ho]; rfl, tid, _, rfl, by rw [List.length_map]; exact hle, sz_one, .inl ?_⟩
      rw [whole_enc t _ fun ht => ne_nil_of hle (sz_one ht), List.map_take, List.map_drop]
    · cases h
  · rename_i id off n u m hx
    split at h
    · rename_i tid cs ho
      obtain ⟨h1, h⟩ := bif_eq h
      simp only [Bool.and_eq_true, decide_eq_true_eq] at h1
      obtain ⟨h1, rfl⟩ := h1
      have hle := Nat.le_of_ble_eq_true h1
      obtain ⟨c, hc, hfin⟩ := bind_eq h
      obtain ⟨j, rfl, hj, hl0, _⟩ := rowAt_part u n _ m c hc
      have hrow : j * u.sz + u.sz ≤ n * u.sz := by
        have := Nat.mul_le_mul_right u.sz (show j + 1 ≤ n from hj)
        rw [Nat.add_mul, Nat.one_mul] at this
        exact this
      have hl' : ((((cs.drop off).take (n * u.sz)).drop (j * u.sz)).take u.sz) = (cs.drop (off + j * u.sz)).take u.sz := by
        rw [List.drop_take, List.take_take, List.drop_drop]
        congr 1
        omega
      rw [hl'] at hl0
      generalize hl2 : (cs.drop (off + j * u.sz)).take u.sz = l0 at hl0
      refine ⟨_, ⟨_, get_er hw hx, ?_⟩, hfin⟩
      show bindA _ _
      refine ⟨_, by rw [hp_get, ho]; rfl, tid, _, rfl, ?_, sz_one, .inr ⟨encP u c, ?_, rfl⟩⟩
      · rw [List.length_map]
        show off + (j : Int).toNat * u.sz + u.sz ≤ _
        simp only [Int.toNat_natCast]
        omega
      · show (ofCells u.ag (((cs.map encB).drop (off + (j : Int).toNat * u.sz)).take u.sz)).toPV = _
        rw [← List.map_drop, ← List.map_take, Int.toNat_natCast, hl2]
        cases hu : u.ag
        · rw [encP_one c hu] at hl0
          match l0, hl0 with
          | [v], hl0 =>
            simp only [List.map_cons, List.map_nil, List.mapM_cons, List.mapM_nil] at hl0
            cases hv : (encB v).toPV with
            | none => rw [hv] at hl0; cases hl0
            | some p => rw [hv] at hl0; cases hl0; exact hv
          | [], hl0 => cases hl0
          | v :: w :: l, hl0 =>
            have := mapM_len hl0
            simp at this
        · show (((l0.map encB).mapM BV.toPV).map PV.agg) = _
          rw [hl0, encP_agg c hu]; rfl
    · cases h
  · rename_i id i off hx
    split at h
    · rename_i e u xs ho
      obtain ⟨hst, h⟩ := bif_eq h
      obtain ⟨y, hy, h⟩ := bind_eq h
      split at h
      · rename_i z hz
        obtain ⟨h1, h2, h3⟩ := part_sub hz
        have hlt := (List.getElem?_eq_some_iff.1 hy).1
        have hgd : (xs.map (encP u)).getD i .any = encP u y := by
          simp only [List.getD, List.getElem?_map, hy, Option.map_some, Option.getD_some]
        refine ⟨_, ⟨_, get_er hw hx, ?_⟩, h⟩
        show bindA _ _
        refine ⟨_, by rw [hp_get, ho]; rfl, .inl ⟨e, u.sz, _, rfl, by rw [List.length_map]; exact hlt, by have := h1; rw [show (encP u y).cells.length = u.sz from cellsP_len u y] at this; exact this, sz_one, ?_⟩⟩
        by_cases hs : t.sz = u.sz
        · obtain ⟨g1, g2⟩ := part_cells u off t y z hz
          have hoff : off = 0 := by omega
          subst hoff
          have hbe : Nat.beq t.sz u.sz = true := by rw [hs]; exact Nat.beq_refl _
          rw [hbe] at hst
          have hut : u = t := by simpa using hst
          subst hut
          have hz2 : encP u z = encP u y := by
            rw [← h3]
            refine sub_of ?_ (by rw [Nat.zero_add]; exact Nat.le_of_eq (cellsP_len u y).symm)
            rw [List.drop_zero, List.take_of_length_le (by rw [cellsP_len]; exact Nat.le_refl _)]
          refine .inl ⟨rfl, rfl, ?_, ?_⟩
          · rw [hgd, encP_ag]
          · rw [hgd]; show AV.p (encP u y) = AV.p (encP u z); rw [hz2]
        · refine .inr ⟨hs, ?_⟩
          rw [hgd, h3]; rfl
      · cases h
    · rename_i e k u xs hole ho
      cases hf : k.flatB off t.sz
      · rw [hf] at h
        simp only [cond_false] at h
        split at h
        · rename_i hi hj v
          obtain ⟨h1, hb1⟩ := bif_eq h
          simp only [Bool.and_eq_true, Bool.not_eq_true'] at h1
          obtain ⟨⟨⟨h1, h2⟩, h5⟩, h3⟩ := h1
          obtain ⟨y, hy, hb2⟩ := bind_eq hb1
          obtain ⟨h4, hb⟩ := guardB_eq hb2
          have e1 := Nat.eq_of_beq_eq_true h1
          have e2 := Nat.eq_of_beq_eq_true h4
          have h6 := Nat.le_of_ble_eq_true h5
          clear h h1 h4 h5
          subst e1; subst e2
          have hlt := (List.getElem?_eq_some_iff.1 hy).1
          split at h3
          · refine ⟨_, ⟨_, get_er hw hx, ?_⟩, hb⟩
            show bindA _ _
            refine ⟨_, by rw [hp_get, ho]; rfl, .inr ⟨e, u.sz, k, _, _, rfl, by rw [List.length_map]; exact hlt, ?_, sz_one, .inr ⟨_, rfl, sz_one h2, h2, rfl⟩⟩⟩
            rw [sz_one h2]; exact h6
          · cases h3
        · cases h
      · rw [hf] at h
        simp only [cond_true] at h
        obtain ⟨y, hy, h⟩ := bind_eq h
        split at h
        · rename_i z hz
          obtain ⟨h1, h2, h3⟩ := part_sub hz
          have hlt := (List.getElem?_eq_some_iff.1 hy).1
          have hgd : (xs.map (encP u)).getD i .any = encP u y := by
            simp only [List.getD, List.getElem?_map, hy, Option.map_some, Option.getD_some]
          refine ⟨_, ⟨_, get_er hw hx, ?_⟩, h⟩
          show bindA _ _
          refine ⟨_, by rw [hp_get, ho]; rfl, .inr ⟨e, u.sz, k, _, _, rfl, by rw [List.length_map]; exact hlt, by have := h1; rw [show (encP u y).cells.length = u.sz from cellsP_len u y] at this; exact this, sz_one, .inl ⟨hf, ?_⟩⟩⟩
          rw [hgd, h3]; rfl
        · cases h
    · cases h
  · cases h
end
end Go.Ev
namespace Go.Ev
open Go Go.RowKit Go.Av
section
variable {R : Type} {P : Program} {O : Oracle} {d : Option Nat} {s : S} {κ kp : S → Option R} {r : R}
theorem bndOf_sound {x : Option X} {dflt : Nat} {f : Nat → Option R} (hw : oWf x = true) (h : bndOf s x dflt f = some r) : ∃ n, f n = some r ∧ ∀ (K : Nat → Prop), K n → bnd (enc s) (oer x) dflt K := by
  cases x with
  | none => exact ⟨dflt, h, fun K hK => hK⟩
  | some x =>
    simp only [bndOf] at h
    obtain ⟨k, n, hx, h1⟩ := intOf_eq h
    obtain ⟨h2, h3⟩ := guardB_eq h1
    exact ⟨n.toNat, h3, fun K hK => ⟨_, get_er hw hx, _, rfl, k, n, rfl, by simpa using h2, hK⟩⟩
theorem listOf_sound {t : Ty} {o : Option V} {f : List t.den → Option R} (h : listOf s.hp t o f = some r) : ∃ v xs, o = some v ∧ f xs = some r ∧ (∀ (K : List PV → Prop), K (xs.map (encP t)) → isList (enc s).hp t.sz (encA v) K) := by
  unfold listOf at h
  split at h
  · rename_i id
    split at h
    · rename_i e u xs ho
      split at h
      · rename_i ys hy
        obtain ⟨e2, e3⟩ := cast?_some hy
        have e4 := Ty.list.inj e2
        subst e4
        have e5 : ys = xs := e3
        subst e5
        exact ⟨_, ys, rfl, h, fun K hK => .inr (.inr (.inl ⟨id, e, _, rfl, by rw [hp_get, ho]; rfl, hK⟩))⟩
      · cases h
    · cases h
  · rename_i v hns
    split at h
    · rename_i xs hx
      refine ⟨v, xs, rfl, h, fun K hK => ?_⟩
      cases v <;> simp only [leaf?] at hx <;> try cases hx
      · obtain ⟨e1, _⟩ := cast?_enc hx
        exact .inr (.inl ⟨_, by show AV.p _ = _; rw [← e1]; rfl, hK⟩)
      · obtain ⟨e2, rfl⟩ := cast?_some hx
        cases e2
        exact .inl ⟨rfl, hK⟩
      · rename_i u y
        obtain ⟨e2, rfl⟩ := cast?_some hx
        cases e2
        exact .inr (.inr (.inr ⟨_, rfl, hK⟩))
    · cases h
  · cases h
theorem listOf_pv {t : Ty} {v : V} {f : List t.den → Option R} (hv : ∀ id, v ≠ .sl id) (h : listOf s.hp t (some v) f = some r) : ∃ xs, f xs = some r ∧ (encA v).toPV = some (lst t.sz (xs.map (encP t))) := by
  unfold listOf at h
  split at h
  · rename_i id heq; cases heq; exact absurd rfl (hv id)
  · rename_i v' _ heq
    cases heq
    split at h
    · rename_i xs hx
      exact ⟨xs, h, by rw [leaf_encA hx]; exact leaf_enc hx⟩
    · cases h
  · cases h
theorem map_slc {t : Ty} (xs : List t.den) (l h : Nat) : ((xs.map (encP t)).take h).drop l = ((xs.take h).drop l).map (encP t) := by rw [List.map_drop, List.map_take]
theorem pu_slc {full : Bool} {t : Ty} {x : X} {lo hi mx : Option X} (hw : x.wf = true ∧ oWf lo = true ∧ oWf hi = true ∧ oWf mx = true) (h : evOp O d (.slc full t x lo hi mx) s κ kp = some r) : Pu P s (.slc t.sz x.er (oer lo) (oer hi) (oer mx)) d κ r := by
  simp only [evOp] at h
  split at h
  · cases h
  · rename_i hns
    cases hx : s.get x with
    | none => rw [hx] at h; cases h
    | some v =>
      rw [hx] at h
      obtain ⟨xs, h1, hp⟩ := listOf_pv (fun id e => hns id (by rw [hx, e])) h
      obtain ⟨l, h2, hl⟩ := bndOf_sound hw.2.1 h1
      obtain ⟨n, h3, hh⟩ := bndOf_sound hw.2.2.1 h2
      obtain ⟨m, h4, hm⟩ := bndOf_sound hw.2.2.2 h3
      obtain ⟨h5, h6⟩ := bif_eq h4
      obtain ⟨h7, h8⟩ := guardB_eq h6
      simp only [Bool.and_eq_true, decide_eq_true_eq] at h7
      have hmh : (oer mx).isSome = true → (oer hi).isSome = true := by
        intro hh1
        cases mx <;> cases hi <;> simp_all [oer]
      cases full with
      | false =>
        refine ⟨_, ⟨_, get_er hw.1 hx, _, hp, _, rfl, hl _ ?_⟩, h8⟩
        rw [List.length_map]
        refine hh _ (hm _ ⟨hmh, h7.1.1, h7.1.2, h7.2, .inl ?_⟩)
        rw [map_slc]; rfl
      | true =>
        obtain ⟨h9, h10⟩ := guardB_eq h8
        simp only [Bool.and_eq_true, decide_eq_true_eq] at h9
        refine ⟨_, ⟨_, get_er hw.1 hx, _, hp, _, rfl, hl _ ?_⟩, h10⟩
        rw [List.length_map]
        refine hh _ (hm _ ⟨hmh, h7.1.1, h7.1.2, h7.2, .inr ⟨?_, h9.2, ?_⟩⟩)
        · cases mx <;> simp_all [oer]
        · rw [map_slc]; rfl
theorem ba_extract (a : List UInt8) (l h : Nat) : (⟨a.toArray⟩ : ByteArray).extract l h = ⟨((a.take h).drop l).toArray⟩ := by
  apply ByteArray.ext
  rw [ByteArray.data_extract]
  apply Array.ext'
  rw [Array.toList_extract]
  simp [List.extract, List.drop_take]
theorem pu_slcS {x : X} {lo hi : Option X} (hw : x.wf = true ∧ oWf lo = true ∧ oWf hi = true) (h : evOp O d (.slcS x lo hi) s κ kp = some r) : Pu P s (.slcS x.er (oer lo) (oer hi)) d κ r := by
  simp only [evOp] at h
  split at h
  · rename_i a hx
    obtain ⟨l, h2, hl⟩ := bndOf_sound hw.2.1 h
    obtain ⟨n, h3, hh⟩ := bndOf_sound hw.2.2 h2
    obtain ⟨h4, h5⟩ := guardB_eq h3
    simp only [Bool.and_eq_true, decide_eq_true_eq] at h4
    refine ⟨_, ⟨_, get_er hw.1 hx, _, rfl, _, rfl, hl _ ?_⟩, h5⟩
    rw [bs_size]
    refine hh _ ⟨h4.1, h4.2, ?_⟩
    rw [ba_extract]; rfl
  · cases h
theorem pu_nilc {x : X} (hw : x.wf = true) (h : evOp O d (.nilc x) s κ kp = some r) : Pu P s (.nilc x.er) d κ r := by
  simp only [evOp] at h
  split at h
  · rename_i v hx
    split at h
    · exact ⟨_, ⟨_, get_er hw hx, .inl ⟨_, rfl⟩, rfl⟩, h⟩
    · exact ⟨_, ⟨_, get_er hw hx, .inr (.inl ⟨_, _, rfl⟩), rfl⟩, h⟩
    · exact ⟨_, ⟨_, get_er hw hx, .inr (.inl ⟨_, _, rfl⟩), rfl⟩, h⟩
    · exact ⟨_, ⟨_, get_er hw hx, .inr (.inr (.inl ⟨_, _, _, rfl⟩)), rfl⟩, h⟩
    · exact ⟨_, ⟨_, get_er hw hx, .inr (.inr (.inr (.inr ⟨_, _, rfl⟩))), rfl⟩, h⟩
    · exact ⟨_, ⟨_, get_er hw hx, .inr (.inr (.inr (.inl ⟨_, _, rfl⟩))), rfl⟩, h⟩
    · cases h
  · cases h
theorem okB_enc {v : V} (h : v.okB = true) : (encA v).ok = true ∧ (cellsV v).map encB = (encA v).cells := by
  have ht : ∀ vs, v ≠ .tup vs := fun vs e => by subst e; cases h
  refine ⟨?_, cellsV_enc v ht⟩
  have hc : ∀ u : V, u.cellB = true → (encB u).cellOk = true := by
    intro u hu
    cases u <;> simp only [V.cellB] at hu <;> try cases hu
    · rename_i t x
      have h0 : t.ag = false := by simpa using hu
      have := leaf_ok t x
      rw [encP_one x h0] at this
      have h2 : (encP t x).cellOk = true := by simpa using this
      exact h2
    all_goals first
      | rfl
      | skip
    rename_i v
    show (constB v).cellOk = true
    unfold constB
    split
    · rfl
    · exact hu
  cases v with
  | d t x =>
    show ((AV.b (.pv (encP t x))).cells.all BV.cellOk) = true
    show ((cellsP t x).map BV.pv).all BV.cellOk = true
    rw [List.all_map]
    exact leaf_ok t x
  | agg vs =>
    show (vs.map encB).all BV.cellOk = true
    rw [List.all_map]
    simp only [V.okB, List.all_eq_true] at h ⊢
    exact fun u hu => hc u (h u hu)
  | tup vs => cases h
  | raw v =>
    show (AV.b (constB v)).cells.all BV.cellOk = true
    have h1 := hc (.raw v) h
    show (AV.b (constB v)).cells.all BV.cellOk = true
    unfold constB
    split
    · rfl
    · have h2 : v.oneCell' = true := h
      show ([PV.sc v].map BV.pv).all BV.cellOk = true
      simp [BV.cellOk, PV.cellOk, h2]
  | full t x => rfl
  | nil t => rfl
  | sl id => rfl
  | ptr id o => rfl
  | elt id i o => rfl
  | dp t x => rfl
  | clo f ids => rfl
  | fnD f cs => rfl
  | mp id => rfl
  | pel id off n t i => rfl
  | any => cases h
  | lit k t x => cases h
  | ifc => rfl
theorem data_ok {t : Ty} {v : V} {x : t.den} (h : data? t v = some x) : v.okB = true := by
  have hl : ∀ (u : Ty) (v : V) (y : u.den), u.ag = false → leaf? u v = some y → v.cellB = true := by
    intro u v y hu h
    cases v <;> simp only [leaf?] at h <;> try cases h
    · obtain ⟨_, rfl⟩ := cast?_enc h; simp [V.cellB, hu]
    · rfl
    · rfl
  have ha : ∀ (t : Ty) (l : List V) (x : t.den) (m : List V), asm t l = some (x, m) → ∃ l0, l = l0 ++ m ∧ l0.all V.cellB = true := by
    intro t
    have one : ∀ (t : Ty) (l : List V) (x : t.den) (m : List V), t.ag = false → (match l with
      | v :: l => match leaf? t v with
        | some x => some (x, l)
        | none => none
      | [] => none) = some (x, m) → ∃ l0, l = l0 ++ m ∧ l0.all V.cellB = true := by
      intro t l x m ht h
      split at h
      · rename_i v l'
        split at h
        · rename_i y h1
          simp only [Option.some.injEq, Prod.mk.injEq] at h
          obtain ⟨_, rfl⟩ := h
          exact ⟨[v], rfl, by simp [hl t v y ht h1]⟩
        · cases h
      · cases h
    induction t with
    | unit => intro l x m h; simp only [asm, Option.some.injEq, Prod.mk.injEq] at h; obtain ⟨_, rfl⟩ := h; exact ⟨[], rfl, rfl⟩
    | pair a b iha ihb =>
      intro l x m h
      simp only [asm] at h
      split at h
      · rename_i y l1 h1
        split at h
        · rename_i z l2 h2
          simp only [Option.some.injEq, Prod.mk.injEq] at h
          obtain ⟨_, rfl⟩ := h
          obtain ⟨p, rfl, hp⟩ := iha _ _ _ h1
          obtain ⟨q, rfl, hq⟩ := ihb _ _ _ h2
          exact ⟨p ++ q, by simp, by rw [List.all_append, hp, hq]; rfl⟩
        · cases h
      · cases h
    | rx =>
      intro l x m h
      unfold asm at h
      split at h
      · rename_i a b c e l'
        split at h
        · rename_i a' b' c' e' h1 h2 h3 h4
          simp only [Option.some.injEq, Prod.mk.injEq] at h
          obtain ⟨_, rfl⟩ := h
          refine ⟨[a, b, c, e], rfl, ?_⟩
          simp [hl _ a _ rfl h1, hl _ b _ rfl h2, hl _ c _ rfl h3, hl _ e _ rfl h4]
        · cases h
      · cases h
    | int k => intro l x m h; exact one (.int k) l x m rfl h
    | bool => intro l x m h; exact one .bool l x m rfl h
    | str => intro l x m h; exact one .str l x m rfl h
    | list t _ => intro l x m h; exact one (.list t) l x m rfl h
  cases v with
  | agg vs =>
    simp only [data?] at h
    split at h
    · split at h
      · rename_i y h1
        obtain ⟨l0, rfl, h2⟩ := ha t _ _ _ h1
        rw [List.append_nil]
        exact h2
      · cases h
    · cases h
  | d t x => rfl
  | nil t => rfl
  | full t x => rfl
  | _ => simp [data?, leaf?] at h
theorem pu_boxD {tid : TypeId} {t : Ty} {x : X} (hw : x.wf = true) (h : evOp O d (.boxD tid t x) s κ kp = some r) : Pu P s (.boxD tid x.er) d κ r := by
  simp only [evOp] at h
  split at h
  · cases h
  · rename_i v hne hx
    split at h
    · rename_i y hy
      refine ⟨_, ⟨_, get_er hw hx, _, data_enc hy, (okB_enc (data_ok hy)).1, fun q e => ?_, rfl⟩, h⟩
      cases v <;> try cases e
      · rename_i u z; exact hne u z rfl
      · rename_i v; simp [data?, leaf?] at hy
    · cases h
  · cases h
theorem pu_iface {tid : TypeId} {x : X} (hw : x.wf = true) (h : evOp O d (.iface tid x) s κ kp = some r) : Pu P s (.iface tid x.er) d κ r := by
  simp only [evOp] at h
  split at h
  · rename_i v hx; exact ⟨_, ⟨_, get_er hw hx, rfl⟩, h⟩
  · cases h
end
end Go.Ev
namespace Go.Ev
open Go Go.RowKit Go.Av
section
variable {R : Type} {P : Program} {O : Oracle} {d : Option Nat} {s : S} {κ kp : S → Option R} {r : R}
theorem spliceV_enc (cs : List V) (off : Nat) (vs : List V) : (spliceV cs off vs).map encB = splice (cs.map encB) off (vs.map encB) := by
  simp [spliceV, splice, List.map_take, List.map_drop]
theorem buildT_sound : ∀ (parts : List (Nat × Nat × X)) (cs : List V) (f : List V → Option R), parts.all (fun q => q.2.2.wf) = true → evOp.buildT s cs parts f = some r →
    ∃ ps cs', ((parts.map fun q => (q.1, q.2.1, q.2.2.er)).mapM fun q => ((enc s).get q.2.2).map fun a => (q.1, q.2.1, a)) = some ps ∧ (∀ q ∈ ps, q.2.2.ok = true ∧ q.2.2.cells.length = q.2.1 ∧ q.1 + q.2.1 ≤ cs.length) ∧
      cs'.map encB = ps.foldl (fun cs q => splice cs q.1 q.2.2.cells) (cs.map encB) ∧ f cs' = some r
  | [], cs, f, _, h => ⟨[], cs, rfl, fun q hq => (by cases hq), rfl, h⟩
  | (off, sz, x) :: l, cs, f, hw, h => by
    simp only [List.all_cons, Bool.and_eq_true] at hw
    simp only [evOp.buildT] at h
    split at h
    · rename_i v hx
      obtain ⟨h1, h2⟩ := bif_eq h
      simp only [Bool.and_eq_true] at h1
      have hsz := Nat.eq_of_beq_eq_true h1.1.1
      have hle := Nat.le_of_ble_eq_true h1.1.2
      obtain ⟨o1, o2⟩ := okB_enc h1.2
      obtain ⟨ps, cs', e1, e2, e3, e4⟩ := buildT_sound l _ f hw.2 h2
      have hl : (spliceV cs off (cellsV v)).length = cs.length := by
        simp only [spliceV, List.length_append, List.length_take, List.length_drop]
        omega
      refine ⟨(off, sz, encA v) :: ps, cs', ?_, fun q hq => ?_, ?_, e4⟩
      · rw [List.map_cons, List.mapM_cons]
        simp only [get_er hw.1 hx, e1]
        rfl
      · rcases List.mem_cons.1 hq with rfl | hq
        · exact ⟨o1, by show (encA v).cells.length = sz; rw [← o2, List.length_map, hsz], hle⟩
        · have := e2 q hq; rw [hl] at this; exact this
      · rw [e3, spliceV_enc, o2]; rfl
    · cases h
theorem pu_build {zero : List V} {parts : List (Nat × Nat × X)} (hw : zero.all V.konst = true ∧ parts.all (fun q => q.2.2.wf) = true) (h : evOp O d (.build zero parts) s κ kp = some r) :
    Pu P s (.build (zero.map rawV) (parts.map fun q => (q.1, q.2.1, q.2.2.er))) d κ r := by
  simp only [evOp] at h
  obtain ⟨ps, cs', e1, e2, e3, e4⟩ := buildT_sound parts zero _ hw.2 h
  have hz : (zero.map rawV).map (fun v => constB v) = zero.map encB := by
    rw [List.map_map]
    exact List.map_congr_left fun v hv => konst_enc (List.all_eq_true.1 hw.1 v hv)
  refine ⟨_, ⟨ps, e1, fun q hq => by rw [List.length_map]; exact e2 q hq, ?_⟩, e4⟩
  rw [hz, ← e3]; rfl
theorem listT_sound {t : Ty} : ∀ (parts : List X) (f : List t.den → Option R), parts.all X.wf = true → evOp.listT s t parts f = some r → ∃ xs : List t.den, (parts.map X.er).mapM (fun x => ((enc s).get x).bind AV.toPV) = some (xs.map (encP t)) ∧ xs.length = parts.length ∧ f xs = some r
  | [], f, _, h => ⟨[], rfl, rfl, h⟩
  | x :: l, f, hw, h => by
    simp only [List.all_cons, Bool.and_eq_true] at hw
    simp only [evOp.listT] at h
    split at h
    · rename_i v hx
      split at h
      · rename_i y hy
        obtain ⟨xs, h1, h2, h3⟩ := listT_sound l _ hw.2 h
        refine ⟨y :: xs, ?_, by simp [h2], h3⟩
        rw [List.map_cons, List.mapM_cons, h1]
        simp only [get_er hw.1 hx, Option.bind_some, data_enc hy]
        rfl
      · cases h
    · cases h
theorem elems_ok {t : Ty} (xs : List t.den) : ∀ p ∈ xs.map (encP t), p.cells.length = t.sz ∧ p.ok = true := fun p hp => by
  obtain ⟨x, _, rfl⟩ := List.mem_map.1 hp
  exact ⟨cellsP_len t x, enc_ok t x⟩
theorem pu_bslice {tid : TypeId} {t : Ty} {len : Nat} {parts : List X} (hw : parts.all X.wf = true) (h : evOp O d (.bslice false tid t len parts) s κ kp = some r) : Pu P s (.bslice false tid t.sz len (parts.map X.er)) d κ r := by
  simp only [evOp] at h
  obtain ⟨h1, h2⟩ := bif_eq h
  simp only [Bool.and_eq_true] at h1
  obtain ⟨xs, h3, h4, h5⟩ := listT_sound parts _ hw h2
  refine ⟨_, ⟨_, h3, ?_, Nat.le_of_ble_eq_true h1.1.2, Nat.le_of_ble_eq_true h1.2, elems_ok xs, .inl rfl⟩, h5⟩
  rw [List.length_map, h4]
  exact Nat.eq_of_beq_eq_true h1.1.1
theorem nils_enc {k : Av.K} : ∀ (vs : List V) (ps : List PV) (n : Nat), (vs.map encB).mapM BV.toPV = some ps → (∀ j, j < vs.length → (vs.getD j .any).isNil = (k.at (n + j)).isSome ∧ (vs.getD j .any).isRaw = false) →
    (vs.map encB).mapM BV.toPVn = some ((ps.zipIdx n).map fun (y, j) => if (k.at j).isSome then nilP else y)
  | [], ps, n, h, _ => by simp at h; subst h; rfl
  | v :: vs, ps, n, h, hk => by
    simp only [List.map_cons, List.mapM_cons, Option.bind_eq_bind, Option.pure_def, Option.bind_eq_some_iff, Option.some.injEq] at h
    obtain ⟨p, h1, ps', h2, rfl⟩ := h
    have ih := nils_enc vs ps' (n + 1) h2 fun j hj => by
      have := hk (j + 1) (by simpa using hj)
      simpa [show n + (j + 1) = n + 1 + j by omega] using this
    obtain ⟨h3, h4⟩ := hk 0 (by simp)
    simp only [List.getD_cons_zero, Nat.add_zero] at h3 h4
    rw [List.map_cons, List.mapM_cons, ih]
    have : (encB v).toPVn = some (if (k.at n).isSome then nilP else p) := by
      rw [← h3]
      cases v with
      | nil u => rfl
      | raw u => cases h4
      | _ => first
        | exact h1
        | cases h1
    rw [this]
    rfl
theorem nilOk_enc {k : Av.K} {t : Ty} {v : V} {y : t.den} (hd : data? t v = some y) (hn : nilOk k v = true) : (encA v).toPVn = some (encN k t y) := by
  simp only [nilOk, Bool.and_eq_true, List.all_eq_true, List.mem_range, beq_iff_eq, Bool.not_eq_true'] at hn
  obtain ⟨h1, h2⟩ := hn
  have he := data_enc hd
  cases v with
  | nil u =>
    have h3 := (h2 0 (by simp [cellsV])).1
    have h4 : (k.at 0).isSome = true := by rw [← h3]; rfl
    have h5 : encP t y = .list 0 [] := by
      have : (encA (.nil u)).toPV = some (.list 0 []) := rfl
      rw [this] at he; exact (Option.some.inj he).symm
    show some nilP = some (encN k t y)
    unfold encN
    rw [h5]
    simp [h4]
  | agg vs =>
    have he' : ((vs.map encB).mapM BV.toPV).map PV.agg = some (encP t y) := he
    obtain ⟨ps, h3, h4⟩ := Option.map_eq_some_iff.1 he'
    show ((vs.map encB).mapM BV.toPVn).map PV.agg = _
    rw [nils_enc (k := k) vs ps 0 h3 fun j hj => by
      have := h2 j hj
      rw [Nat.zero_add]; exact this]
    simp only [Option.map_some, encN, ← h4, List.mapIdx_eq_zipIdx_map]
  | _ => cases h1
theorem listN_sound {k : Av.K} {t : Ty} : ∀ (parts : List X) (f : List t.den → Option R), parts.all X.wf = true → evOp.listN s k t parts f = some r → ∃ xs : List t.den, (parts.map X.er).mapM (fun x => ((enc s).get x).bind AV.toPVn) = some (xs.map (encN k t)) ∧ xs.length = parts.length ∧ f xs = some r
  | [], f, _, h => ⟨[], rfl, rfl, h⟩
  | x :: l, f, hw, h => by
    simp only [List.all_cons, Bool.and_eq_true] at hw
    simp only [evOp.listN] at h
    split at h
    · rename_i v hx
      split at h
      · rename_i y hy
        obtain ⟨hn, h⟩ := bif_eq h
        obtain ⟨xs, h1, h2, h3⟩ := listN_sound l _ hw.2 h
        refine ⟨y :: xs, ?_, by simp [h2], h3⟩
        rw [List.map_cons, List.mapM_cons, h1]
        simp only [get_er hw.1 hx, Option.bind_some, nilOk_enc hy hn]
        rfl
      · cases h
    · cases h
theorem encN_cells (k : Av.K) (t : Ty) (x : t.den) : (encN k t x).cells = (encP t x).cells.mapIdx fun j y => if (k.at j).isSome then nilP else y := by
  unfold encN
  cases h : encP t x with
  | agg cs => rfl
  | _ =>
    show (if (k.at 0).isSome then nilP else _).cells = [if (k.at 0).isSome then nilP else _]
    split <;> rfl
theorem elemsN_ok {k : Av.K} {t : Ty} (xs : List t.den) : ∀ p ∈ xs.map (encN k t), p.cells.length = t.sz ∧ p.ok = true := fun p hp => by
  obtain ⟨x, _, rfl⟩ := List.mem_map.1 hp
  have hc := encN_cells k t x
  refine ⟨by rw [hc]; simp [show (encP t x).cells.length = t.sz from cellsP_len t x], ?_⟩
  show (encN k t x).cells.all PV.cellOk = true
  rw [hc]
  have := enc_ok t x
  simp only [PV.ok, List.all_eq_true] at this ⊢
  intro y hy
  rw [List.mem_mapIdx] at hy
  obtain ⟨i, hi, rfl⟩ := hy
  split
  · rfl
  · exact this _ (List.getElem_mem hi)
theorem pu_bsliceN {tid : TypeId} {k : Av.K} {t : Ty} {len : Nat} {parts : List X} (hw : parts.all X.wf = true) (h : evOp O d (.bsliceN tid k t len parts) s κ kp = some r) : Pu P s (.bsliceN tid t.sz len (parts.map X.er)) d κ r := by
  simp only [evOp] at h
  obtain ⟨h1, h2⟩ := bif_eq h
  simp only [Bool.and_eq_true] at h1
  obtain ⟨xs, h3, h4, h5⟩ := listN_sound parts _ hw h2
  refine ⟨_, ⟨_, h3, ?_, Nat.le_of_ble_eq_true h1.1.2, Nat.le_of_ble_eq_true h1.2, elemsN_ok xs, rfl⟩, h5⟩
  rw [List.length_map, h4]
  exact Nat.eq_of_beq_eq_true h1.1.1
theorem pu_bsliceF {tid : TypeId} {t : Ty} {len : Nat} {parts : List X} (hw : parts.all X.wf = true) (h : evOp O d (.bsliceF tid t len parts) s κ kp = some r) : Pu P s (.bslice false tid t.sz len (parts.map X.er)) d κ r := by
  simp only [evOp] at h
  obtain ⟨h1, h2⟩ := bif_eq h
  simp only [Bool.and_eq_true] at h1
  obtain ⟨xs, h3, h4, h5⟩ := listT_sound parts _ hw h2
  refine ⟨_, ⟨_, h3, ?_, Nat.le_of_ble_eq_true h1.1.2, Nat.le_of_ble_eq_true h1.2, elems_ok xs, .inr rfl⟩, h5⟩
  rw [List.length_map, h4]
  exact Nat.eq_of_beq_eq_true h1.1.1
theorem pu_appD {tid : TypeId} {t : Ty} {bytes : Nat} {x y : X} (hw : x.wf = true ∧ y.wf = true) (h : evOp O d (.appD tid t bytes x y) s κ kp = some r) : Pu P s (.appD tid t.sz bytes x.er y.er) d κ r := by
  simp only [evOp] at h
  obtain ⟨vy, ys, hy, h1, h2⟩ := listOf_sound h
  split at h1
  · rename_i u hx
    obtain ⟨h3, h4⟩ := guardB_eq h1
    refine ⟨.d (.list t) ys, ⟨_, get_er hw.1 hx, _, get_er hw.2 hy, h2 _ ⟨fun p hp => (elems_ok ys p hp).2, [], .inl ⟨rfl, rfl⟩, by rw [List.length_map]; simpa using h3, rfl⟩⟩, h4⟩
  · rename_i u xs hx
    split at h1
    · rename_i zs hz
      obtain ⟨e2, e3⟩ := cast?_some hz
      have e4 := Ty.list.inj e2
      subst e4
      have e5 : zs = xs := e3
      subst e5
      obtain ⟨h3, h4⟩ := guardB_eq h1
      refine ⟨.d (.list u) (zs ++ ys), ⟨_, get_er hw.1 hx, _, get_er hw.2 hy, h2 _ ⟨fun p hp => (elems_ok ys p hp).2, zs.map (encP u), .inr rfl, by rw [List.length_map, List.length_map]; simpa using h3, ?_⟩⟩, h4⟩
      show AV.p _ = AV.p _
      rw [← List.map_append]; rfl
    · cases h1
  · cases h1
theorem pu_b2s {x : X} (hw : x.wf = true) (h : evOp O d (.b2s x) s κ kp = some r) : Pu P s (.b2s x.er) d κ r := by
  simp only [evOp] at h
  obtain ⟨v, xs, hx, hf, hl⟩ := listOf_sound h
  have hb : ∀ l : List Int, bytesOf (l.map (encP (.int .u8))) = some l := by
    intro l
    induction l with
    | nil => rfl
    | cons x l ih =>
      show (bytesOf (l.map (encP (.int .u8)))).map (x :: ·) = _
      rw [ih]; rfl
  refine ⟨_, ⟨_, get_er hw hx, hl _ ⟨_, hb xs, ?_⟩⟩, hf⟩
  rfl
theorem capsOf_sound : ∀ (caps : List X) (ids : List Nat), caps.all X.wf = true → evOp.capsOf s caps = some ids → (caps.map X.er).mapM (enc s).get = some (ids.map fun i => .b (.ptr i 0))
  | [], ids, _, h => by cases h; rfl
  | x :: l, ids, hw, h => by
    simp only [List.all_cons, Bool.and_eq_true] at hw
    simp only [evOp.capsOf] at h
    split at h
    · rename_i i hx
      split at h
      · rename_i is hl
        cases h
        rw [List.map_cons, List.mapM_cons, get_er hw.1 hx, capsOf_sound l is hw.2 hl]
        rfl
      · cases h
    · cases h
theorem capsD_sound : ∀ (caps : List X) (cs : List ((t : Ty) × t.den)), caps.all X.wf = true → evOp.capsD s caps = some cs → (caps.map X.er).mapM (enc s).get = some ((cs.map fun c => PV.pto (encP c.1 c.2)).map .p)
  | [], ids, _, h => by cases h; rfl
  | x :: l, ids, hw, h => by
    simp only [List.all_cons, Bool.and_eq_true] at hw
    simp only [evOp.capsD] at h
    split at h
    · rename_i i hx
      split at h
      · rename_i is hl
        cases h
        rw [List.map_cons, List.mapM_cons, get_er hw.1 hx, capsD_sound l is hw.2 hl]
        rfl
      · cases h
    · cases h
theorem pu_mkfn {f : FuncId} {caps : List X} (hw : caps.all X.wf = true) (h : evOp O d (.mkfn f caps) s κ kp = some r) : Pu P s (.mkfn f (caps.map X.er)) d κ r := by
  simp only [evOp] at h
  split at h
  · rename_i ids hids
    exact ⟨_, ⟨_, capsOf_sound caps ids hw hids, .inl ⟨ids, rfl, rfl⟩⟩, h⟩
  · split at h
    · rename_i cs hcs
      exact ⟨_, ⟨_, capsD_sound caps cs hw hcs, .inr ⟨_, rfl, rfl⟩⟩, h⟩
    · cases h
theorem intsOf_sound {k : IntKind} : ∀ (ys : List X) (f : List Int → Option R), ys.all X.wf = true → evOp.intsOf s k ys f = some r → ∃ ns : List Int, (ys.map X.er).mapM (enc s).get = some (ns.map fun n => .v (.int k n)) ∧ f ns = some r
  | [], f, _, h => ⟨[], rfl, h⟩
  | x :: l, f, hw, h => by
    simp only [List.all_cons, Bool.and_eq_true] at hw
    simp only [evOp.intsOf] at h
    split at h
    · rename_i k' n hx
      obtain ⟨h1, h2⟩ := bif_eq h
      have hk : k' = k := by simpa using h1
      subst hk
      obtain ⟨ns, h3, h4⟩ := intsOf_sound l _ hw.2 h2
      refine ⟨n :: ns, ?_, h4⟩
      rw [List.map_cons, List.mapM_cons, get_er hw.1 hx, h3]
      rfl
    · cases h
theorem pu_mnmx {mx : Bool} {k : IntKind} {x : X} {ys : List X} (hw : x.wf = true ∧ ys.all X.wf = true) (h : evOp O d (.mnmx mx k x ys) s κ kp = some r) : Pu P s (.mnmx mx k x.er (ys.map X.er)) d κ r := by
  simp only [evOp] at h
  split at h
  · rename_i k' n hx
    obtain ⟨h0, h1⟩ := bif_eq h
    have e : k' = k := by simpa using h0
    subst e
    obtain ⟨ns, h2, h3⟩ := intsOf_sound ys _ hw.2 h1
    refine ⟨_, ⟨_, get_er hw.1 hx, _, rfl, _, _, rfl, _, h2, ns, rfl, rfl, ?_⟩, h3⟩
    have : (fun (a b : Int) => if mx = true then max a b else min a b) = fun a b => bif mx then max a b else min a b := by
      funext a b; cases mx <;> rfl
    rw [this]; rfl
  · cases h
theorem eqD_eq : ∀ (t : Ty) (x y : t.den), t.eqOk = true → eqD t x y = true → x = y
  | .int _, x, y, _, h => by simpa [eqD] using h
  | .bool, x, y, _, h => by simpa [eqD] using h
  | .str, x, y, _, h => by simpa [eqD] using h
  | .unit, _, _, _, _ => rfl
  | .pair a b, x, y, h, h2 => by
    simp only [Ty.eqOk, Bool.and_eq_true] at h
    simp only [eqD, Bool.and_eq_true] at h2
    exact Prod.ext (eqD_eq a x.1 y.1 h.1 h2.1) (eqD_eq b x.2 y.2 h.2 h2.2)
theorem bs_eq (a b : List UInt8) : ((⟨a.toArray⟩ : ByteArray) == ⟨b.toArray⟩) = (a == b) :=
  (show _ = (a.toArray == b.toArray) from rfl).trans (by simp)
theorem fit_eq (P : Program) : ∀ (d : Nat) (t : TypeId) (u : Ty), fitT P d t u = true → ∀ x y : u.den, eqP P d t (encP u x) (encP u y) = some (eqD u x y) ∧ keyP P d t (encP u x) = true := by
  intro d
  induction d with
  | zero => intro t u h; simp [fitT] at h
  | succ d ih =>
    intro t u h x y
    unfold fitT at h
    have fs : ∀ (l : List Field) (off : Nat) (u : Ty) (x y : u.den) (xs ys : List PV), fsT P (fitT P d) l off u = true → off ≤ xs.length → xs.drop off = cellsP u x → off ≤ ys.length → ys.drop off = cellsP u y →
        eqP.eqFs P d l xs ys = some (eqD u x y) ∧ (l.all fun f => f.name != "_" && (match P.info? f.type with
          | some i => (P.underlying f.type).isSome && decide (f.offset + i.size ≤ xs.length) && (aggT P f.type || decide (i.size = 1)) && keyP P d f.type ((PV.agg xs).sub f.offset i.size (aggT P f.type))
          | none => false)) = true := by
      intro l
      induction l with
      | nil =>
        intro off u x y xs ys h _ _ _ _
        cases u <;> simp [fsT] at h
        exact ⟨by unfold eqP.eqFs; rfl, rfl⟩
      | cons f l ihl =>
        intro off u x y xs ys h hle1 hd1 hle2 hd2
        cases u <;> try (simp [fsT] at h; done)
        rename_i a b
        simp only [fsT, Bool.and_eq_true] at h
        obtain ⟨⟨⟨⟨hn, ho⟩, hi⟩, hf⟩, hr⟩ := h
        have ho := Nat.eq_of_beq_eq_true ho
        cases hin : P.info? f.type with
        | none => rw [hin] at hi; cases hi
        | some i =>
          rw [hin] at hi
          simp only [Bool.and_eq_true] at hi
          obtain ⟨⟨hsz, hu⟩, hag⟩ := hi
          have hsz := Nat.eq_of_beq_eq_true hsz
          have hag : aggT P f.type = a.ag := by simpa using hag
          have hname : f.name ≠ "_" := by simpa using hn
          have cut : ∀ (z : (Ty.pair a b).den) (zs : List PV), off ≤ zs.length → zs.drop off = cellsP (.pair a b) z → (PV.agg zs).sub f.offset i.size (aggT P f.type) = encP a z.1 ∧ f.offset + i.size ≤ zs.length ∧ zs.drop (off + a.sz) = cellsP b z.2 := by
            intro z zs hle hd
            have hc : cellsP (.pair a b) z = cellsP a z.1 ++ cellsP b z.2 := rfl
            rw [hc] at hd
            have hl := congrArg List.length hd
            simp only [List.length_drop, List.length_append, cellsP_len] at hl
            refine ⟨?_, by omega, ?_⟩
            · rw [ho, hsz, hag]
              refine sub_of ?_ ?_
              · show (zs.drop off).take a.sz = _
                rw [hd, List.take_append_of_le_length (by rw [cellsP_len]; exact Nat.le_refl _), List.take_of_length_le (by rw [cellsP_len]; exact Nat.le_refl _)]
              · show off + a.sz ≤ zs.length
                omega
            · rw [← List.drop_drop, hd, List.drop_append_of_le_length (by rw [cellsP_len]; exact Nat.le_refl _), List.drop_of_length_le (by rw [cellsP_len]; exact Nat.le_refl _), List.nil_append]
          obtain ⟨c1, c2, c3⟩ := cut x xs hle1 hd1
          obtain ⟨c4, c5, c6⟩ := cut y ys hle2 hd2
          obtain ⟨e1, k1⟩ := ih f.type a hf x.1 y.1
          obtain ⟨e2, k2⟩ := ihl (off + a.sz) b x.2 y.2 xs ys hr (by omega) c3 (by omega) c6
          have hone : aggT P f.type = false → i.size = 1 := fun h => by rw [hsz]; exact sz_one (by rw [← hag, h])
          refine ⟨?_, ?_⟩
          · unfold eqP.eqFs
            rw [if_neg hname, hin]
            simp only [Option.bind_some]
            rw [if_neg (by
              rintro (h | h | h | h)
              · rw [Option.isNone_iff_eq_none] at h; rw [h] at hu; cases hu
              · omega
              · omega
              · exact h.2 (hone h.1)), c1, c4, e1]
            simp only [Option.bind_some, eqD]
            cases eqD a x.1 y.1
            · rfl
            · simp only [if_true, Bool.true_and]; exact e2
          · rw [List.all_cons, k2, hin]
            simp only [c1, k1, hu, Bool.and_true, Bool.true_and]
            have h1 : (f.name != "_") = true := hn
            have h2 : decide (f.offset + i.size ≤ xs.length) = true := by simpa using c2
            have h3 : (aggT P f.type || decide (i.size = 1)) = true := by
              cases h : aggT P f.type
              · simp [hone h]
              · rfl
            rw [h1, h2, h3]; rfl
    have st : ∀ fl, P.underlying t = some (.struct fl) → (!P.stoodInHeld t && fsT P (fitT P d) fl.toList 0 u) = true → eqP P (d + 1) t (encP u x) (encP u y) = some (eqD u x y) ∧ keyP P (d + 1) t (encP u x) = true := by
      intro fl hu h
      simp only [Bool.and_eq_true] at h
      have hst : P.stoodInHeld t = false := by simpa using h.1
      have hag : u.ag = true := by
        cases hl : fl.toList with
        | nil => rw [hl] at h; cases u <;> simp [fsT] at h; rfl
        | cons f l => rw [hl] at h; cases u <;> simp [fsT] at h; rfl
      obtain ⟨g1, g2⟩ := fs fl.toList 0 u x y (cellsP u x) (cellsP u y) h.2 (Nat.zero_le _) rfl (Nat.zero_le _) rfl
      rw [encP_agg x hag, encP_agg y hag]
      refine ⟨?_, ?_⟩
      · unfold eqP; rw [hu]
        simp only [hst]
        exact g1
      · unfold keyP; rw [hu]
        exact g2
    split at h
    · rename_i hu; exact ⟨by unfold eqP; rw [hu]; rfl, by unfold keyP; rw [hu]; rfl⟩
    · rename_i k k' hu
      refine ⟨?_, by unfold keyP; rw [hu]; rfl⟩
      unfold eqP; rw [hu]
      show (if k' = k' then some (_ == _) else none) = _
      rw [if_pos rfl]; rfl
    · rename_i hu
      refine ⟨?_, by unfold keyP; rw [hu]; rfl⟩
      unfold eqP; rw [hu]
      show some (_ == _) = _
      rw [bs_eq]; rfl
    · exact st _ ‹_› h
    · cases h
theorem pu_eqT {neg : Bool} {tid : TypeId} {t : Ty} {x y : X} (hw : x.wf = true ∧ y.wf = true ∧ fitT P 64 tid t = true) (h : evOp O d (.eqT neg tid t x y) s κ kp = some r) : Pu P s (.eqT neg tid x.er y.er) d κ r := by
  simp only [evOp] at h
  split at h
  · rename_i v u hx hy
    split at h
    · rename_i a b ha hb
      obtain ⟨_, h2⟩ := bif_eq h
      refine ⟨_, ⟨_, get_er hw.1 hx, _, get_er hw.2.1 hy, _, data_enc ha, _, data_enc hb, _, (fit_eq P 64 tid t hw.2.2 a b).1, ?_⟩, h2⟩
      rfl
    · cases h
  · cases h
theorem find_enc {k : TypeId} {a b : Ty} (hf : fitT P 64 k a = true) (y : a.den) : ∀ (kvs : List (a.den × b.den)) (i : Nat), (∀ kv ∈ kvs.map (fun p => (encP a p.1, encP b p.2)), (eqP P 64 k (encP a y) kv.1).isSome = true) ∧
    ((kvGet a b kvs y = none ∧ findP P k (encP a y) (kvs.map fun p => (encP a p.1, encP b p.2)) i = some none) ∨
     ∃ j v k', kvGet a b kvs y = some v ∧ kvs[j]? = some (k', v) ∧ eqD a y k' = true ∧ (∀ i' kv, i' < j → kvs[i']? = some kv → eqD a y kv.1 = false) ∧ findP P k (encP a y) (kvs.map fun p => (encP a p.1, encP b p.2)) i = some (some (i + j, encP b v)))
  | [], i => ⟨fun kv h => (by cases h), .inl ⟨rfl, rfl⟩⟩
  | (k', v) :: l, i => by
    obtain ⟨h1, h2⟩ := find_enc hf y l (i + 1)
    have he := (fit_eq P 64 k a hf y k').1
    refine ⟨fun kv h => ?_, ?_⟩
    · rcases List.mem_cons.1 h with rfl | h
      · simp only [he]; rfl
      · exact h1 kv h
    · have hstep : findP P k (encP a y) (((k', v) :: l).map fun p => (encP a p.1, encP b p.2)) i = if eqD a y k' = true then some (some (i, encP b v)) else findP P k (encP a y) (l.map fun p => (encP a p.1, encP b p.2)) (i + 1) := by
        show (eqP P 64 k (encP a y) (encP a k')).bind _ = _
        rw [he]; rfl
      cases hb : eqD a y k'
      · rw [hb] at hstep
        simp only [Bool.false_eq_true, if_false] at hstep
        have hg : kvGet a b ((k', v) :: l) y = kvGet a b l y := by simp [kvGet, hb]
        rcases h2 with ⟨h3, h4⟩ | ⟨j, u, k2, h3, h4, h5, h7, h6⟩
        · exact .inl ⟨by rw [hg, h3], by rw [hstep, h4]⟩
        · refine .inr ⟨j + 1, u, k2, by rw [hg, h3], by simpa using h4, h5, fun i' kv hi' hkv => ?_, by rw [hstep, h6]; congr 2; congr 1; omega⟩
          cases i' with
          | zero => simp at hkv; subst hkv; exact hb
          | succ i' => exact h7 i' kv (by omega) (by simpa using hkv)
      · rw [hb] at hstep
        refine .inr ⟨0, v, k', by simp [kvGet, hb], rfl, hb, fun i' kv hi' => absurd hi' (by omega), by rw [hstep]; rfl⟩
theorem key_some {k : TypeId} {a : Ty} (hf : fitT P 64 k a = true) : (P.underlying k).isSome = true := by
  unfold fitT at hf
  split at hf <;> first | (rename_i h; rw [h]; rfl) | skip
  all_goals first
    | (simp_all; done)
    | cases hf
theorem sc_enc {b : Ty} (h : b.sc = true) : encP b b.zero = .sc (zeroVal b) := by cases b <;> simp [Ty.sc] at h <;> rfl
theorem pu_lookup {k e : TypeId} {ok : Bool} {a b : Ty} {m x : X} (hw : m.wf = true ∧ x.wf = true ∧ fitT P 64 k a = true ∧ b.sc = true) (h : evOp O d (.lookup k e ok a b m x) s κ kp = some r) : Pu P s (.lookup k e ok (zeroVal b) m.er x.er) d κ r := by
  simp only [evOp] at h
  split at h
  · rename_i id v hm hx
    split at h
    · rename_i k' e' a' b' kvs y ho hy
      split at h
      · rename_i kvs2 hkv
        obtain ⟨h1, h2⟩ := bif_eq h
        simp only [Bool.and_eq_true] at h1
        have e1 := Nat.eq_of_beq_eq_true h1.1.1
        have e2 := Nat.eq_of_beq_eq_true h1.1.2
        obtain ⟨e3, e4⟩ := cast?_some hkv
        have e5 := Ty.list.inj e3
        injection e5 with e6 e7
        clear h h1
        subst e1; subst e2; subst e6; subst e7
        have e8 : kvs2 = kvs := e4
        subst e8
        obtain ⟨g1, g2⟩ := find_enc (P := P) (b := b') hw.2.2.1 y kvs2 0
        have hrd : ∀ (K : AV → Prop) (ok : Bool), K (match ok with
            | true => .tup [.pv (encP b' ((kvGet a' b' kvs2 y).getD b'.zero)), .pv (.sc (.bool (kvGet a' b' kvs2 y).isSome))]
            | false => .p (encP b' ((kvGet a' b' kvs2 y).getD b'.zero))) → sev P (enc s) (.lookup k e ok (zeroVal b') m.er x.er) K := by
          intro K ok hK
          refine ⟨_, get_er hw.1 hm, _, get_er hw.2.1 hx, id, _, rfl, by rw [hp_get, ho]; rfl, _, data_enc hy, (fit_eq P 64 k a' hw.2.2.1 y y).2, key_some hw.2.2.1, g1, ?_⟩
          rcases g2 with ⟨g3, g4⟩ | ⟨j, v, k', g3, g4, g5, g7, g6⟩
          · refine ⟨_, g4, ?_⟩
            rw [g3] at hK
            simp only [Option.getD_none, sc_enc hw.2.2.2] at hK
            exact hK
          · refine ⟨_, g6, ?_⟩
            rw [g3] at hK
            exact hK
        cases ok with
        | true => exact ⟨_, hrd _ true rfl, h2⟩
        | false => exact ⟨_, hrd _ false rfl, h2⟩
      · cases h
    · cases h
  · cases h
end
end Go.Ev
namespace Go.Ev
open Go Go.RowKit Go.Av
theorem beq_eq (a b : Nat) : Nat.beq a b = decide (a = b) := by
  cases h : Nat.beq a b
  · exact (decide_eq_false fun e => by rw [e, Nat.beq_refl] at h; cases h).symm
  · exact (decide_eq_true (Nat.eq_of_beq_eq_true h)).symm
theorem inL_eq (l : List Nat) (x : Nat) : inL l x = l.contains x := by
  induction l with
  | nil => rfl
  | cons y l ih =>
    simp only [inL, List.any_cons, List.contains_cons] at ih ⊢
    rw [ih]
    congr 1
    rw [beq_eq]
    by_cases h : x = y <;> simp [h]
theorem inL_mem {l : List Nat} {x : Nat} : inL l x = true ↔ x ∈ l := by rw [inL_eq, List.contains_iff_mem]
theorem allIn_mem {l m : List Nat} : allIn l m = true ↔ ∀ i ∈ m, i ∈ l := by simp only [allIn, List.all_eq_true, inL_mem]
theorem backI_eq : backI = backId := by
  funext B n k
  unfold backI backId
  by_cases h : k < B.length
  · rw [if_pos h, Nat.ble_eq_true_of_le h]; rfl
  · rw [if_neg h]
    have : Nat.ble (k + 1) B.length = false := by
      cases hb : Nat.ble (k + 1) B.length
      · rfl
      · exact absurd (Nat.le_of_ble_eq_true hb) h
    rw [this]; rfl
theorem constB_ren (v : Value) (ρ : Nat → Nat) : (constB v).ren ρ = constB v := by unfold constB; split <;> rfl
theorem constB_ids (v : Value) : (constB v).ids = [] := by unfold constB; split <;> rfl
theorem constB_kill (v : Value) (i : Nat) : (constB v).kill i = constB v := by unfold constB; split <;> rfl
theorem constB_killB (v : Value) (B : List Nat) : (constB v).killB B = constB v := by unfold constB; split <;> rfl
theorem encB_ren (ρ : Nat → Nat) (v : V) : encB (v.ren ρ) = (encB v).ren ρ := by
  cases v <;> first | rfl | exact (constB_ren _ ρ).symm
theorem encB_ids (v : V) : v.ids1 = (encB v).ids := by
  cases v <;> first | rfl | exact (constB_ids _).symm
theorem encB_kill (id : Nat) (v : V) : encB (v.kill1 id) = (encB v).kill id := by
  cases v <;> first | rfl | exact (constB_kill _ id).symm | skip
  · rename_i k
    show encB (bif Nat.beq k id then .any else .sl k) = if k = id then _ else _
    rw [beq_eq]
    by_cases h : k = id <;> simp [h, encB]
  · rename_i k i o
    show encB (bif Nat.beq k id then .any else .elt k i o) = if k = id then _ else _
    rw [beq_eq]
    by_cases h : k = id <;> simp [h, encB]
theorem encB_killB (B : List Nat) (v : V) : encB (killB1 B v) = (encB v).killB B := by
  cases v <;> first | rfl | exact (constB_killB _ B).symm | skip
  · rename_i k
    show encB (bif inL B k then .any else .sl k) = if B.contains k = true then _ else _
    rw [inL_eq]
    cases h : B.contains k <;> simp [encB]
  · rename_i k i o
    show encB (bif inL B k then .any else .elt k i o) = if B.contains k = true then _ else _
    rw [inL_eq]
    cases h : B.contains k <;> simp [encB]
theorem encA_b {v : V} (h : v.isA = false) : encA v = .b (encB v) := by cases v <;> first | rfl | cases h
theorem mapV_b {g : V → V} {v : V} (h : v.isA = false) : mapV g v = g v := by cases v <;> first | rfl | cases h
theorem encA_map {g : V → V} {G : BV → BV} (hg : ∀ v, encB (g v) = G (encB v)) (ha : ∀ v, v.isA = false → (g v).isA = false) (v : V) :
    encA (mapV g v) = (match encA v with | .b x => .b (G x) | .agg xs => .agg (xs.map G) | .tup xs => .tup (xs.map G)) := by
  have hm : ∀ vs : List V, (vs.map g).map encB = (vs.map encB).map G := fun vs => by
    rw [List.map_map, List.map_map]
    exact List.map_congr_left fun v _ => hg v
  cases hv : v.isA
  · rw [mapV_b hv, encA_b hv, encA_b (ha v hv), hg]
  · cases v with
    | agg vs => show AV.agg _ = AV.agg _; rw [hm]
    | tup vs => show AV.tup _ = AV.tup _; rw [hm]
    | _ => cases hv
theorem encA_ren (ρ : Nat → Nat) (v : V) : encA (mapV (V.ren ρ) v) = (encA v).ren ρ := by
  rw [encA_map (G := BV.ren ρ) (encB_ren ρ) fun v h => by cases v <;> first | rfl | cases h]
  cases encA v <;> rfl
theorem encA_kill (id : Nat) (v : V) : encA (mapV (V.kill1 id) v) = (encA v).kill id := by
  rw [encA_map (G := BV.kill id) (encB_kill id) fun v h => by
    cases v <;> first | rfl | (simp only [V.kill1]; cases Nat.beq _ id <;> rfl) | cases h]
  cases encA v <;> rfl
theorem encA_killB (B : List Nat) (v : V) : encA (mapV (killB1 B) v) = (encA v).killB B := by
  rw [encA_map (G := BV.killB B) (encB_killB B) fun v h => by
    cases v <;> first | rfl | (simp only [killB1]; cases inL B _ <;> rfl) | cases h]
  cases encA v <;> rfl
theorem encA_ids (v : V) : v.ids = (encA v).ids := by
  have hm : ∀ vs : List V, vs.flatMap V.ids1 = (vs.map encB).flatMap BV.ids := fun vs => by
    induction vs with
    | nil => rfl
    | cons v vs ih => simp only [List.flatMap_cons, List.map_cons, ih, encB_ids]
  cases hv : v.isA
  · rw [encA_b hv]
    have : v.ids = v.ids1 := by cases v <;> first | rfl | cases hv
    rw [this]
    exact encB_ids v
  · cases v with
    | agg vs => exact hm vs
    | tup vs => exact hm vs
    | _ => cases hv
theorem encO_ren (ρ : Nat → Nat) (o : Ob) : encO (mapO (V.ren ρ) o) = (encO o).ren ρ := by
  cases o <;> first | rfl | skip
  rotate_left
  · rename_i hole
    cases hole with
    | none => rfl
    | some q => obtain ⟨i, j, v⟩ := q; show AObj.tree _ _ _ _ (some (_, _, encB _)) = AObj.tree _ _ _ _ (some (_, _, _)); rw [encB_ren ρ v]
  show AObj.box _ _ = AObj.box _ _
  rw [List.map_map, List.map_map]
  congr 1
  exact List.map_congr_left fun v _ => encB_ren ρ v
theorem encO_kill (id : Nat) (o : Ob) : encO (mapO (V.kill1 id) o) = (encO o).kill id := by
  cases o <;> first | rfl | skip
  rotate_left
  · rename_i hole
    cases hole with
    | none => rfl
    | some q => obtain ⟨i, j, v⟩ := q; show AObj.tree _ _ _ _ (some (_, _, encB _)) = AObj.tree _ _ _ _ (some (_, _, _)); rw [encB_kill id v]
  show AObj.box _ _ = AObj.box _ _
  rw [List.map_map, List.map_map]
  congr 1
  exact List.map_congr_left fun v _ => encB_kill id v
theorem encO_killB (B : List Nat) (o : Ob) : encO (mapO (killB1 B) o) = (encO o).killB B := by
  cases o <;> first | rfl | skip
  rotate_left
  · rename_i hole
    cases hole with
    | none => rfl
    | some q => obtain ⟨i, j, v⟩ := q; show AObj.tree _ _ _ _ (some (_, _, encB _)) = AObj.tree _ _ _ _ (some (_, _, _)); rw [encB_killB B v]
  show AObj.box _ _ = AObj.box _ _
  rw [List.map_map, List.map_map]
  congr 1
  exact List.map_congr_left fun v _ => encB_killB B v
theorem encO_ids (o : Ob) : o.ids = (encO o).ids := by
  cases o <;> first | rfl | skip
  rotate_left
  · rename_i hole
    cases hole with
    | none => rfl
    | some q => obtain ⟨i, j, v⟩ := q; exact encB_ids v
  show List.flatMap _ _ = List.flatMap _ (List.map _ _)
  rw [List.flatMap_map]
  congr 1
  funext v
  exact encB_ids v
theorem enc_moved (s : S) (id : Nat) (o : Ob) : enc (s.moved id o) = (enc s).moved id (encO o) := by
  simp only [enc, S.moved, St.moved, setAt_eq, List.map_map, List.map_set]
  congr 1
  · exact List.map_congr_left fun x _ => by simp [encA_kill]
  · congr 1
    exact List.map_congr_left fun o _ => encO_kill id o
theorem backH_enc (B : List Nat) (os : List Ob) (n : Nat) : ∀ (l : List Ob) (i : Nat), (backH B os n i l).map encO = (l.map encO).mapIdx (fun j o => if B.contains (i + j) then (((os.map encO).getD (B.idxOf (i + j)) .gone).ren (backId B n)) else o.killB B)
  | [], _ => rfl
  | o :: l, i => by
    simp only [backH, List.map_cons, List.mapIdx_cons, Nat.add_zero]
    rw [backH_enc B os n l (i + 1)]
    congr 1
    · rw [inL_eq]
      cases h : B.contains i
      · simp [encO_killB]
      · simp only [cond_true, if_true, encO_ren, backI_eq, idx]
        congr 1
        simp only [List.getD, List.getElem?_map]
        cases os[B.idxOf i]? <;> rfl
    · congr 1
      funext j o
      rw [show i + 1 + j = i + (j + 1) by omega]
theorem enc_back (s : S) (B : List Nat) (os : List Ob) : enc (s.back B os) = (enc s).back B (os.map encO) := by
  simp only [enc, S.back, St.back, backHp]
  congr 1
  · rw [List.map_map, List.map_map]
    exact List.map_congr_left fun x _ => by simp [encA_killB]
  · rw [List.map_append, backH_enc]
    congr 1
    · simp only [Nat.zero_add, List.length_map]
    · rw [← List.map_drop, List.map_map, List.map_map]
      exact List.map_congr_left fun o _ => by simp [encO_ren, backI_eq]
section
variable {P : Program} {s : S}
theorem obsOf_sound : ∀ (B : List Nat) (os : List Ob), obsOf s B = some os → B.mapM ((enc s).hp[·]?) = some (os.map encO)
  | [], os, h => by cases h; rfl
  | i :: B, os, h => by
    simp only [obsOf] at h
    split at h
    · rename_i o ho
      split at h
      · rename_i l hl
        cases h
        rw [List.mapM_cons, obsOf_sound B l hl, hp_get, ho]
        rfl
      · cases h
    · cases h
theorem mapM_none {α β : Type} {f : α → Option β} {l : List α} {x : α} (hx : x ∈ l) (h : f x = none) : l.mapM f = none := by
  induction l with
  | nil => cases hx
  | cons y l ih =>
    rw [List.mapM_cons]
    rcases List.mem_cons.1 hx with rfl | hx
    · rw [h]; rfl
    · rw [ih hx]; cases f y <;> rfl
theorem argAV_data {hp : List AObj} {bor : Bool} {B : List Nat} {t : Ty} {v : V} {x : t.den} (h : data? t v = some x) : argAV hp bor B (encA v) = some (encA (.d t x)) := by
  have hd := data_enc h
  cases v with
  | d u y => obtain ⟨e1, _⟩ := cast?_enc (show cast? u t y = some x from h); show some (AV.p _) = some (AV.p _); rw [e1]
  | nil u => obtain ⟨e1, _⟩ := cast?_enc (show cast? (.list u) t [] = some x from h); show some (AV.p _) = some (AV.p (encP t x)); rw [e1]; rfl
  | full u y => obtain ⟨e1, _⟩ := cast?_enc (show cast? (.list u) t y = some x from h); show some (AV.p _) = some (AV.p (encP t x)); rw [e1]; rfl
  | agg vs =>
    have hd' : ((vs.map encB).mapM BV.toPV).map PV.agg = some (encP t x) := hd
    show (if ((vs.map encB).mapM BV.toPV).isSome = true then _ else _) = _
    cases hm : (vs.map encB).mapM BV.toPV with
    | none => rw [hm] at hd'; cases hd'
    | some cs =>
      rw [hm] at hd'
      simp only [Option.isSome_some, if_true]
      show (((vs.map encB).mapM BV.toPV).map PV.agg).map AV.p = _
      rw [hm, hd']; rfl
  | _ => simp [data?, leaf?] at h
theorem argOf_sound {bor : Bool} {B : List Nat} {a : Arg × X} {v : V} (hw : a.2.wf = true) (h : argOf s bor B a = some v) (hin : ∀ i ∈ v.ids, i ∈ B) : ((enc s).get a.2.er).bind (argAV (enc s).hp bor B) = some (encA v) := by
  obtain ⟨a, x⟩ := a
  simp only [argOf] at h
  split at h
  · rename_i t id hx
    obtain ⟨h1, h2⟩ := bif_eq h
    simp only [Bool.and_eq_true, Bool.not_eq_true'] at h1
    split at h2
    · rename_i e u xs ho
      split at h2
      · rename_i ys hy
        cases h2
        obtain ⟨e1, e2⟩ := cast?_enc hy
        rw [get_er hw hx, Option.bind_some]
        have hB : B.contains id = false := by rw [← inL_eq]; exact h1.2
        show (if B.contains id = true then _ else _) = _
        rw [hB]
        simp only [Bool.false_eq_true, if_false]
        show (if bor = true then slP (enc s).hp id else none).map AV.p = _
        rw [h1.1, if_pos rfl, slP, hp_get, ho]
        show some (AV.p (encP (.list u) xs)) = some (AV.p (encP (.list t) ys))
        rw [e1]
      · cases h2
    · rename_i e kk u xs ho
      split at h2
      · rename_i ys hy
        cases h2
        obtain ⟨e1, e2⟩ := cast?_enc hy
        rw [get_er hw hx, Option.bind_some]
        have hB : B.contains id = false := by rw [← inL_eq]; exact h1.2
        show (if B.contains id = true then _ else _) = _
        rw [hB]
        simp only [Bool.false_eq_true, if_false]
        show (if bor = true then slP (enc s).hp id else none).map AV.p = _
        rw [h1.1, if_pos rfl, slP, hp_get, ho]
        show some (AV.p (encP (.list u) xs)) = some (AV.p (encP (.list t) ys))
        rw [e1]
      · cases h2
    · cases h2
  · rename_i t v' _ hx
    split at h
    · rename_i y hy
      cases h
      rw [get_er hw hx, Option.bind_some]
      exact argAV_data hy
    · cases h
  · rename_i v' hx
    rw [get_er hw hx, Option.bind_some]
    split at h
    · cases h
    · cases h
    · cases h
    · cases h
    · rename_i vs
      obtain ⟨h1, h2⟩ := bif_eq h
      cases h2
      obtain ⟨u, hu, hr⟩ := List.any_eq_true.1 h1
      have : (vs.map encB).mapM BV.toPV = none := mapM_none (List.mem_map_of_mem hu) (by cases u <;> first | rfl | cases hr)
      show (if ((vs.map encB).mapM BV.toPV).isSome = true then _ else _) = _
      rw [this]; rfl
    · rename_i n1 n2 n3 n4 n5
      cases h
      cases v <;> first | rfl | skip
      · exact absurd rfl (n2 _)
      · exact absurd rfl (n5 _)
      · rename_i id
        have : B.contains id = true := List.contains_iff_mem.2 (hin id (by simp [V.ids, V.ids1]))
        show (if B.contains id = true then _ else _) = _
        rw [this]; rfl
      · exact absurd rfl (n3 _ _)
      · rename_i w
        show argAV _ _ _ (AV.b (constB w)) = some (AV.b (constB w))
        unfold constB
        split
        · exact absurd rfl (n4 _ _ _)
        · rfl
  · cases h
theorem argsOf_sound {bor : Bool} {B : List Nat} : ∀ (l : List (Arg × X)) (vs : List V), argsWf l = true → argsOf s bor B l = some vs → (∀ v ∈ vs, ∀ i ∈ v.ids, i ∈ B) → (l.map fun a => a.2.er).mapM (fun x => ((enc s).get x).bind (argAV (enc s).hp bor B)) = some (vs.map encA)
  | [], vs, _, h, _ => by cases h; rfl
  | a :: l, vs, hw, h, hin => by
    simp only [argsWf, List.all_cons, Bool.and_eq_true] at hw
    simp only [argsOf] at h
    split at h
    · rename_i v hv
      split at h
      · rename_i us hu
        cases h
        rw [List.map_cons, List.mapM_cons, argOf_sound hw.1 hv (hin v (by simp)), argsOf_sound l us hw.2 hu fun u hu' => hin u (by simp [hu'])]
        rfl
      · cases h
    · cases h
end
end Go.Ev
namespace Go.Ev
open Go Go.RowKit Go.Av
theorem same_enc {v w : V} (h : V.same v w = true) : encA v = encA w ∧ encB v = encB w ∧ (encB v).FlatB := by
  unfold V.same at h
  split at h
  · have e := Nat.eq_of_beq_eq_true h; subst e; exact ⟨rfl, rfl, trivial⟩
  · simp only [Bool.and_eq_true] at h
    have e := Nat.eq_of_beq_eq_true h.1; have e2 := Nat.eq_of_beq_eq_true h.2; subst e; subst e2; exact ⟨rfl, rfl, trivial⟩
  · have e := Nat.eq_of_beq_eq_true h; subst e; exact ⟨rfl, rfl, trivial⟩
  · simp only [Bool.and_eq_true, decide_eq_true_eq] at h
    have e := Nat.eq_of_beq_eq_true h.1; have e2 := h.2; subst e; subst e2; exact ⟨rfl, rfl, trivial⟩
  · exact ⟨rfl, rfl, trivial⟩
  · exact ⟨rfl, rfl, .sc _⟩
  · exact ⟨rfl, rfl, .sc _⟩
  · exact ⟨rfl, rfl, .sc _⟩
  · exact ⟨rfl, rfl, .sc _⟩
  · cases h
theorem same_isA {v w : V} (h : V.same v w = true) : v.isA = false := by
  unfold V.same at h
  split at h <;> first | rfl | cases h
theorem leB_d {v : V} {t : Ty} {x : t.den} (h : leaf? t v = some x) : LeB (encB v) (encB (.d t x)) := .data _ _ (leaf_enc h)
theorem leA_d {v : V} {t : Ty} {x : t.den} (h : data? t v = some x) : LeA (encA v) (encA (.d t x)) := .data _ _ (data_enc h)
def LeC (cs ds : List V) : Prop := cs.length = ds.length ∧ ∀ (i : Nat) (x y : V), cs[i]? = some x → ds[i]? = some y → LeB (encB x) (encB y)
theorem LeC.refl (cs : List V) : LeC cs cs := ⟨rfl, fun i x y hx hy => by rw [hx] at hy; cases hy; exact .refl _⟩
theorem LeC.box {t : TypeId} {cs ds : List V} (h : LeC cs ds) : LeO (encO (.box t cs)) (encO (.box t ds)) :=
  .box t _ _ (by simp [h.1]) fun i x y hx hy => by
    simp only [List.getElem?_map, Option.map_eq_some_iff] at hx hy
    obtain ⟨u, hu, rfl⟩ := hx
    obtain ⟨v, hv, rfl⟩ := hy
    exact h.2 i u v hu hv
theorem cellsFit_le : ∀ (cs ds : List V), cellsFit cs ds = true → LeC ds cs ∧ ∀ v ∈ cs, (encB v).FlatB
  | [], [], _ => ⟨⟨rfl, fun i x y hx => by simp at hx⟩, fun v hv => by cases hv⟩
  | [], _ :: _, h => by simp [cellsFit] at h
  | x :: l, [], h => by cases x <;> simp [cellsFit] at h
  | x :: l, y :: m, h => by
    have key : LeB (encB y) (encB x) ∧ (encB x).FlatB ∧ cellsFit l m = true := by
      unfold cellsFit at h
      split at h
      · rename_i heq; cases heq
      · rename_i l1 y1 m1 h1 h2
        cases h1; cases h2
        exact ⟨.any _, .any, h⟩
      · rename_i xs l1 ys m1 h1 h2
        cases h1; cases h2
        simp only [Bool.and_eq_true] at h
        exact ⟨.refl _, .any, h.2⟩
      · rename_i x1 l1 y1 m1 _ _ h1 h2
        cases h1; cases h2
        simp only [Bool.and_eq_true] at h
        obtain ⟨_, e, f⟩ := same_enc h.1
        exact ⟨by rw [e]; exact .refl _, f, h.2⟩
      · cases h
    obtain ⟨⟨h1, h2⟩, h3⟩ := cellsFit_le l m key.2.2
    refine ⟨⟨by simp [h1], fun i u v hu hv => ?_⟩, fun v hv => ?_⟩
    · cases i with
      | zero => simp at hu hv; subst hu; subst hv; exact key.1
      | succ i => exact h2 i u v (by simpa using hu) (by simpa using hv)
    · rcases List.mem_cons.1 hv with rfl | hv
      · exact key.2.1
      · exact h3 v hv
def Slot.obj : Slot → Option Nat
  | .vec id _ _ => some id
  | .map id _ _ _ _ => some id
  | .tree id _ _ _ => some id
  | .treeH id _ _ _ _ _ => some id
  | _ => none
inductive LikeO : Ob → Ob → Prop
  | vec (e : TypeId) (t : Ty) (xs ys : List t.den) : LikeO (.vec e t xs) (.vec e t ys)
  | map (k e : TypeId) (a c : Ty) (xs ys : List (a.den × c.den)) : LikeO (.map k e a c xs) (.map k e a c ys)
  | tree (e : TypeId) (k : Av.K) (t : Ty) (xs ys : List t.den) : LikeO (.tree e k t xs none) (.tree e k t ys none)
  | treeH (e : TypeId) (k : Av.K) (t : Ty) (xs ys : List t.den) (i i' j kid : Nat) : LikeO (.tree e k t xs (some (i, j, .sl kid))) (.tree e k t ys (some (i', j, .sl kid)))
def ObLe (l : List Slot) (i : Nat) (o b : Ob) : Prop :=
  b = .gone ∨ (∃ t cs ds, o = .box t cs ∧ b = .box t ds ∧ LeC cs ds) ∨ b = o ∨ (LikeO o b ∧ ∃ x ∈ l, x.obj = some i)
theorem ObLe.le {i : Nat} {o b : Ob} (h : ObLe [] i o b) : LeO (encO o) (encO b) := by
  rcases h with rfl | ⟨t, cs, ds, rfl, rfl, h⟩ | rfl | ⟨_, x, h, _⟩
  · exact .gone _
  · exact h.box
  · exact .refl _
  · cases h
theorem ObLe.weak {l : List Slot} {x : Slot} {i : Nat} {o b : Ob} (h : ObLe (x :: l) i o b) (hx : x.obj ≠ some i) : ObLe l i o b := by
  rcases h with h | h | h | ⟨h, y, hy, hyi⟩
  · exact .inl h
  · exact .inr (.inl h)
  · exact .inr (.inr (.inl h))
  · exact .inr (.inr (.inr ⟨h, y, (List.mem_cons.1 hy).resolve_left fun e => hx (by rw [← e]; exact hyi), hyi⟩))
def slotOn (hp : List Ob) : Slot → Prop
  | .vec id e t => ∃ ys, hp[id]? = some (.vec e t ys)
  | .map id k e a b => ∃ ys, hp[id]? = some (.map k e a b ys)
  | .tree id e k t => ∃ ys, hp[id]? = some (.tree e k t ys none)
  | .treeH id e k t j kid => ∃ ys i, hp[id]? = some (.tree e k t ys (some (i, j, .sl kid)))
  | _ => True
def LeF (fr fr' : List (Nat × V)) : Prop := ∀ k v, lk fr' k = some v → ∃ u, lk fr k = some u ∧ LeA (encA u) (encA v)
structure LeP (l : List Slot) (s b : S) : Prop where
  fr : LeF s.fr b.fr
  len : s.hp.length = b.hp.length
  hp : ∀ (i : Nat) (o o' : Ob), s.hp[i]? = some o → b.hp[i]? = some o' → ObLe l i o o'
  on : ∀ x ∈ l, slotOn b.hp x
theorem slotOn_set {hp : List Ob} {id : Nat} {o : Ob} {x : Slot} (h : slotOn hp x) (hk : ∀ o', hp[id]? = some o' → (∀ z, ¬ LikeO o' z) ∨ LikeO o' o) : slotOn (hp.set id o) x := by
  have go : ∀ (j : Nat) (o' : Ob), hp[j]? = some o' → (∃ z, LikeO o' z) → ∃ o2, (hp.set id o)[j]? = some o2 ∧ (LikeO o' o2 ∨ o2 = o') := fun j o' hj hz => by
    by_cases hij : id = j
    · subst hij
      refine ⟨o, List.getElem?_set_self (List.getElem?_eq_some_iff.1 hj).1, .inl ?_⟩
      rcases hk o' hj with h1 | h1
      · exact (h1 _ hz.choose_spec).elim
      · exact h1
    · exact ⟨o', by rw [List.getElem?_set_ne hij]; exact hj, .inr rfl⟩
  cases x with
  | vec j e t =>
    obtain ⟨ys, hy⟩ := h
    obtain ⟨o2, h1, h2 | rfl⟩ := go j _ hy ⟨_, .vec e t ys ys⟩
    · cases h2; exact ⟨_, h1⟩
    · exact ⟨_, h1⟩
  | map j k e a b =>
    obtain ⟨ys, hy⟩ := h
    obtain ⟨o2, h1, h2 | rfl⟩ := go j _ hy ⟨_, .map k e a b ys ys⟩
    · cases h2; exact ⟨_, h1⟩
    · exact ⟨_, h1⟩
  | tree j e k t =>
    obtain ⟨ys, hy⟩ := h
    obtain ⟨o2, h1, h2 | rfl⟩ := go j _ hy ⟨_, .tree e k t ys ys⟩
    · cases h2; exact ⟨_, h1⟩
    · exact ⟨_, h1⟩
  | treeH j e k t jj kid =>
    obtain ⟨ys, i, hy⟩ := h
    obtain ⟨o2, h1, h2 | rfl⟩ := go j _ hy ⟨_, .treeH e k t ys ys i i jj kid⟩
    · cases h2; exact ⟨_, _, h1⟩
    · exact ⟨_, _, h1⟩
  | _ => trivial
theorem no_like_box {t : TypeId} {cs : List V} (z : Ob) : ¬ LikeO (.box t cs) z := fun h => by cases h
theorem LeF.put {fr fr' : List (Nat × V)} (h : LeF fr fr') {k : Nat} {u v : V} (hu : lk fr k = some u) (hle : LeA (encA u) (encA v)) : LeF fr ((k, v) :: fr') := fun j w hw => by
  simp only [lk] at hw
  cases hb : Nat.beq j k
  · rw [hb] at hw; exact h j w hw
  · rw [hb] at hw
    simp only [cond_true, Option.some.injEq] at hw
    have := Nat.eq_of_beq_eq_true hb
    subst this; subst hw
    exact ⟨u, hu, hle⟩
theorem LeP.set {s : S} {x : Slot} {l : List Slot} {b : S} (h : LeP (x :: l) s b) {id : Nat} {o ob : Ob} (hx : x.obj = some id) (ho : s.hp[id]? = some o) (hb : b.hp[id]? = some ob) (hl : LikeO ob o) : LeP l s ⟨b.fr, setAt b.hp id o⟩ := by
  have hid := (List.getElem?_eq_some_iff.1 hb).1
  rw [setAt_eq]
  refine ⟨h.fr, by simp [h.len], fun i o1 o2 h1 h2 => ?_, fun z hz => slotOn_set (h.on z (by simp [hz])) (fun o' hh => by rw [hb] at hh; cases hh; exact .inr hl)⟩
  by_cases hi : id = i
  · subst hi
    rw [List.getElem?_set_self hid] at h2
    cases h2
    rw [ho] at h1; cases h1
    exact .inr (.inr (.inl rfl))
  · rw [List.getElem?_set_ne hi] at h2
    exact (h.hp i o1 o2 h1 h2).weak (by rw [hx]; simpa using hi)
theorem unpack_le (s : S) : ∀ (l : List Slot) (c : HL l) (b : S), packL s l = some c → LeP l s b → LeP [] s (unpack l c b)
  | [], _, b, _, h => h
  | x :: l, c, b, hc, h => by
    simp only [packL] at hc
    split at hc
    · rename_i y hy
      split at hc
      · rename_i c' hc'
        cases hc
        cases x with
        | tm k t =>
          simp only [slotVal] at hy
          split at hy
          · rename_i v hv
            exact unpack_le s l c' _ hc' ⟨h.fr.put hv (leA_d hy), h.len, fun i o o' h1 h2 => (h.hp i o o' h1 h2).weak (by simp [Slot.obj]), fun z hz => h.on z (by simp [hz])⟩
          · cases hy
        | cell id j t =>
          simp only [slotVal] at hy
          split at hy
          · rename_i u cs ho
            split at hy
            · rename_i v hv
              refine unpack_le s l c' _ hc' ?_
              unfold setCell
              split
              · rename_i t' ds hb
                rw [setAt_eq, setAt_eq]
                have hid := (List.getElem?_eq_some_iff.1 hb).1
                refine ⟨h.fr, by simp [h.len], fun i o o' h1 h2 => ?_, fun z hz => slotOn_set (h.on z (by simp [hz])) (fun o' hh => by rw [hb] at hh; cases hh; exact .inl no_like_box)⟩
                by_cases hi : id = i
                · subst hi
                  rw [List.getElem?_set_self hid] at h2
                  cases h2
                  rw [ho] at h1; cases h1
                  have e0 : ∃ t2 cs2 ds2, Ob.box u cs = .box t2 cs2 ∧ Ob.box t' ds = .box t2 ds2 ∧ LeC cs2 ds2 := by
                    rcases h.hp id _ _ ho hb with hh | e0 | hh | ⟨hh, _⟩
                    · cases hh
                    · exact e0
                    · cases hh; exact ⟨_, _, _, rfl, rfl, rfl, fun i x y hx hy => by rw [hx] at hy; cases hy; exact .refl _⟩
                    · cases hh
                  obtain ⟨t2, cs2, ds2, e1, e2, e3⟩ := e0
                  · cases e1; cases e2
                    refine .inr (.inl ⟨_, _, _, rfl, rfl, by simp [e3.1], fun i u w hu hw => ?_⟩)
                    by_cases hij : j = i
                    · subst hij
                      rw [List.getElem?_set] at hw
                      split at hw
                      · split at hw
                        · cases hw
                          rw [hv] at hu; cases hu
                          exact leB_d hy
                        · cases hw
                      · rename_i hne; exact absurd rfl hne
                    · rw [List.getElem?_set_ne hij] at hw
                      exact e3.2 i u w hu hw
                · rw [List.getElem?_set_ne hi] at h2
                  exact (h.hp i o o' h1 h2).weak (by simp [Slot.obj])
              · exact ⟨h.fr, h.len, fun i o o' h1 h2 => (h.hp i o o' h1 h2).weak (by simp [Slot.obj]), fun z hz => h.on z (by simp [hz])⟩
            · cases hy
          · cases hy
        | vec id e t =>
          simp only [slotVal] at hy
          split at hy
          · rename_i e' u xs ho
            obtain ⟨e2, e3⟩ := cast?_some hy
            have e4 := Ty.list.inj e2
            subst e4
            have e5 : y = xs := e3
            subst e5
            obtain ⟨ys, hb⟩ := h.on _ (List.mem_cons_self ..)
            have hlk : LikeO (.vec e' u y) (.vec e u ys) := by
              rcases h.hp id _ _ ho hb with hh | ⟨_, _, _, hh, _⟩ | hh | ⟨hh, _⟩
              · cases hh
              · cases hh
              · cases hh; exact .vec _ _ _ _
              · exact hh
            have hee : e' = e := by cases hlk; rfl
            subst hee
            exact unpack_le s l c' _ hc' (h.set rfl ho hb (.vec _ _ _ _))
          · cases hy
        | map id k e a b' =>
          simp only [slotVal] at hy
          split at hy
          · rename_i k1 e1 a1 b1 xs ho
            obtain ⟨e2, e3⟩ := cast?_some hy
            have e4 := Ty.list.inj e2
            injection e4 with e6 e7
            subst e6; subst e7
            have e5 : y = xs := e3
            subst e5
            obtain ⟨ys, hb⟩ := h.on _ (List.mem_cons_self ..)
            have hee : k1 = k ∧ e1 = e := by
              rcases h.hp id _ _ ho hb with hh | ⟨_, _, _, hh, _⟩ | hh | ⟨hh, _⟩
              · cases hh
              · cases hh
              · cases hh; exact ⟨rfl, rfl⟩
              · cases hh; exact ⟨rfl, rfl⟩
            obtain ⟨rfl, rfl⟩ := hee
            exact unpack_le s l c' _ hc' (h.set rfl ho hb (.map _ _ _ _ _ _))
          · cases hy
        | tree id e k t =>
          simp only [slotVal] at hy
          split at hy
          · rename_i e1 k1 u xs ho
            obtain ⟨e2, e3⟩ := cast?_some hy
            have e4 := Ty.list.inj e2
            subst e4
            have e5 : y = xs := e3
            subst e5
            obtain ⟨ys, hb⟩ := h.on _ (List.mem_cons_self ..)
            have hee : e1 = e ∧ k1 = k := by
              rcases h.hp id _ _ ho hb with hh | ⟨_, _, _, hh, _⟩ | hh | ⟨hh, _⟩
              · cases hh
              · cases hh
              · cases hh; exact ⟨rfl, rfl⟩
              · cases hh; exact ⟨rfl, rfl⟩
            obtain ⟨rfl, rfl⟩ := hee
            exact unpack_le s l c' _ hc' (h.set rfl ho hb (.tree _ _ _ _ _))
          · cases hy
        | treeH id e k t j kid =>
          simp only [slotVal] at hy
          split at hy
          · rename_i e1 k1 u xs i1 j1 v1 ho
            split at hy
            · rename_i zs hz
              cases hy
              obtain ⟨e2, e3⟩ := cast?_some hz
              have e4 := Ty.list.inj e2
              subst e4
              have e5 : zs = xs := e3
              subst e5
              obtain ⟨ys, i2, hb⟩ := h.on _ (List.mem_cons_self ..)
              have hee : e1 = e ∧ k1 = k ∧ j1 = j ∧ v1 = .sl kid := by
                rcases h.hp id _ _ ho hb with hh | ⟨_, _, _, hh, _⟩ | hh | ⟨hh, _⟩
                · cases hh
                · cases hh
                · cases hh; exact ⟨rfl, rfl, rfl, rfl⟩
                · cases hh; exact ⟨rfl, rfl, rfl, rfl⟩
              obtain ⟨rfl, rfl, rfl, rfl⟩ := hee
              exact unpack_le s l c' _ hc' (by have := h.set rfl ho hb (.treeH _ _ _ _ _ _ _ _ _); simpa using this)
            · cases hy
          · cases hy
      · cases hc
    · cases hc
theorem LeP.le {s b : S} (h : LeP [] s b) : LeS (enc s) (enc b) := by
  refine ⟨fun k y hk => ?_, by simp [enc, h.len], fun i x y hx hy => ?_⟩
  · show ∃ x, Av.look (s.fr.map fun x => (x.1, encA x.2)) k = some x ∧ _
    have hk' : Av.look (b.fr.map fun x => (x.1, encA x.2)) k = some y := hk
    rw [lk_look] at hk' ⊢
    obtain ⟨v, hv, rfl⟩ := Option.map_eq_some_iff.1 hk'
    obtain ⟨u, hu, hle⟩ := h.fr k v hv
    exact ⟨encA u, by rw [hu]; rfl, hle⟩
  · rw [hp_get] at hx hy
    obtain ⟨o, ho, rfl⟩ := Option.map_eq_some_iff.1 hx
    obtain ⟨o', ho', rfl⟩ := Option.map_eq_some_iff.1 hy
    exact (h.hp i o o' ho ho').le
theorem lk_append (l m : List (Nat × V)) (k : Nat) : lk (l ++ m) k = (lk l k).or (lk m k) := by
  induction l with
  | nil => rfl
  | cons x l ih =>
    obtain ⟨j, v⟩ := x
    simp only [List.cons_append, lk]
    cases Nat.beq k j
    · exact ih
    · rfl
theorem lk_mem {l : List (Nat × V)} {k : Nat} {v : V} (h : lk l k = some v) : (k, v) ∈ l := by
  induction l with
  | nil => cases h
  | cons x l ih =>
    obtain ⟨j, w⟩ := x
    simp only [lk] at h
    cases hb : Nat.beq k j
    · rw [hb] at h; exact List.mem_cons_of_mem _ (ih h)
    · rw [hb] at h
      simp only [cond_true, Option.some.injEq] at h
      have := Nat.eq_of_beq_eq_true hb
      subst this; subst h
      exact List.mem_cons_self ..
theorem frFit_mem {fr sk : List (Nat × V)} (h : frFit fr sk = true) {k : Nat} {v : V} (hm : (k, v) ∈ sk) : ∃ w, lk fr k = some w ∧ V.same v w = true := by
  induction sk with
  | nil => cases hm
  | cons x sk ih =>
    obtain ⟨j, u⟩ := x
    simp only [frFit, Bool.and_eq_true] at h
    rcases List.mem_cons.1 hm with e | hm
    · cases e
      cases hl : lk fr k with
      | none => rw [hl] at h; cases h.1
      | some w => rw [hl] at h; exact ⟨w, rfl, h.1⟩
    · exact ih h.2 hm
theorem obsFit_get : ∀ {us bs : List Ob}, obsFit us bs = true → us.length = bs.length ∧ ∀ (i : Nat) (x y : Ob), us[i]? = some x → bs[i]? = some y → obFit x y = true
  | [], [], _ => ⟨rfl, fun i x y h => by simp at h⟩
  | [], _ :: _, h => by cases h
  | _ :: _, [], h => by cases h
  | a :: us, b :: bs, h => by
    simp only [obsFit, Bool.and_eq_true] at h
    obtain ⟨h1, h2⟩ := obsFit_get h.2
    refine ⟨by simp [h1], fun i x y hx hy => ?_⟩
    cases i with
    | zero => simp at hx hy; subst hx; subst hy; exact h.1
    | succ i => exact h2 i x y (by simpa using hx) (by simpa using hy)
def Ob.vary : Ob → Bool
  | .vec _ _ _ => true
  | .map _ _ _ _ _ => true
  | .tree _ _ _ _ _ => true
  | _ => false
theorem obsB_get {sl : List Slot} : ∀ {l : List Ob} {i j : Nat} {o : Ob}, obsB sl i l = true → l[j]? = some o → o.vary = true → ∃ x ∈ sl, x.obj = some (i + j)
  | [], i, j, o, _, hj, _ => by simp at hj
  | a :: l, i, j, o, h, hj, hv => by
    simp only [obsB, Bool.and_eq_true] at h
    cases j with
    | zero =>
      simp at hj
      subst hj
      cases a <;> first | cases hv | skip
      all_goals
        obtain ⟨x, hx, hb⟩ := List.any_eq_true.1 h.1
        refine ⟨x, hx, ?_⟩
        cases x <;> simp at hb
        all_goals (subst hb; rfl)
    | succ j =>
      have := obsB_get (i := i + 1) (j := j) h.2 (by simpa using hj) hv
      rw [show i + 1 + j = i + (j + 1) by omega] at this
      exact this
theorem slotB_on {hp : List Ob} {x : Slot} (h : slotB hp x = true) : slotOn hp x := by
  cases x with
  | vec id e t =>
    simp only [slotB] at h
    split at h
    · rename_i e' t' ys ho
      simp only [Bool.and_eq_true, decide_eq_true_eq] at h
      have e1 := Nat.eq_of_beq_eq_true h.1
      obtain ⟨_, rfl⟩ := h
      subst e1
      exact ⟨ys, ho⟩
    · cases h
  | map id k e a b =>
    simp only [slotB] at h
    split at h
    · rename_i k' e' a' b' ys ho
      simp only [Bool.and_eq_true, decide_eq_true_eq] at h
      obtain ⟨⟨⟨h1, h2⟩, rfl⟩, rfl⟩ := h
      have e1 := Nat.eq_of_beq_eq_true h1
      have e2 := Nat.eq_of_beq_eq_true h2
      subst e1; subst e2
      exact ⟨ys, ho⟩
    · cases h
  | tree id e k t =>
    simp only [slotB] at h
    split at h
    · rename_i e' k' t' ys ho
      simp only [Bool.and_eq_true, decide_eq_true_eq] at h
      obtain ⟨⟨h1, rfl⟩, rfl⟩ := h
      have e1 := Nat.eq_of_beq_eq_true h1
      subst e1
      exact ⟨ys, ho⟩
    · cases h
  | treeH id e k t j kid =>
    simp only [slotB] at h
    split at h
    · rename_i e' k' t' ys i' j' kid' ho
      simp only [Bool.and_eq_true, decide_eq_true_eq] at h
      obtain ⟨⟨⟨⟨h1, rfl⟩, rfl⟩, h2⟩, h3⟩ := h
      have e1 := Nat.eq_of_beq_eq_true h1
      have e2 := Nat.eq_of_beq_eq_true h2
      have e3 := Nat.eq_of_beq_eq_true h3
      subst e1; subst e2; subst e3
      exact ⟨ys, _, ho⟩
    · cases h
  | _ => trivial
theorem pack_leP {sh : Sh} {s s0 : S} {c : HL sh.sl} (hw : sh.wfB = true) (h : pack sh s = some c) (hk : ∀ k v, lk (keepFr s0.fr sh.keep) k = some v → lk s.fr k = some v) : LeP [] s (unpack sh.sl c (sh.base s0)) := by
  unfold pack at h
  split at h
  · rename_i hf
    simp only [Bool.and_eq_true, S.fits] at hf
    simp only [Sh.wfB, Bool.and_eq_true, List.all_eq_true] at hw
    obtain ⟨g1, g2⟩ := obsFit_get hf.1.2
    refine unpack_le s sh.sl c _ h ⟨fun k v hv => ?_, g1.symm, fun i o o' h1 h2 => ?_, fun x hx => slotB_on (hw.1 x hx)⟩
    · have hv' : lk (keepFr s0.fr sh.keep ++ sh.sk.fr) k = some v := hv
      rw [lk_append] at hv'
      cases hkp : lk (keepFr s0.fr sh.keep) k with
      | some u =>
        rw [hkp] at hv'
        cases hv'
        exact ⟨v, hk k v hkp, .refl _⟩
      | none =>
        rw [hkp] at hv'
        obtain ⟨w, h1, h2⟩ := frFit_mem hf.1.1 (lk_mem hv')
        exact ⟨w, h1, by rw [(same_enc h2).1]; exact .refl _⟩
    · have h2' : sh.sk.hp[i]? = some o' := h2
      have hfit := g2 i o' o h2' h1
      have q := obsB_get (i := 0) hw.2 h2'
      rw [Nat.zero_add] at q
      unfold obFit at hfit
      split at hfit
      · exact .inl rfl
      · rename_i t cs u ds
        simp only [Bool.and_eq_true] at hfit
        have e1 := Nat.eq_of_beq_eq_true hfit.1
        subst e1
        exact .inr (.inl ⟨_, _, _, rfl, rfl, (cellsFit_le cs ds hfit.2).1⟩)
      · rename_i e t xs e' t' ys
        simp only [Bool.and_eq_true, decide_eq_true_eq] at hfit
        have e1 := Nat.eq_of_beq_eq_true hfit.1
        obtain ⟨_, rfl⟩ := hfit
        subst e1
        exact .inr (.inr (.inr ⟨.vec _ _ _ _, q rfl⟩))
      · rename_i k e a b xs k' e' a' b' ys
        simp only [Bool.and_eq_true, decide_eq_true_eq] at hfit
        obtain ⟨⟨⟨h3, h4⟩, rfl⟩, rfl⟩ := hfit
        have e1 := Nat.eq_of_beq_eq_true h3
        have e2 := Nat.eq_of_beq_eq_true h4
        subst e1; subst e2
        exact .inr (.inr (.inr ⟨.map _ _ _ _ _ _, q rfl⟩))
      · rename_i e k t xs hh e' k' t' ys hh'
        simp only [Bool.and_eq_true, decide_eq_true_eq] at hfit
        obtain ⟨⟨⟨h3, rfl⟩, rfl⟩, h4⟩ := hfit
        have e1 := Nat.eq_of_beq_eq_true h3
        subst e1
        split at h4
        · exact .inr (.inr (.inr ⟨.tree _ _ _ _ _, q rfl⟩))
        · simp only [Bool.and_eq_true] at h4
          have e2 := Nat.eq_of_beq_eq_true h4.1
          have e3 := Nat.eq_of_beq_eq_true h4.2
          subst e2; subst e3
          exact .inr (.inr (.inr ⟨.treeH _ _ _ _ _ _ _ _ _, q rfl⟩))
        · cases h4
      · cases hfit
  · cases h
theorem pack_le {sh : Sh} {s s0 : S} {c : HL sh.sl} (hw : sh.wfB = true) (h : pack sh s = some c) (hk : ∀ k v, lk (keepFr s0.fr sh.keep) k = some v → lk s.fr k = some v) : LeS (enc s) (enc (unpack sh.sl c (sh.base s0))) := (pack_leP hw h hk).le
end Go.Ev
namespace Go.Ev
open Go Go.RowKit Go.Av
structure FlP (l : List Slot) (b : S) : Prop where
  fr : ∀ k v, lk b.fr k = some v → (encA v).FlatA
  hp : ∀ (i : Nat) (o : Ob), b.hp[i]? = some o → (encO o).FlatO ∨ (o.vary = true ∧ ∃ x ∈ l, x.obj = some i)
theorem vec_flat {e : TypeId} {t : Ty} (xs : List t.den) (h : t.flat = true) : (encO (.vec e t xs)).FlatO := fun p hp y hy => by
  obtain ⟨x, _, rfl⟩ := List.mem_map.1 hp
  exact (flat_enc t x h).2 y hy
theorem map_flat {k e : TypeId} {a b : Ty} (xs : List (a.den × b.den)) (h : a.flat = true ∧ b.flat = true) : (encO (.map k e a b xs)).FlatO := fun p hp => by
  obtain ⟨x, _, rfl⟩ := List.mem_map.1 hp
  exact ⟨(flat_enc a x.1 h.1).1, (flat_enc b x.2 h.2).1⟩
theorem leafTys_enc : ∀ (t : Ty) (x : t.den), (leafTys t).length = t.sz ∧ ∀ (j : Nat) (y : PV), (cellsP t x)[j]? = some y → ∃ (u : Ty) (z : u.den), (leafTys t)[j]? = some u ∧ y = encP u z
  | .unit, x => ⟨rfl, fun j y h => by simp [cellsP, encP, PV.cells] at h⟩
  | .pair a b, x => by
    obtain ⟨h1, h2⟩ := leafTys_enc a x.1
    obtain ⟨h3, h4⟩ := leafTys_enc b x.2
    refine ⟨by simp [leafTys, Ty.sz, h1, h3], fun j y h => ?_⟩
    have hc : cellsP (.pair a b) x = cellsP a x.1 ++ cellsP b x.2 := rfl
    rw [hc] at h
    have hl : (cellsP a x.1).length = a.sz := cellsP_len a x.1
    rcases Nat.lt_or_ge j a.sz with hj | hj
    · rw [List.getElem?_append_left (by omega)] at h
      obtain ⟨u, z, h5, h6⟩ := h2 j y h
      exact ⟨u, z, by simp only [leafTys]; rw [List.getElem?_append_left (by omega)]; exact h5, h6⟩
    · rw [List.getElem?_append_right (by omega)] at h
      obtain ⟨u, z, h5, h6⟩ := h4 _ y h
      exact ⟨u, z, by simp only [leafTys]; rw [List.getElem?_append_right (by omega), h1, ← hl]; exact h5, h6⟩
  | .rx, x => by
    refine ⟨rfl, fun j y h => ?_⟩
    rw [rx_cells] at h
    match j, h with
    | 0, h => cases h; exact ⟨.int .i64, _, rfl, rfl⟩
    | 1, h => cases h; exact ⟨.int .i64, _, rfl, rfl⟩
    | 2, h => cases h; exact ⟨.int .i64, _, rfl, rfl⟩
    | 3, h => cases h; exact ⟨.list .rx, _, rfl, rfl⟩
    | j + 4, h => simp at h
  | .int k, x => leaf (.int k) x rfl rfl
  | .bool, x => leaf .bool x rfl rfl
  | .str, x => leaf .str x rfl rfl
  | .list t, x => leaf (.list t) x rfl rfl
where
  leaf (t : Ty) (x : t.den) (h1 : t.ag = false) (h2 : leafTys t = [t]) : (leafTys t).length = t.sz ∧ ∀ (j : Nat) (y : PV), (cellsP t x)[j]? = some y → ∃ (u : Ty) (z : u.den), (leafTys t)[j]? = some u ∧ y = encP u z := by
    refine ⟨by rw [h2, sz_one h1]; rfl, fun j y h => ?_⟩
    rw [encP_one x h1] at h
    cases j with
    | zero => cases h; exact ⟨t, x, by rw [h2]; rfl, rfl⟩
    | succ j => simp at h
theorem flatK_sound : ∀ (k : Av.K) (ts : List Ty), flatK k ts = true → ∀ (j : Nat) (u : Ty) (z : u.den), ts[j]? = some u → FlatT (k.at j) (encP u z)
  | .e, ts, h, j, u, z, hu => by
    simp only [flatK, List.all_eq_true] at h
    exact .flat _ (flat_enc u z (h u (List.mem_of_getElem? hu))).1
  | .f r, [], h, j, u, z, hu => by simp at hu
  | .f r, t :: ts, h, j, u, z, hu => by
    simp only [flatK, Bool.and_eq_true] at h
    cases j with
    | zero => cases hu; exact .flat _ (flat_enc _ z h.1).1
    | succ j => exact flatK_sound r ts h.2 j u z (by simpa using hu)
  | .s e sz sub r, [], h, j, u, z, hu => by simp at hu
  | .s e sz sub r, t :: ts, h, j, u, z, hu => by
    cases t <;> try cases h
    rename_i v
    simp only [flatK, Bool.and_eq_true] at h
    cases j with
    | zero =>
      cases hu
      have hs := Nat.eq_of_beq_eq_true h.1.1
      refine .sl _ _ _ _ (z.map (encP v)) (by rw [hs]; rfl) fun i j x y hx hy => ?_
      rw [List.getElem?_map] at hx
      obtain ⟨w, _, rfl⟩ := Option.map_eq_some_iff.1 hx
      obtain ⟨u', z', h1, rfl⟩ := (leafTys_enc v w).2 j y hy
      exact flatK_sound sub _ h.1.2 j u' z' h1
    | succ j => exact flatK_sound r ts h.2 j u z (by simpa using hu)
theorem tree_flatO {e : TypeId} {k : Av.K} {t : Ty} (xs : List t.den) (h : flatK k (leafTys t) = true) (hole : Option (Nat × Nat × V)) (hh : hole = none ∨ ∃ i j kid, hole = some (i, j, .sl kid)) : (encO (.tree e k t xs hole)).FlatO := by
  refine ⟨fun i j b hb => ?_, fun i j x y hx hy => ?_⟩
  · rcases hh with rfl | ⟨i', j', kid, rfl⟩
    · cases hb
    · cases hb; trivial
  · rw [List.getElem?_map] at hx
    obtain ⟨w, _, rfl⟩ := Option.map_eq_some_iff.1 hx
    obtain ⟨u', z', h1, rfl⟩ := (leafTys_enc t w).2 j y hy
    exact flatK_sound k _ h j u' z' h1
theorem unpack_flat : ∀ (l : List Slot) (c : HL l) (b : S), l.all Slot.flat = true → FlP l b → FlP [] (unpack l c b)
  | [], _, b, _, h => h
  | x :: l, c, b, hf, h => by
    simp only [List.all_cons, Bool.and_eq_true] at hf
    have drop : ∀ (i : Nat) (o : Ob), b.hp[i]? = some o → x.obj ≠ some i → (encO o).FlatO ∨ (o.vary = true ∧ ∃ x ∈ l, x.obj = some i) := by
      intro i o ho h1
      rcases h.hp i o ho with hh | ⟨hh, y, hm, hy⟩
      · exact .inl hh
      · exact .inr ⟨hh, y, (List.mem_cons.1 hm).resolve_left fun q => h1 (by rw [← q]; exact hy), hy⟩
    have set_ : ∀ (id : Nat) (o' : Ob), x.obj = some id → (encO o').FlatO → FlP l ⟨b.fr, setAt b.hp id o'⟩ := fun id o' hx hfo => ⟨h.fr, fun i o ho => by
      have ho' : (setAt b.hp id o')[i]? = some o := ho
      rw [setAt_eq] at ho'
      by_cases hi : id = i
      · subst hi
        rw [List.getElem?_set] at ho'
        split at ho'
        · split at ho'
          · cases ho'; exact .inl hfo
          · cases ho'
        · rename_i hne; exact absurd rfl hne
      · rw [List.getElem?_set_ne hi] at ho'
        exact drop i o ho' (by rw [hx]; simpa using hi)⟩
    cases x with
    | tm k t =>
      refine unpack_flat l c.2 _ hf.2 ⟨fun j v hv => ?_, fun i o ho => drop i o ho (by simp [Slot.obj])⟩
      simp only [lk] at hv
      cases hb : Nat.beq j k
      · rw [hb] at hv; exact h.fr j v hv
      · rw [hb] at hv
        simp only [cond_true, Option.some.injEq] at hv
        subst hv
        exact (flat_enc t c.1 hf.1).1
    | cell id j t =>
      refine unpack_flat l c.2 _ hf.2 ⟨h.fr, fun i o ho => ?_⟩
      have ho' : (setCell b.hp id j (.d t c.1))[i]? = some o := ho
      unfold setCell at ho'
      split at ho'
      · rename_i t' ds hb
        rw [setAt_eq, setAt_eq] at ho'
        have hid := (List.getElem?_eq_some_iff.1 hb).1
        by_cases hi : id = i
        · subst hi
          rw [List.getElem?_set_self hid] at ho'
          cases ho'
          left
          rcases h.hp id _ hb with hh | ⟨hh, _⟩
          · intro y hy
            obtain ⟨v, hv, rfl⟩ := List.mem_map.1 hy
            rcases List.mem_or_eq_of_mem_set hv with hv | rfl
            · exact hh _ (List.mem_map_of_mem hv)
            · exact (flat_enc t c.1 hf.1).1
          · cases hh
        · rw [List.getElem?_set_ne hi] at ho'
          exact drop i o ho' (by simp [Slot.obj])
      · exact drop i o ho' (by simp [Slot.obj])
    | vec id e t => exact unpack_flat l c.2 _ hf.2 (set_ id _ rfl (vec_flat _ hf.1))
    | map id k e a b' =>
      have := hf.1
      simp only [Slot.flat, Bool.and_eq_true] at this
      exact unpack_flat l c.2 _ hf.2 (set_ id _ rfl (map_flat _ this))
    | tree id e k t => exact unpack_flat l c.2 _ hf.2 (set_ id _ rfl (tree_flatO _ hf.1 none (.inl rfl)))
    | treeH id e k t j kid => exact unpack_flat l c.2 _ hf.2 (set_ id _ rfl (tree_flatO _ hf.1 _ (.inr ⟨_, _, _, rfl⟩)))
theorem base_nil (sh : Sh) : (sh.base ⟨[], []⟩).fr = sh.sk.fr := by
  have : ∀ l, keepFr [] l = [] := fun l => by induction l with
    | nil => rfl
    | cons k l ih => simp only [keepFr, lk, ih]
  simp [Sh.base, this]
theorem pack_flat {sh : Sh} {s : S} {c : HL sh.sl} (hw : sh.wfB = true) (h : pack sh s = some c) (hf : sh.sl.all Slot.flat = true) :
    (∀ k v, lk (unpack sh.sl c (sh.base ⟨[], []⟩)).fr k = some v → (encA v).FlatA) ∧ ∀ o ∈ (unpack sh.sl c (sh.base ⟨[], []⟩)).hp, (encO o).FlatO := by
  unfold pack at h
  split at h
  · rename_i hfit
    simp only [Bool.and_eq_true, S.fits] at hfit
    simp only [Sh.wfB, Bool.and_eq_true, List.all_eq_true] at hw
    obtain ⟨g1, g2⟩ := obsFit_get hfit.1.2
    have key : FlP [] (unpack sh.sl c (sh.base ⟨[], []⟩)) := unpack_flat sh.sl c _ hf ⟨fun k v hv => by
        rw [base_nil] at hv
        obtain ⟨w, h1, h2⟩ := frFit_mem hfit.1.1 (lk_mem hv)
        rw [encA_b (same_isA h2)]
        exact (same_enc h2).2.2, fun i o ho => by
        have ho' : sh.sk.hp[i]? = some o := ho
        have q := obsB_get (i := 0) hw.2 ho'
        rw [Nat.zero_add] at q
        obtain ⟨o2, ho2⟩ := getElem?_of_len g1.symm ho'
        have hfo := g2 i o o2 ho' ho2
        cases o with
        | gone => exact .inl trivial
        | free => exact .inl trivial
        | box t cs =>
          cases o2 <;> simp [obFit] at hfo
          left
          intro y hy
          obtain ⟨v, hv, rfl⟩ := List.mem_map.1 hy
          exact (cellsFit_le _ _ hfo.2).2 v hv
        | vec e t xs => exact .inr ⟨rfl, q rfl⟩
        | map k e a b xs => exact .inr ⟨rfl, q rfl⟩
        | tree e k t xs hole => exact .inr ⟨rfl, q rfl⟩⟩
    refine ⟨key.fr, fun o ho => ?_⟩
    obtain ⟨i, hi⟩ := List.getElem?_of_mem ho
    rcases key.hp i o hi with hh | ⟨_, _, hm, _⟩
    · exact hh
    · cases hm
  · cases h
theorem res_flat {n : Nat} {fr : List (Nat × V)} (h : ∀ k v, lk fr k = some v → (encA v).FlatA) : (encA (res n fr)).FlatA := by
  unfold res
  cases Nat.beq n 1
  · intro x hx
    obtain ⟨v, hv, rfl⟩ := List.mem_map.1 hx
    obtain ⟨i, _, rfl⟩ := List.mem_map.1 hv
    cases hl : lk fr i with
    | none => exact .any
    | some u =>
      have := h i u hl
      simp only [Option.getD_some]
      cases hu : u.isA
      · rw [encA_b hu] at this; exact this
      · cases u <;> first | exact .any | cases hu
  · cases hl : lk fr 0 with
    | none => exact .any
    | some u => exact h 0 u hl
theorem leA_b {x : BV} {v : V} (h : LeA (.b x) (encA v)) : LeB x (encB v) := by
  cases hv : v.isA
  · rw [encA_b hv] at h
    generalize encB v = y at h ⊢
    cases h with
    | refl => exact .refl _
    | data _ p h => exact .data _ _ h
    | any => exact .any _
  · cases v with
    | agg vs => cases h
    | tup vs => cases h
    | _ => cases hv
theorem res_le {n : Nat} {fr fr' : List (Nat × V)} (h : LeF fr fr') (h1 : oneOk n fr = true) : LeA (encA (res n fr)) (encA (res n fr')) := by
  unfold res
  simp only [oneOk] at h1
  cases hn : Nat.beq n 1
  · rw [hn, Bool.false_or, List.all_eq_true] at h1
    refine .tup _ _ (by simp [resV]) fun i x y hx hy => ?_
    simp only [resV, List.getElem?_map, Option.map_eq_some_iff] at hx hy
    obtain ⟨v, ⟨j, hj, rfl⟩, rfl⟩ := hx
    obtain ⟨w, ⟨j', hj', rfl⟩, rfl⟩ := hy
    rw [hj] at hj'; cases hj'
    cases hl : lk fr' j with
    | none => exact .any _
    | some v =>
      obtain ⟨u, hu, hle⟩ := h j v hl
      rw [hu]
      have : u.isA = false := by simpa using h1 _ (lk_mem hu)
      rw [encA_b this] at hle
      exact leA_b hle
  · cases hl : lk fr' 0 with
    | none => exact .any _
    | some v =>
      obtain ⟨u, hu, hle⟩ := h 0 v hl
      rw [hu]; exact hle
theorem acalls_le {P : Program} {f : FuncId} {ars : List AV} {os os1 os2 : List AObj} {r r' : AV} (h : ACalls P f ars os fun o => o = some (r, os1)) (hr : LeA r r') (hl : os1.length = os2.length)
    (ho : ∀ (i : Nat) (x y : AObj), os1[i]? = some x → os2[i]? = some y → LeO x y) : ACalls P f ars os fun o => o = some (r', os2) := by
  intro w θ D vs h0 h1 h2 h3
  refine (h w θ D vs h0 h1 h2 h3).mono fun e w' hb => ?_
  rcases hb with ⟨v, r1, os', θ', D', e1, e2, e3, e4, e5⟩ | ⟨ch, e1, e2, e3, _⟩
  · cases e2
    refine .inl ⟨v, r', os2, θ', D', e1, rfl, hr.rel e3, ⟨by rw [e4.len, hl], e4.dlt, e4.inj, e4.olt, fun i l o hi hoi => ?_⟩, e5⟩
    obtain ⟨x, hx⟩ := getElem?_of_len hl hoi
    exact (ho i x o hx hoi).rel (e4.objs i l x hi hx)
  · cases e3
structure OracleOk (P : Program) (O : Oracle) : Prop where
  ret : ∀ f ars os s, O f ars os = some (some s) → ACalls P (f % 10000) (ars.map encA) (os.map encO) fun o => o = some (encA (res s.fr.length s.fr), s.hp.map encO)
  pan : ∀ f ars os, O f ars os = some none → ACalls P (f % 10000) (ars.map encA) (os.map encO) fun o => o = none
section
variable {R : Type} {P : Program} {O : Oracle} {d : Option Nat} {s : S} {κ kp : S → Option R} {r : R}
theorem callR_sound (hO : OracleOk P O) {f : FuncId} {ars : List V} {os : List Ob} {sh : Sh} {c : HL sh.sl} (hw : sh.wfB = true) (h : callR O f ars os sh = some c) :
    ACalls P (f % 10000) (ars.map encA) (os.map encO) (fun o => o = some (encA (res sh.n (unpack sh.sl c (sh.base ⟨[], []⟩)).fr), (unpack sh.sl c (sh.base ⟨[], []⟩)).hp.map encO)) ∧
      (sh.sl.all Slot.flat = true → (encA (res sh.n (unpack sh.sl c (sh.base ⟨[], []⟩)).fr)).FlatA ∧ ∀ o ∈ (unpack sh.sl c (sh.base ⟨[], []⟩)).hp.map encO, o.FlatO) := by
  unfold callR at h
  split at h
  · rename_i s' hs'
    obtain ⟨h1, h2⟩ := bif_eq h
    simp only [Bool.and_eq_true] at h1
    have hn := Nat.eq_of_beq_eq_true h1.1
    have hk : ∀ k v, lk (keepFr (⟨[], []⟩ : S).fr sh.keep) k = some v → lk s'.fr k = some v := by
      have : ∀ l, keepFr [] l = [] := fun l => by induction l with
        | nil => rfl
        | cons k l ih => simp only [keepFr, lk, ih]
      intro k v hv
      rw [this] at hv; cases hv
    have hP := pack_leP (s0 := ⟨[], []⟩) hw h2 hk
    have hS := hP.le
    refine ⟨acalls_le (hO.ret f ars os s' hs') ?_ (by simp [hP.len]) (fun i x y hx hy => hS.hp i x y hx hy), fun hf => ?_⟩
    · rw [hn]; exact res_le hP.fr h1.2
    · obtain ⟨f1, f2⟩ := pack_flat hw h2 hf
      refine ⟨res_flat f1, fun o ho => ?_⟩
      obtain ⟨o', ho', rfl⟩ := List.mem_map.1 ho
      exact f2 o' ho'
  · cases h
theorem callP_sound (hO : OracleOk P O) {f : FuncId} {ars : List V} {os : List Ob} {sh : Sh} {c : Option (HL sh.sl)} (h : callP O f ars os sh = some c) :
    (∀ c', c = some c' → callR O f ars os sh = some c') ∧ (c = none → ACalls P (f % 10000) (ars.map encA) (os.map encO) fun o => o = none) := by
  unfold callP at h
  split at h
  · rename_i s' hs'
    obtain ⟨h1, h2⟩ := bif_eq h
    split at h2
    · rename_i c2 hc2
      cases h2
      refine ⟨fun c' hc' => ?_, (fun hc => by cases hc)⟩
      cases hc'
      unfold callR
      rw [hs']
      simp only [h1, cond_true]
      exact hc2
    · cases h2
  · rename_i hs'
    cases h
    exact ⟨(fun c' hc' => by cases hc'), fun _ => hO.pan f ars os hs'⟩
  · cases h
theorem isD_kill {B : List Nat} {v : V} (h : v.isD = true) : mapV (killB1 B) v = v := by cases v <;> first | rfl | cases h
theorem callOn_sound (hO : OracleOk P O) {pan bor : Bool} {B : List Nat} {f : FuncId} {ars : List V} {sh : Sh} (hw : sh.wfB = true) (h : callOn pan O s d bor B f ars sh κ kp = some r) :
    ∃ os : List Ob, (enc s).hp = (enc s).hp ∧ B.mapM ((enc s).hp[·]?) = some (os.map encO) ∧ (∀ v ∈ ars, ∀ i ∈ v.ids, i ∈ B) ∧
      sexec.callK P (enc s) d bor B (f % 10000) (ars.map encA) (os.map encO) (fun st' => ∃ s', st' = enc s' ∧ Keeps (dstL d) s s' ∧ κ s' = some r) (fun st' => ∃ s', st' = enc s' ∧ Keeps (dstL d) s s' ∧ kp s' = some r) := by
  unfold callOn at h
  split at h
  · rename_i os hos
    obtain ⟨h1, h2⟩ := bif_eq h
    simp only [Bool.and_eq_true, decide_eq_true_eq, List.all_eq_true, Bool.or_eq_true, Bool.not_eq_true'] at h1
    obtain ⟨⟨⟨hnd, hids⟩, hoids⟩, hflat⟩ := h1
    have hin : ∀ v ∈ ars, ∀ i ∈ v.ids, i ∈ B := fun v hv => allIn_mem.1 (hids v hv)
    have hren : ((ars.map (mapV (V.ren (idx B)))).map encA) = (ars.map encA).map (AV.ren (B.idxOf ·)) := by
      rw [List.map_map, List.map_map]
      exact List.map_congr_left fun v _ => encA_ren _ v
    have horen : ((os.map (mapO (V.ren (idx B)))).map encO) = (os.map encO).map (AObj.ren (B.idxOf ·)) := by
      rw [List.map_map, List.map_map]
      exact List.map_congr_left fun v _ => encO_ren _ v
    have keepB : ∀ (os' : List Ob) (v : V), Keeps (dstL d) s ((s.back B os').putO d v) := fun os' v =>
      (Keeps.map (dstL d) s (s.back B os') (killB1 B) (fun v hv => isD_kill hv) rfl).trans (Keeps.put _ d v)
    have keepP : ∀ (os' : List Ob), Keeps (dstL d) s (s.back B os') := fun os' => Keeps.map (dstL d) s (s.back B os') (killB1 B) (fun v hv => isD_kill hv) rfl
    have retK : ∀ c : HL sh.sl, callR O f (ars.map (mapV (V.ren (idx B)))) (os.map (mapO (V.ren (idx B)))) sh = some c → afterCall s d B sh.n sh κ c = some r →
        ACalls P (f % 10000) ((ars.map encA).map (AV.ren (B.idxOf ·))) ((os.map encO).map (AObj.ren (B.idxOf ·))) fun o => match o with
          | some (r', os') => (bor = true → r'.FlatA ∧ ∀ o ∈ os', o.FlatO) ∧ ∃ s', ((enc s).back B os').putO d (r'.ren (backId B (enc s).hp.length)) = enc s' ∧ Keeps (dstL d) s s' ∧ κ s' = some r
          | none => ∃ s', (enc s).back B ((os.map encO).map fun _ => .gone) = enc s' ∧ Keeps (dstL d) s s' ∧ kp s' = some r := by
      intro c hc hk
      obtain ⟨q1, q2⟩ := callR_sound hO hw hc
      rw [hren, horen] at q1
      refine q1.mono fun o ho => ?_
      subst ho
      refine ⟨fun hb => q2 ?_, _, ?_, keepB _ _, hk⟩
      · rcases hflat with hh | hh
        · rw [hb] at hh; cases hh
        · exact List.all_eq_true.2 hh
      · rw [enc_put, enc_back, encA_ren, backI_eq]
        congr 2
        simp [enc]
    refine ⟨os, rfl, obsOf_sound B os hos, hin, hnd, ?_, ?_, ?_⟩
    · intro a ha i hi
      obtain ⟨v, hv, rfl⟩ := List.mem_map.1 ha
      rw [← encA_ids] at hi
      exact hin v hv i hi
    · intro o ho i hi
      obtain ⟨o', ho', rfl⟩ := List.mem_map.1 ho
      rw [← encO_ids] at hi
      exact allIn_mem.1 (hoids o' ho') i hi
    · cases pan with
      | false =>
        obtain ⟨c, hc, hk⟩ := bind_eq h2
        exact retK c hc hk
      | true =>
        obtain ⟨oc, hc, hk⟩ := bind_eq h2
        obtain ⟨g1, g2⟩ := callP_sound hO hc
        cases oc with
        | some c => exact retK c (g1 c rfl) hk
        | none =>
          have q1 := g2 rfl
          rw [hren, horen] at q1
          refine q1.mono fun o ho => ?_
          subst ho
          refine ⟨_, ?_, keepP _, hk⟩
          rw [enc_back]
          congr 1
          rw [List.map_map, List.map_map]; rfl
  · cases h
end
end Go.Ev
