/-
  THE ABSTRACT LAYER, 9: aggregates, slices that are laid whole, calls.
-/
import Derived.Test.YtfgchoifgocclaaDoorAv8
namespace Go.Av
open Go Go.RowKit

theorem splice_get {α : Type} (xs : List α) (off : Nat) (ys : List α) (h : off + ys.length ≤ xs.length) (k : Nat) : (splice xs off ys)[k]? = if off ≤ k ∧ k < off + ys.length then ys[k - off]? else xs[k]? := by
  unfold splice
  have hl : (xs.take off).length = off := by simp; omega
  by_cases h1 : k < off
  · rw [List.append_assoc, List.getElem?_append_left (by omega), if_neg (by omega), List.getElem?_take, if_pos h1]
  · rw [List.append_assoc, List.getElem?_append_right (by omega), hl]
    by_cases h2 : k < off + ys.length
    · rw [List.getElem?_append_left (by omega), if_pos ⟨by omega, h2⟩]
    · rw [List.getElem?_append_right (by omega), if_neg (by omega), List.getElem?_drop]
      congr 1; omega

theorem splice_length {α : Type} (xs : List α) (off : Nat) (ys : List α) (h : off + ys.length ≤ xs.length) : (splice xs off ys).length = xs.length := by
  unfold splice; simp; omega

theorem foldl_set (off : Nat) : ∀ (l : List (Value × Nat)) (j : Nat) (cells : Array Value), (∀ (i : Nat) (x : Value × Nat), l[i]? = some x → x.2 = j + i) → off + j + l.length ≤ cells.size →
    (l.foldl (fun cs x => cs.setIfInBounds (off + x.2) x.1) cells).size = cells.size ∧
    ∀ k, (l.foldl (fun cs x => cs.setIfInBounds (off + x.2) x.1) cells)[k]? = if off + j ≤ k ∧ k < off + j + l.length then (l[k - (off + j)]?).map (·.1) else cells[k]?
  | [], j, cells, _, _ => ⟨rfl, fun k => by rw [if_neg (by simp)]; rfl⟩
  | x :: l, j, cells, hx, hl => by
    have h0 : x.2 = j := hx 0 x rfl
    simp only [List.foldl_cons, List.length_cons] at hl ⊢
    obtain ⟨h1, h2⟩ := foldl_set off l (j + 1) (cells.setIfInBounds (off + x.2) x.1) (fun i y hy => by have := hx (i + 1) y (by simpa using hy); omega) (by simp; omega)
    refine ⟨by rw [h1]; simp, fun k => ?_⟩
    rw [h2 k]
    by_cases hk : k = off + j
    · subst hk
      rw [if_neg (by omega), if_pos ⟨by omega, by omega⟩, h0]
      have : off + j < cells.size := by omega
      simp [this]
    · by_cases h3 : off + (j + 1) ≤ k ∧ k < off + (j + 1) + l.length
      · rw [if_pos h3, if_pos ⟨by omega, by omega⟩]
        have : k - (off + j) = (k - (off + (j + 1))) + 1 := by omega
        rw [this]; rfl
      · rw [if_neg h3, if_neg (by omega), h0, Array.getElem?_setIfInBounds_ne (by omega)]

theorem set_cells (off : Nat) (vs cells : Array Value) (h : off + vs.size ≤ cells.size) :
    (vs.zipIdx.foldl (fun cs (c, j) => cs.setIfInBounds (off + j) c) cells).size = cells.size ∧
    ∀ k, (vs.zipIdx.foldl (fun cs (c, j) => cs.setIfInBounds (off + j) c) cells)[k]? = if off ≤ k ∧ k < off + vs.size then vs[k - off]? else cells[k]? := by
  have e : vs.zipIdx.foldl (fun cs (c, j) => cs.setIfInBounds (off + j) c) cells = (vs.toList.zipIdx).foldl (fun cs x => cs.setIfInBounds (off + x.2) x.1) cells := by
    rw [← Array.foldl_toList]
    simp
  rw [e]
  obtain ⟨h1, h2⟩ := foldl_set off vs.toList.zipIdx 0 cells (fun i x hx => by
    rw [List.getElem?_zipIdx] at hx
    cases hv : vs.toList[i]? with
    | none => rw [hv] at hx; cases hx
    | some y => rw [hv] at hx; simp at hx; subst hx; simp) (by simpa using h)
  refine ⟨h1, fun k => ?_⟩
  rw [h2 k]
  simp only [Nat.add_zero, List.length_zipIdx, Array.length_toList]
  split
  · rw [List.getElem?_zipIdx]
    simp [Option.map_map, Function.comp_def]
  · rfl

section
variable {P : Program} {o : Oper} {c : Ctx} {θ : List Loc} {D : Nat → Prop} {st : St} {a : Act} {w : World} {K : AV → Prop}

/-- Parts laid into the zero cells. -/
theorem fill_ok (place : Nat → Option (Nat × Nat)) : ∀ (parts : List (Nat × Value)) (qs : List (Nat × Nat × AV)) (cells : Array Value) (bs : List BV), parts.length = qs.length →
    (∀ (i : Nat) (x : Nat × Value) (q : Nat × Nat × AV), parts[i]? = some x → qs[i]? = some q → place x.1 = some (q.1, q.2.1) ∧ RelA θ D w x.2 q.2.2) →
    (∀ q ∈ qs, q.2.2.ok = true ∧ q.2.2.cells.length = q.2.1 ∧ q.1 + q.2.1 ≤ bs.length) → cells.size = bs.length → (∀ (i : Nat) (u : Value) (x : BV), cells[i]? = some u → bs[i]? = some x → RelB θ D w u x) →
    ∃ out, Instr.fill place cells parts = some out ∧ out.size = (qs.foldl (fun cs q => splice cs q.1 q.2.2.cells) bs).length ∧
      ∀ (i : Nat) (u : Value) (x : BV), out[i]? = some u → (qs.foldl (fun cs q => splice cs q.1 q.2.2.cells) bs)[i]? = some x → RelB θ D w u x
  | [], [], cells, bs, _, _, _, hs, hr => ⟨cells, rfl, hs, hr⟩
  | (i, v) :: parts, q :: qs, cells, bs, hl, hp, hq, hs, hr => by
    obtain ⟨h1, h2⟩ := hp 0 _ _ rfl rfl
    obtain ⟨h3, h4, h5⟩ := hq q (by simp)
    obtain ⟨h6, h7⟩ := relA_cells h2 h3
    have h6' : v.cells.size = q.2.1 := by rw [← h4]; exact h6
    have hsp := splice_length bs q.1 q.2.2.cells (by omega)
    obtain ⟨s1, s2⟩ := set_cells q.1 v.cells cells (by omega)
    obtain ⟨out, e1, e2, e3⟩ := fill_ok place parts qs (v.cells.zipIdx.foldl (fun cs (c, j) => cs.setIfInBounds (q.1 + j) c) cells) (splice bs q.1 q.2.2.cells) (by simpa using hl)
      (fun i x q' hx hq' => hp (i + 1) x q' (by simpa using hx) (by simpa using hq')) (fun q' hq' => by rw [hsp]; exact hq q' (by simp [hq'])) (by rw [s1, hsp]; exact hs)
      (fun k u x hu hx => by
        rw [s2 k] at hu
        rw [splice_get bs q.1 q.2.2.cells (by omega)] at hx
        split at hu
        · rw [if_pos (by omega)] at hx; exact (h7 (k - q.1) u x hu hx).1
        · rw [if_neg (by omega)] at hx; exact hr k u x hu hx)
    refine ⟨out, ?_, e2, e3⟩
    simp only [Instr.fill, h1]
    rw [if_neg (by simp [h6']; omega)]
    exact e1

theorem relB_zero (z : Array Value) : ∀ (i : Nat) (u : Value) (x : BV), z[i]? = some u → (z.toList.map fun v => constB v)[i]? = some x → RelB θ D w u x := by
  intro i u x hu hx
  rw [List.getElem?_map, Array.getElem?_toList, hu] at hx
  simp at hx
  subst hx
  exact relB_const u

theorem sound_build (hI : Inv c θ D st a w) {t : TypeId} {parts : Array (Nat × Operand)} {z : Value} {ps : List (Nat × Nat × SX)} (ho : o.op = .build t parts) (hz : zeroT P t = some z) (hps : partsOf P t parts.toList = some ps)
    (h : sev P st (.build z.cells.toList ps) K) : Yields P o a w (Res c θ st a K) := by
  obtain ⟨qs, hqs, hcond, hk⟩ := h
  obtain ⟨q1, q2⟩ := mapM_some hqs
  have hz' := hz
  simp only [zeroT, Option.bind_eq_some_iff] at hz'
  obtain ⟨it, hit, hz1⟩ := hz'
  have hrel : ∀ (place : Nat → Option (Nat × Nat)), (∀ (i : Nat) (x : Nat × Operand) (s : Nat × Nat × SX), parts.toList[i]? = some x → ps[i]? = some s → place x.1 = some (s.1, s.2.1) ∧ s.2.2 = SX.of x.2) → parts.toList.length = ps.length →
      ∃ out, Instr.fill place z.cells (parts.map fun (i, x) => (i, a.eval x)).toList = some out ∧ RelA θ D w (.agg out) (.agg (qs.foldl (fun cs q => splice cs q.1 q.2.2.cells) (z.cells.toList.map fun v => constB v))) := by
    intro place hpl hlen
    obtain ⟨out, e1, e2, e3⟩ := fill_ok (θ := θ) (D := D) (w := w) place (parts.map fun (i, x) => (i, a.eval x)).toList qs z.cells (z.cells.toList.map fun v => constB v) (by simp; rw [← q1, ← hlen]; simp)
      (fun i x q hx hq => by
        simp only [Array.toList_map, List.getElem?_map] at hx
        cases hpi : parts.toList[i]? with
        | none => rw [hpi] at hx; simp at hx
        | some pr =>
          rw [hpi] at hx; simp at hx; subst hx
          obtain ⟨s, hs⟩ := getElem?_of_len (l := ps) (m := qs) q1 hq
          have := q2 i s q hs hq
          simp only [Option.map_eq_some_iff] at this
          obtain ⟨av, hav, rfl⟩ := this
          obtain ⟨p1, p2⟩ := hpl i pr s hpi hs
          refine ⟨p1, ?_⟩
          rw [p2] at hav
          exact hI.get hav) (fun q hq => by have := hcond q hq; simpa using this) (by simp) (relB_zero z.cells)
    exact ⟨out, e1, out, rfl, e2, e3⟩
  have hbuilt : ∃ out, P.built t (parts.map fun (i, x) => (i, a.eval x)).toList = some out ∧ RelA θ D w (.agg out) (.agg (qs.foldl (fun cs q => splice cs q.1 q.2.2.cells) (z.cells.toList.map fun v => constB v))) := by
    unfold partsOf at hps
    split at hps
    · rename_i fs hfs
      simp only [Option.bind_eq_some_iff] at hps
      obtain ⟨places, hpl, hps⟩ := hps
      obtain ⟨m1, m2⟩ := mapM_some hps
      obtain ⟨out, e1, e2⟩ := hrel (places.toArray[·]?) (fun i x s hx hs => by
        have := m2 i x s hx hs
        simp only [Option.map_eq_some_iff] at this
        obtain ⟨pl, hpl', rfl⟩ := this
        exact ⟨by simp [hpl'], rfl⟩) m1
      refine ⟨out, ?_, e2⟩
      simp only [Program.built, hit, hfs, hz1, hpl]
      exact e1
    · rename_i n e hfs
      simp only [Option.bind_eq_some_iff] at hps
      obtain ⟨ie, hie, hps⟩ := hps
      obtain ⟨m1, m2⟩ := mapM_some hps
      obtain ⟨out, e1, e2⟩ := hrel (fun i => some (i * ie.size, ie.size)) (fun i x s hx hs => by
        have := m2 i x s hx hs
        simp only [Option.some.injEq] at this
        subst this
        exact ⟨rfl, rfl⟩) m1
      refine ⟨out, ?_, e2⟩
      simp only [Program.built, hit, hfs, hz1, hie]
      exact e1
    · cases hps
  obtain ⟨out, e1, e2⟩ := hbuilt
  refine yields_same hI ?_ hk e2
  simp [execOp, ho, run_build w t _ _ e1]

end
end Go.Av
