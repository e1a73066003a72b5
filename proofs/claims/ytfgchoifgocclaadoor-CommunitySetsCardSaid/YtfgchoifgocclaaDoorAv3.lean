/-
  THE ABSTRACT LAYER, 3: what it means that a frame and a world are as an abstract state says.
-/
import Derived.Test.YtfgchoifgocclaaDoorAv2
namespace Go.Av
open Go Go.RowKit

/-- Where an object lies. -/
inductive Loc where
  | no
  | blk (g : Nat)
  | nil
  | hdr (g n cap sz : Nat)

def Loc.own : Loc → Option Nat
  | .blk g => some g
  | .hdr g _ _ _ => some g
  | _ => none

def Loc.head (l : Loc) (v : Value) : Prop := match l with
  | .nil => v = .slice none 0 0
  | .hdr g n cap _ => v = .slice (some ⟨g, 0, none⟩) n cap
  | _ => False

def RelB (θ : List Loc) (D : Nat → Prop) (w : World) (v : Value) : BV → Prop
  | .pv p => RelP D w v p
  | .nils => v = .slice none 0 0
  | .sl id => ∃ l, θ[id]? = some l ∧ l.head v
  | .ptr id off => ∃ g, θ[id]? = some (.blk g) ∧ v = .pointer (some ⟨g, off, none⟩)
  | .elt id i off => ∃ g n cap sz, θ[id]? = some (.hdr g n cap sz) ∧ v = .pointer (some ⟨g, i * sz + off, none⟩)
  | .clo f ids => ∃ gs : List Nat, gs.length = ids.length ∧ (∀ (k id g : Nat), ids[k]? = some id → gs[k]? = some g → θ[id]? = some (.blk g)) ∧ v = .func f #[] (gs.map fun g => Value.pointer (some ⟨g, 0, none⟩)).toArray

def RelA (θ : List Loc) (D : Nat → Prop) (w : World) (v : Value) : AV → Prop
  | .b x => RelB θ D w v x
  | .agg xs => ∃ vs : Array Value, v = .agg vs ∧ vs.size = xs.length ∧ ∀ (i : Nat) (u : Value) (x : BV), vs[i]? = some u → xs[i]? = some x → RelB θ D w u x

def RelO (θ : List Loc) (D : Nat → Prop) (w : World) : Loc → AObj → Prop
  | .no, .gone => True
  | .blk g, .box t cs => ∃ c : Array Value, w.heap[g]? = some (.cells c t (0, 0)) ∧ c.size = cs.length ∧ ∀ (i : Nat) (u : Value) (x : BV), c[i]? = some u → cs[i]? = some x → RelB θ D w u x
  | .nil, .vec _ _ xs => xs = []
  | .hdr g n cap s, .vec e sz xs => s = sz ∧ n = xs.length ∧ n ≤ cap ∧ cap ≤ maxLen ∧ (∀ x ∈ xs, x.cells.length = sz) ∧ ∃ c : Array Value, w.heap[g]? = some (.cells c e (0, 0)) ∧ c.size = cap * sz ∧
      ∀ (i j : Nat) (x y : PV), xs[i]? = some x → x.cells[j]? = some y → ∃ u, c[i * sz + j]? = some u ∧ RelP D w u y
  | _, _ => False

structure Ok (θ : List Loc) (D : Nat → Prop) (hp : List AObj) (w : World) : Prop where
  len : θ.length = hp.length
  dlt : ∀ b, D b → b < w.heap.size
  inj : ∀ (i j : Nat) (li lj : Loc) (g : Nat), θ[i]? = some li → θ[j]? = some lj → li.own = some g → lj.own = some g → i = j
  olt : ∀ (i : Nat) (l : Loc) (g : Nat), θ[i]? = some l → l.own = some g → g < w.heap.size ∧ ¬ D g
  objs : ∀ (i : Nat) (l : Loc) (o : AObj), θ[i]? = some l → hp[i]? = some o → RelO θ D w l o

/-- Outside the blocks O, what was there is as it was. -/
structure Keep (O : Nat → Prop) (w w' : World) : Prop where
  os : w'.os = w.os
  tape : w'.tape = w.tape
  output : w'.output = w.output
  size : w.heap.size ≤ w'.heap.size
  block : ∀ k, k < w.heap.size → ¬ O k → w'.heap[k]? = w.heap[k]?

theorem Keep.refl (O : Nat → Prop) (w : World) : Keep O w w := ⟨rfl, rfl, rfl, Nat.le_refl _, fun _ _ _ => rfl⟩
theorem Keep.trans {O : Nat → Prop} {a b c : World} (h : Keep O a b) (k : Keep O b c) : Keep O a c :=
  ⟨k.os.trans h.os, k.tape.trans h.tape, k.output.trans h.output, Nat.le_trans h.size k.size, fun i hi ho => (k.block i (Nat.lt_of_lt_of_le hi h.size) ho).trans (h.block i hi ho)⟩
theorem Keep.of_below {O : Nat → Prop} {w w' : World} (h : Below w.heap.size w w') : Keep O w w' := ⟨h.os, h.tape, h.output, h.size, fun k hk _ => h.block k hk⟩
theorem Keep.below {w w' : World} (h : Keep (fun _ => False) w w') : Below w.heap.size w w' := ⟨h.os, h.tape, h.output, h.size, fun k hk => h.block k hk id⟩

structure Ctx where
  n : Nat
  w0 : World
  D0 : Nat → Prop
  O0 : Nat → Prop
  gk : ∀ w, Keep O0 w0 w → GW w

structure Inv (c : Ctx) (θ : List Loc) (D : Nat → Prop) (st : St) (a : Act) (w : World) : Prop where
  size : a.tmps.size = c.n
  defers : a.defers = []
  ok : Ok θ D st.hp w
  keep : Keep c.O0 c.w0 w
  dsub : ∀ b, c.D0 b → D b
  dnew : ∀ b, D b → c.D0 b ∨ c.O0 b ∨ c.w0.heap.size ≤ b
  onew : ∀ (i : Nat) (l : Loc) (g : Nat), θ[i]? = some l → l.own = some g → c.O0 g ∨ c.w0.heap.size ≤ g
  fr : ∀ k x, look st.fr k = some x → RelA θ D w (a.tmps.getD k undef) x

def Rel (c : Ctx) (st : St) (a : Act) (w : World) : Prop := ∃ θ D, Inv c θ D st a w

/-! ### Monotonicity -/
section
variable {θ : List Loc} {D D' : Nat → Prop} {w w' : World}

theorem RelB.mono (hD : ∀ b, D b → D' b) (hw : ∀ b, D b → w'.heap[b]? = w.heap[b]?) {v : Value} {x : BV} (h : RelB θ D w v x) : RelB θ D' w' v x := by
  cases x <;> simp only [RelB] at h ⊢
  · exact h.mono hD hw
  all_goals exact h

theorem RelA.mono (hD : ∀ b, D b → D' b) (hw : ∀ b, D b → w'.heap[b]? = w.heap[b]?) {v : Value} {x : AV} (h : RelA θ D w v x) : RelA θ D' w' v x := by
  cases x with
  | b x => exact RelB.mono hD hw h
  | agg xs =>
    obtain ⟨vs, hv, hs, hh⟩ := h
    exact ⟨vs, hv, hs, fun i u x hu hx => (hh i u x hu hx).mono hD hw⟩

theorem RelO.mono (hD : ∀ b, D b → D' b) (hw : ∀ b, D b → w'.heap[b]? = w.heap[b]?) {l : Loc} {o : AObj} (hl : ∀ g, l.own = some g → w'.heap[g]? = w.heap[g]?) (h : RelO θ D w l o) : RelO θ D' w' l o := by
  cases l <;> cases o <;> simp only [RelO] at h ⊢ <;> try exact h
  case blk.box g t cs =>
    obtain ⟨c, h1, h2, h3⟩ := h
    exact ⟨c, (hl g rfl).trans h1, h2, fun i u x hu hx => (h3 i u x hu hx).mono hD hw⟩
  case hdr.vec g n cap s e sz xs =>
    obtain ⟨h1, h2, h3, h4, h5, c, h6, h7, h8⟩ := h
    exact ⟨h1, h2, h3, h4, h5, c, (hl g rfl).trans h6, h7, fun i j x y hx hy => let ⟨u, e1, e2⟩ := h8 i j x y hx hy; ⟨u, e1, e2.mono hD hw⟩⟩

theorem RelB.ext {θ' : List Loc} (hθ : ∀ (i : Nat) (l : Loc), θ[i]? = some l → θ'[i]? = some l) {v : Value} {x : BV} (h : RelB θ D w v x) : RelB θ' D w v x := by
  cases x <;> simp only [RelB] at h ⊢
  · exact h
  · exact h
  · obtain ⟨l, h1, h2⟩ := h; exact ⟨l, hθ _ _ h1, h2⟩
  · obtain ⟨g, h1, h2⟩ := h; exact ⟨g, hθ _ _ h1, h2⟩
  · obtain ⟨g, n, cap, sz, h1, h2⟩ := h; exact ⟨g, n, cap, sz, hθ _ _ h1, h2⟩
  · obtain ⟨gs, h1, h2, h3⟩ := h; exact ⟨gs, h1, fun k id g e1 e2 => hθ _ _ (h2 k id g e1 e2), h3⟩

theorem RelA.ext {θ' : List Loc} (hθ : ∀ (i : Nat) (l : Loc), θ[i]? = some l → θ'[i]? = some l) {v : Value} {x : AV} (h : RelA θ D w v x) : RelA θ' D w v x := by
  cases x with
  | b x => exact RelB.ext hθ h
  | agg xs =>
    obtain ⟨vs, hv, hs, hh⟩ := h
    exact ⟨vs, hv, hs, fun i u x hu hx => (hh i u x hu hx).ext hθ⟩

theorem RelO.ext {θ' : List Loc} (hθ : ∀ (i : Nat) (l : Loc), θ[i]? = some l → θ'[i]? = some l) {l : Loc} {o : AObj} (h : RelO θ D w l o) : RelO θ' D w l o := by
  cases l <;> cases o <;> simp only [RelO] at h ⊢ <;> try exact h
  case blk.box g t cs =>
    obtain ⟨c, h1, h2, h3⟩ := h
    exact ⟨c, h1, h2, fun i u x hu hx => (h3 i u x hu hx).ext hθ⟩
end

theorem get_append {α : Type} {l m : List α} {i : Nat} {x : α} (h : l[i]? = some x) : (l ++ m)[i]? = some x := by
  rw [List.getElem?_append_left (List.getElem?_eq_some_iff.1 h).1]; exact h

/-- A world in which nothing of what was there has turned; new blocks count as stable. -/
theorem Inv.below {c : Ctx} {θ : List Loc} {D : Nat → Prop} {st : St} {a : Act} {w w' : World} (h : Inv c θ D st a w) (hb : Below w.heap.size w w') (hw0 : c.w0.heap.size ≤ w.heap.size) {D' : Nat → Prop} (hD : ∀ b, D b → D' b)
    (hD' : ∀ b, D' b → D b ∨ (w.heap.size ≤ b ∧ b < w'.heap.size)) : Inv c θ D' st a w' := by
  have hDw : ∀ b, D b → w'.heap[b]? = w.heap[b]? := fun b hb' => hb.block b (h.ok.dlt b hb')
  refine ⟨h.size, h.defers, ⟨h.ok.len, fun b hb' => ?_, h.ok.inj, fun i l g hi hg => ?_, fun i l o hi ho => ?_⟩, h.keep.trans (.of_below hb), fun b hb' => hD b (h.dsub b hb'), fun b hb' => ?_, h.onew, fun k x hk => (h.fr k x hk).mono hD hDw⟩
  · rcases hD' b hb' with h1 | h1
    · exact Nat.lt_of_lt_of_le (h.ok.dlt b h1) hb.size
    · exact h1.2
  · obtain ⟨h1, h2⟩ := h.ok.olt i l g hi hg
    refine ⟨Nat.lt_of_lt_of_le h1 hb.size, fun hd => ?_⟩
    rcases hD' g hd with h3 | h3
    · exact h2 h3
    · omega
  · exact (h.ok.objs i l o hi ho).mono hD hDw fun g hg => hb.block g (h.ok.olt i l g hi hg).1
  · rcases hD' b hb' with h1 | h1
    · exact h.dnew b h1
    · exact .inr (.inr (by omega))

theorem Inv.w0le {c : Ctx} {θ : List Loc} {D : Nat → Prop} {st : St} {a : Act} {w : World} (h : Inv c θ D st a w) : c.w0.heap.size ≤ w.heap.size := h.keep.size

theorem Inv.drew {c : Ctx} {θ : List Loc} {D : Nat → Prop} {st : St} {a : Act} {w : World} (h : Inv c θ D st a w) : Inv c θ D st a w.drew :=
  h.below ((Below.refl _ _).drew) h.w0le (fun _ hb => hb) (fun _ hb => .inl hb)

/-- A result into its slot. -/
theorem Inv.put {c : Ctx} {θ : List Loc} {D : Nat → Prop} {st : St} {a : Act} {w : World} (h : Inv c θ D st a w) {d : Option Nat} {v : Value} {x : AV} (hd : ∀ k, d = some k → k < c.n) (hv : RelA θ D w v x) : Inv c θ D (st.putO d x) (a.put d v) w := by
  cases d with
  | none => exact h
  | some k =>
    have hk := hd k rfl
    refine ⟨by simpa [Act.put, St.putO, St.put] using h.size, h.defers, h.ok, h.keep, h.dsub, h.dnew, h.onew, fun j y hj => ?_⟩
    simp only [St.putO, St.put, look] at hj
    have hs : k < a.tmps.size := by rw [h.size]; exact hk
    by_cases hjk : j = k
    · subst hjk
      simp only [if_true] at hj
      cases hj
      simp [Act.put, hs]
      exact hv
    · simp only [hjk, if_false] at hj
      have := h.fr j y hj
      simp [Act.put, Array.getElem?_setIfInBounds_ne (Ne.symm hjk)] at this ⊢
      exact this

/-- One object more. -/
theorem Inv.push {c : Ctx} {θ : List Loc} {D : Nat → Prop} {st : St} {a : Act} {w : World} (h : Inv c θ D st a w) {l : Loc} {o : AObj} (ho : RelO (θ ++ [l]) D w l o)
    (hl : ∀ g, l.own = some g → c.w0.heap.size ≤ g ∧ g < w.heap.size ∧ ¬ D g ∧ ∀ (i : Nat) (li : Loc), θ[i]? = some li → li.own ≠ some g) : Inv c (θ ++ [l]) D { st with hp := st.hp ++ [o] } a w := by
  have hext : ∀ (i : Nat) (l' : Loc), θ[i]? = some l' → (θ ++ [l])[i]? = some l' := fun i l' hi => get_append hi
  have hcase : ∀ (i : Nat) (l' : Loc), (θ ++ [l])[i]? = some l' → θ[i]? = some l' ∨ (i = θ.length ∧ l' = l) := by
    intro i l' hi
    rcases Nat.lt_or_ge i θ.length with h1 | h1
    · rw [List.getElem?_append_left h1] at hi; exact .inl hi
    · rw [List.getElem?_append_right h1] at hi
      have : i - θ.length = 0 := by
        rcases Nat.eq_zero_or_pos (i - θ.length) with h2 | h2
        · exact h2
        · rw [List.getElem?_eq_none (show [l].length ≤ i - θ.length from h2)] at hi; cases hi
      rw [this] at hi
      simp at hi
      exact .inr ⟨by omega, hi.symm⟩
  refine ⟨h.size, h.defers, ⟨by simp [h.ok.len], h.ok.dlt, fun i j li lj g hi hj hgi hgj => ?_, fun i l' g hi hg => ?_, fun i l' o' hi ho' => ?_⟩, h.keep, h.dsub, h.dnew, fun i l' g hi hg => ?_, fun k x hk => (h.fr k x hk).ext hext⟩
  · rcases hcase i li hi with h1 | ⟨rfl, rfl⟩ <;> rcases hcase j lj hj with h2 | ⟨rfl, rfl⟩
    · exact h.ok.inj i j li lj g h1 h2 hgi hgj
    · exact absurd hgi ((hl g hgj).2.2.2 i li h1)
    · exact absurd hgj ((hl g hgi).2.2.2 j lj h2)
    · rfl
  · rcases hcase i l' hi with h1 | ⟨rfl, rfl⟩
    · exact h.ok.olt i l' g h1 hg
    · exact ⟨(hl g hg).2.1, (hl g hg).2.2.1⟩
  · rcases hcase i l' hi with h1 | ⟨rfl, rfl⟩
    · have hlt : i < st.hp.length := by rw [← h.ok.len]; exact (List.getElem?_eq_some_iff.1 h1).1
      rw [List.getElem?_append_left hlt] at ho'
      exact (h.ok.objs i l' o' h1 ho').ext hext
    · rw [h.ok.len, List.getElem?_append_right (Nat.le_refl _)] at ho'
      simp at ho'
      subst ho'
      exact ho
  · rcases hcase i l' hi with h1 | ⟨rfl, rfl⟩
    · exact h.onew i l' g h1 hg
    · exact .inr (hl g hg).1

end Go.Av
