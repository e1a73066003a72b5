/-
  THE ABSTRACT LAYER, 10: what turns the objects: new ones, stores, appends. First the states.
-/
import Derived.Test.YtfgchoifgocclaaDoorAv9
namespace Go.Av
open Go Go.RowKit

section
variable {c : Ctx} {θ : List Loc} {D : Nat → Prop} {st : St} {a : Act} {w : World}

theorem below_alloc (w : World) (o : Obj) : Below w.heap.size w (w.alloc o) := (Below.refl _ _).alloc (Nat.le_refl _) o

/-- A new block that is the call's own. -/
theorem Inv.allocOwn (hI : Inv c θ D st a w) {l : Loc} {o : AObj} {ob : Obj} (hl : l.own = some w.heap.size) (ho : ∀ θ', (∀ (i : Nat) (l : Loc), θ[i]? = some l → θ'[i]? = some l) → RelO θ' D (w.alloc ob) l o) :
    Inv c (θ ++ [l]) D { st with hp := st.hp ++ [o] } a (w.alloc ob) := by
  have h1 : Inv c θ D st a (w.alloc ob) := hI.below (below_alloc w ob) hI.w0le (fun _ h => h) (fun _ h => .inl h)
  refine h1.push (ho _ fun i l' hi => get_append hi) fun g hg => ?_
  rw [hl] at hg
  cases hg
  refine ⟨hI.w0le, by simp, fun hd => by have := hI.ok.dlt _ hd; omega, fun i li hi he => ?_⟩
  have := (hI.ok.olt i li _ hi he).1
  omega

/-- An owned object turns in its own block. -/
theorem Inv.store (hI : Inv c θ D st a w) {id g : Nat} {l : Loc} {o' : AObj} {w' : World} (hid : θ[id]? = some l) (hl : l.own = some g) (hos : w'.os = w.os) (ht : w'.tape = w.tape) (hout : w'.output = w.output) (hsz : w'.heap.size = w.heap.size)
    (hother : ∀ k, k ≠ g → w'.heap[k]? = w.heap[k]?) (ho : RelO θ D w' l o') : Inv c θ D { st with hp := st.hp.set id o' } a w' := by
  have hDw : ∀ b, D b → w'.heap[b]? = w.heap[b]? := fun b hb => hother b fun e => (hI.ok.olt id l g hid hl).2 (e ▸ hb)
  refine ⟨hI.size, hI.defers, ⟨by simp [hI.ok.len], fun b hb => by rw [hsz]; exact hI.ok.dlt b hb, hI.ok.inj, fun i li gi hi hgi => by rw [hsz]; exact hI.ok.olt i li gi hi hgi, fun i li oi hi hoi => ?_⟩,
    ⟨hos.trans hI.keep.os, ht.trans hI.keep.tape, hout.trans hI.keep.output, by rw [hsz]; exact hI.keep.size, fun k hk hn => (hother k fun e => ?_).trans (hI.keep.block k hk hn)⟩, hI.dsub, hI.dnew, hI.onew, fun k x hk => (hI.fr k x hk).mono (fun _ h => h) hDw⟩
  · by_cases hii : i = id
    · subst hii
      rw [hid] at hi; cases hi
      have hlt : i < st.hp.length := by rw [← hI.ok.len]; exact (List.getElem?_eq_some_iff.1 hid).1
      rw [List.getElem?_set_self hlt] at hoi
      cases hoi
      exact ho
    · rw [List.getElem?_set_ne (Ne.symm hii)] at hoi
      refine (hI.ok.objs i li oi hi hoi).mono (fun _ h => h) hDw fun gi hgi => hother gi fun e => hii ?_
      subst e
      exact hI.ok.inj i id li l gi hi hid hgi hl
  · subst e
    rcases hI.onew id l k hid hl with h1 | h1
    · exact hn h1
    · omega


theorem look_map (f : AV → AV) : ∀ (fr : List (Nat × AV)) (k : Nat), look (fr.map fun x => (x.1, f x.2)) k = (look fr k).map f
  | [], _ => rfl
  | (j, x) :: fr, k => by
    simp only [List.map_cons, look]
    split
    · rfl
    · exact look_map f fr k

theorem RelB.kill {θ : List Loc} {D : Nat → Prop} {w : World} {v : Value} {x : BV} {id : Nat} {l l' : Loc} (hid : θ[id]? = some l) (hnb : ∀ g, l ≠ .blk g) (h : RelB θ D w v x) : RelB (θ.set id l') D w v (x.kill id) := by
  have hset : ∀ (k : Nat), k ≠ id → (θ.set id l')[k]? = θ[k]? := fun k hk => List.getElem?_set_ne (Ne.symm hk)
  cases x with
  | pv p => exact h
  | nils => exact h
  | sl k =>
    simp only [BV.kill]
    split
    · exact RelP.any v
    · rename_i hk
      obtain ⟨lk, h1, h2⟩ := h
      exact ⟨lk, (hset k hk).trans h1, h2⟩
  | ptr k off =>
    obtain ⟨g, h1, h2⟩ := h
    refine ⟨g, (hset k fun e => ?_).trans h1, h2⟩
    subst e
    rw [hid] at h1; cases h1
    exact hnb g rfl
  | elt k i off =>
    simp only [BV.kill]
    split
    · exact RelP.any v
    · rename_i hk
      obtain ⟨g, n, cap, sz, h1, h2⟩ := h
      exact ⟨g, n, cap, sz, (hset k hk).trans h1, h2⟩
  | clo f ids =>
    obtain ⟨gs, h1, h2, h3⟩ := h
    refine ⟨gs, h1, fun j k g hj hg => (hset k fun e => ?_).trans (h2 j k g hj hg), h3⟩
    have := h2 j k g hj hg
    subst e
    rw [hid] at this; cases this
    exact hnb g rfl

theorem RelA.kill {θ : List Loc} {D : Nat → Prop} {w : World} {v : Value} {x : AV} {id : Nat} {l l' : Loc} (hid : θ[id]? = some l) (hnb : ∀ g, l ≠ .blk g) (h : RelA θ D w v x) : RelA (θ.set id l') D w v (x.kill id) := by
  cases x with
  | b x => exact RelB.kill hid hnb h
  | agg xs =>
    obtain ⟨vs, rfl, h1, h2⟩ := h
    refine ⟨vs, rfl, by simp [h1], fun i u x hu hx => ?_⟩
    rw [List.getElem?_map] at hx
    cases hxi : xs[i]? with
    | none => rw [hxi] at hx; cases hx
    | some y => rw [hxi] at hx; cases hx; exact (h2 i u y hu hxi).kill hid hnb

theorem RelO.kill {θ : List Loc} {D : Nat → Prop} {w : World} {lo : Loc} {o : AObj} {id : Nat} {l l' : Loc} (hid : θ[id]? = some l) (hnb : ∀ g, l ≠ .blk g) (h : RelO θ D w lo o) : RelO (θ.set id l') D w lo (o.kill id) := by
  cases lo <;> cases o <;> simp only [RelO, AObj.kill] at h ⊢ <;> try exact h
  obtain ⟨cv, h1, h2, h3⟩ := h
  refine ⟨cv, h1, by simp [h2], fun i u x hu hx => ?_⟩
  rw [List.getElem?_map] at hx
  rename_i cs
  cases hxi : cs[i]? with
  | none => rw [hxi] at hx; cases hx
  | some y => rw [hxi] at hx; cases hx; exact (h3 i u y hu hxi).kill hid hnb

/-- An owned slice moves: its old names are forgotten. -/
theorem Inv.move (hI : Inv c θ D st a w) {id : Nat} {l l' : Loc} {o' : AObj} {w' : World} (hid : θ[id]? = some l) (hnb : ∀ g, l ≠ .blk g) (hos : w'.os = w.os) (ht : w'.tape = w.tape) (hout : w'.output = w.output) (hsz : w.heap.size ≤ w'.heap.size)
    (hother : ∀ k, k < w.heap.size → l.own ≠ some k → w'.heap[k]? = w.heap[k]?) (hl' : ∀ g, l'.own = some g → g < w'.heap.size ∧ (l.own = some g ∨ w.heap.size ≤ g)) (ho : RelO (θ.set id l') D w' l' o') :
    Inv c (θ.set id l') D (st.moved id o') a w' := by
  show Inv c (θ.set id l') D { (st.kill id) with hp := (st.kill id).hp.set id o' } a w'
  have hDw : ∀ b, D b → w'.heap[b]? = w.heap[b]? := fun b hb => hother b (hI.ok.dlt b hb) fun e => (hI.ok.olt id l b hid e).2 hb
  have hlt : id < θ.length := (List.getElem?_eq_some_iff.1 hid).1
  have hcase : ∀ (i : Nat) (li : Loc), (θ.set id l')[i]? = some li → (i = id ∧ li = l') ∨ (i ≠ id ∧ θ[i]? = some li) := fun i li hi => by
    by_cases hii : i = id
    · subst hii
      rw [List.getElem?_set_self hlt] at hi
      cases hi
      exact .inl ⟨rfl, rfl⟩
    · rw [List.getElem?_set_ne (Ne.symm hii)] at hi
      exact .inr ⟨hii, hi⟩
  have hfresh : ∀ (i : Nat) (li : Loc) (g : Nat), i ≠ id → θ[i]? = some li → li.own = some g → l'.own ≠ some g := fun i li g hii hi hg e => by
    rcases (hl' g e).2 with h1 | h1
    · exact hii (hI.ok.inj i id li l g hi hid hg h1)
    · have := (hI.ok.olt i li g hi hg).1; omega
  refine ⟨hI.size, hI.defers, ⟨by simp [St.kill, hI.ok.len], fun b hb => Nat.lt_of_lt_of_le (hI.ok.dlt b hb) hsz, fun i j li lj g hi hj hgi hgj => ?_, fun i li g hi hg => ?_, fun i li oi hi hoi => ?_⟩,
    ⟨hos.trans hI.keep.os, ht.trans hI.keep.tape, hout.trans hI.keep.output, Nat.le_trans hI.keep.size hsz, fun k hk hn => (hother k (Nat.lt_of_lt_of_le hk hI.keep.size) fun e => ?_).trans (hI.keep.block k hk hn)⟩, hI.dsub, hI.dnew, fun i li g hi hg => ?_, fun k x hk => ?_⟩
  · rcases hcase i li hi with ⟨rfl, rfl⟩ | ⟨h1, h2⟩ <;> rcases hcase j lj hj with ⟨rfl, rfl⟩ | ⟨h3, h4⟩
    · rfl
    · exact absurd hgi (hfresh j lj g h3 h4 hgj)
    · exact absurd hgj (hfresh i li g h1 h2 hgi)
    · exact hI.ok.inj i j li lj g h2 h4 hgi hgj
  · rcases hcase i li hi with ⟨rfl, rfl⟩ | ⟨h1, h2⟩
    · refine ⟨(hl' g hg).1, fun hd => ?_⟩
      rcases (hl' g hg).2 with h3 | h3
      · exact (hI.ok.olt i l g hid h3).2 hd
      · have := hI.ok.dlt g hd; omega
    · exact ⟨Nat.lt_of_lt_of_le (hI.ok.olt i li g h2 hg).1 hsz, (hI.ok.olt i li g h2 hg).2⟩
  · rcases hcase i li hi with ⟨rfl, rfl⟩ | ⟨h1, h2⟩
    · have hlt' : i < (st.kill i).hp.length := by simp [St.kill, ← hI.ok.len]; exact hlt
      rw [List.getElem?_set_self hlt'] at hoi
      cases hoi
      exact ho
    · rw [List.getElem?_set_ne (Ne.symm h1)] at hoi
      simp only [St.kill, List.getElem?_map] at hoi
      cases hpi : st.hp[i]? with
      | none => rw [hpi] at hoi; cases hoi
      | some ob =>
        rw [hpi] at hoi; cases hoi
        exact ((hI.ok.objs i li ob h2 hpi).kill hid hnb).mono (fun _ h => h) hDw fun g hg => hother g (hI.ok.olt i li g h2 hg).1 fun e => h1 (hI.ok.inj i id li l g h2 hid hg e)
  · rcases hI.onew id l k hid e with h1 | h1
    · exact hn h1
    · omega
  · rcases hcase i li hi with ⟨rfl, rfl⟩ | ⟨h1, h2⟩
    · rcases (hl' g hg).2 with h3 | h3
      · exact hI.onew i l g hid h3
      · exact .inr (Nat.le_trans hI.keep.size h3)
    · exact hI.onew i li g h2 hg
  · simp only [St.kill, look_map] at hk
    cases hlk : look st.fr k with
    | none => rw [hlk] at hk; cases hk
    | some y =>
      rw [hlk] at hk; cases hk
      exact ((hI.fr k y hlk).kill hid hnb).mono (fun _ h => h) hDw

end
end Go.Av
