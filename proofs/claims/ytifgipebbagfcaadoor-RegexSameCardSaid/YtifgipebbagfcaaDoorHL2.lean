/- Part ML2 of the layer: an abstract and a typed machine over the loaded code, proved sound. -/
import Derived.Test.YtifgipebbagfcaaDoorHL1
set_option linter.unusedVariables false
set_option linter.unusedSimpArgs false
namespace Go.Av
open Go Go.RowKit
section
variable {c : Ctx} {θ : List Loc} {D : Nat → Prop} {st : St} {a : Act} {w : World}
theorem below_alloc (w : World) (o : Obj) : Below w.heap.size w (w.alloc o) := (Below.refl _ _).alloc (Nat.le_refl _) o
theorem Inv.allocOwn (hI : Inv c θ D st a w) {l : Loc} {o : AObj} {ob : Obj} (hl : ∀ g, l.has g → g = w.heap.size) (ho : ∀ θ', (∀ (i : Nat) (l : Loc), θ[i]? = some l → θ'[i]? = some l) → RelO θ' D (w.alloc ob) l o) :
    Inv c (θ ++ [l]) D { st with hp := st.hp ++ [o] } a (w.alloc ob) := by
  have h1 : Inv c θ D st a (w.alloc ob) := hI.below (below_alloc w ob) hI.w0le (fun _ h => h) (fun _ h => .inl h)
  refine h1.push (ho _ fun i l' hi => get_append hi) fun g hg => ?_
  cases hl g hg
  refine ⟨hI.w0le, by simp, fun hd => by have := hI.ok.dlt _ hd; omega, fun i li hi he => ?_⟩
  have := (hI.ok.olt i li _ hi he).1
  omega
theorem Inv.pushAt (hI : Inv c θ D st a w) {pl : Option Nat} (hpl : plOk st pl) {l : Loc} {o : AObj} (ho : ∀ θ', (∀ (i : Nat) (l : Loc), θ[i]? = some l → l ≠ .no → θ'[i]? = some l) → RelO θ' D w l o)
    (hl : ∀ g, l.has g → c.w0.heap.size ≤ g ∧ g < w.heap.size ∧ ¬ D g ∧ ∀ (i : Nat) (li : Loc), θ[i]? = some li → ¬ li.has g) : ∃ θ', Inv c θ' D (st.new pl o) a w ∧ θ'[st.nid pl]? = some l := by
  cases pl with
  | none => exact ⟨θ ++ [l], hI.push (ho _ fun i l' hi _ => get_append hi) hl, by simp [St.nid, ← hI.ok.len]⟩
  | some s =>
    have hno := hI.free_no hpl
    have hlt : s < θ.length := (List.getElem?_eq_some_iff.1 hno).1
    refine ⟨θ.set s l, hI.fill hpl (ho _ fun i l' hi hn => ?_) hl, by simp [St.nid, hlt]⟩
    rw [List.getElem?_set_ne (fun e => hn (by subst e; rw [hno] at hi; exact (Option.some.inj hi).symm))]; exact hi
theorem Inv.allocAt (hI : Inv c θ D st a w) {pl : Option Nat} (hpl : plOk st pl) {l : Loc} {o : AObj} {ob : Obj} (hl : ∀ g, l.has g → g = w.heap.size) (ho : ∀ θ', (∀ (i : Nat) (l : Loc), θ[i]? = some l → l ≠ .no → θ'[i]? = some l) → RelO θ' D (w.alloc ob) l o) :
    ∃ θ', Inv c θ' D (st.new pl o) a (w.alloc ob) ∧ θ'[st.nid pl]? = some l := by
  have h1 : Inv c θ D st a (w.alloc ob) := hI.below (below_alloc w ob) hI.w0le (fun _ h => h) (fun _ h => .inl h)
  refine h1.pushAt hpl ho fun g hg => ?_
  cases hl g hg
  refine ⟨hI.w0le, by simp, fun hd => by have := hI.ok.dlt _ hd; omega, fun i li hi he => ?_⟩
  have := (hI.ok.olt i li _ hi he).1
  omega
theorem Inv.store (hI : Inv c θ D st a w) {id g : Nat} {l : Loc} {o' : AObj} {w' : World} (hid : θ[id]? = some l) (hl : l.has g) (hos : w'.os = w.os) (ht : w'.tape = w.tape) (hout : w'.output = w.output) (hsz : w'.heap.size = w.heap.size)
    (hother : ∀ k, k ≠ g → w'.heap[k]? = w.heap[k]?) (ho : RelO θ D w' l o') : Inv c θ D { st with hp := st.hp.set id o' } a w' := by
  have hDw : ∀ b, D b → w'.heap[b]? = w.heap[b]? := fun b hb => hother b fun e => (hI.ok.olt id l g hid hl).2 (e ▸ hb)
  refine ⟨hI.size, hI.defers, ⟨by simp [hI.ok.len], fun b hb => by rw [hsz]; exact hI.ok.dlt b hb, hI.ok.inj, fun i li gi hi hgi => by rw [hsz]; exact hI.ok.olt i li gi hi hgi, fun i li oi hi hoi => ?_⟩,
    ⟨hos.trans hI.keep.os, ht.trans hI.keep.tape, hout.trans hI.keep.output, by rw [hsz]; exact hI.keep.size, fun k hk hn => (hother k fun e => ?_).trans (hI.keep.block k hk hn)⟩, hI.dsub, hI.dnew, hI.onew, fun k x hk => (hI.fr k x hk).mono (fun _ h => h) hDw, hI.fix⟩
  · by_cases hii : i = id
    · subst hii
      rw [hid] at hi; cases hi
      have hlt : i < st.hp.length := by rw [← hI.ok.len]; exact (List.getElem?_eq_some_iff.1 hid).1
      rw [List.getElem?_set_self hlt] at hoi
      cases hoi
      exact ho
    · rw [List.getElem?_set_ne (Ne.symm hii)] at hoi
      refine (hI.ok.objs i li oi hi hoi).mono (fun _ h => h) hDw fun gi hgi => hother gi fun e => hii ?_
      subst e
      exact hI.ok.inj i id li l gi hi hid hgi hl
  · subst e
    rcases hI.onew id l k hid hl with h1 | h1
    · exact hn h1
    · omega
theorem look_map (f : AV → AV) : ∀ (fr : List (Nat × AV)) (k : Nat), look (fr.map fun x => (x.1, f x.2)) k = (look fr k).map f
  | [], _ => rfl
  | (j, x) :: fr, k => by
    simp only [List.map_cons, look]
    split
    · rfl
    · exact look_map f fr k
theorem RelB.kill {θ : List Loc} {D : Nat → Prop} {w : World} {v : Value} {x : BV} {id : Nat} {l l' : Loc} (hid : θ[id]? = some l) (hnb : ∀ g, l ≠ .blk g) (hnm : ∀ g, l ≠ .mp g) (h : RelB θ D w v x) : RelB (θ.set id l') D w v (x.kill id) := by
  have hset : ∀ (k : Nat), k ≠ id → (θ.set id l')[k]? = θ[k]? := fun k hk => List.getElem?_set_ne (Ne.symm hk)
  cases x with
  | pv p => exact h
  | nils => exact h
  | sl k =>
    simp only [BV.kill]
    split
    · exact RelP.any v
    · rename_i hk
      obtain ⟨lk, h1, h2⟩ := h
      exact ⟨lk, (hset k hk).trans h1, h2⟩
  | ptr k off =>
    obtain ⟨g, h1, h2⟩ := h
    refine ⟨g, (hset k fun e => ?_).trans h1, h2⟩
    subst e
    rw [hid] at h1; cases h1
    exact hnb g rfl
  | elt k i off =>
    simp only [BV.kill]
    split
    · exact RelP.any v
    · rename_i hk
      obtain ⟨g, n, cap, sz, O, h1, h2⟩ := h
      exact ⟨g, n, cap, sz, O, (hset k hk).trans h1, h2⟩
  | clo f ids =>
    obtain ⟨gs, h1, h2, h3⟩ := h
    refine ⟨gs, h1, fun j k g hj hg => (hset k fun e => ?_).trans (h2 j k g hj hg), h3⟩
    have := h2 j k g hj hg
    subst e
    rw [hid] at this; cases this
    exact hnb g rfl
  | mp k =>
    obtain ⟨g, h1, h2⟩ := h
    refine ⟨g, (hset k fun e => ?_).trans h1, h2⟩
    subst e
    rw [hid] at h1; cases h1
    exact hnm g rfl
  | full p => exact h
  | ifc => exact h
theorem RelA.kill {θ : List Loc} {D : Nat → Prop} {w : World} {v : Value} {x : AV} {id : Nat} {l l' : Loc} (hid : θ[id]? = some l) (hnb : ∀ g, l ≠ .blk g) (hnm : ∀ g, l ≠ .mp g) (h : RelA θ D w v x) : RelA (θ.set id l') D w v (x.kill id) := by
  cases x with
  | b x => exact RelB.kill hid hnb hnm h
  | agg xs =>
    obtain ⟨vs, rfl, h1, h2⟩ := h
    refine ⟨vs, rfl, by simp [h1], fun i u x hu hx => ?_⟩
    rw [List.getElem?_map] at hx
    cases hxi : xs[i]? with
    | none => rw [hxi] at hx; cases hx
    | some y => rw [hxi] at hx; cases hx; exact (h2 i u y hu hxi).kill hid hnb hnm
  | tup xs =>
    obtain ⟨vs, rfl, h1, h2⟩ := h
    refine ⟨vs, rfl, by simp [h1], fun i u x hu hx => ?_⟩
    rw [List.getElem?_map] at hx
    cases hxi : xs[i]? with
    | none => rw [hxi] at hx; cases hx
    | some y => rw [hxi] at hx; cases hx; exact (h2 i u y hu hxi).kill hid hnb hnm
theorem relO_mapH {θ θ' : List Loc} {D D' : Nat → Prop} {w : World} {f : BV → BV} {hole : Option (Nat × Nat × BV)} (hf : ∀ u i j b, hole = some (i, j, b) → RelB θ D w u b → RelB θ' D' w u (f b)) (hD : ∀ b, D b → D' b) {g n cap s : Nat} {O : Nat → Prop} {e : TypeId} {sz : Nat} {k : Av.K} {xs : List PV}
    (h : RelO θ D w (.hdr g n cap s O) (.tree e sz k xs hole)) : RelO θ' D' w (.hdr g n cap s O) (.tree e sz k xs (mapH f hole)) := by
  obtain ⟨h1, h2, h3, h4, h5, c, Os, h6, h7, h8, h9, h11, h10⟩ := h
  refine ⟨h1, h2, h3, h4, h5, c, Os, h6, h7, h8, h9, fun i j b hb => ?_, fun i j x y hx hy => ?_⟩
  · cases hole with
    | none => cases hb
    | some q => obtain ⟨i', j', b'⟩ := q; cases hb; exact h11 _ _ _ rfl
  · obtain ⟨u, e1, e2⟩ := h10 i j x y hx hy
    refine ⟨u, e1, ?_⟩
    have : holeAt (mapH f hole) i j = (holeAt hole i j).map f := by
      cases hole with
      | none => rfl
      | some q =>
        obtain ⟨i', j', b'⟩ := q
        simp only [mapH, holeAt]
        split <;> rfl
    rw [this]
    cases hq : holeAt hole i j with
    | none => rw [hq] at e2; exact e2.mono hD (fun _ _ => rfl) fun _ _ => rfl
    | some b => rw [hq] at e2; exact hf u i j b (holeAt_some hq) e2
theorem RelO.kill {θ : List Loc} {D : Nat → Prop} {w : World} {lo : Loc} {o : AObj} {id : Nat} {l l' : Loc} (hid : θ[id]? = some l) (hnb : ∀ g, l ≠ .blk g) (hnm : ∀ g, l ≠ .mp g) (h : RelO θ D w lo o) : RelO (θ.set id l') D w lo (o.kill id) := by
  cases lo <;> cases o <;> simp only [RelO, AObj.kill] at h ⊢ <;> try exact h
  case nil.tree => exact ⟨h.1, by rw [h.2]; rfl⟩
  case hdr.tree g n cap s O e sz kk xs hole =>
    exact relO_mapH (fun u i j b _ h => h.kill hid hnb hnm) (fun _ h => h) h
  obtain ⟨cv, h1, h2, h3⟩ := h
  refine ⟨cv, h1, by simp [h2], fun i u x hu hx => ?_⟩
  rw [List.getElem?_map] at hx
  rename_i cs
  cases hxi : cs[i]? with
  | none => rw [hxi] at hx; cases hx
  | some y => rw [hxi] at hx; cases hx; exact (h3 i u y hu hxi).kill hid hnb hnm
theorem Inv.move (hI : Inv c θ D st a w) {id : Nat} {l l' : Loc} {o' : AObj} {w' : World} (hid : θ[id]? = some l) (hnb : ∀ g, l ≠ .blk g) (hnm : ∀ g, l ≠ .mp g) (hos : w'.os = w.os) (ht : w'.tape = w.tape) (hout : w'.output = w.output) (hsz : w.heap.size ≤ w'.heap.size)
    (hother : ∀ k, k < w.heap.size → ¬ l.has k → w'.heap[k]? = w.heap[k]?) (hl' : ∀ g, l'.has g → g < w'.heap.size ∧ (l.has g ∨ w.heap.size ≤ g)) (ho : RelO (θ.set id l') D w' l' o') :
    Inv c (θ.set id l') D (st.moved id o') a w' := by
  show Inv c (θ.set id l') D { (st.kill id) with hp := (st.kill id).hp.set id o' } a w'
  have hDw : ∀ b, D b → w'.heap[b]? = w.heap[b]? := fun b hb => hother b (hI.ok.dlt b hb) fun e => (hI.ok.olt id l b hid e).2 hb
  have hlt : id < θ.length := (List.getElem?_eq_some_iff.1 hid).1
  have hcase : ∀ (i : Nat) (li : Loc), (θ.set id l')[i]? = some li → (i = id ∧ li = l') ∨ (i ≠ id ∧ θ[i]? = some li) := fun i li hi => by
    by_cases hii : i = id
    · subst hii
      rw [List.getElem?_set_self hlt] at hi
      cases hi
      exact .inl ⟨rfl, rfl⟩
    · rw [List.getElem?_set_ne (Ne.symm hii)] at hi
      exact .inr ⟨hii, hi⟩
  have hfresh : ∀ (i : Nat) (li : Loc) (g : Nat), i ≠ id → θ[i]? = some li → li.has g → ¬ l'.has g := fun i li g hii hi hg e => by
    rcases (hl' g e).2 with h1 | h1
    · exact hii (hI.ok.inj i id li l g hi hid hg h1)
    · have := (hI.ok.olt i li g hi hg).1; omega
  refine ⟨hI.size, hI.defers, ⟨by simp [St.kill, hI.ok.len], fun b hb => Nat.lt_of_lt_of_le (hI.ok.dlt b hb) hsz, fun i j li lj g hi hj hgi hgj => ?_, fun i li g hi hg => ?_, fun i li oi hi hoi => ?_⟩,
    ⟨hos.trans hI.keep.os, ht.trans hI.keep.tape, hout.trans hI.keep.output, Nat.le_trans hI.keep.size hsz, fun k hk hn => (hother k (Nat.lt_of_lt_of_le hk hI.keep.size) fun e => ?_).trans (hI.keep.block k hk hn)⟩, hI.dsub, hI.dnew, fun i li g hi hg => ?_, fun k x hk => ?_, fun k lk hk hf => ?_⟩
  · rcases hcase i li hi with ⟨rfl, rfl⟩ | ⟨h1, h2⟩ <;> rcases hcase j lj hj with ⟨rfl, rfl⟩ | ⟨h3, h4⟩
    · rfl
    · exact absurd hgi (hfresh j lj g h3 h4 hgj)
    · exact absurd hgj (hfresh i li g h1 h2 hgi)
    · exact hI.ok.inj i j li lj g h2 h4 hgi hgj
  · rcases hcase i li hi with ⟨rfl, rfl⟩ | ⟨h1, h2⟩
    · refine ⟨(hl' g hg).1, fun hd => ?_⟩
      rcases (hl' g hg).2 with h3 | h3
      · exact (hI.ok.olt i l g hid h3).2 hd
      · have := hI.ok.dlt g hd; omega
    · exact ⟨Nat.lt_of_lt_of_le (hI.ok.olt i li g h2 hg).1 hsz, (hI.ok.olt i li g h2 hg).2⟩
  · rcases hcase i li hi with ⟨rfl, rfl⟩ | ⟨h1, h2⟩
    · have hlt' : i < (st.kill i).hp.length := by simp [St.kill, ← hI.ok.len]; exact hlt
      rw [List.getElem?_set_self hlt'] at hoi
      cases hoi
      exact ho
    · rw [List.getElem?_set_ne (Ne.symm h1)] at hoi
      simp only [St.kill, List.getElem?_map] at hoi
      cases hpi : st.hp[i]? with
      | none => rw [hpi] at hoi; cases hoi
      | some ob =>
        rw [hpi] at hoi; cases hoi
        exact ((hI.ok.objs i li ob h2 hpi).kill hid hnb hnm).mono (fun _ h => h) hDw fun g hg => hother g (hI.ok.olt i li g h2 hg).1 fun e => h1 (hI.ok.inj i id li l g h2 hid hg e)
  · rcases hI.onew id l k hid e with h1 | h1
    · exact hn h1
    · omega
  · rcases hcase i li hi with ⟨rfl, rfl⟩ | ⟨h1, h2⟩
    · rcases (hl' g hg).2 with h3 | h3
      · exact hI.onew i l g hid h3
      · exact .inr (Nat.le_trans hI.keep.size h3)
    · exact hI.onew i li g h2 hg
  · simp only [St.kill, look_map] at hk
    cases hlk : look st.fr k with
    | none => rw [hlk] at hk; cases hk
    | some y =>
      rw [hlk] at hk; cases hk
      exact ((hI.fr k y hlk).kill hid hnb hnm).mono (fun _ h => h) hDw
  · have h1 := hI.fix k lk hk hf
    by_cases hki : k = id
    · subst hki
      rw [hid] at h1; cases h1
      cases l <;> simp [Loc.fixed] at hf
      · exact absurd rfl (hnb _)
      · exact absurd rfl (hnm _)
    · rw [List.getElem?_set_ne (Ne.symm hki)]; exact h1
end
end Go.Av
namespace Go.Av
open Go Go.RowKit
section
variable {D D' : Nat → Prop} {w w' : World}
theorem RelB.ren {θ θ2 : List Loc} {ρ : Nat → Nat} {v : Value} {x : BV} (hθ : ∀ k l, k ∈ x.ids → θ[k]? = some l → θ2[ρ k]? = some l) (h : RelB θ D w v x) : RelB θ2 D w v (x.ren ρ) := by
  cases x <;> simp only [RelB, BV.ren, BV.ids, List.mem_singleton] at h hθ ⊢
  · exact h
  · exact h
  · obtain ⟨l, h1, h2⟩ := h; exact ⟨l, hθ _ _ rfl h1, h2⟩
  · obtain ⟨g, h1, h2⟩ := h; exact ⟨g, hθ _ _ rfl h1, h2⟩
  · obtain ⟨g, n, cap, sz, O, h1, h2⟩ := h; exact ⟨g, n, cap, sz, O, hθ _ _ rfl h1, h2⟩
  · rename_i f ids
    obtain ⟨gs, h1, h2, h3⟩ := h
    refine ⟨gs, by simp [h1], fun k id g e1 e2 => ?_, h3⟩
    rw [List.getElem?_map] at e1
    cases hk : ids[k]? with
    | none => rw [hk] at e1; cases e1
    | some i => rw [hk] at e1; cases e1; exact hθ _ _ (List.mem_of_getElem? hk) (h2 k i g hk e2)
  · obtain ⟨g, h1, h2⟩ := h; exact ⟨g, hθ _ _ rfl h1, h2⟩
  · exact h
  · exact h
theorem mem_ids_agg {xs : List BV} {x : BV} {k : Nat} {i : Nat} (hx : xs[i]? = some x) (hk : k ∈ x.ids) : k ∈ xs.flatMap BV.ids :=
  List.mem_flatMap.2 ⟨x, List.mem_of_getElem? hx, hk⟩
theorem rel_map {θ θ2 : List Loc} {D2 : Nat → Prop} {w2 : World} {vs : Array Value} {xs : List BV} {g : BV → BV} (h1 : vs.size = xs.length) (h2 : ∀ (i : Nat) (u : Value) (x : BV), vs[i]? = some u → xs[i]? = some x → RelB θ D w u x)
    (hg : ∀ (i : Nat) (u : Value) (x : BV), xs[i]? = some x → RelB θ D w u x → RelB θ2 D2 w2 u (g x)) : vs.size = (xs.map g).length ∧ ∀ (i : Nat) (u : Value) (x : BV), vs[i]? = some u → (xs.map g)[i]? = some x → RelB θ2 D2 w2 u x := by
  refine ⟨by simp [h1], fun i u x hu hx => ?_⟩
  rw [List.getElem?_map] at hx
  cases hxi : xs[i]? with
  | none => rw [hxi] at hx; cases hx
  | some y => rw [hxi] at hx; cases hx; exact hg i u y hxi (h2 i u y hu hxi)
theorem RelA.ren {θ θ2 : List Loc} {ρ : Nat → Nat} {v : Value} {x : AV} (hθ : ∀ k l, k ∈ x.ids → θ[k]? = some l → θ2[ρ k]? = some l) (h : RelA θ D w v x) : RelA θ2 D w v (x.ren ρ) := by
  cases x with
  | b x => exact RelB.ren hθ h
  | agg xs =>
    obtain ⟨vs, rfl, h1, h2⟩ := h
    obtain ⟨h3, h4⟩ := rel_map (θ2 := θ2) (g := BV.ren ρ) h1 h2 fun i u x hx hr => hr.ren fun k l hk hl => hθ k l (mem_ids_agg hx hk) hl
    exact ⟨vs, rfl, h3, h4⟩
  | tup xs =>
    obtain ⟨vs, rfl, h1, h2⟩ := h
    obtain ⟨h3, h4⟩ := rel_map (θ2 := θ2) (g := BV.ren ρ) h1 h2 fun i u x hx hr => hr.ren fun k l hk hl => hθ k l (mem_ids_agg hx hk) hl
    exact ⟨vs, rfl, h3, h4⟩
theorem RelO.ren {θ θ2 : List Loc} {ρ : Nat → Nat} {l : Loc} {o : AObj} (hθ : ∀ k l, k ∈ o.ids → θ[k]? = some l → θ2[ρ k]? = some l) (h : RelO θ D w l o) : RelO θ2 D w l (o.ren ρ) := by
  cases l <;> cases o <;> simp only [RelO, AObj.ren] at h ⊢ <;> try exact h
  case nil.tree => exact ⟨h.1, by rw [h.2]; rfl⟩
  case hdr.tree hole => exact relO_mapH (fun u i j b hb hr => hr.ren fun k l hk hl => hθ k l (by rw [hb]; exact hk) hl) (fun _ h => h) h
  obtain ⟨cv, h1, h2, h3⟩ := h
  obtain ⟨h4, h5⟩ := rel_map (θ2 := θ2) (g := BV.ren ρ) h2 h3 fun i u x hx hr => hr.ren fun k l hk hl => hθ k l (mem_ids_agg hx hk) hl
  exact ⟨cv, h1, h4, h5⟩
theorem RelB.killB {θ θ2 : List Loc} {B : List Nat} {v : Value} {x : BV} (h1 : ∀ (k : Nat) (l : Loc), k ∉ B → θ[k]? = some l → θ2[k]? = some l) (h2 : ∀ (k : Nat) (l : Loc), l.fixed = true → θ[k]? = some l → θ2[k]? = some l)
    (h : RelB θ D w v x) : RelB θ2 D w v (x.killB B) := by
  cases x with
  | pv p => exact h
  | nils => exact h
  | sl k =>
    by_cases hk : k ∈ B
    · have : (BV.sl k).killB B = .pv .any := by simp [BV.killB, hk]
      rw [this]; exact RelP.any v
    · have : (BV.sl k).killB B = .sl k := by simp [BV.killB, hk]
      rw [this]
      obtain ⟨l, e1, e2⟩ := h
      exact ⟨l, h1 _ _ hk e1, e2⟩
  | ptr k off => obtain ⟨g, e1, e2⟩ := h; exact ⟨g, h2 _ _ rfl e1, e2⟩
  | elt k i off =>
    by_cases hk : k ∈ B
    · have : (BV.elt k i off).killB B = .pv .any := by simp [BV.killB, hk]
      rw [this]; exact RelP.any v
    · have : (BV.elt k i off).killB B = .elt k i off := by simp [BV.killB, hk]
      rw [this]
      obtain ⟨g, n, cap, sz, O, e1, e2⟩ := h
      exact ⟨g, n, cap, sz, O, h1 _ _ hk e1, e2⟩
  | clo f ids => obtain ⟨gs, e1, e2, e3⟩ := h; exact ⟨gs, e1, fun k id g f1 f2 => h2 _ _ rfl (e2 k id g f1 f2), e3⟩
  | mp k => obtain ⟨g, e1, e2⟩ := h; exact ⟨g, h2 _ _ rfl e1, e2⟩
  | full p => exact h
  | ifc => exact h
theorem RelA.killB {θ θ2 : List Loc} {B : List Nat} {v : Value} {x : AV} (h1 : ∀ (k : Nat) (l : Loc), k ∉ B → θ[k]? = some l → θ2[k]? = some l) (h2 : ∀ (k : Nat) (l : Loc), l.fixed = true → θ[k]? = some l → θ2[k]? = some l)
    (h : RelA θ D w v x) : RelA θ2 D w v (x.killB B) := by
  cases x with
  | b x => exact RelB.killB h1 h2 h
  | agg xs =>
    obtain ⟨vs, rfl, h3, h4⟩ := h
    obtain ⟨h5, h6⟩ := rel_map (θ2 := θ2) (g := BV.killB B) h3 h4 fun i u x hx hr => hr.killB h1 h2
    exact ⟨vs, rfl, h5, h6⟩
  | tup xs =>
    obtain ⟨vs, rfl, h3, h4⟩ := h
    obtain ⟨h5, h6⟩ := rel_map (θ2 := θ2) (g := BV.killB B) h3 h4 fun i u x hx hr => hr.killB h1 h2
    exact ⟨vs, rfl, h5, h6⟩
theorem RelO.killB {θ θ2 : List Loc} {B : List Nat} {l : Loc} {o : AObj} (h1 : ∀ (k : Nat) (l : Loc), k ∉ B → θ[k]? = some l → θ2[k]? = some l) (h2 : ∀ (k : Nat) (l : Loc), l.fixed = true → θ[k]? = some l → θ2[k]? = some l)
    (h : RelO θ D w l o) : RelO θ2 D w l (o.killB B) := by
  cases l <;> cases o <;> simp only [RelO, AObj.killB] at h ⊢ <;> try exact h
  case nil.tree => exact ⟨h.1, by rw [h.2]; rfl⟩
  case hdr.tree hole => exact relO_mapH (fun u i j b hb hr => hr.killB h1 h2) (fun _ h => h) h
  obtain ⟨cv, e1, e2, e3⟩ := h
  obtain ⟨h5, h6⟩ := rel_map (θ2 := θ2) (g := BV.killB B) e2 e3 fun i u x hx hr => hr.killB h1 h2
  exact ⟨cv, e1, h5, h6⟩
theorem RelB.flatB {θ : List Loc} {v : Value} {x : BV} (hf : x.FlatB) (h : RelB θ D w v x) : RelB θ D' w' v x := by
  cases x <;> simp only [RelB, BV.FlatB] at h hf ⊢ <;> first | exact h.flat hf | exact h | exact hf.elim
theorem RelA.flatA {θ : List Loc} {v : Value} {x : AV} (hf : x.FlatA) (h : RelA θ D w v x) : RelA θ D' w' v x := by
  cases x with
  | b x => exact RelB.flatB hf h
  | agg xs => obtain ⟨vs, hv, h1, h2⟩ := h; exact ⟨vs, hv, h1, fun i u x hu hx => (h2 i u x hu hx).flatB (hf x (List.mem_of_getElem? hx))⟩
  | tup xs => obtain ⟨vs, hv, h1, h2⟩ := h; exact ⟨vs, hv, h1, fun i u x hu hx => (h2 i u x hu hx).flatB (hf x (List.mem_of_getElem? hx))⟩
theorem RelT.flatT {q : Option (TypeId × Nat × Av.K)} {O : Nat → Prop} {v : Value} {p : PV} (h : RelT D w q O v p) : FlatT q p → RelT D' w q O v p := by
  induction h with
  | flat O v p h => intro hf; cases hf with | flat _ hp => exact .flat O v p (h.flat hp)
  | nil q O a => intro _; exact .nil q O a
  | hdr e sz k O g cap xs p cs val Os hp hcap hmax hsz hg hcs hOg hOs hdj hc _ ih =>
    intro hf
    cases hf with
    | sl _ _ _ _ xs' hp' hf =>
      have : xs' = xs := lst_inj (hp'.symm.trans hp)
      subst this
      exact .hdr e sz k O g cap xs' p cs val Os hp hcap hmax hsz hg hcs hOg hOs hdj hc fun i j x y hx hy => ih i j x y hx hy (hf i j x y hx hy)
theorem RelO.flatO {θ : List Loc} {l : Loc} {o : AObj} (hf : o.FlatO) (h : RelO θ D w l o) : RelO θ D' w l o := by
  cases l <;> cases o <;> simp only [RelO, AObj.FlatO] at h hf ⊢ <;> try exact h
  · obtain ⟨cv, h1, h2, h3⟩ := h
    exact ⟨cv, h1, h2, fun i u x hu hx => (h3 i u x hu hx).flatB (hf x (List.mem_of_getElem? hx))⟩
  · obtain ⟨h1, h2, h3, h4, h5, c, h6, h7, h8⟩ := h
    exact ⟨h1, h2, h3, h4, h5, c, h6, h7, fun i j x y hx hy => let ⟨u, e1, e2⟩ := h8 i j x y hx hy; ⟨u, e1, e2.flat (hf x (List.mem_of_getElem? hx) y (List.mem_of_getElem? hy))⟩⟩
  · obtain ⟨h1, h2, h3, h4, h5, c, Os, h6, h7, h8, h9, h11, h10⟩ := h
    refine ⟨h1, h2, h3, h4, h5, c, Os, h6, h7, h8, h9, h11, fun i j x y hx hy => ?_⟩
    obtain ⟨u, e1, e2⟩ := h10 i j x y hx hy
    refine ⟨u, e1, ?_⟩
    rename_i hole
    cases hq : holeAt hole i j with
    | none => rw [hq] at e2; exact e2.flatT (hf.2 i j x y hx hy)
    | some b => rw [hq] at e2; exact e2.flatB (hf.1 i j b (holeAt_some hq))
  · obtain ⟨es, ck, h1, h2, h3⟩ := h
    exact ⟨es, ck, h1, h2, fun i en kv he hk => ⟨(h3 i en kv he hk).1.flat (hf kv (List.mem_of_getElem? hk)).1, (h3 i en kv he hk).2.flat (hf kv (List.mem_of_getElem? hk)).2⟩⟩
end
end Go.Av
namespace Go.Av
open Go Go.RowKit
section
variable {P : Program} {o : Oper} {c : Ctx} {θ : List Loc} {D : Nat → Prop} {st : St} {a : Act} {w : World}
theorem heap_old (w : World) (o : Obj) (k : Nat) (h : k < w.heap.size) : (w.alloc o).heap[k]? = w.heap[k]? := Below.heap_alloc w o k h
theorem heap_new (w : World) (o : Obj) : (w.alloc o).heap[w.heap.size]? = some o := by
  show (w.heap.push o)[w.heap.size]? = _
  simp
def Leaves (P : Program) (o : Oper) (c : Ctx) (K KP : St → Prop) (a : Act) (w : World) : Prop :=
  ∀ (next : Act → World → Prop) (Q : Exit → Act → World → Prop), (∀ a' w', (∃ st', K st' ∧ Rel c st' a' w') → next a' w') → (∀ ch w', (Raised ch ∧ ∃ st', KP st' ∧ Rel c st' a w') → Q (.panic ch) a w') → o.wp P a w next Q
theorem leaves_of_yields {K KP : St → Prop} {K' : AV → Prop} (hd : ∀ k, o.dst = some k → k < c.n) (h : Yields P o a w (Res c θ st a K')) (hk : ∀ x, K' x → K (st.putO o.dst x)) : Leaves P o c K KP a w :=
  fun _ _ hn _ => h.wp fun _ _ ⟨x, D', hx, hI, hv⟩ => hn _ _ ⟨_, hk x hx, θ, D', hI.put hd hv⟩
theorem argB_false {hp : List AObj} {x : BV} {p : PV} (h : argB hp false x = some p) : x.toPV = some p := by
  unfold argB at h
  split at h
  · cases h
  · exact h
theorem argPV_false {hp : List AObj} {x : AV} {p : PV} (h : argPV hp false x = some p) : x.toPV = some p := by
  cases x with
  | b x => exact argB_false h
  | agg xs =>
    simp only [argPV, AV.toPV, Option.map_eq_some_iff] at h ⊢
    obtain ⟨ps, h1, rfl⟩ := h
    refine ⟨ps, ?_, rfl⟩
    have : ∀ (l : List BV) (ps : List PV), l.mapM (argB hp false) = some ps → l.mapM BV.toPV = some ps := by
      intro l
      induction l with
      | nil => intro ps h; exact h
      | cons x l ih =>
        intro ps h
        rw [List.mapM_cons] at h ⊢
        simp only [Option.bind_eq_bind, Option.pure_def, Option.bind_eq_some_iff, Option.some.injEq] at h ⊢
        obtain ⟨a, h1, m, h2, rfl⟩ := h
        exact ⟨a, argB_false h1, m, ih _ h2, rfl⟩
    exact this xs ps h1
  | tup xs => exact h
theorem rel_argB (hI : Inv c θ D st a w) {D' : Nat → Prop} (hD : ∀ b, D b → D' b) {bor : Bool} {v : Value} {x : BV} {p : PV} (hO : bor = true → ∀ id l, id ∈ x.ids → θ[id]? = some l → ∀ b, l.has b → D' b) (hv : RelB θ D w v x) (h : argB st.hp bor x = some p) : RelP D' w v p := by
  unfold argB at h
  split at h
  · rename_i id
    cases bor
    · cases h
    · obtain ⟨l, h1, h2⟩ := sl_data hI.ok hv h
      exact h2 D' hD (hO rfl id l (by simp [BV.ids]) h1)
  · exact (relB_toPV hv h).mono hD (fun _ _ => rfl)
theorem rel_argPV (hI : Inv c θ D st a w) {D' : Nat → Prop} (hD : ∀ b, D b → D' b) {bor : Bool} {v : Value} {x : AV} {p : PV} (hO : bor = true → ∀ id l, id ∈ x.ids → θ[id]? = some l → ∀ b, l.has b → D' b) (hv : RelA θ D w v x) (h : argPV st.hp bor x = some p) : RelP D' w v p := by
  cases x with
  | b x => exact rel_argB hI hD hO hv h
  | agg xs =>
    simp only [argPV, Option.map_eq_some_iff] at h
    obtain ⟨ps, h1, rfl⟩ := h
    obtain ⟨vs, rfl, h2, h3⟩ := hv
    obtain ⟨h4, h5⟩ := mapM_some h1
    refine RelP.agg _ _ (by rw [h2, h4]) fun i u p hu hp => ?_
    obtain ⟨x, hx⟩ := getElem?_of_len h4 hp
    exact rel_argB hI hD (fun hb id l hi => hO hb id l (List.mem_flatMap.2 ⟨x, List.mem_of_getElem? hx, hi⟩)) (h3 i u x hu hx) (h5 i x p hx hp)
  | tup xs => exact (relA_toPV hv h).mono hD (fun _ _ => rfl)
theorem rel_arg (hI : Inv c θ D st a w) {bor : Bool} {v : Value} {x : AV} {p : PV} (hv : RelA θ D w v x) (h : argPV st.hp bor x = some p) : RelP (if bor then fun b => b < w.heap.size else D) w v p := by
  cases bor
  · exact relA_toPV hv (argPV_false h)
  · exact rel_argPV hI (fun b hb => hI.ok.dlt b hb) (fun _ id l _ hl b hb => (hI.ok.olt id l b hl hb).1) hv h
theorem run_callFunc {f : FuncId} (hf : callable P f = true) (args : Array Value) : (callFunc f args).run P w = .ok (.enter f args) w := by
  unfold callable at hf
  cases hfn : P.funcs[f]? with
  | none => rw [hfn] at hf; cases hf
  | some fn =>
    rw [hfn] at hf
    simp only [Bool.and_eq_true, bne_iff_ne, ne_eq] at hf
    obtain ⟨h1, h2⟩ := hf
    cases hb : fn.body with
    | none => rw [hb] at h1; cases h1
    | some b => simp [callFunc, hfn, h2, hb]
theorem run_call {f : FuncId} {cl : Call} (ho : o.op = .call cl) (hcl : cl.callee = .value (.func f)) (hf : callable P f = true) : (execOp a.eval o).run P w = .ok (.enter f (cl.args.toList.map a.eval).toArray) w := by
  have hargs : (cl.args.map a.eval) = (cl.args.toList.map a.eval).toArray := by
    apply Array.ext'
    simp
  rw [← hargs]
  simp [execOp, ho, resolve, hcl, Act.eval, Deferred.ofValue, invoke, run_callFunc hf]
theorem run_callv {f : FuncId} {cl : Call} {t : Tmp} {cs : Array Value} (ho : o.op = .call cl) (hcl : cl.callee = .value (.tmp t)) (hv : a.eval (.tmp t) = .func (.func f) #[] cs) (hf : callable P f = true) :
    (execOp a.eval o).run P w = .ok (.enter f (cl.args.toList.map a.eval ++ cs.toList).toArray) w := by
  have hargs : (cl.args.map a.eval) ++ cs = (cl.args.toList.map a.eval ++ cs.toList).toArray := by
    apply Array.ext'
    simp
  rw [← hargs]
  simp [execOp, ho, resolve, hcl, hv, Deferred.ofValue, invoke, run_callFunc hf]
theorem callP_core (hI : Inv c θ D st a w) (hd : ∀ k, o.dst = some k → k < c.n) {K KP : St → Prop} {bor : Bool} {f : FuncId} {vs : List Value} {ps : List PV} (hrun : (execOp a.eval o).run P w = .ok (.enter f vs.toArray) w) (m1 : vs.length = ps.length)
    (hrel : ∀ (i : Nat) (v : Value) (x : AV), vs[i]? = some v → (ps.map AV.p)[i]? = some x → RelA [] (if bor then fun b => b < w.heap.size else D) w v x)
    (hc : ACalls P f (ps.map .p) [] fun o' => ∃ r os', o' = some (r, os') ∧ r.ids = [] ∧ (bor = true → r.FlatA) ∧ K (st.putO o.dst r)) : Leaves P o c K KP a w := by
  intro next Q hn _
  unfold Oper.wp
  rw [hrun]
  simp only [Oper.upon]
  have hDlt : ∀ b, (if bor then fun b => b < w.heap.size else D) b → b < w.heap.size := fun b hb => by
    cases bor
    · exact hI.ok.dlt b hb
    · exact hb
  have hno : ∀ b, ¬ owns [] b := fun b ⟨i, l, hi, _⟩ => by simp at hi
  refine (hc w [] (if bor then fun b => b < w.heap.size else D) vs ((c.gk w hI.keep).mono (Keep.refl (fun _ => False) w) (fun _ _ h => h) (fun b hb => by
    cases bor
    · exact hI.dsub b hb
    · exact hI.ok.dlt b (hI.dsub b hb))) ⟨rfl, hDlt, fun i j li lj g hi => by simp at hi, fun i l g hi => by simp at hi, fun i l o hi => by simp at hi⟩ (by simpa using m1) hrel).mono fun e w' hb => ?_
  rcases hb with ⟨v, r, os', θ', D', rfl, ⟨r', os'', hr, hids, hflat, hk⟩, hv, hok, hkeep, hD, hD', _, _, _⟩ | ⟨ch, _, rfl, ⟨p, os', hr, _⟩, _⟩
  · cases hr
    have hbel : Below w.heap.size w w' := ⟨hkeep.os, hkeep.tape, hkeep.output, hkeep.size, fun k hk' => hkeep.block k hk' (hno k)⟩
    have hI' := hI.below (D' := fun b => D b ∨ (D' b ∧ w.heap.size ≤ b)) hbel hI.w0le (fun b hb => .inl hb) (fun b hb => hb.imp id fun h => ⟨h.2, hok.dlt b h.1⟩)
    refine hn _ _ ⟨_, hk, θ, _, hI'.put hd ?_⟩
    have hv2 := hv.ren (θ2 := θ) (ρ := id) fun k l hk' => by rw [hids] at hk'; cases hk'
    have hrid : r.ren id = r := by
      have hb : ∀ x : BV, x.ren id = x := fun x => by cases x <;> simp [BV.ren]
      have hm : ∀ xs : List BV, xs.map (BV.ren id) = xs := fun xs => by
        rw [List.map_congr_left (g := fun x => x) fun x _ => hb x]; simp
      cases r <;> simp [AV.ren, hb, hm]
    rw [hrid] at hv2
    cases bor
    · refine hv2.mono (fun b hb => ?_) (fun _ _ => rfl)
      rcases hD' b hb with h1 | h1 | h1
      · exact .inl h1
      · exact (hno b h1).elim
      · exact .inr ⟨hb, h1⟩
    · exact hv2.flatA (hflat rfl)
  · cases hr
theorem sound_call (hI : Inv c θ D st a w) (hd : ∀ k, o.dst = some k → k < c.n) {K KP : St → Prop} {bor : Bool} {f : FuncId} {cl : Call} (ho : o.op = .call cl) (hcl : cl.callee = .value (.func f)) (hf : callable P f = true)
    (h : sev P st (.call bor f (cl.args.toList.map SX.of)) fun x => K (st.putO o.dst x)) : Leaves P o c K KP a w := by
  obtain ⟨ps, hps, hc⟩ := h
  obtain ⟨m1, m2⟩ := mapM_some hps
  refine callP_core (bor := bor) hI hd (run_call ho hcl hf) (by simpa using m1) (fun i v x hv hp => ?_) hc
  rw [List.getElem?_map] at hp hv
  cases hpi : ps[i]? with
  | none => rw [hpi] at hp; cases hp
  | some p =>
    rw [hpi] at hp; cases hp
    cases hx : cl.args.toList[i]? with
    | none => rw [hx] at hv; cases hv
    | some x =>
      rw [hx] at hv; cases hv
      have := m2 i (SX.of x) p (by rw [List.getElem?_map, hx]; rfl) hpi
      simp only [Option.bind_eq_some_iff] at this
      obtain ⟨av, h1, h2⟩ := this
      exact rel_arg hI (hI.get h1) h2
theorem sound_callp (hI : Inv c θ D st a w) (hd : ∀ k, o.dst = some k → k < c.n) {K KP : St → Prop} {bor : Bool} {t : Tmp} {cl : Call} (ho : o.op = .call cl) (hcl : cl.callee = .value (.tmp t))
    (h : sev P st (.callp bor (.tm t) (cl.args.toList.map SX.of)) fun x => K (st.putO o.dst x)) : Leaves P o c K KP a w := by
  obtain ⟨ax, hx, f, cs, rfl, hf, ps, hps, hc⟩ := h
  obtain ⟨m1, m2⟩ := mapM_some hps
  have hX : RelP D w (a.eval (.tmp t)) (.fn (.func f) cs) := hI.get (x := .tmp t) hx
  have key : ∃ us : Array Value, a.eval (.tmp t) = .func (.func f) #[] us ∧ us.toList.length = cs.length ∧ ∀ (i : Nat) (v : Value) (x : PV), us.toList[i]? = some v → cs[i]? = some x → RelP D w v x := by
    generalize a.eval (.tmp t) = v at hX
    cases hX with
    | fn _ us _ hs hh => exact ⟨us, rfl, by simpa using hs, fun i v x hv hx => hh i v x (by simpa using hv) hx⟩
  obtain ⟨us, hv, hl, hr⟩ := key
  have hD : ∀ b, D b → (if bor then fun b => b < w.heap.size else D) b := fun b hb => by
    cases bor
    · exact hb
    · exact hI.ok.dlt b hb
  have hm : (cl.args.toList.map a.eval).length = ps.length := by simpa using m1
  refine callP_core (bor := bor) hI hd (run_callv ho hcl hv hf) (by simp only [List.length_append, hm, hl]) (fun i v x hv' hp => ?_) hc
  rw [List.getElem?_map] at hp
  obtain ⟨p, hp', rfl⟩ := Option.map_eq_some_iff.1 hp
  clear hp
  have hp := hp'
  clear hp'
  rcases Nat.lt_or_ge i ps.length with hi | hi
  · rw [List.getElem?_append_left (by rw [hm]; exact hi)] at hv'
    rw [List.getElem?_append_left hi] at hp
    rw [List.getElem?_map] at hv'
    obtain ⟨y, hy, rfl⟩ := Option.map_eq_some_iff.1 hv'
    have := m2 i (SX.of y) p (by rw [List.getElem?_map, hy]; rfl) hp
    simp only [Option.bind_eq_some_iff] at this
    obtain ⟨av, h1, h2⟩ := this
    exact rel_arg hI (hI.get h1) h2
  · rw [List.getElem?_append_right (by rw [hm]; exact hi)] at hv'
    rw [List.getElem?_append_right hi] at hp
    rw [hm] at hv'
    exact (hr _ v p hv' hp).mono hD (fun _ _ => rfl)
theorem bytesOf_get : ∀ {L : List PV} {l : List Int}, bytesOf L = some l → L.length = l.length ∧ ∀ (i : Nat) (n : Int), l[i]? = some n → L[i]? = some (.sc (.int .u8 n))
  | [], l, h => by simp [bytesOf] at h; subst h; exact ⟨rfl, fun i b hb => by simp at hb⟩
  | p :: L, l, h => by
    unfold bytesOf at h
    split at h
    · rename_i h0; cases h0
    · rename_i n L' h0
      cases h0
      simp only [Option.map_eq_some_iff] at h
      obtain ⟨l', h1, rfl⟩ := h
      obtain ⟨h2, h3⟩ := bytesOf_get h1
      refine ⟨by simp [h2], fun i b hb => ?_⟩
      cases i with
      | zero => simp at hb; subst hb; rfl
      | succ i => exact h3 i b (by simpa using hb)
    · cases h
theorem sound_b2s (hI : Inv c θ D st a w) {K : AV → Prop} {s d e : TypeId} {x : Operand} (ho : o.op = .convert s d x) (hs : P.underlying s = some (.slice e)) (hd : P.underlying d = some .string) (he : P.underlying e = some (.int .u8)) (h : sev P st (.b2s (.of x)) K) : Yields P o a w (Res c θ st a K) := by
  obtain ⟨ax, hx, hl⟩ := h
  obtain ⟨L, ad, cap, ⟨l, hb, hk⟩, hv, hcap, hnil, hcells⟩ := relA_list hI.ok (hI.get hx) hl
  obtain ⟨hlen, hget⟩ := bytesOf_get hb
  refine yields_same hI (v := .string (strOfNums l)) ?_ hk (RelP.sc _)
  have hrun : (convert s d (a.eval x)).run P w = .ok (.string (strOfNums l)) w := by
    rw [hv]
    by_cases hpos : 0 < L.length
    · obtain ⟨g, og, rfl, hg, hsz, hc⟩ := hcells hpos
      refine run_convert_bytes_arg w s e hs he g og L.length cap l hlen.symm (fun i hi => ?_) d hd
      have hil : i < l.length := by omega
      have h1 := hget i _ (List.getElem?_eq_getElem hil)
      obtain ⟨u, e1, e2⟩ := hc i 0 _ _ h1 rfl
      cases e2
      rw [Nat.mul_one, Nat.add_zero] at e1
      rw [e1]
      simp [List.getD, List.getElem?_eq_getElem hil]
    · have h0 : L = [] := List.eq_nil_of_length_eq_zero (by omega)
      subst h0
      simp [bytesOf] at hb
      subst hb
      cases ad with
      | none => exact run_convert_bytes_nil w s e hs he 0 cap d hd
      | some ad =>
        rw [run_convert_bytes_string w s d e _ _ cap hs he hd]
        exact run_bytesToString w ad 0 cap [] rfl
  simp [execOp, ho, hrun]
theorem mk_alloc (hI : Inv c θ D st a w) (hd : ∀ k, o.dst = some k → k < c.n) {K KP : St → Prop} {pl : Option Nat} {t : TypeId} {z : Value} (ho : o.op = .alloc t) (hz : zeroT P t = some z)
    (h : smk st (.alloc t z.cells.toList) fun ob mk => plOk st pl ∧ K ((st.new pl ob).putO o.dst (.b (mk (st.nid pl))))) : Leaves P o c K KP a w := by
  intro next Q hn _
  obtain ⟨hpl, h⟩ := h
  obtain ⟨θ', hI', hid⟩ := hI.allocAt hpl (l := .blk w.heap.size) (o := .box t (z.cells.toList.map fun v => constB v)) (ob := .cells z.cells t) (fun _ h => h) fun θ' hθ =>
    ⟨z.cells, heap_new w _, by simp, relB_zero z.cells⟩
  simp only [zeroT, Option.bind_eq_some_iff] at hz
  obtain ⟨it, hit, hz1⟩ := hz
  have hrun : (execOp a.eval o).run P w = .ok (.value (.pointer (some ⟨w.heap.size, 0, none⟩))) (w.alloc (.cells z.cells t)) := by
    simp [execOp, ho, Instr.alloc, zeroValue, typeInfo, hit, hz1, newVar, newRow]
  unfold Oper.wp
  rw [hrun]
  exact hn _ _ ⟨_, h, _, _, hI'.put hd ⟨w.heap.size, hid, rfl⟩⟩
theorem sound_alloc (hI : Inv c θ D st a w) (hd : ∀ k, o.dst = some k → k < c.n) {K KP : St → Prop} {t : TypeId} {z : Value} (ho : o.op = .alloc t) (hz : zeroT P t = some z) (h : sexec P o.dst (.alloc t z.cells.toList) st K KP) : Leaves P o c K KP a w :=
  mk_alloc hI hd (pl := none) ho hz ⟨trivial, h⟩
theorem mk_box (hI : Inv c θ D st a w) (hd : ∀ k, o.dst = some k → k < c.n) {K KP : St → Prop} {pl : Option Nat} {t : TypeId} {x : Operand} (ho : o.op = .box t x)
    (h : smk st (.box t (.of x)) fun ob mk => plOk st pl ∧ K ((st.new pl ob).putO o.dst (.b (mk (st.nid pl))))) : Leaves P o c K KP a w := by
  intro next Q hn _
  obtain ⟨ax, hx, hok, hpl, hk⟩ := h
  have hX := hI.get hx
  obtain ⟨h1, h2⟩ := relA_cells hX hok
  obtain ⟨θ', hI', hid⟩ := hI.allocAt hpl (l := .blk w.heap.size) (o := .box t ax.cells) (ob := .cells (a.eval x).cells t) (fun _ h => h) fun θ' hθ =>
    ⟨(a.eval x).cells, heap_new w _, h1, fun i u y hu hy => ((h2 i u y hu hy).1.mono (fun _ h => h) (fun b hb => heap_old w _ b (hI.ok.dlt b hb))).extN hθ⟩
  have hrun : (execOp a.eval o).run P w = .ok (.value (.pointer (some ⟨w.heap.size, 0, none⟩))) (w.alloc (.cells (a.eval x).cells t)) := by
    simp [execOp, ho, Instr.box, newVar, newRow]
  unfold Oper.wp
  rw [hrun]
  exact hn _ _ ⟨_, hk, _, _, hI'.put hd ⟨w.heap.size, hid, rfl⟩⟩
theorem sound_box (hI : Inv c θ D st a w) (hd : ∀ k, o.dst = some k → k < c.n) {K KP : St → Prop} {t : TypeId} {x : Operand} (ho : o.op = .box t x) (h : sexec P o.dst (.box t (.of x)) st K KP) : Leaves P o c K KP a w := by
  obtain ⟨ax, hx, hok, hk⟩ := h
  exact mk_box hI hd (pl := none) ho ⟨ax, hx, hok, trivial, hk⟩
theorem fill_seq {sz : Nat} : ∀ (parts : List (Nat × Value)) (ps : List PV) (s : Nat) (cells : Array Value), parts.length = ps.length →
    (∀ (i : Nat) (x : Nat × Value) (p : PV), parts[i]? = some x → ps[i]? = some p → x.1 = s + i ∧ RelP D w x.2 p ∧ p.ok = true ∧ p.cells.length = sz) → (s + parts.length) * sz ≤ cells.size →
    ∃ out, Instr.fill (fun i => some (i * sz, sz)) cells parts = some out ∧ out.size = cells.size ∧ (∀ k, k < s * sz → out[k]? = cells[k]?) ∧
      ∀ (i j : Nat) (p y : PV), ps[i]? = some p → p.cells[j]? = some y → ∃ u, out[(s + i) * sz + j]? = some u ∧ RelP D w u y
  | [], [], s, cells, _, _, _ => ⟨cells, rfl, rfl, fun _ _ => rfl, fun i j p y hp => by simp at hp⟩
  | (k, v) :: parts, p :: ps, s, cells, hl, hp, hs => by
    obtain ⟨h1, h2, h3, h4⟩ := hp 0 _ _ rfl rfl
    obtain rfl : k = s := h1
    obtain ⟨h6, h7⟩ := relP_cells h2 h3
    have hvs : v.cells.size = sz := by rw [← h4]; exact h6
    have hs' : (k + 1 + parts.length) * sz ≤ cells.size := by simp only [List.length_cons] at hs; rw [show k + 1 + parts.length = k + (parts.length + 1) by omega]; exact hs
    have hks : k * sz + sz ≤ cells.size := by
      have : (k + 1) * sz ≤ (k + 1 + parts.length) * sz := Nat.mul_le_mul_right _ (by omega)
      rw [Nat.add_mul, Nat.one_mul] at this
      omega
    obtain ⟨s1, s2⟩ := set_cells (k * sz) v.cells cells (by omega)
    obtain ⟨out, e1, e2, e3, e4⟩ := fill_seq parts ps (k + 1) (v.cells.zipIdx.foldl (fun cs (c, j) => cs.setIfInBounds (k * sz + j) c) cells) (by simpa using hl)
      (fun i x q hx hq => by have := hp (i + 1) x q (by simpa using hx) (by simpa using hq); exact ⟨by omega, this.2⟩) (by rw [s1]; exact hs')
    refine ⟨out, ?_, by rw [e2, s1], fun j hj => ?_, fun i j q y hq hy => ?_⟩
    · simp only [Instr.fill]
      rw [if_neg (by rw [hvs]; simp; exact hks)]
      exact e1
    · rw [e3 j (by rw [Nat.add_mul, Nat.one_mul]; omega), s2 j, if_neg (by omega)]
    · cases i with
      | zero =>
        simp only [List.getElem?_cons_zero, Option.some.injEq] at hq
        subst hq
        have hj : j < sz := by rw [← h4]; exact (List.getElem?_eq_some_iff.1 hy).1
        have hjv : j < v.cells.size := by omega
        refine ⟨v.cells[j], ?_, (h7 j _ y (Array.getElem?_eq_getElem hjv) hy).1⟩
        rw [Nat.add_zero, e3 _ (by rw [Nat.add_mul, Nat.one_mul]; omega), s2, if_pos ⟨by omega, by omega⟩]
        rw [show k * sz + j - k * sz = j by omega]
        exact Array.getElem?_eq_getElem hjv
      | succ i =>
        have := e4 i j q y (by simpa using hq) hy
        rwa [show k + 1 + i = k + (i + 1) by omega] at this
theorem run_bslice (hI : Inv c θ D st a w) {f : AV → Option PV} (hf : ∀ v x p, RelA θ D w v x → f x = some p → RelP D w v p) {t e : TypeId} {len sz : Nat} {parts : Array (Nat × Operand)} {z : Value} {ps : List PV} (ho : o.op = .buildSlice t len parts) (he : elemT P t = some e) (hs : sizeT P e = some sz) (hz : zeroT P e = some z)
    (hord : inOrder parts.toList = true) (hzs : z.cells.size = sz) (hps : (parts.toList.map fun q => SX.of q.2).mapM (fun x => (st.get x).bind f) = some ps) (hlen : ps.length = len) (h0 : 0 < sz) (hmax : len * sz ≤ 16777216) (hok : ∀ p ∈ ps, p.cells.length = sz ∧ p.ok = true) :
    ∃ out : Array Value, (execOp a.eval o).run P w = .ok (.value (.slice (some ⟨w.heap.size, 0, none⟩) len len)) (w.alloc (.cells out e)) ∧ out.size = len * sz ∧
      ∀ (i j : Nat) (p y : PV), ps[i]? = some p → p.cells[j]? = some y → ∃ u, out[i * sz + j]? = some u ∧ RelP D w u y := by
  obtain ⟨m1, m2⟩ := mapM_some hps
  have hpl : parts.size = ps.length := by simpa using m1
  have hu : P.underlying t = some (.slice e) := by
    unfold elemT at he
    split at he
    · cases he; assumption
    · cases he
  simp only [sizeT, Option.map_eq_some_iff] at hs
  obtain ⟨it, hit, rfl⟩ := hs
  have hz1 : it.zero = some z := by simpa [zeroT, hit] using hz
  have hidx : ∀ (i : Nat) (x : Nat × Operand), parts.toList[i]? = some x → x.1 = i := by
    intro i x hx
    simp only [inOrder, beq_iff_eq] at hord
    have h1 : (parts.toList.map (·.1))[i]? = some x.1 := by rw [List.getElem?_map, hx]; rfl
    rw [hord] at h1
    have hlt : i < parts.toList.length := (List.getElem?_eq_some_iff.1 hx).1
    rw [List.getElem?_range hlt] at h1
    exact (Option.some.inj h1).symm
  obtain ⟨out, e1, e2, e3, e4⟩ := fill_seq (D := D) (w := w) (sz := it.size) (parts.map fun (i, x) => (i, a.eval x)).toList ps 0 ((Array.range (len * it.size)).map (z.cells[· % z.cells.size]!)) (by simp [hpl])
    (fun i x p hx hp => by
      simp only [Array.toList_map, List.getElem?_map] at hx
      cases hpi : parts.toList[i]? with
      | none => rw [hpi] at hx; cases hx
      | some pr =>
        rw [hpi] at hx; cases hx
        have := m2 i (SX.of pr.2) p (by rw [List.getElem?_map, hpi]; rfl) hp
        simp only [Option.bind_eq_some_iff] at this
        obtain ⟨av, h1, h2⟩ := this
        obtain ⟨h3, h4⟩ := hok p (List.mem_of_getElem? hp)
        exact ⟨by simp [hidx i pr hpi], hf _ _ _ (hI.get h1) h2, h4, h3⟩) (by simp [hpl, hlen])
  refine ⟨out, ?_, by rw [e2]; simp, fun i j p y hp hy => by have := e4 i j p y hp hy; rwa [Nat.zero_add] at this⟩
  have hnm : ¬ (16777216 < len * it.size) := by omega
  by_cases hl0 : len * it.size = 0
  · have : len = 0 := by
      rcases Nat.mul_eq_zero.1 hl0 with h | h
      · exact h
      · omega
    subst this
    have hp0 : parts.toList = [] := List.eq_nil_of_length_eq_zero (by simp [hpl, hlen])
    have hp1 : parts = #[] := by simpa using hp0
    subst hp1
    have : out = #[] := by
      have := e2
      simp only [Array.size_map, Array.size_range, Nat.zero_mul] at this
      exact Array.eq_empty_of_size_eq_zero this
    subst this
    simp [execOp, ho, Instr.buildSlice, run_underlying hu, sizeOf, typeInfo, hit, Instr.fill, newRow, Array.range_zero']
  · simp [execOp, ho, Instr.buildSlice, run_underlying hu, sizeOf, typeInfo, hit, hnm, hl0, zeroValue, hz1, newRow]
    simp at e1
    rw [e1]
    simp
theorem sound_bslice (hI : Inv c θ D st a w) (hd : ∀ k, o.dst = some k → k < c.n) {K KP : St → Prop} {t e : TypeId} {len sz : Nat} {parts : Array (Nat × Operand)} {z : Value} (ho : o.op = .buildSlice t len parts) (he : elemT P t = some e) (hs : sizeT P e = some sz) (hz : zeroT P e = some z)
    (hord : inOrder parts.toList = true) (hzs : z.cells.size = sz) (h : sev P st (.bslice false e sz len (parts.toList.map fun q => SX.of q.2)) fun x => K (st.putO o.dst x)) : Leaves P o c K KP a w := by
  intro next Q hn _
  obtain ⟨ps, hps, hlen, h0, hmax, hok, hk⟩ := h
  obtain ⟨out, hrun, h1, h2⟩ := run_bslice hI (fun _ _ _ => relA_toPV) ho he hs hz hord hzs hps hlen h0 hmax hok
  have hI' := hI.below (D' := fun b => D b ∨ (w.heap.size ≤ b ∧ b < (w.alloc (.cells out e)).heap.size)) (below_alloc w (.cells out e)) hI.w0le (fun b hb => .inl hb) (fun b hb => hb)
  unfold Oper.wp
  rw [hrun]
  have hrel : RelP (fun b => D b ∨ (w.heap.size ≤ b ∧ b < (w.alloc (.cells out e)).heap.size)) (w.alloc (.cells out e)) (.slice (some ⟨w.heap.size, 0, none⟩) len len) (lst sz ps) := by
    subst hlen
    refine relP_lst_mk (Nat.le_refl _) fun hl => ⟨w.heap.size, 0, rfl, .inr ⟨Nat.le_refl _, by simp⟩, fun p hp => (hok p hp).1, fun i j x y hx hy => ?_⟩
    obtain ⟨u, e1, e2⟩ := h2 i j x y hx hy
    refine ⟨u, ?_, e2.mono (fun b hb => .inl hb) (fun b hb => heap_old w _ b (hI.ok.dlt b hb))⟩
    rw [Nat.zero_add, cell_of_row _ _ _ out e (0, 0) (heap_new w _)]
    exact e1
  rcases hk with hk | hk
  · exact hn _ _ ⟨_, hk, θ, _, hI'.put hd hrel⟩
  · exact hn _ _ ⟨_, hk, θ, _, hI'.put hd ⟨hrel, _, _, rfl⟩⟩
theorem sound_bsliceN (hI : Inv c θ D st a w) (hd : ∀ k, o.dst = some k → k < c.n) {K KP : St → Prop} {t e : TypeId} {len sz : Nat} {parts : Array (Nat × Operand)} {z : Value} (ho : o.op = .buildSlice t len parts) (he : elemT P t = some e) (hs : sizeT P e = some sz) (hz : zeroT P e = some z)
    (hord : inOrder parts.toList = true) (hzs : z.cells.size = sz) (h : sev P st (.bsliceN e sz len (parts.toList.map fun q => SX.of q.2)) fun x => K (st.putO o.dst x)) : Leaves P o c K KP a w := by
  intro next Q hn _
  obtain ⟨ps, hps, hlen, h0, hmax, hok, hk⟩ := h
  obtain ⟨out, hrun, h1, h2⟩ := run_bslice hI (fun _ _ _ => relA_toPVn) ho he hs hz hord hzs hps hlen h0 hmax hok
  have hI' := hI.below (D' := fun b => D b ∨ (w.heap.size ≤ b ∧ b < (w.alloc (.cells out e)).heap.size)) (below_alloc w (.cells out e)) hI.w0le (fun b hb => .inl hb) (fun b hb => hb)
  unfold Oper.wp
  rw [hrun]
  have hrel : RelP (fun b => D b ∨ (w.heap.size ≤ b ∧ b < (w.alloc (.cells out e)).heap.size)) (w.alloc (.cells out e)) (.slice (some ⟨w.heap.size, 0, none⟩) len len) (lst sz ps) := by
    subst hlen
    refine relP_lst_mk (Nat.le_refl _) fun hl => ⟨w.heap.size, 0, rfl, .inr ⟨Nat.le_refl _, by simp⟩, fun p hp => (hok p hp).1, fun i j x y hx hy => ?_⟩
    obtain ⟨u, e1, e2⟩ := h2 i j x y hx hy
    refine ⟨u, ?_, e2.mono (fun b hb => .inl hb) (fun b hb => heap_old w _ b (hI.ok.dlt b hb))⟩
    rw [Nat.zero_add, cell_of_row _ _ _ out e (0, 0) (heap_new w _)]
    exact e1
  exact hn _ _ ⟨_, hk, θ, _, hI'.put hd hrel⟩
theorem mk_bslice (hI : Inv c θ D st a w) (hd : ∀ k, o.dst = some k → k < c.n) {K KP : St → Prop} {t e : TypeId} {len sz : Nat} {parts : Array (Nat × Operand)} {z : Value} (ho : o.op = .buildSlice t len parts) (he : elemT P t = some e) (hs : sizeT P e = some sz) (hz : zeroT P e = some z)
    (hord : inOrder parts.toList = true) (hzs : z.cells.size = sz) {pl : Option Nat} (h : smk st (.bslice true e sz len (parts.toList.map fun q => SX.of q.2)) fun ob mk => plOk st pl ∧ K ((st.new pl ob).putO o.dst (.b (mk (st.nid pl))))) : Leaves P o c K KP a w := by
  intro next Q hn _
  obtain ⟨ps, hps, hlen, h0, hmax, hok, hpl, hk⟩ := h
  obtain ⟨out, hrun, h1, h2⟩ := run_bslice hI (fun _ _ _ => relA_toPV) ho he hs hz hord hzs hps hlen h0 hmax hok
  subst hlen
  have hle : ps.length ≤ maxLen := by
    have : ps.length ≤ ps.length * sz := Nat.le_mul_of_pos_right _ h0
    simp only [maxLen]; omega
  obtain ⟨θ', hI', hid⟩ := hI.allocAt hpl (l := .hdr w.heap.size ps.length ps.length sz none') (o := .vec e sz ps) (ob := .cells out e) (fun _ h => h.elim id False.elim) fun θ' hθ =>
    ⟨rfl, rfl, Nat.le_refl _, hle, fun p hp => (hok p hp).1, out, heap_new w _, h1, fun i j x y hx hy => let ⟨u, e1, e2⟩ := h2 i j x y hx hy; ⟨u, e1, e2.mono (fun _ h => h) (fun b hb => heap_old w _ b (hI.ok.dlt b hb))⟩⟩
  unfold Oper.wp
  rw [hrun]
  exact hn _ _ ⟨_, hk, _, _, hI'.put hd ⟨_, hid, rfl⟩⟩
theorem sound_bsliceO (hI : Inv c θ D st a w) (hd : ∀ k, o.dst = some k → k < c.n) {K KP : St → Prop} {t e : TypeId} {len sz : Nat} {parts : Array (Nat × Operand)} {z : Value} (ho : o.op = .buildSlice t len parts) (he : elemT P t = some e) (hs : sizeT P e = some sz) (hz : zeroT P e = some z)
    (hord : inOrder parts.toList = true) (hzs : z.cells.size = sz) (h : sexec P o.dst (.bslice true e sz len (parts.toList.map fun q => SX.of q.2)) st K KP) : Leaves P o c K KP a w := by
  obtain ⟨ps, hps, hlen, h0, hmax, hok, hk⟩ := h
  exact mk_bslice hI hd ho he hs hz hord hzs (pl := none) ⟨ps, hps, hlen, h0, hmax, hok, trivial, hk⟩
end
end Go.Av
namespace Go.Av
open Go Go.RowKit
section
variable {P : Program} {o : Oper} {c : Ctx} {θ : List Loc} {D : Nat → Prop} {st : St} {a : Act} {w : World}
def lentLocs (θ : List Loc) (B : List Nat) : List Loc := B.map fun i => θ.getD i .no
def lentD (bor : Bool) (θ : List Loc) (B : List Nat) (D : Nat → Prop) (w : World) : Nat → Prop := if bor then fun b => b < w.heap.size ∧ ¬ owns (lentLocs θ B) b else D
def backLocs (θ : List Loc) (B : List Nat) (θ' : List Loc) : List Loc := (θ.mapIdx fun i l => if B.contains i then θ'.getD (B.idxOf i) .no else l) ++ θ'.drop B.length
theorem lent_get {B : List Nat} (hB : ∀ i ∈ B, i < θ.length) {k : Nat} {l : Loc} (h : (lentLocs θ B)[k]? = some l) : ∃ i, B[k]? = some i ∧ θ[i]? = some l := by
  unfold lentLocs at h
  rw [List.getElem?_map] at h
  cases hk : B[k]? with
  | none => rw [hk] at h; cases h
  | some i =>
    rw [hk] at h
    simp only [Option.map_some, Option.some.injEq] at h
    have := hB i (List.mem_of_getElem? hk)
    exact ⟨i, rfl, by rw [← h]; simp [List.getD, List.getElem?_eq_getElem this]⟩
theorem idx_get {B : List Nat} {i : Nat} (h : i ∈ B) : B[B.idxOf i]? = some i := by
  have hlt := List.idxOf_lt_length_of_mem h
  rw [List.getElem?_eq_getElem hlt, List.getElem_idxOf]
theorem lent_idx {B : List Nat} {i : Nat} {l : Loc} (hi : i ∈ B) (h : θ[i]? = some l) : (lentLocs θ B)[B.idxOf i]? = some l := by
  unfold lentLocs
  rw [List.getElem?_map, idx_get hi]
  simp [List.getD, h]
theorem lent_ok (hI : Inv c θ D st a w) {bor : Bool} {B : List Nat} {os : List AObj} (hnd : B.Nodup) (hos : B.mapM (st.hp[·]?) = some os) (hcl : ∀ o ∈ os, ∀ i ∈ o.ids, i ∈ B) :
    Ok (lentLocs θ B) (lentD bor θ B D w) (os.map (AObj.ren (B.idxOf ·))) w ∧ (∀ b, D b → lentD bor θ B D w b) ∧ ∀ i ∈ B, i < θ.length := by
  obtain ⟨m1, m2⟩ := mapM_some hos
  have hB : ∀ i ∈ B, i < θ.length := fun i hi => by
    obtain ⟨k, hk⟩ := List.getElem?_of_mem hi
    obtain ⟨ob, hob⟩ := getElem?_of_len (l := os) (m := B) m1.symm hk
    have := m2 k i ob hk hob
    rw [hI.ok.len]
    exact (List.getElem?_eq_some_iff.1 this).1
  have hDsub : ∀ b, D b → lentD bor θ B D w b := fun b hb => by
    unfold lentD
    cases bor
    · exact hb
    · refine ⟨hI.ok.dlt b hb, fun ⟨k, l, hk, hl⟩ => ?_⟩
      obtain ⟨i, _, hi⟩ := lent_get hB hk
      exact (hI.ok.olt i l b hi hl).2 hb
  refine ⟨⟨by simp [lentLocs, m1], fun b hb => ?_, fun i j li lj g hi hj hgi hgj => ?_, fun k l g hk hg => ?_, fun k l ob hk hob => ?_⟩, hDsub, hB⟩
  · unfold lentD at hb
    cases bor
    · exact hI.ok.dlt b hb
    · exact hb.1
  · obtain ⟨i', hi1, hi2⟩ := lent_get hB hi
    obtain ⟨j', hj1, hj2⟩ := lent_get hB hj
    have := hI.ok.inj i' j' li lj g hi2 hj2 hgi hgj
    subst this
    exact ((List.getElem?_inj (List.getElem?_eq_some_iff.1 hi1).1 hnd).1 (hi1.trans hj1.symm))
  · obtain ⟨i, hi1, hi2⟩ := lent_get hB hk
    obtain ⟨h1, h2⟩ := hI.ok.olt i l g hi2 hg
    refine ⟨h1, fun hd => ?_⟩
    unfold lentD at hd
    cases bor
    · exact h2 hd
    · exact hd.2 ⟨k, l, hk, hg⟩
  · obtain ⟨i, hi1, hi2⟩ := lent_get hB hk
    rw [List.getElem?_map] at hob
    cases hok : os[k]? with
    | none => rw [hok] at hob; cases hob
    | some o0 =>
      rw [hok] at hob; cases hob
      have h1 := m2 k i o0 hi1 hok
      refine ((hI.ok.objs i l o0 hi2 h1).ren fun k' l' hk' hl' => lent_idx (hcl o0 (List.mem_of_getElem? hok) k' hk') hl').mono hDsub (fun _ _ => rfl) (fun _ _ => rfl)
theorem back_get {B : List Nat} {θ' : List Loc} (hB : ∀ i ∈ B, i < θ.length) (hlen : B.length ≤ θ'.length) {i : Nat} {l : Loc} (h : (backLocs θ B θ')[i]? = some l) :
    (i < θ.length ∧ i ∉ B ∧ θ[i]? = some l) ∨ (∃ k, θ'[k]? = some l ∧ i = backId B θ.length k ∧ ((k < B.length ∧ B[k]? = some i) ∨ (B.length ≤ k ∧ θ.length ≤ i))) := by
  unfold backLocs at h
  rcases Nat.lt_or_ge i θ.length with hi | hi
  · rw [List.getElem?_append_left (by simpa using hi), List.getElem?_mapIdx, List.getElem?_eq_getElem hi] at h
    simp only [Option.map_some, Option.some.injEq] at h
    by_cases hb : i ∈ B
    · rw [if_pos (by simpa using hb)] at h
      have hlt := List.idxOf_lt_length_of_mem hb
      refine .inr ⟨B.idxOf i, ?_, ?_, .inl ⟨hlt, idx_get hb⟩⟩
      · rw [← h]
        have : B.idxOf i < θ'.length := by omega
        simp [List.getD, List.getElem?_eq_getElem this]
      · simp only [backId, if_pos hlt, List.getD, idx_get hb, Option.getD_some]
    · rw [if_neg (by simpa using hb)] at h
      exact .inl ⟨hi, hb, by rw [List.getElem?_eq_getElem hi, h]⟩
  · rw [List.getElem?_append_right (by simpa using hi)] at h
    simp only [List.length_mapIdx, List.getElem?_drop] at h
    refine .inr ⟨B.length + (i - θ.length), h, ?_, .inr ⟨by omega, hi⟩⟩
    simp only [backId]
    rw [if_neg (by omega)]
    omega
theorem back_new {B : List Nat} {θ' : List Loc} (hB : ∀ i ∈ B, i < θ.length) (hnd : B.Nodup) {k : Nat} {l : Loc} (h : θ'[k]? = some l) : (backLocs θ B θ')[backId B θ.length k]? = some l := by
  unfold backLocs backId
  split
  · rename_i hk
    have hm : B.getD k 0 = B[k] := by simp [List.getD, List.getElem?_eq_getElem hk]
    have hlt : B[k] < θ.length := hB _ (List.getElem_mem hk)
    rw [hm, List.getElem?_append_left (by simpa using hlt), List.getElem?_mapIdx, List.getElem?_eq_getElem hlt]
    simp only [Option.map_some]
    rw [if_pos (by simp), hnd.idxOf_getElem k hk]
    simp [List.getD, h]
  · rename_i hk
    rw [List.getElem?_append_right (by simp)]
    simp only [List.length_mapIdx, List.getElem?_drop]
    rw [← h]; congr 1; omega
theorem back_rest {B : List Nat} {θ' : List Loc} {k : Nat} {l : Loc} (hk : k ∉ B) (h : θ[k]? = some l) : (backLocs θ B θ')[k]? = some l := by
  unfold backLocs
  have hlt : k < θ.length := (List.getElem?_eq_some_iff.1 h).1
  rw [List.getElem?_append_left (by simpa using hlt), List.getElem?_mapIdx, h]
  simp only [Option.map_some]
  rw [if_neg (by simpa using hk)]
theorem backHp_get {B : List Nat} {hp os : List AObj} (hB : ∀ i ∈ B, i < hp.length) {i : Nat} {o : AObj} (h : (backHp B hp os)[i]? = some o) :
    (i < hp.length ∧ i ∉ B ∧ ∃ o0, hp[i]? = some o0 ∧ o = o0.killB B) ∨ (∃ k, o = (os.getD k .gone).ren (backId B hp.length) ∧ ((k < B.length ∧ B[k]? = some i) ∨ (B.length ≤ k ∧ i = hp.length + (k - B.length) ∧ k < os.length))) := by
  unfold backHp at h
  rcases Nat.lt_or_ge i hp.length with hi | hi
  · rw [List.getElem?_append_left (by simpa using hi), List.getElem?_mapIdx, List.getElem?_eq_getElem hi] at h
    simp only [Option.map_some, Option.some.injEq] at h
    by_cases hb : i ∈ B
    · rw [if_pos (by simpa using hb)] at h
      exact .inr ⟨B.idxOf i, h.symm, .inl ⟨List.idxOf_lt_length_of_mem hb, idx_get hb⟩⟩
    · rw [if_neg (by simpa using hb)] at h
      exact .inl ⟨hi, hb, _, List.getElem?_eq_getElem hi, h.symm⟩
  · rw [List.getElem?_append_right (by simpa using hi)] at h
    simp only [List.length_mapIdx, List.getElem?_map, List.getElem?_drop] at h
    cases hk : os[B.length + (i - hp.length)]? with
    | none => rw [hk] at h; cases h
    | some o0 =>
      rw [hk] at h
      simp only [Option.map_some, Option.some.injEq] at h
      have hlt := (List.getElem?_eq_some_iff.1 hk).1
      exact .inr ⟨B.length + (i - hp.length), by rw [← h]; simp [List.getD, hk], .inr ⟨by omega, by omega, hlt⟩⟩
theorem back_inv (hI : Inv c θ D st a w) {bor : Bool} {B : List Nat} {os : List AObj} (hnd : B.Nodup) (hos : B.mapM (st.hp[·]?) = some os) (hcl : ∀ o ∈ os, ∀ i ∈ o.ids, i ∈ B)
    {θ' : List Loc} {D' : Nat → Prop} {os' : List AObj} {w' : World} (hok : Ok θ' D' os' w') (hkeep : Keep (owns (lentLocs θ B)) w w') (hD : ∀ b, lentD bor θ B D w b → D' b)
    (hD' : ∀ b, D' b → lentD bor θ B D w b ∨ owns (lentLocs θ B) b ∨ w.heap.size ≤ b) (hon : ∀ (i : Nat) (l : Loc) (g : Nat), θ'[i]? = some l → l.has g → owns (lentLocs θ B) g ∨ w.heap.size ≤ g)
    (hfix : ∀ (k : Nat) (l : Loc), (lentLocs θ B)[k]? = some l → l.fixed = true → θ'[k]? = some l) (hlen : (lentLocs θ B).length ≤ θ'.length) (hflat : bor = true → ∀ o ∈ os', o.FlatO) :
    Inv c (backLocs θ B θ') (fun b => D b ∨ (D' b ∧ (owns (lentLocs θ B) b ∨ w.heap.size ≤ b))) (st.back B os') a w' := by
  obtain ⟨hok0, hDs, hB⟩ := lent_ok (bor := bor) hI hnd hos hcl
  have hl' : B.length ≤ θ'.length := by simpa [lentLocs] using hlen
  have hown : ∀ g, owns (lentLocs θ B) g → ∃ (i : Nat) (l : Loc), i ∈ B ∧ θ[i]? = some l ∧ l.has g := fun g ⟨k, l, hk, hg⟩ => by
    obtain ⟨i, hi1, hi2⟩ := lent_get hB hk
    exact ⟨i, l, List.mem_of_getElem? hi1, hi2, hg⟩
  have hnown : ∀ (i : Nat) (l : Loc) (g : Nat), i ∉ B → θ[i]? = some l → l.has g → ¬ owns (lentLocs θ B) g := fun i l g hi hl hg ho => by
    obtain ⟨j, lj, hj, hj2, hj3⟩ := hown g ho
    exact hi (hI.ok.inj i j l lj g hl hj2 hg hj3 ▸ hj)
  have hDw : ∀ b, D b → w'.heap[b]? = w.heap[b]? := fun b hb => hkeep.block b (hI.ok.dlt b hb) fun ho => by
    obtain ⟨i, l, _, h1, h2⟩ := hown b ho
    exact (hI.ok.olt i l b h1 h2).2 hb
  have k1 : ∀ (k : Nat) (l : Loc), k ∉ B → θ[k]? = some l → (backLocs θ B θ')[k]? = some l := fun k l hk h => back_rest hk h
  have k2 : ∀ (k : Nat) (l : Loc), l.fixed = true → θ[k]? = some l → (backLocs θ B θ')[k]? = some l := fun k l hf h => by
    by_cases hk : k ∈ B
    · have h3 := hfix _ l (lent_idx hk h) hf
      have h4 := back_new (θ := θ) hB hnd h3
      have : backId B θ.length (B.idxOf k) = k := by
        simp only [backId, if_pos (List.idxOf_lt_length_of_mem hk), List.getD, idx_get hk, Option.getD_some]
      rw [this] at h4
      exact h4
    · exact k1 k l hk h
  have newD : ∀ {v : Value} {x : AObj} {l : Loc}, True → True := fun _ => trivial
  have hmono : bor = false → ∀ b, D' b → D b ∨ (D' b ∧ (owns (lentLocs θ B) b ∨ w.heap.size ≤ b)) := fun hb b h => by
    rcases hD' b h with h1 | h1 | h1
    · subst hb; exact .inl h1
    · exact .inr ⟨h, .inl h1⟩
    · exact .inr ⟨h, .inr h1⟩
  have hlenθ : θ.length = st.hp.length := hI.ok.len
  refine ⟨hI.size, hI.defers, ⟨?_, fun b hb => ?_, fun i j li lj g hi hj hgi hgj => ?_, fun i l g hi hg => ?_, fun i l ob hi hob => ?_⟩, ?_, fun b hb => .inl (hI.dsub b hb), fun b hb => ?_, fun i l g hi hg => ?_, fun k x hk => ?_, fun k l hk hf => k2 k l hf (hI.fix k l hk hf)⟩
  · have := hok.len
    simp only [backLocs, St.back, backHp, List.length_append, List.length_mapIdx, List.length_drop, List.length_map]
    omega
  · rcases hb with hb | ⟨hb, _⟩
    · exact Nat.lt_of_lt_of_le (hI.ok.dlt b hb) hkeep.size
    · exact hok.dlt b hb
  · rcases back_get hB hl' hi with ⟨a1, a2, a3⟩ | ⟨k, a1, a2, _⟩ <;> rcases back_get hB hl' hj with ⟨b1, b2, b3⟩ | ⟨m, b1, b2, _⟩
    · exact hI.ok.inj i j li lj g a3 b3 hgi hgj
    · rcases hon m lj g b1 hgj with h1 | h1
      · exact (hnown i li g a2 a3 hgi h1).elim
      · have := (hI.ok.olt i li g a3 hgi).1; omega
    · rcases hon k li g a1 hgi with h1 | h1
      · exact (hnown j lj g b2 b3 hgj h1).elim
      · have := (hI.ok.olt j lj g b3 hgj).1; omega
    · rw [a2, b2, hok.inj k m li lj g a1 b1 hgi hgj]
  · rcases back_get hB hl' hi with ⟨a1, a2, a3⟩ | ⟨k, a1, _, _⟩
    · obtain ⟨h1, h2⟩ := hI.ok.olt i l g a3 hg
      refine ⟨Nat.lt_of_lt_of_le h1 hkeep.size, fun hd => ?_⟩
      rcases hd with hd | ⟨_, hd | hd⟩
      · exact h2 hd
      · exact hnown i l g a2 a3 hg hd
      · omega
    · obtain ⟨h1, h2⟩ := hok.olt k l g a1 hg
      refine ⟨h1, fun hd => ?_⟩
      rcases hd with hd | ⟨hd, _⟩
      · exact h2 (hD g (hDs g hd))
      · exact h2 hd
  · have hB' : ∀ i ∈ B, i < st.hp.length := fun i hi => by rw [← hlenθ]; exact hB i hi
    rcases back_get hB hl' hi with ⟨a1, a2, a3⟩ | ⟨k, a1, a2, a4⟩ <;> rcases backHp_get hB' hob with ⟨b1, b2, o0, b3, rfl⟩ | ⟨m, rfl, b4⟩
    · exact ((hI.ok.objs i l o0 a3 b3).killB k1 k2).mono (fun b hb => .inl hb) hDw fun g hg => hkeep.block g (hI.ok.olt i l g a3 hg).1 (hnown i l g a2 a3 hg)
    · rcases b4 with ⟨_, h⟩ | ⟨_, h, _⟩
      · exact (a2 (List.mem_of_getElem? h)).elim
      · omega
    · rcases a4 with ⟨_, h⟩ | ⟨_, h⟩
      · exact (b2 (List.mem_of_getElem? h)).elim
      · omega
    · have hkm : k = m := by
        rcases a4 with ⟨c1, c2⟩ | ⟨c1, c2⟩ <;> rcases b4 with ⟨d1, d2⟩ | ⟨d1, d2, d3⟩
        · exact (List.getElem?_inj c1 hnd).1 (c2.trans d2.symm)
        · have := hB' i (List.mem_of_getElem? c2); omega
        · have := hB' i (List.mem_of_getElem? d2); omega
        · rw [a2] at d2
          simp only [backId] at d2
          rw [if_neg (by omega)] at d2
          omega
      subst hkm
      have hlt : k < os'.length := by rw [← hok.len]; exact (List.getElem?_eq_some_iff.1 a1).1
      have ho' : os'[k]? = some (os'.getD k .gone) := by simp [List.getD, List.getElem?_eq_getElem hlt]
      rw [← hlenθ]
      have hr := (hok.objs k l _ a1 ho').ren (θ2 := backLocs θ B θ') (ρ := backId B θ.length) fun k' l' _ h => back_new hB hnd h
      cases bor
      · exact hr.mono (hmono rfl) (fun _ _ => rfl) (fun _ _ => rfl)
      · have hf := hflat rfl _ (List.mem_of_getElem? ho')
        refine RelO.flatO ?_ hr
        cases ho'' : os'.getD k .gone with
        | box t cs =>
          rw [ho''] at hf
          intro x hx
          simp only [List.mem_map] at hx
          obtain ⟨y, hy, rfl⟩ := hx
          have := hf y hy
          cases y <;> exact this
        | gone => trivial
        | free => trivial
        | vec e sz xs => rw [ho''] at hf; exact hf
        | tree e sz k xs hole =>
          rw [ho''] at hf
          refine ⟨fun i j b hb => ?_, hf.2⟩
          cases hole with
          | none => cases hb
          | some q =>
            obtain ⟨i', j', b'⟩ := q
            cases hb
            have := hf.1 _ _ _ rfl
            cases b' <;> exact this
        | map k e kvs => rw [ho''] at hf; exact hf
  · refine ⟨hkeep.os.trans hI.keep.os, hkeep.tape.trans hI.keep.tape, hkeep.output.trans hI.keep.output, Nat.le_trans hI.keep.size hkeep.size, fun k hk hn => (hkeep.block k (Nat.lt_of_lt_of_le hk hI.keep.size) fun ho => ?_).trans (hI.keep.block k hk hn)⟩
    obtain ⟨i, l, _, h1, h2⟩ := hown k ho
    rcases hI.onew i l k h1 h2 with h3 | h3
    · exact hn h3
    · omega
  · have h0 := hI.w0le
    rcases hb with hb | ⟨_, hb | hb⟩
    · exact hI.dnew b hb
    · obtain ⟨i, l, _, h1, h2⟩ := hown b hb
      exact .inr (hI.onew i l b h1 h2)
    · exact .inr (.inr (by omega))
  · have h0 := hI.w0le
    rcases back_get hB hl' hi with ⟨a1, a2, a3⟩ | ⟨k, a1, _, _⟩
    · exact hI.onew i l g a3 hg
    · rcases hon k l g a1 hg with h1 | h1
      · obtain ⟨j, lj, _, h2, h3⟩ := hown g h1
        exact hI.onew j lj g h2 h3
      · exact .inr (by omega)
  · simp only [St.back, look_map] at hk
    cases hlk : look st.fr k with
    | none => rw [hlk] at hk; cases hk
    | some y =>
      rw [hlk] at hk; cases hk
      exact ((hI.fr k y hlk).killB k1 k2).mono (fun b hb => .inl hb) hDw
theorem relA_argAV (hI : Inv c θ D st a w) {bor : Bool} {B : List Nat} {v : Value} {x y : AV} (hv : RelA θ D w v x) (h : argAV st.hp bor B x = some y) (hno : ∀ b, b < w.heap.size → bor = true → (∃ (id : Nat) (l : Loc), id ∉ B ∧ θ[id]? = some l ∧ l.has b) → lentD bor θ B D w b) (hDs : ∀ b, D b → lentD bor θ B D w b) :
    RelA θ (lentD bor θ B D w) w v y := by
  have hmono : RelA θ (lentD bor θ B D w) w v x := hv.mono hDs (fun _ _ => rfl)
  unfold argAV at h
  split at h
  · rename_i id
    split at h
    · cases h; exact hmono
    · rename_i hnb
      simp only [Option.map_eq_some_iff] at h
      obtain ⟨p, hp, rfl⟩ := h
      exact rel_argPV hI hDs (fun hb id' l hi hl b hg => hno b (hI.ok.olt id' l b hl hg).1 hb ⟨id', l, by
        have : id' = id := by simpa [AV.ids, BV.ids] using hi
        rw [this]; simpa using hnb, hl, hg⟩) hv hp
  · rename_i xs
    split at h
    · simp only [Option.map_eq_some_iff] at h
      obtain ⟨p, hp, rfl⟩ := h
      exact relA_toPV hmono hp
    · cases h; exact hmono
  · cases h; exact hmono.1
  · cases h; cases hmono; exact RelP.nil none 0
  · cases h; exact hmono
theorem callK_sound (hI : Inv c θ D st a w) (hd : ∀ k, o.dst = some k → k < c.n) {K KP : St → Prop} {bor : Bool} {B : List Nat} {f : FuncId} {ars : List AV} {os : List AObj} {vs : List Value}
    (hrun : (execOp a.eval o).run P w = .ok (.enter f vs.toArray) w) (hvl : vs.length = ars.length) (hvs : ∀ (i : Nat) (v : Value) (x : AV), vs[i]? = some v → ars[i]? = some x → RelA θ (lentD bor θ B D w) w v x)
    (hos : B.mapM (st.hp[·]?) = some os) (h : sexec.callK P st o.dst bor B f ars os K KP) : Leaves P o c K KP a w := by
  intro next Q hn hp
  obtain ⟨hnd, hca, hco, hcall⟩ := h
  obtain ⟨hok0, hDs, hB⟩ := lent_ok (bor := bor) hI hnd hos hco
  unfold Oper.wp
  rw [hrun]
  simp only [Oper.upon]
  have hlenθ := hI.ok.len
  refine (hcall w (lentLocs θ B) (lentD bor θ B D w) vs ((c.gk w hI.keep).mono (Keep.refl (fun _ => False) w) (fun _ _ h => h) (fun b hb => hDs b (hI.dsub b hb))) hok0 (by simpa using hvl) fun i v x hv hx => ?_).mono fun e w' hb => ?_
  · rw [List.getElem?_map] at hx
    cases hxi : ars[i]? with
    | none => rw [hxi] at hx; cases hx
    | some y =>
      rw [hxi] at hx; cases hx
      exact (hvs i v y hv hxi).ren fun k l hk hl => lent_idx (hca y (List.mem_of_getElem? hxi) k hk) hl
  · rcases hb with ⟨v, r, os', θ', D', rfl, ⟨hflat, hk⟩, hv, hok, hkeep, hD, hD', hon, hfix, hlen⟩ | ⟨ch, hch, rfl, hk, hkeep⟩
    · have hI' := back_inv (bor := bor) hI hnd hos hco hok hkeep hD hD' hon hfix hlen (fun hb => (hflat hb).2)
      refine hn _ _ ⟨_, hk, _, _, hI'.put hd ?_⟩
      have hr := hv.ren (θ2 := backLocs θ B θ') (ρ := backId B θ.length) fun k' l' _ h => back_new hB hnd h
      rw [← hlenθ]
      cases bor
      · refine hr.mono (fun b h => ?_) (fun _ _ => rfl)
        rcases hD' b h with h1 | h1 | h1
        · exact .inl h1
        · exact .inr ⟨h, .inl h1⟩
        · exact .inr ⟨h, .inr h1⟩
      · have hf := (hflat rfl).1
        refine RelA.flatA ?_ hr
        have hfr : ∀ (ρ : Nat → Nat) (x : BV), x.FlatB → (x.ren ρ).FlatB := fun ρ x hx => by cases x <;> exact hx
        cases r with
        | b x => exact hfr _ x hf
        | agg xs => intro x hx; simp only [List.mem_map] at hx; obtain ⟨y, hy, rfl⟩ := hx; exact hfr _ y (hf y hy)
        | tup xs => intro x hx; simp only [List.mem_map] at hx; obtain ⟨y, hy, rfl⟩ := hx; exact hfr _ y (hf y hy)
    · have hokg : Ok (lentLocs θ B) (lentD bor θ B D w) (os.map fun _ => AObj.gone) w' := by
        refine ⟨by have := hok0.len; simpa using this, fun b hb => Nat.lt_of_lt_of_le (hok0.dlt b hb) hkeep.size, hok0.inj, fun i l g hi hg => ⟨Nat.lt_of_lt_of_le (hok0.olt i l g hi hg).1 hkeep.size, (hok0.olt i l g hi hg).2⟩, fun i l ob hi hob => ?_⟩
        rw [List.getElem?_map] at hob
        cases hoi : os[i]? with
        | none => rw [hoi] at hob; cases hob
        | some o0 => rw [hoi] at hob; cases hob; cases l <;> trivial
      have hI' := back_inv (bor := bor) hI hnd hos hco hokg hkeep (fun b h => h) (fun b h => .inl h) (fun i l g hi hg => .inl ⟨i, l, hi, hg⟩) (fun k l h _ => h) (Nat.le_refl _) (fun _ o ho => by
        simp only [List.mem_map] at ho
        obtain ⟨_, _, rfl⟩ := ho
        trivial)
      exact hp ch w' ⟨hch, _, hk, _, _, hI'⟩
theorem args_rel (hI : Inv c θ D st a w) {bor : Bool} {B : List Nat} {os : List AObj} (hnd : B.Nodup) (hos : B.mapM (st.hp[·]?) = some os) (hco : ∀ o ∈ os, ∀ i ∈ o.ids, i ∈ B) {xs : List Operand} {ars : List AV}
    (has : (xs.map SX.of).mapM (fun x => (st.get x).bind (argAV st.hp bor B)) = some ars) : (xs.map a.eval).length = ars.length ∧ ∀ (i : Nat) (v : Value) (x : AV), (xs.map a.eval)[i]? = some v → ars[i]? = some x → RelA θ (lentD bor θ B D w) w v x := by
  obtain ⟨hok0, hDs, hB⟩ := lent_ok (bor := bor) hI hnd hos hco
  obtain ⟨m1, m2⟩ := mapM_some has
  refine ⟨by simpa using m1, fun i v x hv hx => ?_⟩
  rw [List.getElem?_map] at hv
  cases hxi : xs[i]? with
  | none => rw [hxi] at hv; cases hv
  | some y =>
    rw [hxi] at hv; cases hv
    have := m2 i (SX.of y) x (by rw [List.getElem?_map, hxi]; rfl) hx
    simp only [Option.bind_eq_some_iff] at this
    obtain ⟨av, h1, h2⟩ := this
    refine relA_argAV hI (hI.get h1) h2 (fun b hb hbor ⟨id, l, h3, h4, h5⟩ => ?_) hDs
    subst hbor
    refine ⟨hb, fun ⟨k, lk, hk, hl⟩ => ?_⟩
    obtain ⟨j, hj1, hj2⟩ := lent_get hB hk
    exact h3 (hI.ok.inj id j l lk b h4 hj2 h5 hl ▸ List.mem_of_getElem? hj1)
theorem sound_callA (hI : Inv c θ D st a w) (hd : ∀ k, o.dst = some k → k < c.n) {K KP : St → Prop} {bor : Bool} {B : List Nat} {f : FuncId} {cl : Call} (ho : o.op = .call cl) (hcl : cl.callee = .value (.func f)) (hf : callable P f = true)
    (h : sexec P o.dst (.callA bor B f (cl.args.toList.map SX.of)) st K KP) : Leaves P o c K KP a w := by
  obtain ⟨ars, has, os, hos, hk⟩ := h
  obtain ⟨h1, h2⟩ := args_rel hI hk.1 hos hk.2.2.1 has
  exact callK_sound hI hd (run_call ho hcl hf) h1 h2 hos hk
theorem sound_callv (hI : Inv c θ D st a w) (hd : ∀ k, o.dst = some k → k < c.n) {K KP : St → Prop} {bor : Bool} {B : List Nat} {t : Tmp} {cl : Call} (ho : o.op = .call cl) (hcl : cl.callee = .value (.tmp t))
    (h : sexec P o.dst (.callv bor B (.tm t) (cl.args.toList.map SX.of)) st K KP) : Leaves P o c K KP a w := by
  obtain ⟨ax, hx, f, caps, hcase, hf, ars, has, os, hos, hk⟩ := h
  obtain ⟨h1, h2⟩ := args_rel hI hk.1 hos hk.2.2.1 has
  obtain ⟨hok0, hDs, hB⟩ := lent_ok (bor := bor) hI hk.1 hos hk.2.2.1
  have hX := hI.get (x := .tmp t) hx
  have key : ∃ cs : Array Value, a.eval (.tmp t) = .func (.func f) #[] cs ∧ cs.toList.length = caps.length ∧ ∀ (i : Nat) (v : Value) (x : AV), cs.toList[i]? = some v → caps[i]? = some x → RelA θ (lentD bor θ B D w) w v x := by
    rcases hcase with ⟨ids, rfl, rfl⟩ | ⟨ps, rfl, rfl⟩
    · obtain ⟨gs, e1, e2, e3⟩ := hX
      refine ⟨_, e3, by simp [e1], fun i v x hv hx' => ?_⟩
      simp only [List.getElem?_map] at hv hx'
      cases hi : ids[i]? with
      | none => rw [hi] at hx'; cases hx'
      | some id =>
        rw [hi] at hx'; cases hx'
        cases hg : gs[i]? with
        | none => rw [hg] at hv; cases hv
        | some g => rw [hg] at hv; cases hv; exact ⟨g, e2 i id g hi hg, rfl⟩
    · have hX' : RelP D w (a.eval (.tmp t)) (.fn (.func f) ps) := hX
      generalize a.eval (.tmp t) = v at hX'
      cases hX' with
      | fn _ vs _ hs hh =>
        refine ⟨vs, rfl, by simpa using hs, fun i v x hv hx' => ?_⟩
        rw [List.getElem?_map] at hx'
        cases hp : ps[i]? with
        | none => rw [hp] at hx'; cases hx'
        | some p =>
          rw [hp] at hx'; cases hx'
          exact (hh i v p (by simpa using hv) hp).mono hDs (fun _ _ => rfl)
  obtain ⟨cs, hv, hl, hr⟩ := key
  refine callK_sound hI hd (run_callv ho hcl hv hf) (by simp only [List.length_append, h1, hl]) (fun i v x hv' hx' => ?_) hos hk
  rcases Nat.lt_or_ge i (cl.args.toList.map a.eval).length with hi | hi
  · rw [List.getElem?_append_left hi] at hv'
    rw [List.getElem?_append_left (by rw [← h1]; exact hi)] at hx'
    exact h2 i v x hv' hx'
  · rw [List.getElem?_append_right hi] at hv'
    rw [List.getElem?_append_right (by rw [← h1]; exact hi)] at hx'
    rw [h1] at hv'
    exact hr _ v x hv' hx'
end
end Go.Av
namespace Go.Av
open Go Go.RowKit
section
variable {P : Program} {o : Oper} {c : Ctx} {θ : List Loc} {D : Nat → Prop} {st : St} {a : Act} {w : World}
theorem setRow_get (cur : Array Value) (off : Nat) (vs : List Value) (h : off + vs.length ≤ cur.size) : ((cur.toList.take off ++ vs ++ cur.toList.drop (off + vs.length)).toArray).size = cur.size ∧
    ∀ k, ((cur.toList.take off ++ vs ++ cur.toList.drop (off + vs.length)).toArray)[k]? = if off ≤ k ∧ k < off + vs.length then vs[k - off]? else cur[k]? := by
  have h1 := splice_length cur.toList off vs (by simpa using h)
  refine ⟨by have := h1; unfold splice at this; simpa using this, fun k => ?_⟩
  have := splice_get cur.toList off vs (by simpa using h) k
  unfold splice at this
  rw [List.getElem?_toArray, this]
  split
  · rfl
  · exact Array.getElem?_toList
theorem run_storeAt {t : TypeId} {sz g off : Nat} {e : TypeId} {cur : Array Value} {v : Value} (hs : sizeT P t = some sz) (hv : v.cells.size = sz) (hg : w.heap[g]? = some (.cells cur e (0, 0))) (hle : off + sz ≤ cur.size) (h1 : ∀ u ∈ v.cells.toList, u.oneCell' = true) :
    (Instr.storeAt t (.pointer (some ⟨g, off, none⟩)) v).run P w = .ok () (w.setRow g (cur.toList.take off ++ v.cells.toList ++ cur.toList.drop (off + v.cells.toList.length)).toArray) := by
  have := run_storeCells_at P g off e v.cells.toList 0 cur w hg (by simpa [hv] using hle) h1
  simp only [Nat.add_zero] at this
  simp [Instr.storeAt, Instr.sureAddr, storeVar, run_sizeOf hs, hv, this]
theorem tree_row (hI : Inv c θ D st a w) {id g n cap s' : Nat} {O : Nat → Prop} {e : TypeId} {s : Nat} {k : Av.K} {xs xs' : List PV} {hole hole' : Option (Nat × Nat × BV)} (hg : θ[id]? = some (.hdr g n cap s' O)) (hob : st.hp[id]? = some (.tree e s k xs hole))
    {cur c' : Array Value} (hcur : w.heap[g]? = some (.cells cur e (0, 0))) (hsz : c'.size = cur.size) (hlen : xs'.length = xs.length) (hel : ∀ x ∈ xs', x.cells.length = s) (hho : ∀ i j b, hole' = some (i, j, b) → i < xs'.length ∧ (k.at j).isSome = true)
    (hnew : ∀ (i j : Nat) (x y : PV), xs'[i]? = some x → x.cells[j]? = some y → (∃ u, c'[i * s + j]? = some u ∧ (match holeAt hole' i j with | some b => RelB θ D w u b | none => k.at j = none ∧ RelP D w u y)) ∨
      (c'[i * s + j]? = cur[i * s + j]? ∧ ∃ x0, xs[i]? = some x0 ∧ x0.cells[j]? = some y ∧ holeAt hole' i j = holeAt hole i j)) :
    Inv c θ D { st with hp := st.hp.set id (.tree e s k xs' hole') } a (w.setRow g c') := by
  obtain ⟨rfl, rfl, h3, h4, h5, cv, Os, h6, h7, h8, h9, h11, h10⟩ := hI.ok.objs id _ _ hg hob
  rw [hcur] at h6; cases h6
  have hDw : ∀ b, D b → (w.setRow g c').heap[b]? = w.heap[b]? := fun b hb => setRow_other _ _ _ _ fun e => (hI.ok.olt id _ g hg (.inl rfl)).2 (e ▸ hb)
  refine hI.store hg (.inl rfl) (by simp) (by simp) (by simp) (by simp) (fun k hk => setRow_other _ _ _ _ hk) ⟨rfl, hlen.symm, h3, h4, hel, c', Os, setRow_heap _ _ _ _ _ _ hcur, hsz.trans h7, h8, h9, hho, fun i j x y hx hy => ?_⟩
  rcases hnew i j x y hx hy with ⟨u, e1, e2⟩ | ⟨e1, x0, e2, e3, e4⟩
  · refine ⟨u, e1, ?_⟩
    cases hq : holeAt hole' i j with
    | some b => rw [hq] at e2; exact e2.mono (fun _ h => h) hDw
    | none => rw [hq] at e2; rw [e2.1]; exact .flat _ _ _ (e2.2.mono (fun _ h => h) hDw)
  · obtain ⟨u, e5, e6⟩ := h10 i j x0 y e2 e3
    refine ⟨u, e1.trans e5, ?_⟩
    rw [e4]
    cases hq : holeAt hole i j with
    | some b => rw [hq] at e6; exact e6.mono (fun _ h => h) hDw
    | none => rw [hq] at e6; exact e6.mono (fun _ h => h) hDw fun b hb => setRow_other _ _ _ _ (h8 i j b hb).2
theorem row_ne {i i' s j off sz : Nat} (h : i' ≠ i) (hj : j < s) (hle : off + sz ≤ s) : ¬ (i * s + off ≤ i' * s + j ∧ i' * s + j < i * s + off + sz) := by
  intro ⟨h9, h10⟩
  rcases Nat.lt_or_ge i' i with h11 | h11
  · have : (i' + 1) * s ≤ i * s := Nat.mul_le_mul_right _ h11
    rw [Nat.add_mul, Nat.one_mul] at this
    omega
  · have : (i + 1) * s ≤ i' * s := Nat.mul_le_mul_right _ (by omega)
    rw [Nat.add_mul, Nat.one_mul] at this
    omega
theorem storeTree (hI : Inv c θ D st a w) {K : St → Prop} {t : TypeId} {y : Operand} {sz : Nat} {vx : Value} {ay : AV} (hs : sizeT P t = some sz) (hY : RelA θ D w (a.eval y) ay) {id i off : Nat} {e : TypeId} {s : Nat} {k : Av.K} {xs : List PV} {hole : Option (Nat × Nat × BV)} (hX : RelA θ D w vx (.b (.elt id i off)))
    (hob : st.hp[id]? = some (.tree e s k xs hole)) (hi : i < xs.length) (hle : off + sz ≤ s)
    (hcase : (k.flatB off sz = true ∧ (xs.getD i .any).isAgg = true ∧ bindA ay.toPV fun p => p.cells.length = sz ∧ p.ok = true ∧ K { st with hp := st.hp.set id (.tree e s k (xs.set i (.agg (splice (xs.getD i .any).cells off p.cells))) hole) }) ∨
         (∃ bv bv', hole = some (i, off, bv) ∧ sz = 1 ∧ ay = .b bv' ∧ bv'.cellOk = true ∧ K { st with hp := st.hp.set id (.tree e s k xs (some (i, off, bv'))) })) :
    ∃ w' st', (Instr.storeAt t vx (a.eval y)).run P w = .ok () w' ∧ K st' ∧ Rel c st' a w' := by
  obtain ⟨g, n, cap, s', O, hg, he⟩ := hX
  obtain ⟨rfl, rfl, h3, h4, h5, cur, Os, h6, h7, h8, h9, h11, h10⟩ := hI.ok.objs id _ _ hg hob
  obtain ⟨p0, hx0⟩ : ∃ p0, xs[i]? = some p0 := ⟨_, List.getElem?_eq_getElem hi⟩
  have hgd : xs.getD i .any = p0 := getD_of_some hx0
  have hp0 : p0.cells.length = s' := h5 _ (List.mem_of_getElem? hx0)
  have hrow : i * s' + s' ≤ cur.size := by
    rw [h7]
    have : i + 1 ≤ cap := by omega
    have := Nat.mul_le_mul_right s' this
    rw [Nat.add_mul, Nat.one_mul] at this
    exact this
  rcases hcase with ⟨hf, hia, p, hp, hlen, hok, hk⟩ | ⟨bv, bv', rfl, rfl, rfl, hok, hk⟩
  · obtain ⟨q1, q2⟩ := relP_cells (relA_toPV hY hp) hok
    have hv : (a.eval y).cells.size = sz := by omega
    have hr := run_storeAt (P := P) (w := w) (off := i * s' + off) hs hv h6 (by omega) (fun u hu => by
      obtain ⟨j, hj⟩ := List.getElem?_of_mem hu
      have hlt : j < p.cells.length := by rw [← q1]; simpa using (List.getElem?_eq_some_iff.1 hj).1
      exact (q2 j u _ (by simpa using hj) (List.getElem?_eq_getElem hlt)).2)
    rw [← he] at hr
    obtain ⟨s1, s2⟩ := setRow_get cur (i * s' + off) (a.eval y).cells.toList (by simp only [Array.length_toList, hv]; omega)
    rw [hgd] at hk hia
    refine ⟨_, _, hr, hk, θ, D, tree_row hI hg hob h6 s1 (by simp) (fun x hx => ?_) (fun i' j b hb => by rw [List.length_set]; exact h11 i' j b hb) fun i' j x z hx hz => ?_⟩
    · rcases List.mem_or_eq_of_mem_set hx with h | h
      · exact h5 x h
      · subst h; show (splice _ _ _).length = _; rw [splice_length _ _ _ (by omega), hp0]
    · by_cases hii : i' = i
      · subst hii
        rw [List.getElem?_set_self hi] at hx
        cases hx
        rw [show (PV.agg (splice p0.cells off p.cells)).cells = splice p0.cells off p.cells from rfl, splice_get _ _ _ (by omega)] at hz
        split at hz
        · rename_i hj
          have hjv : j - off < (a.eval y).cells.size := by omega
          have hkj : k.at j = none := by
            have := flatB_at hf (j := j - off) (by omega)
            rwa [show off + (j - off) = j by omega] at this
          refine .inl ⟨(a.eval y).cells[j - off], ?_, ?_⟩
          · rw [s2, if_pos ⟨by omega, by simp; omega⟩, show i' * s' + j - (i' * s' + off) = j - off by omega]
            rw [Array.getElem?_toList]
            exact Array.getElem?_eq_getElem hjv
          · cases hq : holeAt hole i' j with
            | some b => have := (h11 _ _ _ (holeAt_some hq)).2; rw [hkj] at this; cases this
            | none => exact ⟨hkj, (q2 (j - off) _ z (Array.getElem?_eq_getElem hjv) hz).1⟩
        · rename_i hj
          refine .inr ⟨?_, p0, hx0, hz, rfl⟩
          rw [s2, if_neg (by simp only [Array.length_toList]; omega)]
      · rw [List.getElem?_set_ne (Ne.symm hii)] at hx
        refine .inr ⟨?_, x, hx, hz, rfl⟩
        have hjs : j < s' := by rw [← h5 x (List.mem_of_getElem? hx)]; exact (List.getElem?_eq_some_iff.1 hz).1
        rw [s2, if_neg (by simp only [Array.length_toList, hv]; exact row_ne hii hjs hle)]
  · have hvo : (a.eval y).oneCell' = true := relB_cellOk hY hok
    have hvc : (a.eval y).cells = #[a.eval y] := cells_one hvo
    have hr := run_storeAt (P := P) (w := w) (v := a.eval y) (off := i * s' + off) hs (by rw [hvc]; rfl) h6 (by omega) (fun u hu => by
      rw [hvc] at hu; simp at hu; subst hu; exact hvo)
    rw [← he] at hr
    obtain ⟨s1, s2⟩ := setRow_get cur (i * s' + off) (a.eval y).cells.toList (by rw [hvc]; simp only [List.length_cons, List.length_nil]; omega)
    refine ⟨_, _, hr, hk, θ, D, tree_row hI hg hob h6 s1 rfl h5 (fun i' j b hb => by cases hb; exact h11 _ _ _ rfl) fun i' j x z hx hz => ?_⟩
    have hjs : j < s' := by rw [← h5 x (List.mem_of_getElem? hx)]; exact (List.getElem?_eq_some_iff.1 hz).1
    by_cases hii : i' = i ∧ j = off
    · obtain ⟨rfl, rfl⟩ := hii
      refine .inl ⟨a.eval y, ?_, ?_⟩
      · rw [s2, if_pos ⟨by omega, by rw [hvc]; simp⟩, hvc]; simp
      · simp only [holeAt, and_self, if_true]; exact hY
    · refine .inr ⟨?_, x, hx, hz, ?_⟩
      · rw [s2, if_neg ?_]
        rw [hvc]
        simp only [List.length_cons, List.length_nil]
        by_cases h : i' = i
        · subst h; omega
        · exact row_ne h hjs hle
      · simp only [holeAt]
        rw [if_neg (by omega), if_neg (by omega)]
theorem sound_store (hI : Inv c θ D st a w) (hd : o.dst = none) {K KP : St → Prop} {t : TypeId} {x y : Operand} {sz : Nat} (ho : o.op = .store t x y) (hs : sizeT P t = some sz) (h : sexec P o.dst (.store sz (.of x) (.of y)) st K KP) : Leaves P o c K KP a w := by
  intro next Q hn _
  obtain ⟨ax, hx, ay, hy, _, hst⟩ := h
  have hX := hI.get hx
  have hY := hI.get hy
  have fin : ∀ (w' : World) (st' : St), (Instr.storeAt t (a.eval x) (a.eval y)).run P w = .ok () w' → K st' → Rel c st' a w' → o.wp P a w next Q := by
    intro w' st' hr hk hrel
    unfold Oper.wp
    have : (execOp a.eval o).run P w = .ok .skip w' := by simp [execOp, ho, hr]
    rw [this]
    simp only [Oper.upon, Act.put, hd]
    exact hn _ _ ⟨st', hk, hrel⟩
  unfold storeA at hst
  split at hst
  · rename_i id off
    obtain ⟨ob, hob, e, cs, rfl, hlen, hle, hok, hk⟩ := hst
    obtain ⟨g, hg, he⟩ := hX
    obtain ⟨cur, h1, h2, h3⟩ := hI.ok.objs id _ _ hg hob
    obtain ⟨h4, h5⟩ := relA_cells hY hok
    have hv : (a.eval y).cells.size = sz := by omega
    have hr := run_storeAt (P := P) (w := w) (off := off) hs hv h1 (by omega) (fun u hu => by
      obtain ⟨i, hi⟩ := List.getElem?_of_mem hu
      have hlt : i < ay.cells.length := by rw [← h4]; simpa using (List.getElem?_eq_some_iff.1 hi).1
      exact (h5 i u _ (by simpa using hi) (List.getElem?_eq_getElem hlt)).2)
    rw [← he] at hr
    obtain ⟨s1, s2⟩ := setRow_get cur off (a.eval y).cells.toList (by simp only [Array.length_toList, hv]; omega)
    refine fin _ _ hr hk ⟨θ, D, hI.store (l := .blk g) (g := g) hg rfl (by simp) (by simp) (by simp) (by simp) (fun k hk => setRow_other _ _ _ _ hk) ⟨_, setRow_heap _ _ _ _ _ _ h1, ?_, ?_⟩⟩
    · rw [s1, h2, splice_length cs off ay.cells (by omega)]
    · intro i u z hu hz
      rw [s2 i] at hu
      rw [splice_get cs off ay.cells (by omega)] at hz
      simp only [Array.length_toList] at hu
      have hDw : ∀ b, D b → (w.setRow g (cur.toList.take off ++ (a.eval y).cells.toList ++ cur.toList.drop (off + (a.eval y).cells.toList.length)).toArray).heap[b]? = w.heap[b]? := fun b hb => setRow_other _ _ _ _ fun e => (hI.ok.olt id _ g hg (by first | exact rfl | exact .inl rfl)).2 (e ▸ hb)
      split at hu
      · rw [if_pos (by omega)] at hz
        exact ((h5 _ u z (by simpa using hu) hz).1).mono (fun _ h => h) hDw
      · rw [if_neg (by omega)] at hz
        exact (h3 i u z hu hz).mono (fun _ h => h) hDw
  · rename_i id i off
    obtain ⟨ob, hob, ⟨e, s, xs, rfl, hi, p, hp, hlen, hok, hcase⟩ | ⟨e, s, k, xs, hole, rfl, hi, hle, hcase⟩⟩ := hst
    rotate_left
    · obtain ⟨w', st', h1, h2, h3⟩ := storeTree (K := K) hI hs hY hX hob hi hle hcase
      exact fin w' st' h1 h2 h3
    obtain ⟨g, n, cap, s', O, hg, he⟩ := hX
    obtain ⟨rfl, rfl, h3, h4, h5, cur, h6, h7, h8⟩ := hI.ok.objs id _ _ hg hob
    obtain ⟨q1, q2⟩ := relP_cells (relA_toPV hY hp) hok
    have hv : (a.eval y).cells.size = sz := by omega
    obtain ⟨p0, hx0⟩ : ∃ p0, xs[i]? = some p0 := ⟨_, List.getElem?_eq_getElem hi⟩
    have hgd : xs.getD i .any = p0 := getD_of_some hx0
    have hp0 : p0.cells.length = s' := h5 _ (List.mem_of_getElem? hx0)
    have hoff : off + sz ≤ s' := by rcases hcase with ⟨h, h', _⟩ | ⟨_, h, _⟩ <;> omega
    have hrow : i * s' + s' ≤ cur.size := by
      rw [h7]
      have : i + 1 ≤ cap := by omega
      have := Nat.mul_le_mul_right s' this
      rw [Nat.add_mul, Nat.one_mul] at this
      exact this
    have hr := run_storeAt (P := P) (w := w) (off := i * s' + off) hs hv h6 (by omega) (fun u hu => by
      obtain ⟨j, hj⟩ := List.getElem?_of_mem hu
      have hlt : j < p.cells.length := by rw [← q1]; simpa using (List.getElem?_eq_some_iff.1 hj).1
      exact (q2 j u _ (by simpa using hj) (List.getElem?_eq_getElem hlt)).2)
    rw [← he] at hr
    obtain ⟨s1, s2⟩ := setRow_get cur (i * s' + off) (a.eval y).cells.toList (by simp only [Array.length_toList, hv]; omega)
    have hDw : ∀ b, D b → (w.setRow g (cur.toList.take (i * s' + off) ++ (a.eval y).cells.toList ++ cur.toList.drop (i * s' + off + (a.eval y).cells.toList.length)).toArray).heap[b]? = w.heap[b]? := fun b hb => setRow_other _ _ _ _ fun e => (hI.ok.olt id _ g hg (by first | exact rfl | exact .inl rfl)).2 (e ▸ hb)
    have main : ∀ (p' : PV), p'.cells = splice p0.cells off p.cells → Inv c θ D { st with hp := st.hp.set id (.vec e s' (xs.set i p')) } a (w.setRow g (cur.toList.take (i * s' + off) ++ (a.eval y).cells.toList ++ cur.toList.drop (i * s' + off + (a.eval y).cells.toList.length)).toArray) := by
      intro p' hp'
      refine hI.store hg (.inl rfl) (by simp) (by simp) (by simp) (by simp) (fun k hk => setRow_other _ _ _ _ hk) ⟨rfl, by simp, h3, h4, fun q hq => ?_, _, setRow_heap _ _ _ _ _ _ h6, by rw [s1, h7], fun k j q y' hq hy' => ?_⟩
      · rcases List.mem_or_eq_of_mem_set hq with h | h
        · exact h5 q h
        · subst h; rw [hp', splice_length _ _ _ (by omega), hp0]
      · by_cases hki : k = i
        · subst hki
          rw [List.getElem?_set_self hi] at hq
          cases hq
          rw [hp', splice_get _ _ _ (by omega)] at hy'
          split at hy'
          · rename_i hj
            have hjv : j - off < (a.eval y).cells.size := by omega
            refine ⟨(a.eval y).cells[j - off], ?_, ((q2 (j - off) _ y' (Array.getElem?_eq_getElem hjv) hy').1).mono (fun _ h => h) hDw⟩
            rw [s2, if_pos ⟨by omega, by simp; omega⟩, show k * s' + j - (k * s' + off) = j - off by omega]
            rw [Array.getElem?_toList]
            exact Array.getElem?_eq_getElem hjv
          · rename_i hj
            obtain ⟨u, e1, e2⟩ := h8 k j p0 y' hx0 hy'
            have hjs : j < s' := by rw [← hp0]; exact (List.getElem?_eq_some_iff.1 hy').1
            refine ⟨u, ?_, e2.mono (fun _ h => h) hDw⟩
            rw [s2, if_neg (by simp only [Array.length_toList]; omega)]
            exact e1
        · rw [List.getElem?_set_ne (Ne.symm hki)] at hq
          obtain ⟨u, e1, e2⟩ := h8 k j q y' hq hy'
          have hjs : j < s' := by rw [← h5 q (List.mem_of_getElem? hq)]; exact (List.getElem?_eq_some_iff.1 hy').1
          refine ⟨u, ?_, e2.mono (fun _ h => h) hDw⟩
          rw [s2, if_neg ?_]
          · exact e1
          · simp only [Array.length_toList, hv]
            intro ⟨h9, h10⟩
            rcases Nat.lt_or_ge k i with h11 | h11
            · have : (k + 1) * s' ≤ i * s' := Nat.mul_le_mul_right _ h11
              rw [Nat.add_mul, Nat.one_mul] at this
              omega
            · have : (i + 1) * s' ≤ k * s' := Nat.mul_le_mul_right _ (by omega)
              rw [Nat.add_mul, Nat.one_mul] at this
              omega
    rcases hcase with ⟨rfl, rfl, hk⟩ | ⟨hne, hle, hk⟩
    · refine fin _ _ hr hk ⟨θ, D, main p ?_⟩
      unfold splice
      rw [List.take_zero, List.drop_eq_nil_of_le (by omega)]
      simp
    · rw [hgd] at hk
      exact fin _ _ hr hk ⟨θ, D, main _ rfl⟩
  · exact hst.elim
theorem unnil_get (k : Av.K) (p : PV) (j : Nat) : (k.unnil p).cells[j]? = (p.cells[j]?).map fun x => if (k.at j).isSome then PV.list 0 [] else x := by
  have one : ∀ p : PV, p.cells = [p] → (if (k.at 0).isSome then PV.list 0 [] else p).cells[j]? = (p.cells[j]?).map fun x => if (k.at j).isSome then PV.list 0 [] else x := by
    intro p hp
    rw [hp]
    cases j with
    | zero =>
      simp only [List.getElem?_cons_zero, Option.map_some]
      split
      · rfl
      · rw [hp]; rfl
    | succ j =>
      simp only [List.getElem?_cons_succ, List.getElem?_nil, Option.map_none]
      split
      · rfl
      · rw [hp]; rfl
  cases p with
  | agg cs => simp [Av.K.unnil, PV.cells]
  | _ => exact one _ rfl
theorem unnil_len (k : Av.K) (p : PV) : (k.unnil p).cells.length = p.cells.length := by
  cases p with
  | agg cs => simp [Av.K.unnil, PV.cells]
  | _ => simp only [Av.K.unnil]; split <;> rfl
theorem nil_cell {k : Av.K} {p : PV} (hn : k.nilsB p.cells = true) {O : Nat → Prop} {j : Nat} {y' : PV} (hy : (k.unnil p).cells[j]? = some y') : ∃ y, p.cells[j]? = some y ∧ ∀ (D : Nat → Prop) (w : World) (u : Value), RelP D w u y → RelT D w (k.at j) O u y' := by
  rw [unnil_get] at hy
  obtain ⟨y, h1, rfl⟩ := Option.map_eq_some_iff.1 hy
  refine ⟨y, h1, fun D w u hu => ?_⟩
  simp only [Av.K.nilsB, List.all_eq_true, List.mem_range] at hn
  have := hn j (List.getElem?_eq_some_iff.1 h1).1
  cases hk : k.at j with
  | none => exact .flat _ _ _ hu
  | some q =>
    rw [hk] at this
    simp only [List.getD, h1, Option.getD_some] at this
    split at this
    · cases hu; exact .nil _ _ _
    · cases this
theorem mk_mslice (hI : Inv c θ D st a w) (hd : ∀ k, o.dst = some k → k < c.n) {K KP : St → Prop} {t e : TypeId} {sz bytes : Nat} {z : Value} {l m : Operand} (ho : o.op = .makeSlice t l m) (he : elemT P t = some e) (hs : sizeT P e = some sz) (hb : bytesT P e = some bytes) (hz : zeroT P e = some z)
    {pl : Option Nat} (h : smk st (.mslice e sz bytes z (.of l) (.of m)) fun ob mk => plOk st pl ∧ K ((st.new pl ob).putO o.dst (.b (mk (st.nid pl))))) : Leaves P o c K KP a w := by
  intro next Q hn _
  obtain ⟨al, hl, am, hm, hv⟩ := h
  have h1 := relA_isV (hI.get hl) hv
  have h2 := relA_isV (hI.get hm) h1
  obtain ⟨kl, nl, hnl, kc, nc, hnc, h0, hlc, h63, hby, hzl, hsz, pz, hpz, hok, hpl0, hk⟩ := h2
  have hu : P.underlying t = some (.slice e) := by
    unfold elemT at he
    split at he
    · cases he; assumption
    · cases he
  simp only [sizeT, Option.map_eq_some_iff] at hs
  obtain ⟨it, hit, rfl⟩ := hs
  have hz1 : it.zero = some z := by simpa [zeroT, hit] using hz
  have hb1 : it.bytes = bytes := by simpa [bytesT, hit] using hb
  have hrun := run_make (P := P) w t e it z hu hit hz1 kl kc nl nc h0 hlc (by rw [hb1]; exact hby) h63
  have hzr : RelP D w z pz := relA_toPV (relA_const (θ := θ) z) hpz
  obtain ⟨c1, c2⟩ := relP_cells hzr hok
  have hzc : z.cells.size = it.size := by
    rw [c1, ← hzl]
    cases hq : constA z with
    | b x =>
      rw [hq] at hpz
      cases x <;> simp [AV.toPV, BV.toPV] at hpz
      · subst hpz; simp [AV.cells]
      · subst hpz; rfl
      · exfalso
        unfold constA at hq
        split at hq
        · cases hq
        · unfold constB at hq
          split at hq <;> cases hq
    | tup xs =>
      exfalso
      unfold constA at hq
      split at hq <;> cases hq
    | agg xs =>
      rw [hq] at hpz
      simp only [AV.toPV, Option.map_eq_some_iff] at hpz
      obtain ⟨ps, hps, rfl⟩ := hpz
      exact (mapM_some hps).1.symm
  have hpl : pz.cells.length = it.size := by omega
  have hcap : nc.toNat ≤ maxLen := by simp only [maxLen]; omega
  obtain ⟨θ', hI', hid⟩ := hI.allocAt hpl0 (l := .hdr w.heap.size nl.toNat nc.toNat it.size none') (o := .vec e it.size (List.replicate nl.toNat pz)) (ob := .cells (madeCells z.cells (nc.toNat * it.size)) e) (fun _ h => h.elim id False.elim) fun θ' hθ =>
    ⟨rfl, by simp, by omega, hcap, fun p hp => by rw [List.eq_of_mem_replicate hp]; exact hpl, _, heap_new w _, size_madeCells _ _, fun i j x y hx hy => by
      have hxe := List.eq_of_mem_replicate (List.mem_of_getElem? hx)
      have hi : i < nl.toNat := by simpa using (List.getElem?_eq_some_iff.1 hx).1
      subst hxe
      have hj : j < it.size := by rw [← hpl]; exact (List.getElem?_eq_some_iff.1 hy).1
      have hjz : j < z.cells.size := by omega
      refine ⟨z.cells[j], ?_, ((c2 j _ y (Array.getElem?_eq_getElem hjz) hy).1).mono (fun _ h => h) (fun b hb => heap_old w _ b (hI.ok.dlt b hb))⟩
      have hlt : i * it.size + j < nc.toNat * it.size := by
        have : (i + 1) * it.size ≤ nc.toNat * it.size := Nat.mul_le_mul_right _ (by omega)
        rw [Nat.add_mul, Nat.one_mul] at this
        omega
      have hmod : (i * it.size + j) % z.cells.size = j := by rw [hzc, Nat.mul_comm, Nat.mul_add_mod]; exact Nat.mod_eq_of_lt hj
      simp only [madeCells, Array.getElem?_map, Array.getElem?_range, if_pos hlt, Option.map_some, hmod]
      simp [hjz]⟩
  have hrun' : (execOp a.eval o).run P w = .ok (.value (.slice (some ⟨w.heap.size, 0, none⟩) nl.toNat nc.toNat)) (w.alloc (.cells (madeCells z.cells (nc.toNat * it.size)) e)) := by
    simp [execOp, ho, hnl, hnc, hrun]
  unfold Oper.wp
  rw [hrun']
  exact hn _ _ ⟨_, hk, _, _, hI'.put hd ⟨_, hid, rfl⟩⟩
theorem sound_msliceT (hI : Inv c θ D st a w) (hd : ∀ k, o.dst = some k → k < c.n) {K KP : St → Prop} {t e : TypeId} {sz bytes : Nat} {z : Value} {l m : Operand} (ho : o.op = .makeSlice t l m) (he : elemT P t = some e) (hs : sizeT P e = some sz) (hb : bytesT P e = some bytes) (hz : zeroT P e = some z)
    {k : Av.K} (h : sexec P o.dst (.msliceT k e sz bytes z (.of l) (.of m)) st K KP) : Leaves P o c K KP a w := by
  intro next Q hn _
  obtain ⟨al, hl, am, hm, hv⟩ := h
  have h1 := relA_isV (hI.get hl) hv
  have h2 := relA_isV (hI.get hm) h1
  obtain ⟨kl, nl, hnl, kc, nc, hnc, h0, hlc, h63, hby, hzl, hsz, pz, hpz, hok, hnl2, hk⟩ := h2
  have hu : P.underlying t = some (.slice e) := by
    unfold elemT at he
    split at he
    · cases he; assumption
    · cases he
  simp only [sizeT, Option.map_eq_some_iff] at hs
  obtain ⟨it, hit, rfl⟩ := hs
  have hz1 : it.zero = some z := by simpa [zeroT, hit] using hz
  have hb1 : it.bytes = bytes := by simpa [bytesT, hit] using hb
  have hrun := run_make (P := P) w t e it z hu hit hz1 kl kc nl nc h0 hlc (by rw [hb1]; exact hby) h63
  have hzr : RelP D w z pz := relA_toPVn (relA_const (θ := θ) z) hpz
  obtain ⟨c1, c2⟩ := relP_cells hzr hok
  have hzc : z.cells.size = it.size := by
    rw [c1, ← hzl]
    cases hq : constA z with
    | b x =>
      rw [hq] at hpz
      simp only [AV.toPVn] at hpz
      cases x <;> simp [BV.toPVn, BV.toPV] at hpz
      · subst hpz; simp [AV.cells]
      · subst hpz; rfl
      · exfalso
        unfold constA at hq
        split at hq
        · cases hq
        · unfold constB at hq
          split at hq <;> cases hq
    | tup xs =>
      exfalso
      unfold constA at hq
      split at hq <;> cases hq
    | agg xs =>
      rw [hq] at hpz
      simp only [AV.toPVn, Option.map_eq_some_iff] at hpz
      obtain ⟨ps, hps, rfl⟩ := hpz
      exact (mapM_some hps).1.symm
  have hpl : pz.cells.length = it.size := by omega
  have hcap : nc.toNat ≤ maxLen := by simp only [maxLen]; omega
  obtain ⟨θ', hI', hid⟩ := hI.allocAt (pl := none) trivial (l := .hdr w.heap.size nl.toNat nc.toNat it.size none') (o := .tree e it.size k (List.replicate nl.toNat (k.unnil pz)) none) (ob := .cells (madeCells z.cells (nc.toNat * it.size)) e) (fun _ h => h.elim id False.elim) fun θ' hθ =>
    ⟨rfl, by simp, by omega, hcap, fun p hp => by rw [List.eq_of_mem_replicate hp, unnil_len]; exact hpl, _, fun _ _ _ => False, heap_new w _, size_madeCells _ _, fun _ _ _ h => h.elim, fun _ _ _ _ _ h _ => h.elim, fun _ _ _ h => (nomatch h), fun i j x y hx hy => by
      have hxe := List.eq_of_mem_replicate (List.mem_of_getElem? hx)
      have hi : i < nl.toNat := by simpa using (List.getElem?_eq_some_iff.1 hx).1
      subst hxe
      have hj : j < it.size := by rw [← hpl, ← unnil_len k]; exact (List.getElem?_eq_some_iff.1 hy).1
      have hjz : j < z.cells.size := by omega
      obtain ⟨y0, hy0, hyr⟩ := nil_cell hnl2 (O := fun _ => False) hy
      refine ⟨z.cells[j], ?_, hyr _ _ _ (((c2 j _ y0 (Array.getElem?_eq_getElem hjz) hy0).1).mono (fun _ h => h) (fun b hb => heap_old w _ b (hI.ok.dlt b hb)))⟩
      have hlt : i * it.size + j < nc.toNat * it.size := by
        have : (i + 1) * it.size ≤ nc.toNat * it.size := Nat.mul_le_mul_right _ (by omega)
        rw [Nat.add_mul, Nat.one_mul] at this
        omega
      have hmod : (i * it.size + j) % z.cells.size = j := by rw [hzc, Nat.mul_comm, Nat.mul_add_mod]; exact Nat.mod_eq_of_lt hj
      simp only [madeCells, Array.getElem?_map, Array.getElem?_range, if_pos hlt, Option.map_some, hmod]
      simp [hjz]⟩
  have hrun' : (execOp a.eval o).run P w = .ok (.value (.slice (some ⟨w.heap.size, 0, none⟩) nl.toNat nc.toNat)) (w.alloc (.cells (madeCells z.cells (nc.toNat * it.size)) e)) := by
    simp [execOp, ho, hnl, hnc, hrun]
  unfold Oper.wp
  rw [hrun']
  exact hn _ _ ⟨_, hk, _, _, hI'.put hd ⟨_, hid, rfl⟩⟩
theorem sound_mslice (hI : Inv c θ D st a w) (hd : ∀ k, o.dst = some k → k < c.n) {K KP : St → Prop} {t e : TypeId} {sz bytes : Nat} {z : Value} {l m : Operand} (ho : o.op = .makeSlice t l m) (he : elemT P t = some e) (hs : sizeT P e = some sz) (hb : bytesT P e = some bytes) (hz : zeroT P e = some z)
    (h : sexec P o.dst (.mslice e sz bytes z (.of l) (.of m)) st K KP) : Leaves P o c K KP a w := by
  obtain ⟨al, hl, am, hm, l1, h1, m1, h2, k1, n1, h3, k2, n2, h4, h5, h6, h7, h8, h9, h10, pz, h11, h12, hk⟩ := h
  exact mk_mslice hI hd ho he hs hb hz (pl := none) ⟨al, hl, am, hm, l1, h1, m1, h2, k1, n1, h3, k2, n2, h4, h5, h6, h7, h8, h9, h10, pz, h11, h12, trivial, hk⟩
end
end Go.Av
namespace Go.Av
open Go Go.RowKit
section
variable {P : Program} {o : Oper} {c : Ctx} {θ : List Loc} {D : Nat → Prop} {st : St} {a : Act} {w : World}
theorem run_append_zero {t ty e : TypeId} {i : TypeInfo} (ht : P.underlying t = some (.slice e)) (hi : P.info? e = some i) (base : Option Addr) (n cap : Nat) (hle : n ≤ cap) (b : Option Addr) (m : Nat) :
    (Builtin.append_ #[t, t] ty #[.slice base n cap, .slice b 0 m]).run P w = .ok (.slice base n cap) w := by
  have h1 : (Builtin.firstCells i.size 0 (.slice b 0 m)).run P w = .ok #[] w := by
    cases b <;> simp [Builtin.firstCells, loadCells, loadCellsFrom]
  cases base <;> simp [Builtin.append_, run_underlying ht, sizeOf, typeInfo, hi, Builtin.lenOf, hle, h1, storeCells]
theorem zeroCells_size (z : Array Value) (n : Nat) : (Builtin.zeroCells z n).size = n * z.size := by simp [Builtin.zeroCells]
theorem flat_get {sz i j : Nat} (hj : j < sz) : (i * sz + j) / sz = i ∧ (i * sz + j) % sz = j := by
  have h0 : 0 < sz := by omega
  rw [Nat.mul_comm]
  refine ⟨?_, ?_⟩
  · rw [Nat.mul_add_div h0, Nat.div_eq_of_lt hj, Nat.add_zero]
  · rw [Nat.mul_add_mod]; exact Nat.mod_eq_of_lt hj
theorem run_append_empty {t ty e : TypeId} {i : TypeInfo} {z : Value} (ht : P.underlying t = some (.slice e)) (hi : P.info? e = some i) (hz : i.zero = some z) (base : Option Addr)
    (ab : Addr) (n c : Nat) (news : List Value) (hl : news.length = n * i.size) (hnews : ∀ j v, news[j]? = some v → w.cell? (ab.add j) = some v)
    (h0 : 0 < n) (h63 : (n : Int) ≤ 9223372036854775807) (h48 : n * i.bytes ≤ 140737488355328) :
    (Builtin.append_ #[t, t] ty #[.slice base 0 0, .slice (some ab) n c]).run P w =
      .ok (.slice (some ⟨w.heap.size, 0, none⟩) n (grownCap w n 0 e)) (w.drew.alloc (.cells (news.toArray ++ Builtin.zeroCells z.cells (grownCap w n 0 e - n)) e)) := by
  cases base with
  | none => exact run_append_nil (P := P) w t ty e i z ht hi hz ab n c news hl hnews h0 h63 (by omega)
  | some b0 =>
    have hr := run_append_grow (P := P) w t ty e i z ht hi hz b0 0 0 [] (by simp) (fun j u hj => by simp at hj) ab n c news hl hnews (by omega) (by omega) (growslice_fits (by omega) (by rw [Nat.zero_add]; exact h48))
    simpa using hr
theorem sound_append (hI : Inv c θ D st a w) (hd : ∀ k, o.dst = some k → k < c.n) {K KP : St → Prop} {t e : TypeId} {sz bytes : Nat} {z : Value} {x y : Operand} {cl : Call} (ho : o.op = .call cl) (hcl : cl.callee = .builtin .append) (hargs : cl.args = #[x, y]) (htys : cl.argTypes = #[t, t])
    (he : elemT P t = some e) (hs : sizeT P e = some sz) (hb : bytesT P e = some bytes) (hz : zeroT P e = some z) (hzs : z.cells.size = sz) (h0 : 0 < sz) (hb0 : 0 < bytes)
    (h : sexec P o.dst (.append e sz bytes (.of x) (.of y)) st K KP) : Leaves P o c K KP a w := by
  intro next Q hn _
  obtain ⟨ax, hx, ay, hy, hL⟩ := h
  have hX := hI.get hx
  obtain ⟨L, ad, m, ⟨hok, hcase⟩, hye, hlm, hnil, hcells⟩ := relA_list hI.ok (hI.get hy) hL
  have hu : P.underlying t = some (.slice e) := by
    unfold elemT at he
    split at he
    · cases he; assumption
    · cases he
  simp only [sizeT, Option.map_eq_some_iff] at hs
  obtain ⟨it, hit, rfl⟩ := hs
  have hz1 : it.zero = some z := by simpa [zeroT, hit] using hz
  have hb1 : it.bytes = bytes := by simpa [bytesT, hit] using hb
  subst hb1
  have fin : ∀ (v : Value) (w' : World) (st' : St), (Builtin.append_ #[t, t] o.type #[a.eval x, a.eval y]).run P w = .ok v w' → K st' → Rel c st' (a.put o.dst v) w' → o.wp P a w next Q := by
    intro v w' st' hr hk hrel
    unfold Oper.wp
    have : (execOp a.eval o).run P w = .ok (.value v) w' := by simp [execOp, ho, resolve, hcl, hargs, htys, invoke, builtin, hr]
    rw [this]
    exact hn _ _ ⟨st', hk, hrel⟩
  have hnews : 0 < L.length → ∃ (ab : Addr) (news : List Value), ad = some ab ∧ news.length = L.length * it.size ∧ (∀ (j : Nat) (u : Value), news[j]? = some u → w.cell? (ab.add j) = some u) ∧ (∀ u ∈ news, u.oneCell' = true) ∧
      (∀ p ∈ L, p.cells.length = it.size) ∧ ∀ (i j : Nat) (p q : PV), L[i]? = some p → p.cells[j]? = some q → ∃ u, news[i * it.size + j]? = some u ∧ RelP D w u q := by
    intro hl
    obtain ⟨g, og, rfl, hg, hsz, hc⟩ := hcells hl
    obtain ⟨news, n1, n2⟩ := choose_list (n := L.length * it.size) (p := fun k u => w.cell? ⟨g, og + k, none⟩ = some u ∧ u.oneCell' = true ∧ ∀ (p q : PV), L[k / it.size]? = some p → p.cells[k % it.size]? = some q → RelP D w u q) (fun k hk => by
      have hi : k / it.size < L.length := (Nat.div_lt_iff_lt_mul h0).2 hk
      have hj : k % it.size < it.size := Nat.mod_lt _ h0
      have hp := List.getElem?_eq_getElem hi
      have hpl := hsz _ (List.mem_of_getElem? hp)
      have hq := List.getElem?_eq_getElem (l := (L[k / it.size]).cells) (i := k % it.size) (by omega)
      obtain ⟨u, e1, e2⟩ := hc _ _ _ _ hp hq
      refine ⟨u, ?_, ?_, fun p q hp' hq' => ?_⟩
      · rw [← e1, Nat.add_assoc, Nat.mul_comm, Nat.div_add_mod]
      · have hok1 := hok _ (List.mem_of_getElem? hp)
        simp only [PV.ok, List.all_eq_true] at hok1
        exact relP_cellOk e2 (hok1 _ (List.mem_of_getElem? hq))
      · rw [hp] at hp'; cases hp'
        rw [hq] at hq'; cases hq'
        exact e2)
    refine ⟨_, news, rfl, n1, fun j u hj => by rw [addr_add]; exact (n2 j u hj).1, fun u hu => ?_, hsz, fun i j p q hp hq => ?_⟩
    · obtain ⟨j, hj⟩ := List.getElem?_of_mem hu
      exact (n2 j u hj).2.1
    · have hj : j < it.size := by rw [← hsz p (List.mem_of_getElem? hp)]; exact (List.getElem?_eq_some_iff.1 hq).1
      have hi : i < L.length := (List.getElem?_eq_some_iff.1 hp).1
      have hlt : i * it.size + j < news.length := by
        rw [n1]
        have : (i + 1) * it.size ≤ L.length * it.size := Nat.mul_le_mul_right _ hi
        rw [Nat.add_mul, Nat.one_mul] at this
        omega
      refine ⟨news[i * it.size + j], List.getElem?_eq_getElem hlt, ?_⟩
      obtain ⟨f1, f2⟩ := flat_get (i := i) hj
      exact (n2 _ _ (List.getElem?_eq_getElem hlt)).2.2 p q (by rw [f1]; exact hp) (by rw [f2]; exact hq)
  have rowRel : ∀ (w' : World) (olds news : List Value) (xs : List PV) (cv : Array Value) (k : Nat), (∀ b, D b → w'.heap[b]? = w.heap[b]?) → olds.length = xs.length * it.size → cv.size = k * it.size →
      (∀ j, j < olds.length → cv[j]? = olds[j]?) → (∀ j, j < news.length → cv[olds.length + j]? = news[j]?) → (∀ p ∈ xs, p.cells.length = it.size) → (∀ p ∈ L, p.cells.length = it.size) → news.length = L.length * it.size →
      (∀ (i j : Nat) (p q : PV), xs[i]? = some p → p.cells[j]? = some q → ∃ u, olds[i * it.size + j]? = some u ∧ RelP D w u q) → (∀ (i j : Nat) (p q : PV), L[i]? = some p → p.cells[j]? = some q → ∃ u, news[i * it.size + j]? = some u ∧ RelP D w u q) →
      ∀ (i j : Nat) (p q : PV), (xs ++ L)[i]? = some p → p.cells[j]? = some q → ∃ u, cv[i * it.size + j]? = some u ∧ RelP D w' u q := by
    intro w' olds news xs cv k hDw hol hcv hco hcn hxs hLs hnl ro rn i j p q hp hq
    rcases Nat.lt_or_ge i xs.length with hi | hi
    · rw [List.getElem?_append_left hi] at hp
      obtain ⟨u, e1, e2⟩ := ro i j p q hp hq
      exact ⟨u, by rw [hco _ (List.getElem?_eq_some_iff.1 e1).1]; exact e1, e2.mono (fun _ h => h) hDw⟩
    · rw [List.getElem?_append_right hi] at hp
      obtain ⟨u, e1, e2⟩ := rn _ j p q hp hq
      refine ⟨u, ?_, e2.mono (fun _ h => h) hDw⟩
      have := hcn _ (List.getElem?_eq_some_iff.1 e1).1
      rw [e1] at this
      rw [← this, hol]
      congr 1
      have : i * it.size = xs.length * it.size + (i - xs.length) * it.size := by rw [← Nat.add_mul]; congr 1; omega
      omega
  have len_of : ∀ (xs : List PV) (k : Nat), (xs.length + L.length) * it.bytes ≤ k → xs.length + L.length ≤ k := fun xs k h => Nat.le_trans (Nat.le_mul_of_pos_right _ hb0) h
  rcases hcase with ⟨id, rfl, ob, hob, xs, rfl, hbd, hk⟩ | ⟨hxx, hbd, hk⟩
  · obtain ⟨l, hl, hh⟩ := hX
    have hro := hI.ok.objs id l _ hl hob
    have h63 := len_of xs _ hbd
    have hlt : id < θ.length := (List.getElem?_eq_some_iff.1 hl).1
    have hget : ∀ (l' : Loc), (θ.set id l')[id]? = some l' := fun l' => List.getElem?_set_self hlt
    by_cases hL0 : L.length = 0
    · have hLe : L = [] := List.eq_nil_of_length_eq_zero hL0
      subst hLe
      have hmv : Inv c (θ.set id l) D (st.moved id (.vec e it.size (xs ++ []))) a w := by
        refine hI.move hl (fun g hg => ?_) (fun g hg => ?_) rfl rfl rfl (Nat.le_refl _) (fun _ _ _ => rfl) (fun g hg => ⟨(hI.ok.olt id l g hl hg).1, .inl hg⟩) ?_
        · subst hg; exact hro.elim
        · subst hg; exact hro.elim
        · rw [List.append_nil]
          have hse : θ.set id l = θ := by
            apply List.ext_getElem?
            intro i
            by_cases hii : i = id
            · subst hii; rw [hget]; exact hl.symm
            · rw [List.getElem?_set_ne (Ne.symm hii)]
          rw [hse]
          exact hro
      cases l <;> simp only [RelO, Loc.head] at hro hh
      · rename_i ad0
        refine fin (.slice ad0 0 0) w _ ?_ hk ⟨_, D, hmv.put hd ⟨.nil ad0, hget _, rfl⟩⟩
        rw [hh, hye]
        exact run_append_zero hu hit ad0 0 0 (Nat.le_refl _) ad m
      · rename_i g n cap s O
        obtain ⟨rfl, rfl, h3, _⟩ := hro
        refine fin _ w _ ?_ hk ⟨_, D, hmv.put hd ⟨_, hget _, rfl⟩⟩
        rw [hh, hye]
        exact run_append_zero hu hit _ _ cap h3 ad m
    · obtain ⟨ab, news, rfl, n1, n2, n3, n4, n5⟩ := hnews (Nat.pos_of_ne_zero hL0)
      have grow : ∀ (old : Nat) (olds : List Value) (v : Value), olds.length = xs.length * it.size → (∀ p ∈ xs, p.cells.length = it.size) → (∀ (i j : Nat) (p q : PV), xs[i]? = some p → p.cells[j]? = some q → ∃ u, olds[i * it.size + j]? = some u ∧ RelP D w u q) →
          (Builtin.append_ #[t, t] o.type #[v, .slice (some ab) L.length m]).run P w = .ok (.slice (some ⟨w.heap.size, 0, none⟩) (xs.length + L.length) (grownCap w (xs.length + L.length) old e)) (w.drew.alloc (.cells (olds.toArray ++ news.toArray ++ Builtin.zeroCells z.cells (grownCap w (xs.length + L.length) old e - (xs.length + L.length))) e)) →
          a.eval x = v → o.wp P a w next Q := by
        intro old olds v hol hxs ro hrun hv
        have hge := grownCap_ge w (xs.length + L.length) old e
        have hcm : grownCap w (xs.length + L.length) old e ≤ maxLen := grownCap_le_maxLen w _ old e (by simp only [maxLen]; omega)
        have hcs : (olds.toArray ++ news.toArray ++ Builtin.zeroCells z.cells (grownCap w (xs.length + L.length) old e - (xs.length + L.length))).size = grownCap w (xs.length + L.length) old e * it.size := by
          simp only [Array.size_append, List.size_toArray, zeroCells_size, hzs, hol, n1, ← Nat.add_mul]
          congr 1; omega
        have hDw : ∀ b, D b → (w.drew.alloc (.cells (olds.toArray ++ news.toArray ++ Builtin.zeroCells z.cells (grownCap w (xs.length + L.length) old e - (xs.length + L.length))) e)).heap[b]? = w.heap[b]? := fun b hb => heap_old w.drew _ b (hI.ok.dlt b hb)
        have hmv := hI.move (l' := .hdr w.heap.size (xs.length + L.length) (grownCap w (xs.length + L.length) old e) it.size none') (o' := .vec e it.size (xs ++ L)) (w' := w.drew.alloc (.cells (olds.toArray ++ news.toArray ++ Builtin.zeroCells z.cells (grownCap w (xs.length + L.length) old e - (xs.length + L.length))) e)) hl (fun g hg => by subst hg; exact hro.elim) (fun g hg => by subst hg; exact hro.elim) rfl rfl rfl (by simp) (fun k hk _ => heap_old w.drew _ k hk)
          (fun g hg => by rcases hg with rfl | hg; exact ⟨by simp, .inr (Nat.le_refl _)⟩; exact hg.elim)
          ⟨rfl, by simp, hge, hcm, fun p hp => (List.mem_append.1 hp).elim (hxs p) (n4 p), _, heap_new w.drew _, hcs,
            rowRel _ olds news xs _ _ hDw hol hcs (fun j hj => by rw [Array.getElem?_append_left (by simp; omega), Array.getElem?_append_left (by simpa using hj)]; simp) (fun j hj => by
              rw [Array.getElem?_append_left (by simp; omega), Array.getElem?_append_right (by simp)]; simp) hxs n4 n1 ro n5⟩
        refine fin _ _ _ ?_ hk ⟨_, D, hmv.put hd ⟨_, hget _, rfl⟩⟩
        rw [hv, hye]
        exact hrun
      cases l <;> simp only [RelO, Loc.head] at hro hh
      · rename_i ad0
        subst hro
        have hr := run_append_empty (P := P) (w := w) (ty := o.type) hu hit hz1 ad0 ab L.length m news n1 n2 (Nat.pos_of_ne_zero hL0) (by simp only [List.length_nil] at h63; omega) (by simp only [List.length_nil, Nat.zero_add] at hbd; omega)
        refine grow 0 [] (.slice ad0 0 0) (by simp) (fun p hp => by cases hp) (fun i j p q hp => by simp at hp) ?_ hh
        simpa using hr
      · rename_i g n cap s O
        obtain ⟨rfl, rfl, h3, h4, h5, cur, h6, h7, h8⟩ := hro
        by_cases hroom : xs.length + L.length ≤ cap
        · have hle : xs.length * it.size + news.length ≤ cur.size := by rw [n1, h7, ← Nat.add_mul]; exact Nat.mul_le_mul_right _ hroom
          have hr := run_append_room (P := P) w t o.type e it hu hit g xs.length cap cur h6 ab L.length m news n1 n2 n3 hroom hle
          obtain ⟨s1, s2⟩ := setRow_get cur (xs.length * it.size) news hle
          have hDw : ∀ b, D b → (w.setRow g (cur.toList.take (xs.length * it.size) ++ news ++ cur.toList.drop (xs.length * it.size + news.length)).toArray).heap[b]? = w.heap[b]? := fun b hb => setRow_other _ _ _ _ fun e => (hI.ok.olt id _ g hl (.inl rfl)).2 (e ▸ hb)
          have hcl' : (cur.toList.take (xs.length * it.size)).length = xs.length * it.size := by simp; omega
          have hmv := hI.move (l' := .hdr g (xs.length + L.length) cap it.size O) (o' := .vec e it.size (xs ++ L)) (w' := w.setRow g (cur.toList.take (xs.length * it.size) ++ news ++ cur.toList.drop (xs.length * it.size + news.length)).toArray) hl (fun g hg => by cases hg) (fun g hg => by cases hg) rfl rfl rfl (by simp) (fun k _ hk => setRow_other _ _ _ _ fun e => hk (by rw [e]; exact .inl rfl))
            (fun g' hg' => ⟨by simp; exact (hI.ok.olt id _ g' hl hg').1, .inl hg'⟩)
            ⟨rfl, by simp, hroom, h4, fun p hp => (List.mem_append.1 hp).elim (h5 p) (n4 p), _, setRow_heap _ _ _ _ _ _ h6, by rw [s1, h7],
              rowRel _ (cur.toList.take (xs.length * it.size)) news xs _ cap hDw hcl' (by rw [s1, h7]) (fun j hj => by
                rw [hcl'] at hj
                rw [s2, if_neg (by omega), List.getElem?_take, if_pos hj, Array.getElem?_toList]) (fun j hj => by
                rw [s2, hcl', if_pos ⟨by omega, by omega⟩]; congr 1; omega) h5 n4 n1 (fun i j p q hp hq => by
                obtain ⟨u, e1, e2⟩ := h8 i j p q hp hq
                refine ⟨u, ?_, e2⟩
                have hj : j < it.size := by rw [← h5 p (List.mem_of_getElem? hp)]; exact (List.getElem?_eq_some_iff.1 hq).1
                have hi : i < xs.length := (List.getElem?_eq_some_iff.1 hp).1
                have : (i + 1) * it.size ≤ xs.length * it.size := Nat.mul_le_mul_right _ hi
                rw [Nat.add_mul, Nat.one_mul] at this
                rw [List.getElem?_take, if_pos (by omega), Array.getElem?_toList]
                exact e1) n5⟩
          refine fin _ _ _ ?_ hk ⟨_, D, hmv.put hd ⟨_, hget _, rfl⟩⟩
          rw [hh, hye]
          exact hr
        · have hle0 : xs.length * it.size ≤ cur.size := by rw [h7]; exact Nat.mul_le_mul_right _ h3
          have hol : (cur.toList.take (xs.length * it.size)).length = xs.length * it.size := by simp; omega
          have hr := run_append_grow (P := P) w t o.type e it z hu hit hz1 ⟨g, 0, none⟩ xs.length cap (cur.toList.take (xs.length * it.size)) hol (fun j u hj => by
            rw [addr_add, Nat.zero_add, cell_of_row w g j cur e (0, 0) h6]
            rw [List.getElem?_take] at hj
            split at hj
            · simpa using hj
            · cases hj) ab L.length m news n1 n2 (by omega) (by omega) (growslice_fits (by omega) hbd)
          refine grow cap _ _ hol h5 (fun i j p q hp hq => ?_) hr hh
          obtain ⟨u, e1, e2⟩ := h8 i j p q hp hq
          refine ⟨u, ?_, e2⟩
          have hj : j < it.size := by rw [← h5 p (List.mem_of_getElem? hp)]; exact (List.getElem?_eq_some_iff.1 hq).1
          have hi : i < xs.length := (List.getElem?_eq_some_iff.1 hp).1
          have : (i + 1) * it.size ≤ xs.length * it.size := Nat.mul_le_mul_right _ hi
          rw [Nat.add_mul, Nat.one_mul] at this
          rw [List.getElem?_take, if_pos (by omega), Array.getElem?_toList]
          exact e1
  · obtain ⟨ad0, hxe⟩ : ∃ ad0, a.eval x = .slice ad0 0 0 := by
      rcases hxx with rfl | rfl
      · exact ⟨none, hX⟩
      · obtain ⟨h1, a0, n0, h2⟩ := hX
        refine ⟨a0, ?_⟩
        rw [h2] at h1 ⊢
        cases h1
        rfl
    have h63 := len_of [] _ (by simpa using hbd)
    simp only [List.length_nil, Nat.zero_add] at h63
    by_cases hL0 : L.length = 0
    · have hLe : L = [] := List.eq_nil_of_length_eq_zero hL0
      subst hLe
      have hp : Inv c (θ ++ [.nil ad0]) D { st with hp := st.hp ++ [.vec e it.size []] } a w := hI.push rfl (fun g hg => by cases hg)
      refine fin (.slice ad0 0 0) w _ ?_ hk ⟨_, D, hp.put hd ⟨.nil ad0, by rw [← hI.ok.len]; simp, rfl⟩⟩
      rw [hxe, hye]
      exact run_append_zero hu hit ad0 0 0 (Nat.le_refl _) ad m
    · obtain ⟨ab, news, rfl, n1, n2, n3, n4, n5⟩ := hnews (Nat.pos_of_ne_zero hL0)
      have hr := run_append_empty (P := P) (w := w) (ty := o.type) hu hit hz1 ad0 ab L.length m news n1 n2 (Nat.pos_of_ne_zero hL0) (by omega) (by omega)
      have hge := grownCap_ge w L.length 0 e
      have hcm : grownCap w L.length 0 e ≤ maxLen := grownCap_le_maxLen w _ 0 e (by simp only [maxLen]; omega)
      have hcs : (news.toArray ++ Builtin.zeroCells z.cells (grownCap w L.length 0 e - L.length)).size = grownCap w L.length 0 e * it.size := by
        simp only [Array.size_append, List.size_toArray, zeroCells_size, hzs, n1, ← Nat.add_mul]
        congr 1; omega
      have hDw : ∀ b, D b → (w.drew.alloc (.cells (news.toArray ++ Builtin.zeroCells z.cells (grownCap w L.length 0 e - L.length)) e)).heap[b]? = w.heap[b]? := fun b hb => heap_old w.drew _ b (hI.ok.dlt b hb)
      have hI' := hI.drew.allocOwn (l := .hdr w.heap.size L.length (grownCap w L.length 0 e) it.size none') (o := .vec e it.size L) (ob := .cells (news.toArray ++ Builtin.zeroCells z.cells (grownCap w L.length 0 e - L.length)) e) (fun _ h => h.elim (fun h => h) False.elim) fun θ' hθ =>
        ⟨rfl, rfl, hge, hcm, n4, _, heap_new w.drew _, hcs, fun i j p q hp hq => by
          have := rowRel _ [] news [] _ _ hDw (by simp) hcs (fun j hj => by simp at hj) (fun j hj => by simp only [List.length_nil, Nat.zero_add]; rw [Array.getElem?_append_left (by simpa using hj)]; simp) (fun p hp => by cases hp) n4 n1 (fun i j p q hp => by simp at hp) n5 i j p q (by simpa using hp) hq
          exact this⟩
      refine fin _ _ _ ?_ hk ⟨_, D, hI'.put hd ⟨.hdr w.heap.size L.length (grownCap w L.length 0 e) it.size none', by rw [← hI.ok.len]; simp, rfl⟩⟩
      rw [hxe, hye]
      exact hr
theorem sound_appT (hI : Inv c θ D st a w) (hd : ∀ k, o.dst = some k → k < c.n) {K KP : St → Prop} {t e : TypeId} {sz bytes : Nat} {z : Value} {x y : Operand} {cl : Call} (ho : o.op = .call cl) (hcl : cl.callee = .builtin .append) (hargs : cl.args = #[x, y]) (htys : cl.argTypes = #[t, t])
    (he : elemT P t = some e) (hs : sizeT P e = some sz) (hb : bytesT P e = some bytes) (hz : zeroT P e = some z) (hzs : z.cells.size = sz) (h0 : 0 < sz) (hb0 : 0 < bytes)
    {k : Av.K} (h : sexec P o.dst (.appT k e sz bytes (.of x) (.of y)) st K KP) : Leaves P o c K KP a w := by
  intro next Q hn _
  obtain ⟨ax, hx, ay, hy, hL⟩ := h
  have hX := hI.get hx
  obtain ⟨L, ad, m, ⟨hok2, hcase⟩, hye, hlm, hnil, hcells⟩ := relA_list hI.ok (hI.get hy) hL
  have hok : ∀ p ∈ L, p.ok = true := fun p hp => (hok2 p hp).1
  have hu : P.underlying t = some (.slice e) := by
    unfold elemT at he
    split at he
    · cases he; assumption
    · cases he
  simp only [sizeT, Option.map_eq_some_iff] at hs
  obtain ⟨it, hit, rfl⟩ := hs
  have hz1 : it.zero = some z := by simpa [zeroT, hit] using hz
  have hb1 : it.bytes = bytes := by simpa [bytesT, hit] using hb
  subst hb1
  have fin : ∀ (v : Value) (w' : World) (st' : St), (Builtin.append_ #[t, t] o.type #[a.eval x, a.eval y]).run P w = .ok v w' → K st' → Rel c st' (a.put o.dst v) w' → o.wp P a w next Q := by
    intro v w' st' hr hk hrel
    unfold Oper.wp
    have : (execOp a.eval o).run P w = .ok (.value v) w' := by simp [execOp, ho, resolve, hcl, hargs, htys, invoke, builtin, hr]
    rw [this]
    exact hn _ _ ⟨st', hk, hrel⟩
  have hnews : 0 < L.length → ∃ (ab : Addr) (news : List Value), ad = some ab ∧ news.length = L.length * it.size ∧ (∀ (j : Nat) (u : Value), news[j]? = some u → w.cell? (ab.add j) = some u) ∧ (∀ u ∈ news, u.oneCell' = true) ∧
      (∀ p ∈ L, p.cells.length = it.size) ∧ ∀ (i j : Nat) (p q : PV), L[i]? = some p → p.cells[j]? = some q → ∃ u, news[i * it.size + j]? = some u ∧ RelP D w u q := by
    intro hl
    obtain ⟨g, og, rfl, hg, hsz, hc⟩ := hcells hl
    obtain ⟨news, n1, n2⟩ := choose_list (n := L.length * it.size) (p := fun k u => w.cell? ⟨g, og + k, none⟩ = some u ∧ u.oneCell' = true ∧ ∀ (p q : PV), L[k / it.size]? = some p → p.cells[k % it.size]? = some q → RelP D w u q) (fun k hk => by
      have hi : k / it.size < L.length := (Nat.div_lt_iff_lt_mul h0).2 hk
      have hj : k % it.size < it.size := Nat.mod_lt _ h0
      have hp := List.getElem?_eq_getElem hi
      have hpl := hsz _ (List.mem_of_getElem? hp)
      have hq := List.getElem?_eq_getElem (l := (L[k / it.size]).cells) (i := k % it.size) (by omega)
      obtain ⟨u, e1, e2⟩ := hc _ _ _ _ hp hq
      refine ⟨u, ?_, ?_, fun p q hp' hq' => ?_⟩
      · rw [← e1, Nat.add_assoc, Nat.mul_comm, Nat.div_add_mod]
      · have hok1 := hok _ (List.mem_of_getElem? hp)
        simp only [PV.ok, List.all_eq_true] at hok1
        exact relP_cellOk e2 (hok1 _ (List.mem_of_getElem? hq))
      · rw [hp] at hp'; cases hp'
        rw [hq] at hq'; cases hq'
        exact e2)
    refine ⟨_, news, rfl, n1, fun j u hj => by rw [addr_add]; exact (n2 j u hj).1, fun u hu => ?_, hsz, fun i j p q hp hq => ?_⟩
    · obtain ⟨j, hj⟩ := List.getElem?_of_mem hu
      exact (n2 j u hj).2.1
    · have hj : j < it.size := by rw [← hsz p (List.mem_of_getElem? hp)]; exact (List.getElem?_eq_some_iff.1 hq).1
      have hi : i < L.length := (List.getElem?_eq_some_iff.1 hp).1
      have hlt : i * it.size + j < news.length := by
        rw [n1]
        have : (i + 1) * it.size ≤ L.length * it.size := Nat.mul_le_mul_right _ hi
        rw [Nat.add_mul, Nat.one_mul] at this
        omega
      refine ⟨news[i * it.size + j], List.getElem?_eq_getElem hlt, ?_⟩
      obtain ⟨f1, f2⟩ := flat_get (i := i) hj
      exact (n2 _ _ (List.getElem?_eq_getElem hlt)).2.2 p q (by rw [f1]; exact hp) (by rw [f2]; exact hq)
  have hLl : (L.map k.unnil).length = L.length := by simp
  have hLs : (∀ p ∈ L, p.cells.length = it.size) → ∀ p ∈ L.map k.unnil, p.cells.length = it.size := fun h p hp => by
    obtain ⟨q, hq, rfl⟩ := List.mem_map.1 hp
    rw [unnil_len]; exact h q hq
  have rowRel : ∀ (w' : World) (olds news : List Value) (xs : List PV) (cv : Array Value) (cap : Nat) (Os : Nat → Nat → Nat → Prop), (∀ b, D b → w'.heap[b]? = w.heap[b]?) → (∀ i j b, Os i j b → w'.heap[b]? = w.heap[b]?) → olds.length = xs.length * it.size → cv.size = cap * it.size →
      (∀ j, j < olds.length → cv[j]? = olds[j]?) → (∀ j, j < news.length → cv[olds.length + j]? = news[j]?) → news.length = L.length * it.size →
      (∀ (i j : Nat) (p q : PV), xs[i]? = some p → p.cells[j]? = some q → ∃ u, olds[i * it.size + j]? = some u ∧ RelT D w (k.at j) (Os i j) u q) → (∀ (i j : Nat) (p q : PV), L[i]? = some p → p.cells[j]? = some q → ∃ u, news[i * it.size + j]? = some u ∧ RelP D w u q) →
      ∀ (i j : Nat) (p q : PV), (xs ++ L.map k.unnil)[i]? = some p → p.cells[j]? = some q → ∃ u, cv[i * it.size + j]? = some u ∧ RelT D w' (k.at j) (Os i j) u q := by
    intro w' olds news xs cv cap Os hDw hOw hol hcv hco hcn hnl ro rn i j p q hp hq
    rcases Nat.lt_or_ge i xs.length with hi | hi
    · rw [List.getElem?_append_left hi] at hp
      obtain ⟨u, e1, e2⟩ := ro i j p q hp hq
      exact ⟨u, by rw [hco _ (List.getElem?_eq_some_iff.1 e1).1]; exact e1, e2.mono (fun _ h => h) hDw fun b hb => hOw i j b hb⟩
    · rw [List.getElem?_append_right hi, List.getElem?_map] at hp
      obtain ⟨p0, hp0, rfl⟩ := Option.map_eq_some_iff.1 hp
      obtain ⟨q0, hq0, hqr⟩ := nil_cell (hok2 p0 (List.mem_of_getElem? hp0)).2 (O := Os i j) hq
      obtain ⟨u, e1, e2⟩ := rn _ j p0 q0 hp0 hq0
      refine ⟨u, ?_, hqr _ _ _ (e2.mono (fun _ h => h) hDw)⟩
      have := hcn _ (List.getElem?_eq_some_iff.1 e1).1
      rw [e1] at this
      rw [← this, hol]
      congr 1
      have : i * it.size = xs.length * it.size + (i - xs.length) * it.size := by rw [← Nat.add_mul]; congr 1; omega
      omega
  have len_of : ∀ (xs : List PV) (k : Nat), (xs.length + L.length) * it.bytes ≤ k → xs.length + L.length ≤ k := fun xs k h => Nat.le_trans (Nat.le_mul_of_pos_right _ hb0) h
  rcases hcase with ⟨id, rfl, ob, hob, xs, rfl, hbd, hk⟩ | ⟨hxx, hbd, hk⟩
  · obtain ⟨l, hl, hh⟩ := hX
    have hro := hI.ok.objs id l _ hl hob
    have h63 := len_of xs _ hbd
    have hlt : id < θ.length := (List.getElem?_eq_some_iff.1 hl).1
    have hget : ∀ (l' : Loc), (θ.set id l')[id]? = some l' := fun l' => List.getElem?_set_self hlt
    by_cases hL0 : L.length = 0
    · have hLe : L = [] := List.eq_nil_of_length_eq_zero hL0
      subst hLe
      have hmv : Inv c (θ.set id l) D (st.moved id (.tree e it.size k (xs ++ ([] : List PV).map k.unnil) none)) a w := by
        refine hI.move hl (fun g hg => ?_) (fun g hg => ?_) rfl rfl rfl (Nat.le_refl _) (fun _ _ _ => rfl) (fun g hg => ⟨(hI.ok.olt id l g hl hg).1, .inl hg⟩) ?_
        · subst hg; exact hro.elim
        · subst hg; exact hro.elim
        · rw [List.map_nil, List.append_nil]
          have hse : θ.set id l = θ := by
            apply List.ext_getElem?
            intro i
            by_cases hii : i = id
            · subst hii; rw [hget]; exact hl.symm
            · rw [List.getElem?_set_ne (Ne.symm hii)]
          rw [hse]
          exact hro
      cases l <;> simp only [RelO, Loc.head] at hro hh
      · rename_i ad0
        refine fin (.slice ad0 0 0) w _ ?_ hk ⟨_, D, hmv.put hd ⟨.nil ad0, hget _, rfl⟩⟩
        rw [hh, hye]
        exact run_append_zero hu hit ad0 0 0 (Nat.le_refl _) ad m
      · rename_i g n cap s O
        obtain ⟨rfl, rfl, h3, _⟩ := hro
        refine fin _ w _ ?_ hk ⟨_, D, hmv.put hd ⟨_, hget _, rfl⟩⟩
        rw [hh, hye]
        exact run_append_zero hu hit _ _ cap h3 ad m
    · obtain ⟨ab, news, rfl, n1, n2, n3, n4, n5⟩ := hnews (Nat.pos_of_ne_zero hL0)
      have grow : ∀ (old : Nat) (olds : List Value) (v : Value) (O : Nat → Prop) (Os : Nat → Nat → Nat → Prop), (∀ b, O b → l.has b) → (∀ i j b, Os i j b → O b) → (∀ i j i' j' b, Os i j b → Os i' j' b → i = i' ∧ j = j') → olds.length = xs.length * it.size → (∀ p ∈ xs, p.cells.length = it.size) → (∀ (i j : Nat) (p q : PV), xs[i]? = some p → p.cells[j]? = some q → ∃ u, olds[i * it.size + j]? = some u ∧ RelT D w (k.at j) (Os i j) u q) →
          (Builtin.append_ #[t, t] o.type #[v, .slice (some ab) L.length m]).run P w = .ok (.slice (some ⟨w.heap.size, 0, none⟩) (xs.length + L.length) (grownCap w (xs.length + L.length) old e)) (w.drew.alloc (.cells (olds.toArray ++ news.toArray ++ Builtin.zeroCells z.cells (grownCap w (xs.length + L.length) old e - (xs.length + L.length))) e)) →
          a.eval x = v → o.wp P a w next Q := by
        intro old olds v O Os hOl hOs hdj hol hxs ro hrun hv
        have hOlt : ∀ b, O b → b < w.heap.size := fun b hb => (hI.ok.olt id l b hl (hOl b hb)).1
        have hge := grownCap_ge w (xs.length + L.length) old e
        have hcm : grownCap w (xs.length + L.length) old e ≤ maxLen := grownCap_le_maxLen w _ old e (by simp only [maxLen]; omega)
        have hcs : (olds.toArray ++ news.toArray ++ Builtin.zeroCells z.cells (grownCap w (xs.length + L.length) old e - (xs.length + L.length))).size = grownCap w (xs.length + L.length) old e * it.size := by
          simp only [Array.size_append, List.size_toArray, zeroCells_size, hzs, hol, n1, ← Nat.add_mul]
          congr 1; omega
        have hDw : ∀ b, D b → (w.drew.alloc (.cells (olds.toArray ++ news.toArray ++ Builtin.zeroCells z.cells (grownCap w (xs.length + L.length) old e - (xs.length + L.length))) e)).heap[b]? = w.heap[b]? := fun b hb => heap_old w.drew _ b (hI.ok.dlt b hb)
        have hmv := hI.move (l' := .hdr w.heap.size (xs.length + L.length) (grownCap w (xs.length + L.length) old e) it.size O) (o' := .tree e it.size k (xs ++ L.map k.unnil) none) (w' := w.drew.alloc (.cells (olds.toArray ++ news.toArray ++ Builtin.zeroCells z.cells (grownCap w (xs.length + L.length) old e - (xs.length + L.length))) e)) hl (fun g hg => by subst hg; exact hro.elim) (fun g hg => by subst hg; exact hro.elim) rfl rfl rfl (by simp) (fun k hk _ => heap_old w.drew _ k hk)
          (fun g hg => by rcases hg with rfl | hg; exact ⟨by simp, .inr (Nat.le_refl _)⟩; exact ⟨by simp; have := hOlt g hg; omega, .inl (hOl g hg)⟩)
          ⟨rfl, by simp, hge, hcm, fun p hp => (List.mem_append.1 hp).elim (hxs p) (hLs n4 p), _, Os, heap_new w.drew _, hcs, fun i j b hb => ⟨hOs i j b hb, by have := hOlt b (hOs i j b hb); simp; omega⟩, hdj, fun _ _ _ h => (nomatch h),
            rowRel _ olds news xs _ _ Os hDw (fun i j b hb => heap_old w.drew _ b (hOlt b (hOs i j b hb))) hol hcs (fun j hj => by rw [Array.getElem?_append_left (by simp; omega), Array.getElem?_append_left (by simpa using hj)]; simp) (fun j hj => by
              rw [Array.getElem?_append_left (by simp; omega), Array.getElem?_append_right (by simp)]; simp) n1 ro n5⟩
        refine fin _ _ _ ?_ hk ⟨_, D, hmv.put hd ⟨_, hget _, rfl⟩⟩
        rw [hv, hye]
        exact hrun
      cases l <;> simp only [RelO, Loc.head] at hro hh
      · rename_i ad0
        obtain ⟨rfl, -⟩ := hro
        have hr := run_append_empty (P := P) (w := w) (ty := o.type) hu hit hz1 ad0 ab L.length m news n1 n2 (Nat.pos_of_ne_zero hL0) (by simp only [List.length_nil] at h63; omega) (by simp only [List.length_nil, Nat.zero_add] at hbd; omega)
        refine grow 0 [] (.slice ad0 0 0) none' (fun _ _ _ => False) (fun _ h => h.elim) (fun _ _ _ h => h.elim) (fun _ _ _ _ _ h _ => h.elim) (by simp) (fun p hp => by cases hp) (fun i j p q hp => by simp at hp) ?_ hh
        simpa using hr
      · rename_i g n cap s O
        obtain ⟨rfl, rfl, h3, h4, h5, cur, Os, h6, h7, hOs, hdj, -, h8⟩ := hro
        by_cases hroom : xs.length + L.length ≤ cap
        · have hle : xs.length * it.size + news.length ≤ cur.size := by rw [n1, h7, ← Nat.add_mul]; exact Nat.mul_le_mul_right _ hroom
          have hr := run_append_room (P := P) w t o.type e it hu hit g xs.length cap cur h6 ab L.length m news n1 n2 n3 hroom hle
          obtain ⟨s1, s2⟩ := setRow_get cur (xs.length * it.size) news hle
          have hDw : ∀ b, D b → (w.setRow g (cur.toList.take (xs.length * it.size) ++ news ++ cur.toList.drop (xs.length * it.size + news.length)).toArray).heap[b]? = w.heap[b]? := fun b hb => setRow_other _ _ _ _ fun e => (hI.ok.olt id _ g hl (.inl rfl)).2 (e ▸ hb)
          have hcl' : (cur.toList.take (xs.length * it.size)).length = xs.length * it.size := by simp; omega
          have hmv := hI.move (l' := .hdr g (xs.length + L.length) cap it.size O) (o' := .tree e it.size k (xs ++ L.map k.unnil) none) (w' := w.setRow g (cur.toList.take (xs.length * it.size) ++ news ++ cur.toList.drop (xs.length * it.size + news.length)).toArray) hl (fun g hg => by cases hg) (fun g hg => by cases hg) rfl rfl rfl (by simp) (fun k _ hk => setRow_other _ _ _ _ fun e => hk (by rw [e]; exact .inl rfl))
            (fun g' hg' => ⟨by simp; exact (hI.ok.olt id _ g' hl hg').1, .inl hg'⟩)
            ⟨rfl, by simp, hroom, h4, fun p hp => (List.mem_append.1 hp).elim (h5 p) (hLs n4 p), _, Os, setRow_heap _ _ _ _ _ _ h6, by rw [s1, h7], hOs, hdj, fun _ _ _ h => (nomatch h),
              rowRel _ (cur.toList.take (xs.length * it.size)) news xs _ cap Os hDw (fun i j b hb => setRow_other _ _ _ _ (hOs i j b hb).2) hcl' (by rw [s1, h7]) (fun j hj => by
                rw [hcl'] at hj
                rw [s2, if_neg (by omega), List.getElem?_take, if_pos hj, Array.getElem?_toList]) (fun j hj => by
                rw [s2, hcl', if_pos ⟨by omega, by omega⟩]; congr 1; omega) n1 (fun i j p q hp hq => by
                obtain ⟨u, e1, e2⟩ := h8 i j p q hp hq
                refine ⟨u, ?_, e2⟩
                have hj : j < it.size := by rw [← h5 p (List.mem_of_getElem? hp)]; exact (List.getElem?_eq_some_iff.1 hq).1
                have hi : i < xs.length := (List.getElem?_eq_some_iff.1 hp).1
                have : (i + 1) * it.size ≤ xs.length * it.size := Nat.mul_le_mul_right _ hi
                rw [Nat.add_mul, Nat.one_mul] at this
                rw [List.getElem?_take, if_pos (by omega), Array.getElem?_toList]
                exact e1) n5⟩
          refine fin _ _ _ ?_ hk ⟨_, D, hmv.put hd ⟨_, hget _, rfl⟩⟩
          rw [hh, hye]
          exact hr
        · have hle0 : xs.length * it.size ≤ cur.size := by rw [h7]; exact Nat.mul_le_mul_right _ h3
          have hol : (cur.toList.take (xs.length * it.size)).length = xs.length * it.size := by simp; omega
          have hr := run_append_grow (P := P) w t o.type e it z hu hit hz1 ⟨g, 0, none⟩ xs.length cap (cur.toList.take (xs.length * it.size)) hol (fun j u hj => by
            rw [addr_add, Nat.zero_add, cell_of_row w g j cur e (0, 0) h6]
            rw [List.getElem?_take] at hj
            split at hj
            · simpa using hj
            · cases hj) ab L.length m news n1 n2 (by omega) (by omega) (growslice_fits (by omega) hbd)
          refine grow cap _ _ O Os (fun _ h => .inr h) (fun i j b h => (hOs i j b h).1) hdj hol h5 (fun i j p q hp hq => ?_) hr hh
          obtain ⟨u, e1, e2⟩ := h8 i j p q hp hq
          refine ⟨u, ?_, e2⟩
          have hj : j < it.size := by rw [← h5 p (List.mem_of_getElem? hp)]; exact (List.getElem?_eq_some_iff.1 hq).1
          have hi : i < xs.length := (List.getElem?_eq_some_iff.1 hp).1
          have : (i + 1) * it.size ≤ xs.length * it.size := Nat.mul_le_mul_right _ hi
          rw [Nat.add_mul, Nat.one_mul] at this
          rw [List.getElem?_take, if_pos (by omega), Array.getElem?_toList]
          exact e1
  · obtain ⟨ad0, hxe⟩ : ∃ ad0, a.eval x = .slice ad0 0 0 := by
      subst hxx
      exact ⟨none, hX⟩
    have h63 := len_of [] _ (by simpa using hbd)
    simp only [List.length_nil, Nat.zero_add] at h63
    by_cases hL0 : L.length = 0
    · have hLe : L = [] := List.eq_nil_of_length_eq_zero hL0
      subst hLe
      have hp : Inv c (θ ++ [.nil ad0]) D { st with hp := st.hp ++ [.tree e it.size k (([] : List PV).map k.unnil) none] } a w := hI.push ⟨rfl, rfl⟩ (fun g hg => by cases hg)
      refine fin (.slice ad0 0 0) w _ ?_ hk ⟨_, D, hp.put hd ⟨.nil ad0, by rw [← hI.ok.len]; simp, rfl⟩⟩
      rw [hxe, hye]
      exact run_append_zero hu hit ad0 0 0 (Nat.le_refl _) ad m
    · obtain ⟨ab, news, rfl, n1, n2, n3, n4, n5⟩ := hnews (Nat.pos_of_ne_zero hL0)
      have hr := run_append_empty (P := P) (w := w) (ty := o.type) hu hit hz1 ad0 ab L.length m news n1 n2 (Nat.pos_of_ne_zero hL0) (by omega) (by omega)
      have hge := grownCap_ge w L.length 0 e
      have hcm : grownCap w L.length 0 e ≤ maxLen := grownCap_le_maxLen w _ 0 e (by simp only [maxLen]; omega)
      have hcs : (news.toArray ++ Builtin.zeroCells z.cells (grownCap w L.length 0 e - L.length)).size = grownCap w L.length 0 e * it.size := by
        simp only [Array.size_append, List.size_toArray, zeroCells_size, hzs, n1, ← Nat.add_mul]
        congr 1; omega
      have hDw : ∀ b, D b → (w.drew.alloc (.cells (news.toArray ++ Builtin.zeroCells z.cells (grownCap w L.length 0 e - L.length)) e)).heap[b]? = w.heap[b]? := fun b hb => heap_old w.drew _ b (hI.ok.dlt b hb)
      have hI' := hI.drew.allocOwn (l := .hdr w.heap.size L.length (grownCap w L.length 0 e) it.size none') (o := .tree e it.size k (L.map k.unnil) none) (ob := .cells (news.toArray ++ Builtin.zeroCells z.cells (grownCap w L.length 0 e - L.length)) e) (fun _ h => h.elim (fun h => h) False.elim) fun θ' hθ =>
        ⟨rfl, hLl.symm, hge, hcm, hLs n4, _, fun _ _ _ => False, heap_new w.drew _, hcs, fun _ _ _ h => h.elim, fun _ _ _ _ _ h _ => h.elim, fun _ _ _ h => (nomatch h), fun i j p q hp hq => by
          have := rowRel _ [] news [] _ _ (fun _ _ _ => False) hDw (fun _ _ _ h => h.elim) (by simp) hcs (fun j hj => by simp at hj) (fun j hj => by simp only [List.length_nil, Nat.zero_add]; rw [Array.getElem?_append_left (by simpa using hj)]; simp) n1 (fun i j p q hp => by simp at hp) n5 i j p q (by simpa using hp) hq
          exact this⟩
      refine fin _ _ _ ?_ hk ⟨_, D, hI'.put hd ⟨.hdr w.heap.size L.length (grownCap w L.length 0 e) it.size none', by rw [← hI.ok.len]; simp, rfl⟩⟩
      rw [hxe, hye]
      exact hr
end
end Go.Av
