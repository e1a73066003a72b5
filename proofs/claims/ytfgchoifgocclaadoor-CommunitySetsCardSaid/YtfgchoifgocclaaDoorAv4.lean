/-
  THE ABSTRACT LAYER, 4: the loaded operations as abstract ones (compOp), and the soundness of those that leave the objects alone.
-/
import Derived.Test.YtfgchoifgocclaaDoorAv3
namespace Go.Av
open Go Go.RowKit

def aggT (P : Program) (t : TypeId) : Bool := match P.underlying t with
  | some (.struct _) => true
  | some (.array _ _) => true
  | _ => false

def sizeT (P : Program) (t : TypeId) : Option Nat := (P.info? t).map (·.size)
def bytesT (P : Program) (t : TypeId) : Option Nat := (P.info? t).map (·.bytes)
def zeroT (P : Program) (t : TypeId) : Option Value := (P.info? t).bind (·.zero)

def elemT (P : Program) (t : TypeId) : Option TypeId := match P.underlying t with
  | some (.slice e) => some e
  | _ => none

def callable (P : Program) (f : FuncId) : Bool := match P.funcs[f]? with
  | some fn => fn.body.isSome && fn.name != "runtime.NumGoroutine"
  | none => false

def fieldOf (P : Program) (s : TypeId) (f : Nat) : Option Field := match P.underlying s with
  | some (.struct fs) => fs[f]?
  | _ => none

def partsOf (P : Program) (t : TypeId) (parts : List (Nat × Operand)) : Option (List (Nat × Nat × SX)) :=
  match P.underlying t with
  | some (.struct fs) => (fs.toList.mapM fun f => (P.info? f.type).map fun i => (f.offset, i.size)).bind fun places => parts.mapM fun q => (places[q.1]?).map fun pl => (pl.1, pl.2, SX.of q.2)
  | some (.array _ e) => (P.info? e).bind fun ie => parts.mapM fun q => some (q.1 * ie.size, ie.size, SX.of q.2)
  | _ => none

/-- The parts of a slice literal: all its elements, in order. -/
def inOrder (parts : List (Nat × Operand)) : Bool := (parts.map (·.1)) == List.range parts.length

def compOp (P : Program) (o : Oper) : Option SOp :=
  match o.op with
  | .move x | .assign x => some (.mv (.of x))
  | .pick c a b => some (.pick (.of c) (.of a) (.of b))
  | .binOp op t x y _ => match P.underlying t with
    | some (.int _) => some (.bin op (.of x) (.of y))
    | some .string => some (.bin op (.of x) (.of y))
    | some .bool => match op with
      | .eql => some (.eqB false (.of x) (.of y))
      | .neq => some (.eqB true (.of x) (.of y))
      | _ => none
    | _ => none
  | .unOp op _ x => some (.un op (.of x))
  | .call c => match c.callee with
    | .builtin .len => match c.args.toList, c.argTypes.toList with
      | [x], [t] => match P.underlying t with
        | some (.slice _) => some (.len false (.of x))
        | some .string => some (.len true (.of x))
        | some (.array n _) => some (.mv (.c (.int .i64 n)))
        | _ => none
      | _, _ => none
    | .builtin .append => match c.args.toList, c.argTypes.toList with
      | [x, y], [t, u] => if t = u then (elemT P t).bind fun e => (sizeT P e).bind fun s => (bytesT P e).bind fun b => (zeroT P e).bind fun z => if z.cells.size = s ∧ 0 < s ∧ 0 < b then some (.append e s b (.of x) (.of y)) else none else none
      | _, _ => none
    | .value (.func f) => if callable P f then some (.call false f (c.args.toList.map SX.of)) else none
    | _ => none
  | .index t x i => match P.underlying t with
    | some .string => some (.idxS (.of x) (.of i))
    | some (.array n e) => if (P.underlying e).isSome then (sizeT P e).map fun s => .idxV n s (aggT P e) (.of x) (.of i) else none
    | _ => none
  | .indexAddr t x i => match P.underlying t with
    | some (.slice e) => (sizeT P e).map fun s => .idxA s (.of x) (.of i)
    | some (.array n e) => (sizeT P e).map fun s => .idxP n s (.of x) (.of i)
    | _ => none
  | .fieldAddr s x f => (fieldOf P s f).bind fun fd => (sizeT P fd.type).bind fun sz => if sz = 0 then none else some (.fldA fd.offset sz (aggT P fd.type) (.of x))
  | .field s x f => (fieldOf P s f).bind fun fd => if (P.underlying fd.type).isSome then (sizeT P fd.type).map fun sz => .fld fd.offset sz (aggT P fd.type) (.of x) else none
  | .load t x => (sizeT P t).bind fun sz => if (P.underlying t).isSome then some (.load sz (aggT P t) (.of x)) else none
  | .store t x v => (sizeT P t).map fun sz => .store sz (.of x) (.of v)
  | .alloc e => (zeroT P e).map fun z => .alloc e z.cells.toList
  | .box e x => some (.box e (.of x))
  | .build t parts => (zeroT P t).bind fun z => (partsOf P t parts.toList).map fun ps => .build z.cells.toList ps
  | .buildSlice t len parts => (elemT P t).bind fun e => (sizeT P e).bind fun s => (zeroT P e).bind fun z => if inOrder parts.toList ∧ z.cells.size = s then some (.bslice false e s len (parts.toList.map fun q => SX.of q.2)) else none
  | .makeSlice t l c => (elemT P t).bind fun e => (sizeT P e).bind fun s => (bytesT P e).bind fun b => (zeroT P e).map fun z => .mslice e s b z (.of l) (.of c)
  | .convert sT d x => match P.underlying sT, P.underlying d with
    | some _, some (.int k) => some (.cvtI k (.of x))
    | some (.slice e), some .string => match P.underlying e with
      | some (.int .u8) => some (.b2s (.of x))
      | _ => none
    | _, _ => none
  | .slice t x lo hi mx => match P.underlying t with
    | some (.slice e) => (sizeT P e).map fun s => .slc s (.of x) (lo.map .of) (hi.map .of) (mx.map .of)
    | some .string => match mx with
      | none => some (.slcS (.of x) (lo.map .of) (hi.map .of))
      | some _ => none
    | _ => none
  | .extract x i => some (.ext (.of x) i)
  | .nilCheck x => some (.nilc (.of x))
  | _ => none

/-- The forms between which the one who prints may choose. -/
def SOp.canon : SOp → SOp
  | .bslice _ e s l ps => .bslice false e s l ps
  | .call _ f xs => .call false f xs
  | .callO _ _ _ f xs => .call false f xs
  | x => x

/-! ### Operands -/
theorem relB_const {θ : List Loc} {D : Nat → Prop} {w : World} (v : Value) : RelB θ D w v (constB v) := by
  unfold constB
  split
  · rfl
  · exact RelP.sc v

theorem relA_const {θ : List Loc} {D : Nat → Prop} {w : World} (v : Value) : RelA θ D w v (constA v) := by
  unfold constA
  split
  · rename_i cs
    refine ⟨cs, rfl, by simp, fun i u x hu hx => ?_⟩
    simp only [List.getElem?_map] at hx
    rw [Array.getElem?_toList, hu] at hx
    simp at hx
    subst hx
    exact relB_const u
  · exact relB_const _

theorem Inv.get {c : Ctx} {θ : List Loc} {D : Nat → Prop} {st : St} {a : Act} {w : World} (h : Inv c θ D st a w) {x : Operand} {av : AV} (hx : st.get (.of x) = some av) : RelA θ D w (a.eval x) av := by
  cases x with
  | tmp t => exact h.fr t av hx
  | const v => simp [SX.of, St.get] at hx; subst hx; exact relA_const v
  | global g => simp [SX.of, St.get] at hx; subst hx; exact RelP.sc _
  | func f =>
    simp [SX.of, St.get] at hx; subst hx
    exact RelP.fn (.func f) #[] [] rfl fun i v x hv _ => by simp at hv

section
variable {θ : List Loc} {D : Nat → Prop} {w : World}
theorem relA_v {v u : Value} (h : RelA θ D w v (.v u)) : v = u := by cases h; rfl
theorem relA_p {v : Value} {p : PV} (h : RelA θ D w v (.p p)) : RelP D w v p := h

theorem relA_isV {v : Value} {a : AV} {K : Value → Prop} (h : RelA θ D w v a) (hk : isV a K) : K v := by
  obtain ⟨u, rfl, hk⟩ := hk
  rw [relA_v h]; exact hk

theorem mapM_some {α β : Type} {f : α → Option β} : ∀ {l : List α} {m : List β}, l.mapM f = some m → l.length = m.length ∧ ∀ (i : Nat) (x : α) (y : β), l[i]? = some x → m[i]? = some y → f x = some y
  | [], m, h => by simp at h; subst h; exact ⟨rfl, fun i x y hx => by simp at hx⟩
  | x :: l, m, h => by
    simp only [List.mapM_cons, Option.bind_eq_bind, Option.pure_def, Option.bind_eq_some_iff, Option.some.injEq] at h
    obtain ⟨y, hy, m', hm, rfl⟩ := h
    obtain ⟨h1, h2⟩ := mapM_some hm
    refine ⟨by simp [h1], fun i u v hu hv => ?_⟩
    cases i with
    | zero => simp at hu hv; subst hu; subst hv; exact hy
    | succ i => exact h2 i u v (by simpa using hu) (by simpa using hv)

theorem getElem?_of_len {α β : Type} {l : List α} {m : List β} (h : l.length = m.length) {i : Nat} {y : β} (hy : m[i]? = some y) : ∃ x, l[i]? = some x := by
  have : i < l.length := by rw [h]; exact (List.getElem?_eq_some_iff.1 hy).1
  exact ⟨l[i], List.getElem?_eq_getElem this⟩

theorem relP_cellOk {v : Value} {p : PV} (h : RelP D w v p) (hok : p.cellOk = true) : v.oneCell' = true := by
  cases h <;> simp [PV.cellOk] at hok <;> first | exact hok | rfl

theorem relB_cellOk {v : Value} {x : BV} (h : RelB θ D w v x) (hok : x.cellOk = true) : v.oneCell' = true := by
  cases x with
  | pv p => exact relP_cellOk h hok
  | nils => cases h; rfl
  | sl id =>
    obtain ⟨l, _, h2⟩ := h
    cases l <;> simp only [Loc.head] at h2 <;> (subst h2; rfl)
  | ptr id off => obtain ⟨g, _, rfl⟩ := h; rfl
  | elt id i off => obtain ⟨g, n, cap, sz, _, rfl⟩ := h; rfl
  | clo f ids => obtain ⟨gs, _, _, rfl⟩ := h; rfl

theorem cells_one {v : Value} (h : v.oneCell' = true) : v.cells = #[v] := by
  cases v <;> simp [Value.oneCell'] at h <;> rfl

/-- The cells of a value, one by one. -/
theorem relA_cells {v : Value} {x : AV} (h : RelA θ D w v x) (hok : x.ok = true) : v.cells.size = x.cells.length ∧ ∀ (i : Nat) (u : Value) (y : BV), v.cells[i]? = some u → x.cells[i]? = some y → RelB θ D w u y ∧ u.oneCell' = true := by
  have one : ∀ (v : Value) (y : BV), y.cellOk = true → RelB θ D w v y → v.cells.size = [y].length ∧ ∀ (i : Nat) (u : Value) (z : BV), v.cells[i]? = some u → [y][i]? = some z → RelB θ D w u z ∧ u.oneCell' = true := by
    intro v y hy hr
    have ho := relB_cellOk hr hy
    rw [cells_one ho]
    refine ⟨rfl, fun i u z hu hz => ?_⟩
    cases i with
    | zero => simp at hu hz; subst hu; subst hz; exact ⟨hr, ho⟩
    | succ i => simp at hz
  have all : ∀ y ∈ x.cells, y.cellOk = true := by simpa [AV.ok] using hok
  cases x with
  | agg xs =>
    obtain ⟨vs, rfl, h1, h2⟩ := h
    exact ⟨h1, fun i u y hu hy => ⟨h2 i u y hu hy, relB_cellOk (h2 i u y hu hy) (all y (List.mem_of_getElem? hy))⟩⟩
  | b x =>
    by_cases hag : ∃ xs, x = .pv (.agg xs)
    · obtain ⟨xs, rfl⟩ := hag
      have h' : RelP D w v (.agg xs) := h
      cases h' with
      | agg vs _ hq hh =>
        refine ⟨by simp [AV.cells, PV.cells, Value.cells, hq], fun i u y hu hy => ?_⟩
        have hmem := all y (List.mem_of_getElem? hy)
        simp only [AV.cells, PV.cells, List.getElem?_map] at hy
        cases hxi : xs[i]? with
        | none => rw [hxi] at hy; simp at hy
        | some z =>
          rw [hxi] at hy; simp at hy; subst hy
          have := hh i u z hu hxi
          exact ⟨this, relP_cellOk this hmem⟩
    · have e : (AV.b x).cells = [x] := by
        cases x with
        | pv p => cases p <;> first | rfl | exact absurd ⟨_, rfl⟩ hag
        | _ => rfl
      rw [e] at all ⊢
      exact one v x (all x (by simp)) h

theorem relP_cells {v : Value} {p : PV} (h : RelP D w v p) (hok : p.ok = true) : v.cells.size = p.cells.length ∧ ∀ (i : Nat) (u : Value) (y : PV), v.cells[i]? = some u → p.cells[i]? = some y → RelP D w u y ∧ u.oneCell' = true := by
  have hok' : (AV.p p).ok = true := by
    simp only [PV.ok, List.all_eq_true] at hok
    simp only [AV.ok, AV.cells, List.all_map, List.all_eq_true]
    exact hok
  obtain ⟨h1, h2⟩ := relA_cells (θ := []) (x := .p p) h hok'
  simp only [AV.cells, List.length_map, List.getElem?_map] at h1 h2
  exact ⟨h1, fun i u y hu hy => h2 i u (.pv y) hu (by rw [hy]; rfl)⟩

theorem relB_toPV {v : Value} {x : BV} {p : PV} (h : RelB θ D w v x) (hx : x.toPV = some p) : RelP D w v p := by
  cases x <;> simp [BV.toPV] at hx
  · subst hx; exact h
  · subst hx; cases h; exact .nil none 0

theorem relA_toPV {v : Value} {x : AV} {p : PV} (h : RelA θ D w v x) (hx : x.toPV = some p) : RelP D w v p := by
  cases x with
  | b x => exact relB_toPV h hx
  | agg xs =>
    obtain ⟨vs, rfl, h1, h2⟩ := h
    simp only [AV.toPV, Option.map_eq_some_iff] at hx
    obtain ⟨ps, hps, rfl⟩ := hx
    obtain ⟨h3, h4⟩ := mapM_some hps
    refine RelP.agg _ _ (by rw [h1, h3]) fun i u p hu hp => ?_
    obtain ⟨x, hx⟩ := getElem?_of_len h3 hp
    exact relB_toPV (h2 i u x hu hx) (h4 i x p hx hp)

/-- The elements of a slice, wherever they lie. -/
theorem relA_list {hp : List AObj} (hok : Ok θ D hp w) {v : Value} {x : AV} {sz : Nat} {K : List PV → Prop} (h : RelA θ D w v x) (hk : isList hp sz x K) :
    ∃ L a cap, K L ∧ v = .slice a L.length cap ∧ L.length ≤ cap ∧ (a = none → cap = 0 ∨ L = []) ∧ (0 < L.length → ∃ b o, a = some ⟨b, o, none⟩ ∧ b < w.heap.size ∧ (∀ x ∈ L, x.cells.length = sz) ∧
      ∀ (i j : Nat) (x y : PV), L[i]? = some x → x.cells[j]? = some y → ∃ u, w.cell? ⟨b, o + i * sz + j, none⟩ = some u ∧ RelP D w u y) := by
  rcases hk with ⟨rfl, hk⟩ | ⟨L, rfl, hk⟩ | ⟨id, e, L, rfl, ho, hk⟩
  · cases h
    exact ⟨[], none, 0, hk, rfl, Nat.le_refl _, fun _ => .inl rfl, fun h => absurd h (by simp)⟩
  · obtain ⟨a, cap, rfl, h1, h2⟩ := relP_lst (relA_p h)
    refine ⟨L, a, cap, hk, rfl, h1, fun ha => ?_, fun hl => ?_⟩
    · rcases Nat.eq_zero_or_pos L.length with h0 | h0
      · exact .inr (List.eq_nil_of_length_eq_zero h0)
      · obtain ⟨b, o, e, _⟩ := h2 h0
        rw [ha] at e; cases e
    · obtain ⟨b, o, e, hb, h3, h4⟩ := h2 hl
      exact ⟨b, o, e, hok.dlt b hb, h3, h4⟩
  · obtain ⟨l, hl, hh⟩ := h
    have hro := hok.objs id l _ hl ho
    cases l <;> simp only [RelO, Loc.head] at hro hh
    · subst hh; subst hro
      exact ⟨[], none, 0, hk, rfl, Nat.le_refl _, fun _ => .inl rfl, fun h => absurd h (by simp)⟩
    · rename_i g n cap s
      obtain ⟨rfl, rfl, h3, h4, h5, c, h6, h7, h8⟩ := hro
      subst hh
      refine ⟨L, _, cap, hk, rfl, h3, fun e => by simp at e, fun _ => ⟨g, 0, rfl, (hok.olt id _ g hl rfl).1, h5, fun i j x y hx hy => ?_⟩⟩
      obtain ⟨u, h9, h10⟩ := h8 i j x y hx hy
      refine ⟨u, ?_, h10⟩
      rw [Nat.zero_add, cell_of_row w g _ c e (0, 0) h6]
      exact h9

theorem relA_len {hp : List AObj} (hok : Ok θ D hp w) {v : Value} {x : AV} {K : Nat → Prop} (h : RelA θ D w v x) (hk : isLen hp x K) :
    ∃ n a cap, K n ∧ v = .slice a n cap := by
  rcases hk with ⟨rfl, hk⟩ | ⟨sz, L, rfl, hk⟩ | ⟨id, e, sz, L, rfl, ho, hk⟩
  · cases h
    exact ⟨_, _, _, hk, rfl⟩
  · obtain ⟨a, cap, rfl, _⟩ := relP_lst (relA_p h)
    exact ⟨_, a, cap, hk, rfl⟩
  · obtain ⟨L', a, cap, rfl, rfl, _⟩ := relA_list (K := fun L' => L' = L) hok h (.inr (.inr ⟨id, e, L, rfl, ho, rfl⟩))
    exact ⟨_, a, cap, hk, rfl⟩
end

end Go.Av
