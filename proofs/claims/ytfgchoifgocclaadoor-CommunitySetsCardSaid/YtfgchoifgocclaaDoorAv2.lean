/-
  THE ABSTRACT LAYER, 2: frames and objects, the operations as they are met (SOp), and what each asks of an abstract state.
-/
import Derived.Test.YtfgchoifgocclaaDoorGw
import Derived.Test.YtfgchoifgocclaaDoorAv1
namespace Go.Av
open Go Go.RowKit

/-- What a cell of a frame or of an owned box is known to hold. -/
inductive BV where
  | pv (p : PV)
  | nils
  | sl (id : Nat)
  | ptr (id off : Nat)
  | elt (id i off : Nat)
  | clo (f : Fn) (ids : List Nat)
  deriving Inhabited

inductive AV where
  | b (x : BV)
  | agg (xs : List BV)
  deriving Inhabited

/-- A value of plain data. -/
abbrev AV.p (x : PV) : AV := .b (.pv x)
abbrev AV.v (x : Value) : AV := .b (.pv (.sc x))

def AV.cells : AV → List BV
  | .agg xs => xs
  | .b (.pv p) => p.cells.map .pv
  | .b x => [x]

/-- An object of the call's own. -/
inductive AObj where
  | gone
  | box (t : TypeId) (cs : List BV)
  | vec (e : TypeId) (sz : Nat) (xs : List PV)
  deriving Inhabited

structure St where
  fr : List (Nat × AV)
  hp : List AObj

def look : List (Nat × AV) → Nat → Option AV
  | [], _ => none
  | (k, a) :: l, t => if t = k then some a else look l t

def St.put (st : St) (d : Nat) (a : AV) : St := { st with fr := (d, a) :: st.fr }

/-! ### Operands, operations -/
inductive SX where
  | tm (k : Nat)
  | c (v : Value)
  | g (n : Nat)
  | f (n : Nat)
  deriving Inhabited

def SX.of : Operand → SX
  | .tmp k => .tm k
  | .const v => .c v
  | .global n => .g n
  | .func n => .f n

inductive SOp where
  | mv (x : SX)
  | pick (c a b : SX)
  | bin (op : BinOp) (x y : SX)
  | eqB (neg : Bool) (x y : SX)
  | un (op : UnOp) (x : SX)
  | len (str : Bool) (x : SX)
  | idxS (x i : SX)
  | idxV (n sz : Nat) (ag : Bool) (x i : SX)
  | idxA (sz : Nat) (x i : SX)
  | idxP (n sz : Nat) (x i : SX)
  | fldA (off sz : Nat) (ag : Bool) (x : SX)
  | fld (off sz : Nat) (ag : Bool) (x : SX)
  | load (sz : Nat) (ag : Bool) (x : SX)
  | store (sz : Nat) (x v : SX)
  | alloc (t : TypeId) (zero : List Value)
  | box (t : TypeId) (x : SX)
  | build (zero : List Value) (parts : List (Nat × Nat × SX))
  | bslice (own : Bool) (e : TypeId) (sz len : Nat) (parts : List SX)
  | mslice (e : TypeId) (sz bytes : Nat) (zero : Value) (l c : SX)
  | append (e : TypeId) (sz bytes : Nat) (x y : SX)
  | cvtI (k : IntKind) (x : SX)
  | slc (sz : Nat) (x : SX) (lo hi mx : Option SX)
  | slcS (x : SX) (lo hi : Option SX)
  | ext (x : SX) (i : Nat)
  | nilc (x : SX)
  | call (bor : Bool) (f : FuncId) (args : List SX)
  | callO (bor : Bool) (e : TypeId) (sz : Nat) (f : FuncId) (args : List SX)
  | b2s (x : SX)
  deriving Inhabited

structure SOper where
  dst : Option Nat
  op : SOp
  gd : Option (Nat × Bool)
  deriving Inhabited

inductive SCode where
  | skip
  | region (ops : List SOper)
  | draw (ops : List SOper) (after : List (List Nat))
  | seq (a b : SCode)
  | cond (c : SX) (thn els : SCode)
  | block (id : Nat) (body : SCode)
  | loop (body : SCode)
  | exit (id : Nat)
  | scope (body : SCode)
  | ret
  deriving Inhabited

/-! ### What operands are -/
def constB : Value → BV
  | .slice none 0 0 => .nils
  | v => .pv (.sc v)
def constA : Value → AV
  | .agg cs => .agg (cs.toList.map constB)
  | v => .b (constB v)

def St.get (st : St) : SX → Option AV
  | .tm k => look st.fr k
  | .c v => some (constA v)
  | .g n => some (.v (.pointer (some ⟨n, 0, none⟩)))
  | .f n => some (.p (.fn (.func n) []))

/-- Carry on with what an option holds. -/
def bindA {α : Type} (o : Option α) (K : α → Prop) : Prop := ∃ a, o = some a ∧ K a
theorem bindA_some {α : Type} (a : α) (K : α → Prop) : bindA (some a) K = K a := by simp [bindA]

def isV (a : AV) (K : Value → Prop) : Prop := ∃ v, a = .v v ∧ K v
theorem isV_v (v : Value) (K : Value → Prop) : isV (.b (.pv (.sc v))) K = K v := by simp [isV]

def isInt (v : Value) (K : IntKind → Int → Prop) : Prop := ∃ k n, v = .int k n ∧ K k n
theorem isInt_int (k : IntKind) (n : Int) (K : IntKind → Int → Prop) : isInt (.int k n) K = K k n := by
  simp only [isInt, eq_iff_iff]
  exact ⟨fun ⟨_, _, h, hk⟩ => by cases h; exact hk, fun h => ⟨k, n, rfl, h⟩⟩

def isBool (v : Value) (K : Bool → Prop) : Prop := ∃ b, v = .bool b ∧ K b
theorem isBool_bool (b : Bool) (K : Bool → Prop) : isBool (.bool b) K = K b := by simp [isBool]
def isStr (v : Value) (K : ByteArray → Prop) : Prop := ∃ s, v = .string s ∧ K s
theorem isStr_str (s : ByteArray) (K : ByteArray → Prop) : isStr (.string s) K = K s := by simp [isStr]

/-- The elements of a slice that can be read: plain data, or the call's own. -/
def isList (hp : List AObj) (sz : Nat) (a : AV) (K : List PV → Prop) : Prop :=
  (a = .b .nils ∧ K []) ∨ (∃ L, a = .p (lst sz L) ∧ K L) ∨ (∃ id e L, a = .b (.sl id) ∧ hp[id]? = some (.vec e sz L) ∧ K L)
theorem lst_inj {sz : Nat} {L L' : List PV} (h : lst sz L = lst sz L') : L = L' := by
  cases L <;> cases L' <;> simp_all [lst]
theorem lst_len {sz sz' : Nat} {L L' : List PV} (h : lst sz L = lst sz' L') : L = L' := by
  cases L <;> cases L' <;> simp_all [lst]
theorem isList_lst (hp : List AObj) (sz : Nat) (L : List PV) (K : List PV → Prop) : isList hp sz (.b (.pv (lst sz L))) K = K L := by
  simp only [isList, AV.p, eq_iff_iff]
  constructor
  · rintro (⟨h, _⟩ | ⟨L', h, hk⟩ | ⟨id, e, L', h, _⟩)
    · simp at h
    · simp only [AV.b.injEq, BV.pv.injEq] at h
      rw [lst_inj h]; exact hk
    · simp at h
  · exact fun h => .inr (.inl ⟨L, rfl, h⟩)
theorem isList_nil (hp : List AObj) (sz : Nat) (K : List PV → Prop) : isList hp sz (.b (.pv (.list 0 []))) K = K [] := isList_lst hp sz [] K
theorem isList_sl (hp : List AObj) (sz id : Nat) (K : List PV → Prop) : isList hp sz (.b (.sl id)) K = bindA hp[id]? (fun o => ∃ e L, o = .vec e sz L ∧ K L) := by
  simp only [isList, bindA, AV.p, eq_iff_iff]
  constructor
  · rintro (⟨h, _⟩ | ⟨L', h, _⟩ | ⟨id', e, L', h, h2, hk⟩)
    · simp at h
    · simp at h
    · simp only [AV.b.injEq, BV.sl.injEq] at h; subst h; exact ⟨_, h2, e, L', rfl, hk⟩
  · rintro ⟨o, h, e, L, rfl, hk⟩; exact .inr (.inr ⟨id, e, L, rfl, h, hk⟩)
theorem isList_nils (hp : List AObj) (sz : Nat) (K : List PV → Prop) : isList hp sz (.b .nils) K = K [] := by
  simp [isList]

/-- The length of a slice. -/
def isLen (hp : List AObj) (a : AV) (K : Nat → Prop) : Prop :=
  (a = .b .nils ∧ K 0) ∨ (∃ sz L, a = .p (lst sz L) ∧ K L.length) ∨ (∃ id e sz L, a = .b (.sl id) ∧ hp[id]? = some (.vec e sz L) ∧ K L.length)
theorem isLen_lst (hp : List AObj) (sz : Nat) (L : List PV) (K : Nat → Prop) : isLen hp (.b (.pv (lst sz L))) K = K L.length := by
  simp only [isLen, AV.p, eq_iff_iff]
  constructor
  · rintro (⟨h, _⟩ | ⟨sz', L', h, hk⟩ | ⟨id, e, sz, L', h, _⟩)
    · simp at h
    · simp only [AV.b.injEq, BV.pv.injEq] at h
      rw [lst_len h]; exact hk
    · simp at h
  · exact fun h => .inr (.inl ⟨sz, L, rfl, h⟩)
theorem isLen_nils (hp : List AObj) (K : Nat → Prop) : isLen hp (.b .nils) K = K 0 := by
  simp [isLen]
theorem isLen_nil (hp : List AObj) (K : Nat → Prop) : isLen hp (.b (.pv (.list 0 []))) K = K 0 := isLen_lst hp 0 [] K
theorem isLen_sl (hp : List AObj) (id : Nat) (K : Nat → Prop) : isLen hp (.b (.sl id)) K = bindA hp[id]? (fun o => ∃ e sz L, o = .vec e sz L ∧ K L.length) := by
  simp only [isLen, bindA, AV.p, eq_iff_iff]
  constructor
  · rintro (⟨h, _⟩ | ⟨sz', L', h, _⟩ | ⟨id', e, sz, L', h, h2, hk⟩)
    · simp at h
    · simp at h
    · simp only [AV.b.injEq, BV.sl.injEq] at h; subst h; exact ⟨_, h2, e, sz, L', rfl, hk⟩
  · rintro ⟨o, h, e, sz, L, rfl, hk⟩; exact .inr (.inr ⟨id, e, sz, L, rfl, h, hk⟩)

/-! ### Scalars -/
def bitsI (k : IntKind) (op : BinOp) (x y : Int) : Int :=
  match op with
  | .and => k.wrap (BitVec.ofInt k.bits x &&& BitVec.ofInt k.bits y).toNat
  | .or => k.wrap (BitVec.ofInt k.bits x ||| BitVec.ofInt k.bits y).toNat
  | .xor => k.wrap (BitVec.ofInt k.bits x ^^^ BitVec.ofInt k.bits y).toNat
  | _ => k.wrap (BitVec.ofInt k.bits x &&& ~~~ BitVec.ofInt k.bits y).toNat

/-- Two scalars; K gets the result. -/
def binV (op : BinOp) (x y : Value) (K : Value → Prop) : Prop :=
  match x, y with
  | .int k a, .int k' b =>
    match op with
    | .add => k = k' ∧ K (.int k (k.wrap (a + b)))
    | .sub => k = k' ∧ K (.int k (k.wrap (a - b)))
    | .mul => k = k' ∧ K (.int k (k.wrap (a * b)))
    | .quo => k = k' ∧ b ≠ 0 ∧ K (.int k (k.wrap (a.tdiv b)))
    | .rem => k = k' ∧ b ≠ 0 ∧ K (.int k (a.tmod b))
    | .and => k = k' ∧ K (.int k (bitsI k .and a b))
    | .or => k = k' ∧ K (.int k (bitsI k .or a b))
    | .xor => k = k' ∧ K (.int k (bitsI k .xor a b))
    | .andNot => k = k' ∧ K (.int k (bitsI k .andNot a b))
    | .shl => 0 ≤ b ∧ K (.int k (k.wrap (a * 2 ^ (min b.toNat k.bits))))
    | .shr => 0 ≤ b ∧ K (.int k (a.fdiv (2 ^ (min b.toNat k.bits))))
    | .eql => k = k' ∧ K (.bool (a == b))
    | .neq => k = k' ∧ K (.bool (a != b))
    | .lss => k = k' ∧ K (.bool (decide (a < b)))
    | .leq => k = k' ∧ K (.bool (decide (a ≤ b)))
    | .gtr => k = k' ∧ K (.bool (decide (a > b)))
    | .geq => k = k' ∧ K (.bool (decide (a ≥ b)))
  | .string a, .string b =>
    match op with
    | .add => a.size + b.size ≤ 9223372036854775807 ∧ K (.string (a ++ b))
    | .eql => K (.bool (a.toList == b.toList))
    | .neq => K (.bool !(a.toList == b.toList))
    | .lss => K (.bool (Op.bytesLess a.toList b.toList))
    | .leq => K (.bool (Op.bytesLess a.toList b.toList || a.toList == b.toList))
    | .gtr => K (.bool !(Op.bytesLess a.toList b.toList || a.toList == b.toList))
    | .geq => K (.bool !(Op.bytesLess a.toList b.toList))
    | _ => False
  | _, _ => False

def unV (op : UnOp) (x : Value) (K : Value → Prop) : Prop :=
  match op, x with
  | .not, .bool b => K (.bool !b)
  | .neg, .int k n => K (.int k (k.wrap (0 - n)))
  | _, _ => False

/-! ### Memory -/
def PV.isAgg : PV → Bool
  | .agg _ => true
  | _ => false
def PV.sub (x : PV) (off sz : Nat) (ag : Bool) : PV := match ag with
  | true => .agg ((x.cells.drop off).take sz)
  | false => x.cells.getD off .any
def BV.toPV : BV → Option PV
  | .pv p => some p
  | .nils => some (.list 0 [])
  | _ => none
/-- A value all of whose cells are plain data. -/
def AV.toPV : AV → Option PV
  | .b x => x.toPV
  | .agg xs => (xs.mapM BV.toPV).map .agg
/-- May it lie in a cell? -/
def PV.cellOk : PV → Bool
  | .sc v => v.oneCell'
  | .list .. | .pto _ | .fn .. => true
  | _ => false
def PV.ok (p : PV) : Bool := p.cells.all PV.cellOk
def BV.cellOk : BV → Bool
  | .pv p => p.cellOk
  | _ => true

/-- May all its cells lie in cells? -/
def AV.ok (x : AV) : Bool := x.cells.all BV.cellOk

def splice {α : Type} (xs : List α) (off : Nat) (ys : List α) : List α := xs.take off ++ ys ++ xs.drop (off + ys.length)

/-- A variable as a whole. -/
def ofCells (ag : Bool) (cs : List BV) : AV := match ag with
  | true => .agg cs
  | false => .b (cs.headD (.pv .any))

def loadA (hp : List AObj) (sz : Nat) (ag : Bool) (a : AV) (K : AV → Prop) : Prop :=
  match a with
  | .b (.pv (.pto x)) => x.isAgg = ag ∧ x.cells.length = sz ∧ K (.p x)
  | .b (.ptr id off) => bindA hp[id]? fun o => ∃ t cs, o = .box t cs ∧ off + sz ≤ cs.length ∧ (ag = false → sz = 1) ∧ K (ofCells ag ((cs.drop off).take sz))
  | .b (.elt id i off) => bindA hp[id]? fun o => ∃ e s xs, o = .vec e s xs ∧ i < xs.length ∧ off + sz ≤ s ∧ (ag = false → sz = 1) ∧
      ((off = 0 ∧ sz = s ∧ (xs.getD i .any).isAgg = ag ∧ K (.p (xs.getD i .any))) ∨ (sz ≠ s ∧ K (.p ((xs.getD i .any).sub off sz ag))))
  | _ => False

def storeA (hp : List AObj) (sz : Nat) (a v : AV) (K : List AObj → Prop) : Prop :=
  match a with
  | .b (.ptr id off) => bindA hp[id]? fun o => ∃ t cs, o = .box t cs ∧ v.cells.length = sz ∧ off + sz ≤ cs.length ∧ v.ok = true ∧ K (hp.set id (.box t (splice cs off v.cells)))
  | .b (.elt id i off) => bindA hp[id]? fun o => ∃ e s xs, o = .vec e s xs ∧ i < xs.length ∧ bindA v.toPV fun p => p.cells.length = sz ∧ p.ok = true ∧
      ((off = 0 ∧ sz = s ∧ K (hp.set id (.vec e s (xs.set i p)))) ∨ (sz ≠ s ∧ off + sz ≤ s ∧ K (hp.set id (.vec e s (xs.set i (.agg (splice (xs.getD i .any).cells off p.cells)))))))
  | _ => False

/-- The names of an owned slice that has moved. -/
def BV.kill (id : Nat) : BV → BV
  | .sl k => if k = id then .pv .any else .sl k
  | .elt k i o => if k = id then .pv .any else .elt k i o
  | x => x
def AV.kill (id : Nat) : AV → AV
  | .b x => .b (x.kill id)
  | .agg xs => .agg (xs.map (BV.kill id))
def AObj.kill (id : Nat) : AObj → AObj
  | .box t cs => .box t (cs.map (BV.kill id))
  | o => o
def St.kill (st : St) (id : Nat) : St := { st with fr := st.fr.map fun x => (x.1, x.2.kill id), hp := st.hp.map (AObj.kill id) }

/-- An owned slice that has moved. -/
def St.moved (st : St) (id : Nat) (o : AObj) : St := ⟨st.fr.map fun x => (x.1, x.2.kill id), (st.hp.map (AObj.kill id)).set id o⟩

def argPV (hp : List AObj) (bor : Bool) : AV → Option PV
  | .b (.sl id) => if bor then (match hp[id]? with | some (.vec _ sz xs) => some (lst sz xs) | _ => none) else none
  | a => a.toPV

/-- A bound of a slice expression. -/
def bnd (st : St) (x : Option SX) (dflt : Nat) (K : Nat → Prop) : Prop := match x with
  | none => K dflt
  | some x => bindA (st.get x) fun a => isV a fun v => isInt v fun _ n => 0 ≤ n ∧ K n.toNat

/-! ### Calls -/
/-- CALLED WITH VALUES THAT READ AS ps, in whatever memory, the function returns; what was there is as it was; its result reads as a p with R p. -/
def PCalls (P : Program) (f : FuncId) (ps : List PV) (R : PV → Prop) : Prop :=
  ∀ (w : World) (D : Nat → Prop) (vs : List Value), GW w → (∀ b, D b → b < w.heap.size) → vs.length = ps.length → (∀ (i : Nat) (v : Value) (p : PV), vs[i]? = some v → ps[i]? = some p → RelP D w v p) →
    Calls P f vs.toArray w fun e w' => ∃ v p, e = .returned v ∧ R p ∧ Below w.heap.size w w' ∧ RelP (fun b => D b ∨ (w.heap.size ≤ b ∧ b < w'.heap.size)) w' v p

theorem PCalls.mono {P : Program} {f : FuncId} {ps : List PV} {R R' : PV → Prop} (h : PCalls P f ps R) (hr : ∀ p, R p → R' p) : PCalls P f ps R' :=
  fun w D vs h0 h1 h2 h3 => (h w D vs h0 h1 h2 h3).mono fun _ _ ⟨v, p, e, r, b, k⟩ => ⟨v, p, e, hr p r, b, k⟩

/-- THE SAME, OF A FUNCTION THAT HANDS BACK A SLICE OF ITS OWN MAKING: its row is free. -/
def OCalls (P : Program) (f : FuncId) (ps : List PV) (e : TypeId) (sz : Nat) (R : List PV → Prop) : Prop :=
  ∀ (w : World) (D : Nat → Prop) (vs : List Value), GW w → (∀ b, D b → b < w.heap.size) → vs.length = ps.length → (∀ (i : Nat) (v : Value) (p : PV), vs[i]? = some v → ps[i]? = some p → RelP D w v p) →
    Calls P f vs.toArray w fun en w' => ∃ v xs, en = .returned v ∧ R xs ∧ Below w.heap.size w w' ∧
      ((xs = [] ∧ v = .slice none 0 0) ∨ ∃ g cap, ∃ c : Array Value, v = .slice (some ⟨g, 0, none⟩) xs.length cap ∧ w.heap.size ≤ g ∧ g < w'.heap.size ∧ xs.length ≤ cap ∧ cap ≤ maxLen ∧ (∀ x ∈ xs, x.cells.length = sz) ∧ w'.heap[g]? = some (.cells c e (0, 0)) ∧ c.size = cap * sz ∧
        ∀ (i j : Nat) (x y : PV), xs[i]? = some x → x.cells[j]? = some y → ∃ u, c[i * sz + j]? = some u ∧ RelP (fun b => D b ∨ (w.heap.size ≤ b ∧ b < w'.heap.size ∧ b ≠ g)) w' u y)

theorem OCalls.mono {P : Program} {f : FuncId} {ps : List PV} {e : TypeId} {sz : Nat} {R R' : List PV → Prop} (h : OCalls P f ps e sz R) (hr : ∀ p, R p → R' p) : OCalls P f ps e sz R' :=
  fun w D vs h0 h1 h2 h3 => (h w D vs h0 h1 h2 h3).mono fun _ _ ⟨v, p, e, r, b, k⟩ => ⟨v, p, e, hr p r, b, k⟩

/-- Bytes, out of the elements of a slice. -/
def bytesOf : List PV → Option (List Int)
  | [] => some []
  | .sc (.int .u8 n) :: l => (bytesOf l).map (n :: ·)
  | _ => none

/-! ### One operation -/
/-- The operations that leave the objects alone: what they yield. -/
def sev (P : Program) (st : St) (op : SOp) (K : AV → Prop) : Prop :=
  match op with
  | .mv x => bindA (st.get x) K
  | .pick c a b => bindA (st.get c) fun c => isV c fun t => isBool t fun t => (t = true → bindA (st.get a) K) ∧ (t = false → bindA (st.get b) K)
  | .bin op x y => bindA (st.get x) fun x => bindA (st.get y) fun y => isV x fun x => isV y fun y => binV op x y fun v => K (.v v)
  | .eqB neg x y => bindA (st.get x) fun x => bindA (st.get y) fun y => isV x fun x => isV y fun y => isBool x fun a => isBool y fun b => K (.v (.bool (neg ^^ (a == b))))
  | .un op x => bindA (st.get x) fun x => isV x fun x => unV op x fun v => K (.v v)
  | .len str x => bindA (st.get x) fun x => match str with
    | false => isLen st.hp x fun n => K (.v (.int .i64 n))
    | true => isV x fun x => isStr x fun s => K (.v (.int .i64 s.size))
  | .idxS x i => bindA (st.get x) fun x => bindA (st.get i) fun i => isV x fun x => isV i fun i => isInt i fun _ n => isStr x fun s => 0 ≤ n ∧ n < s.size ∧ K (.v (.int .u8 (s.toList.getD n.toNat 0).toNat))
  | .idxV n sz ag x i => bindA (st.get x) fun x => bindA (st.get i) fun i => isV i fun i => isInt i fun _ m => bindA x.toPV fun p => 0 ≤ m ∧ m < n ∧ (ag = false → sz = 1) ∧ p.cells.length = n * sz ∧ p.isAgg = true ∧ K (.p (p.sub (m.toNat * sz) sz ag))
  | .idxA sz x i => bindA (st.get x) fun x => bindA (st.get i) fun i => isV i fun i => isInt i fun _ n =>
      ((∃ L, x = .p (lst sz L) ∧ 0 ≤ n ∧ n < L.length ∧ K (.p (.pto (L.getD n.toNat .any)))) ∨ (∃ id, x = .b (.sl id) ∧ bindA st.hp[id]? fun o => ∃ e L, o = .vec e sz L ∧ 0 ≤ n ∧ n < L.length ∧ K (.b (.elt id n.toNat 0))))
  | .idxP n sz x i => bindA (st.get x) fun x => bindA (st.get i) fun i => isV i fun i => isInt i fun _ m => 0 ≤ m ∧ m < n ∧ (∃ id off, x = .b (.ptr id off) ∧ K (.b (.ptr id (off + m.toNat * sz))))
  | .fldA off sz ag x => bindA (st.get x) fun x => (∃ p, x = .p (.pto p) ∧ off + sz ≤ p.cells.length ∧ (ag = false → sz = 1) ∧ (p.sub off sz ag).isAgg = ag ∧ K (.p (.pto (p.sub off sz ag)))) ∨ (∃ id o, x = .b (.ptr id o) ∧ K (.b (.ptr id (o + off)))) ∨ (∃ id i o, x = .b (.elt id i o) ∧ K (.b (.elt id i (o + off))))
  | .fld off sz ag x => bindA (st.get x) fun x => (∃ p, x = .p p ∧ p.isAgg = true ∧ off + sz ≤ p.cells.length ∧ (ag = false → sz = 1) ∧ K (.p (p.sub off sz ag))) ∨ (∃ cs, x = .agg cs ∧ off + sz ≤ cs.length ∧ (ag = false → sz = 1) ∧ K (ofCells ag ((cs.drop off).take sz)))
  | .load sz ag x => bindA (st.get x) fun x => loadA st.hp sz ag x K
  | .cvtI k x => bindA (st.get x) fun x => isV x fun x => isInt x fun _ n => K (.v (.int k (k.wrap n)))
  | .slc sz x lo hi mx => bindA (st.get x) fun x => ∃ L, x = .p (lst sz L) ∧ bnd st lo 0 fun l => bnd st hi L.length fun h => bnd st mx L.length fun m =>
      (mx.isSome = true → hi.isSome = true) ∧ l ≤ h ∧ h ≤ m ∧ m ≤ L.length ∧ K (.p (lst sz ((L.take h).drop l)))
  | .slcS x lo hi => bindA (st.get x) fun x => isV x fun x => isStr x fun s => bnd st lo 0 fun l => bnd st hi s.size fun h =>
      l ≤ h ∧ h ≤ s.size ∧ K (.v (.string (s.extract l h)))
  | .ext x i => bindA (st.get x) fun x => ∃ xs, x = .p (.tup xs) ∧ bindA xs[i]? fun p => K (.p p)
  | .nilc x => bindA (st.get x) fun x => ((∃ p, x = .p (.pto p)) ∨ (∃ id o, x = .b (.ptr id o)) ∨ (∃ id i o, x = .b (.elt id i o)) ∨ (∃ f ps, x = .p (.fn (.func f) ps)) ∨ (∃ f ids, x = .b (.clo (.func f) ids))) ∧ K x
  | .build zero parts => bindA (parts.mapM fun q => (st.get q.2.2).map fun a => (q.1, q.2.1, a)) fun ps =>
      (∀ q ∈ ps, q.2.2.ok = true ∧ q.2.2.cells.length = q.2.1 ∧ q.1 + q.2.1 ≤ zero.length) ∧ K (.agg (ps.foldl (fun cs q => splice cs q.1 q.2.2.cells) (zero.map fun v => constB v)))
  | .call bor f args => bindA (args.mapM fun x => (st.get x).bind (argPV st.hp bor)) fun ps => PCalls P f ps fun r => (bor = true → r.Flat) ∧ K (.p r)
  | .b2s x => bindA (st.get x) fun x => isList st.hp 1 x fun L => bindA (bytesOf L) fun l => K (.v (.string (strOfNums l)))
  | .bslice false _ sz len parts => bindA (parts.mapM fun x => (st.get x).bind AV.toPV) fun ps => ps.length = len ∧ 0 < sz ∧ len * sz ≤ 16777216 ∧ (∀ p ∈ ps, p.cells.length = sz ∧ p.ok = true) ∧ K (.p (lst sz ps))
  | _ => False

def St.putO (st : St) (d : Option Nat) (a : AV) : St := match d with
  | some d => st.put d a
  | none => st

/-- All operations. -/
def sexec (P : Program) (d : Option Nat) (op : SOp) (st : St) (K : St → Prop) : Prop :=
  match op with
  | .store sz x v => bindA (st.get x) fun x => bindA (st.get v) fun v => d = none ∧ storeA st.hp sz x v fun hp => K { st with hp := hp }
  | .alloc t zero => K ({ st with hp := st.hp ++ [AObj.box t (zero.map fun v => constB v)] }.putO d (.b (.ptr st.hp.length 0)))
  | .box t x => bindA (st.get x) fun x => x.ok = true ∧ K ({ st with hp := st.hp ++ [AObj.box t x.cells] }.putO d (.b (.ptr st.hp.length 0)))
  | .bslice true e sz len parts => bindA (parts.mapM fun x => (st.get x).bind AV.toPV) fun ps => ps.length = len ∧ 0 < sz ∧ len * sz ≤ 16777216 ∧ (∀ p ∈ ps, p.cells.length = sz ∧ p.ok = true) ∧
      K ({ st with hp := st.hp ++ [AObj.vec e sz ps] }.putO d (.b (.sl st.hp.length)))
  | .mslice e sz bytes zero l c => bindA (st.get l) fun l => bindA (st.get c) fun c => isV l fun l => isV c fun c => isInt l fun _ l => isInt c fun _ c =>
      0 ≤ l ∧ l ≤ c ∧ c ≤ 9223372036854775807 ∧ bytes * c ≤ 281474976710656 ∧ (constA zero).cells.length = sz ∧ 0 < sz ∧ bindA (constA zero).toPV fun z => z.ok = true ∧ K ({ st with hp := st.hp ++ [AObj.vec e sz (List.replicate l.toNat z)] }.putO d (.b (.sl st.hp.length)))
  | .append e sz bytes x y => bindA (st.get x) fun x => bindA (st.get y) fun y => isList st.hp sz y fun L => (∀ p ∈ L, p.ok = true) ∧
      ((∃ id, x = .b (.sl id) ∧ bindA st.hp[id]? fun o => ∃ xs, o = .vec e sz xs ∧ (xs.length + L.length) * bytes ≤ 140737488355328 ∧
          K ((st.moved id (.vec e sz (xs ++ L))).putO d (.b (.sl id)))) ∨
       (x = .b .nils ∧ L.length * bytes ≤ 140737488355328 ∧ K ({ st with hp := st.hp ++ [AObj.vec e sz L] }.putO d (.b (.sl st.hp.length)))))
  | .callO bor e sz f args => bindA (args.mapM fun x => (st.get x).bind (argPV st.hp bor)) fun ps => OCalls P f ps e sz fun xs => (bor = true → ∀ x ∈ xs, ∀ y ∈ x.cells, y.Flat) ∧ K ({ st with hp := st.hp ++ [AObj.vec e sz xs] }.putO d (.b (.sl st.hp.length)))
  | op => sev P st op fun a => K (st.putO d a)

def yv : Value → Option Bool
  | .bool b => some b
  | _ => none

def sstep (P : Program) (o : SOper) (st : St) (K : St → Prop) : Prop :=
  match o.gd with
  | none => sexec P o.dst o.op st K
  | some (t, want) => bindA (look st.fr t) fun g => isV g fun v => (yv v = some want → sexec P o.dst o.op st K) ∧ (yv v ≠ some want → K (st.putO o.dst (.v undef)))

def sops (P : Program) : List SOper → St → (St → Prop) → Prop
  | [], st, K => K st
  | o :: l, st, K => sstep P o st fun st' => sops P l st' K

end Go.Av
