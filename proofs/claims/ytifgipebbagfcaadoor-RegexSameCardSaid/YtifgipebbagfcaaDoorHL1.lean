/- Part ML1 of the layer: an abstract and a typed machine over the loaded code, proved sound. -/
import Derived.WalkKit
import Derived.KernelRfl
import Derived.Deep.Quiet
import Derived.Test.YtifgipebbagfcaaDoorGw
set_option linter.unusedVariables false
set_option linter.unusedSimpArgs false
namespace Go.Av
open Go Go.RowKit
inductive PV where
  | sc (v : Value)
  | list (sz : Nat) (xs : List PV)
  | agg (xs : List PV)
  | tup (xs : List PV)
  | pto (x : PV)
  | fn (f : Fn) (caps : List PV)
  | any
  deriving Inhabited
def PV.cells : PV → List PV
  | .agg xs => xs
  | x => [x]
def lst (sz : Nat) : List PV → PV
  | [] => .list 0 []
  | x :: xs => .list sz (x :: xs)
inductive RelP (D : Nat → Prop) (w : World) : Value → PV → Prop
  | sc (v : Value) : RelP D w v (.sc v)
  | any (v : Value) : RelP D w v .any
  | agg (vs : Array Value) (xs : List PV) (hs : vs.size = xs.length) (h : ∀ (i : Nat) (v : Value) (x : PV), vs[i]? = some v → xs[i]? = some x → RelP D w v x) : RelP D w (.agg vs) (.agg xs)
  | tup (vs : Array Value) (xs : List PV) (hs : vs.size = xs.length) (h : ∀ (i : Nat) (v : Value) (x : PV), vs[i]? = some v → xs[i]? = some x → RelP D w v x) : RelP D w (.tuple vs) (.tup xs)
  | nil (a : Option Addr) (cap : Nat) : RelP D w (.slice a 0 cap) (.list 0 [])
  | list (b o cap sz : Nat) (x0 : PV) (xs : List PV) (val : Nat → Nat → Value) (hcap : (x0 :: xs).length ≤ cap) (hD : D b) (hsz : ∀ x ∈ x0 :: xs, x.cells.length = sz)
      (hc : ∀ (i j : Nat) (x y : PV), (x0 :: xs)[i]? = some x → x.cells[j]? = some y → w.cell? ⟨b, o + i * sz + j, none⟩ = some (val i j))
      (hr : ∀ (i j : Nat) (x y : PV), (x0 :: xs)[i]? = some x → x.cells[j]? = some y → RelP D w (val i j) y) :
      RelP D w (.slice (some ⟨b, o, none⟩) (x0 :: xs).length cap) (.list sz (x0 :: xs))
  | pto (b o : Nat) (x : PV) (val : Nat → Value) (hD : D b) (hc : ∀ (j : Nat) (y : PV), x.cells[j]? = some y → w.cell? ⟨b, o + j, none⟩ = some (val j))
      (hr : ∀ (j : Nat) (y : PV), x.cells[j]? = some y → RelP D w (val j) y) : RelP D w (.pointer (some ⟨b, o, none⟩)) (.pto x)
  | fn (f : Fn) (vs : Array Value) (xs : List PV) (hs : vs.size = xs.length) (h : ∀ (i : Nat) (v : Value) (x : PV), vs[i]? = some v → xs[i]? = some x → RelP D w v x) : RelP D w (.func f #[] vs) (.fn f xs)
theorem cell_same {w w' : World} {a : Addr} (h : w'.heap[a.block]? = w.heap[a.block]?) : w'.cell? a = w.cell? a := World.cell?_of_block h
theorem RelP.mono {D D' : Nat → Prop} {w w' : World} (hD : ∀ b, D b → D' b) (hw : ∀ b, D b → w'.heap[b]? = w.heap[b]?) {v : Value} {p : PV} (h : RelP D w v p) : RelP D' w' v p := by
  induction h with
  | sc v => exact .sc v
  | any v => exact .any v
  | agg vs xs hs _ ih => exact .agg vs xs hs ih
  | tup vs xs hs _ ih => exact .tup vs xs hs ih
  | nil a cap => exact .nil a cap
  | list b o cap sz x0 xs val hcap hb hsz hc _ ih =>
    exact .list b o cap sz x0 xs val hcap (hD b hb) hsz (fun i j x y hx hy => by rw [cell_same (hw b hb)]; exact hc i j x y hx hy) ih
  | pto b o x val hb hc _ ih => exact .pto b o x val (hD b hb) (fun j y hy => by rw [cell_same (hw b hb)]; exact hc j y hy) ih
  | fn f vs xs hs _ ih => exact .fn f vs xs hs ih
inductive PV.Flat : PV → Prop
  | sc (v : Value) : Flat (.sc v)
  | any : Flat .any
  | agg (xs : List PV) (h : ∀ (i : Nat) (x : PV), xs[i]? = some x → Flat x) : Flat (.agg xs)
  | tup (xs : List PV) (h : ∀ (i : Nat) (x : PV), xs[i]? = some x → Flat x) : Flat (.tup xs)
theorem RelP.flat {D D' : Nat → Prop} {w w' : World} {v : Value} {p : PV} (h : RelP D w v p) (hf : p.Flat) : RelP D' w' v p := by
  induction h with
  | sc v => exact .sc v
  | any v => exact .any v
  | agg vs xs hs _ ih => cases hf with | agg _ hh => exact .agg vs xs hs fun i v x hv hx => ih i v x hv hx (hh i x hx)
  | tup vs xs hs _ ih => cases hf with | tup _ hh => exact .tup vs xs hs fun i v x hv hx => ih i v x hv hx (hh i x hx)
  | nil a cap => exact .nil a cap
  | list => cases hf
  | pto => cases hf
  | fn => cases hf
theorem relP_lst {D : Nat → Prop} {w : World} {v : Value} {sz : Nat} {xs : List PV} (h : RelP D w v (lst sz xs)) :
    ∃ a cap, v = .slice a xs.length cap ∧ xs.length ≤ cap ∧ (0 < xs.length → ∃ b o, a = some ⟨b, o, none⟩ ∧ D b ∧ (∀ x ∈ xs, x.cells.length = sz) ∧
      ∀ (i j : Nat) (x y : PV), xs[i]? = some x → x.cells[j]? = some y → ∃ u, w.cell? ⟨b, o + i * sz + j, none⟩ = some u ∧ RelP D w u y) := by
  cases xs with
  | nil =>
    cases h with
    | nil a cap => exact ⟨a, cap, rfl, Nat.zero_le _, fun h => absurd h (by simp)⟩
  | cons x0 xs =>
    cases h with
    | list b o cap _ _ _ val hcap hb hsz hc hr =>
      exact ⟨_, cap, rfl, hcap, fun _ => ⟨b, o, rfl, hb, hsz, fun i j x y hx hy => ⟨val i j, hc i j x y hx hy, hr i j x y hx hy⟩⟩⟩
theorem relP_lst_mk {D : Nat → Prop} {w : World} {sz : Nat} {xs : List PV} {a : Option Addr} {cap : Nat} (hcap : xs.length ≤ cap)
    (h : 0 < xs.length → ∃ b o, a = some ⟨b, o, none⟩ ∧ D b ∧ (∀ x ∈ xs, x.cells.length = sz) ∧
      ∀ (i j : Nat) (x y : PV), xs[i]? = some x → x.cells[j]? = some y → ∃ u, w.cell? ⟨b, o + i * sz + j, none⟩ = some u ∧ RelP D w u y) :
    RelP D w (.slice a xs.length cap) (lst sz xs) := by
  cases xs with
  | nil => exact .nil a cap
  | cons x0 xs =>
    obtain ⟨b, o, rfl, hb, hsz, hc⟩ := h (by simp)
    have key : ∀ i j, ∃ u, ∀ x y, (x0 :: xs)[i]? = some x → x.cells[j]? = some y → w.cell? ⟨b, o + i * sz + j, none⟩ = some u ∧ RelP D w u y := by
      intro i j
      by_cases hx : ∃ x y, (x0 :: xs)[i]? = some x ∧ x.cells[j]? = some y
      · obtain ⟨x, y, hx, hy⟩ := hx
        obtain ⟨u, h1, h2⟩ := hc i j x y hx hy
        refine ⟨u, fun x' y' hx' hy' => ?_⟩
        rw [hx] at hx'; cases hx'
        rw [hy] at hy'; cases hy'
        exact ⟨h1, h2⟩
      · exact ⟨undef, fun x y h1 h2 => absurd ⟨x, y, h1, h2⟩ hx⟩
    exact .list b o cap sz x0 xs (fun i j => (key i j).choose) hcap hb hsz (fun i j x y hx hy => ((key i j).choose_spec x y hx hy).1) (fun i j x y hx hy => ((key i j).choose_spec x y hx hy).2)
theorem relP_pto {D : Nat → Prop} {w : World} {v : Value} {x : PV} (h : RelP D w v (.pto x)) :
    ∃ b o, v = .pointer (some ⟨b, o, none⟩) ∧ D b ∧ ∀ (j : Nat) (y : PV), x.cells[j]? = some y → ∃ u, w.cell? ⟨b, o + j, none⟩ = some u ∧ RelP D w u y := by
  cases h with
  | pto b o _ val hb hc hr => exact ⟨b, o, rfl, hb, fun j y hy => ⟨val j, hc j y hy, hr j y hy⟩⟩
theorem relP_pto_mk {D : Nat → Prop} {w : World} {b o : Nat} {x : PV} (hb : D b)
    (h : ∀ (j : Nat) (y : PV), x.cells[j]? = some y → ∃ u, w.cell? ⟨b, o + j, none⟩ = some u ∧ RelP D w u y) : RelP D w (.pointer (some ⟨b, o, none⟩)) (.pto x) := by
  have key : ∀ j, ∃ u, ∀ y, x.cells[j]? = some y → w.cell? ⟨b, o + j, none⟩ = some u ∧ RelP D w u y := by
    intro j
    cases hj : x.cells[j]? with
    | none => exact ⟨undef, fun y h => by cases h⟩
    | some y =>
      obtain ⟨u, h1, h2⟩ := h j y hj
      exact ⟨u, fun y' hy' => by cases hy'; exact ⟨h1, h2⟩⟩
  exact .pto b o x (fun j => (key j).choose) hb (fun j y hy => ((key j).choose_spec y hy).1) (fun j y hy => ((key j).choose_spec y hy).2)
end Go.Av
namespace Go.Av
open Go Go.RowKit
inductive BV where
  | pv (p : PV)
  | nils
  | sl (id : Nat)
  | ptr (id off : Nat)
  | elt (id i off : Nat)
  | clo (f : Fn) (ids : List Nat)
  | mp (id : Nat)
  | full (p : PV)
  | ifc
  deriving Inhabited
inductive AV where
  | b (x : BV)
  | agg (xs : List BV)
  | tup (xs : List BV)
  deriving Inhabited
abbrev AV.p (x : PV) : AV := .b (.pv x)
abbrev AV.v (x : Value) : AV := .b (.pv (.sc x))
def AV.cells : AV → List BV
  | .agg xs => xs
  | .b (.pv p) => p.cells.map .pv
  | .b x => [x]
  | .tup _ => [.pv .any]
inductive K where
  | e
  | f (r : K)
  | s (t : TypeId) (sz : Nat) (sub r : K)
  deriving Inhabited, DecidableEq
def K.at : K → Nat → Option (TypeId × Nat × K)
  | .e, _ => none
  | .f _, 0 => none
  | .s t sz sub _, 0 => some (t, sz, sub)
  | .f r, n + 1 => r.at n
  | .s _ _ _ r, n + 1 => r.at n
def K.allF : K → Bool
  | .e => true
  | .f r => r.allF
  | .s _ _ _ _ => false
def K.flatB (k : K) (off n : Nat) : Bool := (List.range n).all fun j => (k.at (off + j)).isNone
inductive AObj where
  | gone
  | free
  | box (t : TypeId) (cs : List BV)
  | vec (e : TypeId) (sz : Nat) (xs : List PV)
  | map (k e : TypeId) (kvs : List (PV × PV))
  | tree (e : TypeId) (sz : Nat) (k : K) (xs : List PV) (hole : Option (Nat × Nat × BV))
  deriving Inhabited
structure St where
  fr : List (Nat × AV)
  hp : List AObj
def look : List (Nat × AV) → Nat → Option AV
  | [], _ => none
  | (k, a) :: l, t => if t = k then some a else look l t
def St.put (st : St) (d : Nat) (a : AV) : St := { st with fr := (d, a) :: st.fr }
inductive SX where
  | tm (k : Nat)
  | c (v : Value)
  | g (n : Nat)
  | f (n : Nat)
  deriving Inhabited
def SX.of : Operand → SX
  | .tmp k => .tm k
  | .const v => .c v
  | .global n => .g n
  | .func n => .f n
inductive SOp where
  | mv (x : SX)
  | pick (c a b : SX)
  | bin (op : BinOp) (x y : SX)
  | eqB (neg : Bool) (x y : SX)
  | un (op : UnOp) (x : SX)
  | len (str : Bool) (x : SX)
  | idxS (x i : SX)
  | idxV (n sz : Nat) (ag : Bool) (x i : SX)
  | idxA (sz : Nat) (x i : SX)
  | idxP (n sz : Nat) (ag : Bool) (x i : SX)
  | fldA (off sz : Nat) (ag : Bool) (x : SX)
  | fld (off sz : Nat) (ag : Bool) (x : SX)
  | load (sz : Nat) (ag : Bool) (x : SX)
  | store (sz : Nat) (x v : SX)
  | alloc (t : TypeId) (zero : List Value)
  | box (t : TypeId) (x : SX)
  | boxD (t : TypeId) (x : SX)
  | build (zero : List Value) (parts : List (Nat × Nat × SX))
  | bslice (own : Bool) (e : TypeId) (sz len : Nat) (parts : List SX)
  | mslice (e : TypeId) (sz bytes : Nat) (zero : Value) (l c : SX)
  | append (e : TypeId) (sz bytes : Nat) (x y : SX)
  | cvtI (k : IntKind) (x : SX)
  | slc (sz : Nat) (x : SX) (lo hi mx : Option SX)
  | slcS (x : SX) (lo hi : Option SX)
  | ext (x : SX) (i : Nat)
  | nilc (x : SX)
  | call (bor : Bool) (f : FuncId) (args : List SX)
  | callA (bor : Bool) (B : List Nat) (f : FuncId) (args : List SX)
  | callv (bor : Bool) (B : List Nat) (x : SX) (args : List SX)
  | lenM (k e : TypeId) (x : SX)
  | b2s (x : SX)
  | mkfn (f : FuncId) (caps : List SX)
  | mkmap (k e : TypeId)
  | lookup (k e : TypeId) (ok : Bool) (zero : Value) (m x : SX)
  | mapset (k e : TypeId) (m x v : SX)
  | eqT (neg : Bool) (t : TypeId) (x y : SX)
  | copy (e : TypeId) (sz : Nat) (x y : SX)
  | mnmx (mx : Bool) (k : IntKind) (x : SX) (ys : List SX)
  | panic (x : SX)
  | iface (t : TypeId) (x : SX)
  | appD (e : TypeId) (sz bytes : Nat) (x y : SX)
  | bsliceN (e : TypeId) (sz len : Nat) (parts : List SX)
  | msliceT (k : K) (e : TypeId) (sz bytes : Nat) (zero : Value) (l c : SX)
  | appT (k : K) (e : TypeId) (sz bytes : Nat) (x y : SX)
  | callp (bor : Bool) (x : SX) (args : List SX)
  | atq (s : Nat) (op : SOp)
  deriving Inhabited
structure SOper where
  dst : Option Nat
  op : SOp
  gd : Option (Nat × Bool)
  deriving Inhabited
inductive SCode where
  | skip
  | region (ops : List SOper)
  | draw (ops : List SOper) (after : List (List Nat))
  | seq (a b : SCode)
  | cond (c : SX) (thn els : SCode)
  | block (id : Nat) (body : SCode)
  | loop (body : SCode)
  | exit (id : Nat)
  | scope (body : SCode)
  | ret
  deriving Inhabited
def constB : Value → BV
  | .slice none 0 0 => .nils
  | v => .pv (.sc v)
def constA : Value → AV
  | .agg cs => .agg (cs.toList.map constB)
  | v => .b (constB v)
def St.get (st : St) : SX → Option AV
  | .tm k => look st.fr k
  | .c v => some (constA v)
  | .g n => some (.v (.pointer (some ⟨n, 0, none⟩)))
  | .f n => some (.p (.fn (.func n) []))
def bindA {α : Type} (o : Option α) (K : α → Prop) : Prop := ∃ a, o = some a ∧ K a
def isV (a : AV) (K : Value → Prop) : Prop := ∃ v, a = .v v ∧ K v
def isInt (v : Value) (K : IntKind → Int → Prop) : Prop := ∃ k n, v = .int k n ∧ K k n
def isBool (v : Value) (K : Bool → Prop) : Prop := ∃ b, v = .bool b ∧ K b
def isStr (v : Value) (K : ByteArray → Prop) : Prop := ∃ s, v = .string s ∧ K s
def isList (hp : List AObj) (sz : Nat) (a : AV) (K : List PV → Prop) : Prop :=
  (a = .b .nils ∧ K []) ∨ (∃ L, a = .p (lst sz L) ∧ K L) ∨ (∃ id e L, a = .b (.sl id) ∧ hp[id]? = some (.vec e sz L) ∧ K L) ∨ (∃ L, a = .b (.full (lst sz L)) ∧ K L)
theorem lst_inj {sz : Nat} {L L' : List PV} (h : lst sz L = lst sz L') : L = L' := by
  cases L <;> cases L' <;> simp_all [lst]
def isLen (hp : List AObj) (a : AV) (K : Nat → Prop) : Prop :=
  (a = .b .nils ∧ K 0) ∨ (∃ sz L, a = .p (lst sz L) ∧ K L.length) ∨ (∃ id e sz L, a = .b (.sl id) ∧ hp[id]? = some (.vec e sz L) ∧ K L.length) ∨ (∃ sz L, a = .b (.full (lst sz L)) ∧ K L.length) ∨
    (∃ id e sz k L hole, a = .b (.sl id) ∧ hp[id]? = some (.tree e sz k L hole) ∧ K L.length)
def isMap (hp : List AObj) (k e : TypeId) (a : AV) (K : Nat → List (PV × PV) → Prop) : Prop := ∃ id kvs, a = .b (.mp id) ∧ hp[id]? = some (.map k e kvs) ∧ K id kvs
def bitsI (k : IntKind) (op : BinOp) (x y : Int) : Int :=
  match op with
  | .and => k.wrap (BitVec.ofInt k.bits x &&& BitVec.ofInt k.bits y).toNat
  | .or => k.wrap (BitVec.ofInt k.bits x ||| BitVec.ofInt k.bits y).toNat
  | .xor => k.wrap (BitVec.ofInt k.bits x ^^^ BitVec.ofInt k.bits y).toNat
  | _ => k.wrap (BitVec.ofInt k.bits x &&& ~~~ BitVec.ofInt k.bits y).toNat
def binV (op : BinOp) (x y : Value) (K : Value → Prop) : Prop :=
  match x, y with
  | .int k a, .int k' b =>
    match op with
    | .add => k = k' ∧ K (.int k (k.wrap (a + b)))
    | .sub => k = k' ∧ K (.int k (k.wrap (a - b)))
    | .mul => k = k' ∧ K (.int k (k.wrap (a * b)))
    | .quo => k = k' ∧ b ≠ 0 ∧ K (.int k (k.wrap (a.tdiv b)))
    | .rem => k = k' ∧ b ≠ 0 ∧ K (.int k (a.tmod b))
    | .and => k = k' ∧ K (.int k (bitsI k .and a b))
    | .or => k = k' ∧ K (.int k (bitsI k .or a b))
    | .xor => k = k' ∧ K (.int k (bitsI k .xor a b))
    | .andNot => k = k' ∧ K (.int k (bitsI k .andNot a b))
    | .shl => 0 ≤ b ∧ K (.int k (k.wrap (a * 2 ^ (min b.toNat k.bits))))
    | .shr => 0 ≤ b ∧ K (.int k (a.fdiv (2 ^ (min b.toNat k.bits))))
    | .eql => k = k' ∧ K (.bool (a == b))
    | .neq => k = k' ∧ K (.bool (a != b))
    | .lss => k = k' ∧ K (.bool (decide (a < b)))
    | .leq => k = k' ∧ K (.bool (decide (a ≤ b)))
    | .gtr => k = k' ∧ K (.bool (decide (a > b)))
    | .geq => k = k' ∧ K (.bool (decide (a ≥ b)))
  | .string a, .string b =>
    match op with
    | .add => a.size + b.size ≤ 9223372036854775807 ∧ K (.string (a ++ b))
    | .eql => K (.bool (a.toList == b.toList))
    | .neq => K (.bool !(a.toList == b.toList))
    | .lss => K (.bool (Op.bytesLess a.toList b.toList))
    | .leq => K (.bool (Op.bytesLess a.toList b.toList || a.toList == b.toList))
    | .gtr => K (.bool !(Op.bytesLess a.toList b.toList || a.toList == b.toList))
    | .geq => K (.bool !(Op.bytesLess a.toList b.toList))
    | _ => False
  | _, _ => False
def unV (op : UnOp) (x : Value) (K : Value → Prop) : Prop :=
  match op, x with
  | .not, .bool b => K (.bool !b)
  | .neg, .int k n => K (.int k (k.wrap (0 - n)))
  | _, _ => False
def PV.isAgg : PV → Bool
  | .agg _ => true
  | _ => false
def PV.sub (x : PV) (off sz : Nat) (ag : Bool) : PV := match ag with
  | true => .agg ((x.cells.drop off).take sz)
  | false => x.cells.getD off .any
def BV.toPV : BV → Option PV
  | .pv p => some p
  | .nils => some (.list 0 [])
  | .full p => some p
  | _ => none
def AV.toPV : AV → Option PV
  | .b x => x.toPV
  | .agg xs => (xs.mapM BV.toPV).map .agg
  | .tup xs => (xs.mapM BV.toPV).map .tup
def nilP : PV := .sc (.slice none 0 0)
def BV.toPVn : BV → Option PV
  | .nils => some nilP
  | x => x.toPV
def AV.toPVn : AV → Option PV
  | .b x => x.toPVn
  | .agg xs => (xs.mapM BV.toPVn).map .agg
  | .tup _ => none
def K.nilsB (k : K) (cs : List PV) : Bool := (List.range cs.length).all fun j => match k.at j with
  | some _ => (match cs.getD j .any with | .sc (.slice none 0 0) => true | _ => false)
  | none => true
def K.unnil (k : K) (p : PV) : PV := match p with
  | .agg cs => .agg (cs.mapIdx fun j x => if (k.at j).isSome then .list 0 [] else x)
  | x => if (k.at 0).isSome then .list 0 [] else x
def PV.cellOk : PV → Bool
  | .sc v => v.oneCell'
  | .list .. | .pto _ | .fn .. => true
  | _ => false
def PV.ok (p : PV) : Bool := p.cells.all PV.cellOk
def BV.cellOk : BV → Bool
  | .pv p => p.cellOk
  | _ => true
def AV.ok (x : AV) : Bool := x.cells.all BV.cellOk
def splice {α : Type} (xs : List α) (off : Nat) (ys : List α) : List α := xs.take off ++ ys ++ xs.drop (off + ys.length)
def ofCells (ag : Bool) (cs : List BV) : AV := match ag with
  | true => .agg cs
  | false => .b (cs.headD (.pv .any))
def loadA (hp : List AObj) (sz : Nat) (ag : Bool) (a : AV) (K : AV → Prop) : Prop :=
  match a with
  | .b (.pv (.pto x)) => x.isAgg = ag ∧ x.cells.length = sz ∧ K (.p x)
  | .b (.ptr id off) => bindA hp[id]? fun o => ∃ t cs, o = .box t cs ∧ off + sz ≤ cs.length ∧ (ag = false → sz = 1) ∧ (K (ofCells ag ((cs.drop off).take sz)) ∨ bindA (ofCells ag ((cs.drop off).take sz)).toPV fun p => K (.p p))
  | .b (.elt id i off) => bindA hp[id]? fun o => (∃ e s xs, o = .vec e s xs ∧ i < xs.length ∧ off + sz ≤ s ∧ (ag = false → sz = 1) ∧
      ((off = 0 ∧ sz = s ∧ (xs.getD i .any).isAgg = ag ∧ K (.p (xs.getD i .any))) ∨ (sz ≠ s ∧ K (.p ((xs.getD i .any).sub off sz ag))))) ∨
      (∃ e s k xs hole, o = .tree e s k xs hole ∧ i < xs.length ∧ off + sz ≤ s ∧ (ag = false → sz = 1) ∧
        ((k.flatB off sz = true ∧ K (.p ((xs.getD i .any).sub off sz ag))) ∨ (∃ bv, hole = some (i, off, bv) ∧ sz = 1 ∧ ag = false ∧ K (.b bv))))
  | _ => False
def storeA (hp : List AObj) (sz : Nat) (a v : AV) (K : List AObj → Prop) : Prop :=
  match a with
  | .b (.ptr id off) => bindA hp[id]? fun o => ∃ t cs, o = .box t cs ∧ v.cells.length = sz ∧ off + sz ≤ cs.length ∧ v.ok = true ∧ K (hp.set id (.box t (splice cs off v.cells)))
  | .b (.elt id i off) => bindA hp[id]? fun o => (∃ e s xs, o = .vec e s xs ∧ i < xs.length ∧ bindA v.toPV fun p => p.cells.length = sz ∧ p.ok = true ∧
      ((off = 0 ∧ sz = s ∧ K (hp.set id (.vec e s (xs.set i p)))) ∨ (sz ≠ s ∧ off + sz ≤ s ∧ K (hp.set id (.vec e s (xs.set i (.agg (splice (xs.getD i .any).cells off p.cells)))))))) ∨
      (∃ e s k xs hole, o = .tree e s k xs hole ∧ i < xs.length ∧ off + sz ≤ s ∧
        ((k.flatB off sz = true ∧ (xs.getD i .any).isAgg = true ∧ bindA v.toPV fun p => p.cells.length = sz ∧ p.ok = true ∧ K (hp.set id (.tree e s k (xs.set i (.agg (splice (xs.getD i .any).cells off p.cells))) hole))) ∨
         (∃ bv bv', hole = some (i, off, bv) ∧ sz = 1 ∧ v = .b bv' ∧ bv'.cellOk = true ∧ K (hp.set id (.tree e s k xs (some (i, off, bv')))))))
  | _ => False
def BV.kill (id : Nat) : BV → BV
  | .sl k => if k = id then .pv .any else .sl k
  | .elt k i o => if k = id then .pv .any else .elt k i o
  | x => x
def AV.kill (id : Nat) : AV → AV
  | .b x => .b (x.kill id)
  | .agg xs => .agg (xs.map (BV.kill id))
  | .tup xs => .tup (xs.map (BV.kill id))
def mapH (g : BV → BV) : Option (Nat × Nat × BV) → Option (Nat × Nat × BV)
  | some (i, j, b) => some (i, j, g b)
  | none => none
def AObj.kill (id : Nat) : AObj → AObj
  | .box t cs => .box t (cs.map (BV.kill id))
  | .tree e sz k xs h => .tree e sz k xs (mapH (BV.kill id) h)
  | o => o
def St.kill (st : St) (id : Nat) : St := { st with fr := st.fr.map fun x => (x.1, x.2.kill id), hp := st.hp.map (AObj.kill id) }
def St.moved (st : St) (id : Nat) (o : AObj) : St := ⟨st.fr.map fun x => (x.1, x.2.kill id), (st.hp.map (AObj.kill id)).set id o⟩
def slP (hp : List AObj) (id : Nat) : Option PV := match hp[id]? with
  | some (.vec _ sz xs) => some (lst sz xs)
  | some (.tree _ sz _ xs none) => some (lst sz xs)
  | _ => none
def argB (hp : List AObj) (bor : Bool) : BV → Option PV
  | .sl id => if bor then slP hp id else none
  | x => x.toPV
def argPV (hp : List AObj) (bor : Bool) : AV → Option PV
  | .b x => argB hp bor x
  | .agg xs => (xs.mapM (argB hp bor)).map .agg
  | a => a.toPV
def argAV (hp : List AObj) (bor : Bool) (B : List Nat) : AV → Option AV
  | .b (.sl id) => if B.contains id then some (.b (.sl id)) else (argPV hp bor (.b (.sl id))).map .p
  | .agg xs => if (xs.mapM BV.toPV).isSome then (AV.agg xs).toPV.map .p else some (.agg xs)
  | .b (.full p) => some (.p p)
  | .b .nils => some (.p (.list 0 []))
  | a => some a
def PV.plain : PV → Bool
  | .sc (.int _ _) => true
  | .sc (.bool _) => true
  | .sc (.string _) => true
  | .agg xs => xs.all fun x => match x with
    | .sc (.int _ _) => true
    | .sc (.bool _) => true
    | .sc (.string _) => true
    | _ => false
  | _ => false
def bnd (st : St) (x : Option SX) (dflt : Nat) (K : Nat → Prop) : Prop := match x with
  | none => K dflt
  | some x => bindA (st.get x) fun a => isV a fun v => isInt v fun _ n => 0 ≤ n ∧ K n.toNat
def bytesOf : List PV → Option (List Int)
  | [] => some []
  | .sc (.int .u8 n) :: l => (bytesOf l).map (n :: ·)
  | _ => none
def St.putO (st : St) (d : Option Nat) (a : AV) : St := match d with
  | some d => st.put d a
  | none => st
def yv : Value → Option Bool
  | .bool b => some b
  | _ => none
def BV.ren (ρ : Nat → Nat) : BV → BV
  | .sl id => .sl (ρ id)
  | .ptr id off => .ptr (ρ id) off
  | .elt id i off => .elt (ρ id) i off
  | .clo f ids => .clo f (ids.map ρ)
  | .mp id => .mp (ρ id)
  | x => x
def AV.ren (ρ : Nat → Nat) : AV → AV
  | .b x => .b (x.ren ρ)
  | .agg xs => .agg (xs.map (BV.ren ρ))
  | .tup xs => .tup (xs.map (BV.ren ρ))
def AObj.ren (ρ : Nat → Nat) : AObj → AObj
  | .box t cs => .box t (cs.map (BV.ren ρ))
  | .tree e sz k xs h => .tree e sz k xs (mapH (BV.ren ρ) h)
  | o => o
def BV.ids : BV → List Nat
  | .sl id => [id]
  | .ptr id _ => [id]
  | .elt id _ _ => [id]
  | .clo _ ids => ids
  | .mp id => [id]
  | _ => []
def AV.ids : AV → List Nat
  | .b x => x.ids
  | .agg xs => xs.flatMap BV.ids
  | .tup xs => xs.flatMap BV.ids
def AObj.ids : AObj → List Nat
  | .box _ cs => cs.flatMap BV.ids
  | .tree _ _ _ _ (some (_, _, b)) => b.ids
  | _ => []
def BV.killB (B : List Nat) : BV → BV
  | .sl k => if B.contains k then .pv .any else .sl k
  | .elt k i o => if B.contains k then .pv .any else .elt k i o
  | x => x
def AV.killB (B : List Nat) : AV → AV
  | .b x => .b (x.killB B)
  | .agg xs => .agg (xs.map (BV.killB B))
  | .tup xs => .tup (xs.map (BV.killB B))
def AObj.killB (B : List Nat) : AObj → AObj
  | .box t cs => .box t (cs.map (BV.killB B))
  | .tree e sz k xs h => .tree e sz k xs (mapH (BV.killB B) h)
  | o => o
def backId (B : List Nat) (n k : Nat) : Nat := if k < B.length then B.getD k 0 else n + (k - B.length)
def backHp (B : List Nat) (hp os : List AObj) : List AObj :=
  (hp.mapIdx fun i o => if B.contains i then ((os.getD (B.idxOf i) .gone).ren (backId B hp.length)) else o.killB B) ++ (os.drop B.length).map (AObj.ren (backId B hp.length))
def St.back (st : St) (B : List Nat) (os : List AObj) : St := ⟨st.fr.map fun x => (x.1, x.2.killB B), backHp B st.hp os⟩
structure Rec where
  i : Nat
  d : Option Nat
  rd : List Nat
  s : Option Nat
  F : List Nat
end Go.Av
namespace Go.Av
open Go Go.RowKit
inductive Loc where
  | no
  | blk (g : Nat)
  | nil (a : Option Addr)
  | hdr (g n cap sz : Nat) (O : Nat → Prop)
  | mp (g : Nat)
def Loc.has : Loc → Nat → Prop
  | .blk g, b => b = g
  | .hdr g _ _ _ O, b => b = g ∨ O b
  | .mp g, b => b = g
  | _, _ => False
def none' : Nat → Prop := fun _ => False
def Loc.fixed : Loc → Bool
  | .blk _ => true
  | .mp _ => true
  | _ => false
def Loc.head (l : Loc) (v : Value) : Prop := match l with
  | .nil a => v = .slice a 0 0
  | .hdr g n cap _ _ => v = .slice (some ⟨g, 0, none⟩) n cap
  | _ => False
def RelB (θ : List Loc) (D : Nat → Prop) (w : World) (v : Value) : BV → Prop
  | .pv p => RelP D w v p
  | .nils => v = .slice none 0 0
  | .sl id => ∃ l, θ[id]? = some l ∧ l.head v
  | .ptr id off => ∃ g, θ[id]? = some (.blk g) ∧ v = .pointer (some ⟨g, off, none⟩)
  | .elt id i off => ∃ g n cap sz O, θ[id]? = some (.hdr g n cap sz O) ∧ v = .pointer (some ⟨g, i * sz + off, none⟩)
  | .clo f ids => ∃ gs : List Nat, gs.length = ids.length ∧ (∀ (k id g : Nat), ids[k]? = some id → gs[k]? = some g → θ[id]? = some (.blk g)) ∧ v = .func f #[] (gs.map fun g => Value.pointer (some ⟨g, 0, none⟩)).toArray
  | .mp id => ∃ g, θ[id]? = some (.mp g) ∧ v = .map (some g)
  | .full p => RelP D w v p ∧ ∃ a n, v = .slice a n n
  | .ifc => ∃ t u, v = .iface t u
def RelA (θ : List Loc) (D : Nat → Prop) (w : World) (v : Value) : AV → Prop
  | .b x => RelB θ D w v x
  | .agg xs => ∃ vs : Array Value, v = .agg vs ∧ vs.size = xs.length ∧ ∀ (i : Nat) (u : Value) (x : BV), vs[i]? = some u → xs[i]? = some x → RelB θ D w u x
  | .tup xs => ∃ vs : Array Value, v = .tuple vs ∧ vs.size = xs.length ∧ ∀ (i : Nat) (u : Value) (x : BV), vs[i]? = some u → xs[i]? = some x → RelB θ D w u x
inductive RelT (D : Nat → Prop) (w : World) : Option (TypeId × Nat × K) → (Nat → Prop) → Value → PV → Prop
  | flat (O : Nat → Prop) (v : Value) (p : PV) (h : RelP D w v p) : RelT D w none O v p
  | nil (q : TypeId × Nat × K) (O : Nat → Prop) (a : Option Addr) : RelT D w (some q) O (.slice a 0 0) (.list 0 [])
  | hdr (e : TypeId) (sz : Nat) (k : K) (O : Nat → Prop) (g cap : Nat) (xs : List PV) (p : PV) (cs : Array Value) (val : Nat → Nat → Value) (Os : Nat → Nat → Nat → Prop)
      (hp : p = lst sz xs) (hcap : xs.length ≤ cap) (hmax : cap ≤ maxLen) (hsz : ∀ x ∈ xs, x.cells.length = sz) (hg : w.heap[g]? = some (.cells cs e (0, 0))) (hcs : cs.size = cap * sz)
      (hO : O g) (hOs : ∀ i j b, Os i j b → O b ∧ b ≠ g) (hdj : ∀ i j i' j' b, Os i j b → Os i' j' b → i = i' ∧ j = j')
      (hc : ∀ (i j : Nat) (x y : PV), xs[i]? = some x → x.cells[j]? = some y → cs[i * sz + j]? = some (val i j))
      (hr : ∀ (i j : Nat) (x y : PV), xs[i]? = some x → x.cells[j]? = some y → RelT D w (k.at j) (Os i j) (val i j) y) :
      RelT D w (some (e, sz, k)) O (.slice (some ⟨g, 0, none⟩) xs.length cap) p
theorem RelT.mono {D D' : Nat → Prop} {w w' : World} (hD : ∀ b, D b → D' b) (hw : ∀ b, D b → w'.heap[b]? = w.heap[b]?) {q : Option (TypeId × Nat × K)} {O : Nat → Prop} {v : Value} {p : PV} (hO : ∀ b, O b → w'.heap[b]? = w.heap[b]?) (h : RelT D w q O v p) : RelT D' w' q O v p := by
  induction h with
  | flat O v p h => exact .flat O v p (h.mono hD hw)
  | nil q O a => exact .nil q O a
  | hdr e sz k O g cap xs p cs val Os hp hcap hmax hsz hg hcs hOg hOs hdj hc _ ih =>
    exact .hdr e sz k O g cap xs p cs val Os hp hcap hmax hsz ((hO g hOg).trans hg) hcs hOg hOs hdj hc fun i j x y hx hy => ih i j x y hx hy fun b hb => hO b (hOs i j b hb).1
theorem RelT.wide {D : Nat → Prop} {w : World} {q : Option (TypeId × Nat × K)} {O O' : Nat → Prop} {v : Value} {p : PV} (hO : ∀ b, O b → O' b) (h : RelT D w q O v p) : RelT D w q O' v p := by
  cases h with
  | flat O v p h => exact .flat O' v p h
  | nil q O a => exact .nil q O' a
  | hdr e sz k O g cap xs p cs val Os hp hcap hmax hsz hg hcs hOg hOs hdj hc hr =>
    exact .hdr e sz k O' g cap xs p cs val Os hp hcap hmax hsz hg hcs (hO g hOg) (fun i j b hb => ⟨hO b (hOs i j b hb).1, (hOs i j b hb).2⟩) hdj hc hr
theorem RelT.toP {D D' : Nat → Prop} {w : World} {q : Option (TypeId × Nat × K)} {O : Nat → Prop} {v : Value} {p : PV} (hD : ∀ b, D b → D' b) (hO : ∀ b, O b → D' b) (h : RelT D w q O v p) : RelP D' w v p := by
  induction h with
  | flat O v p h => exact h.mono hD fun _ _ => rfl
  | nil q O a => exact .nil a 0
  | hdr e sz k O g cap xs p cs val Os hp hcap hmax hsz hg hcs hOg hOs hdj hc _ ih =>
    subst hp
    refine relP_lst_mk hcap fun _ => ⟨g, 0, rfl, hO g hOg, hsz, fun i j x y hx hy => ⟨val i j, ?_, ih i j x y hx hy fun b hb => hO b (hOs i j b hb).1⟩⟩
    rw [Nat.zero_add, cell_of_row w g _ cs e (0, 0) hg]
    exact hc i j x y hx hy
def holeAt (h : Option (Nat × Nat × BV)) (i j : Nat) : Option BV := match h with
  | some (a, b, x) => if a = i ∧ b = j then some x else none
  | none => none
def RelO (θ : List Loc) (D : Nat → Prop) (w : World) : Loc → AObj → Prop
  | .blk g, .box t cs => ∃ c : Array Value, w.heap[g]? = some (.cells c t (0, 0)) ∧ c.size = cs.length ∧ ∀ (i : Nat) (u : Value) (x : BV), c[i]? = some u → cs[i]? = some x → RelB θ D w u x
  | .nil _, .vec _ _ xs => xs = []
  | .nil _, .tree _ _ _ xs h => xs = [] ∧ h = none
  | .hdr g n cap s O, .tree e sz k xs hole => s = sz ∧ n = xs.length ∧ n ≤ cap ∧ cap ≤ maxLen ∧ (∀ x ∈ xs, x.cells.length = sz) ∧ ∃ (c : Array Value) (Os : Nat → Nat → Nat → Prop), w.heap[g]? = some (.cells c e (0, 0)) ∧ c.size = cap * sz ∧
      (∀ i j b, Os i j b → O b ∧ b ≠ g) ∧ (∀ i j i' j' b, Os i j b → Os i' j' b → i = i' ∧ j = j') ∧ (∀ i j b, hole = some (i, j, b) → i < xs.length ∧ (k.at j).isSome = true) ∧
      ∀ (i j : Nat) (x y : PV), xs[i]? = some x → x.cells[j]? = some y → ∃ u, c[i * sz + j]? = some u ∧ (match holeAt hole i j with | some b => RelB θ D w u b | none => RelT D w (k.at j) (Os i j) u y)
  | .hdr g n cap s _, .vec e sz xs => s = sz ∧ n = xs.length ∧ n ≤ cap ∧ cap ≤ maxLen ∧ (∀ x ∈ xs, x.cells.length = sz) ∧ ∃ c : Array Value, w.heap[g]? = some (.cells c e (0, 0)) ∧ c.size = cap * sz ∧
      ∀ (i j : Nat) (x y : PV), xs[i]? = some x → x.cells[j]? = some y → ∃ u, c[i * sz + j]? = some u ∧ RelP D w u y
  | .mp g, .map _ _ kvs => ∃ (es : Array MapEntry) (clock : Nat), w.heap[g]? = some (.map es clock) ∧ es.size = kvs.length ∧ ∀ (i : Nat) (en : MapEntry) (kv : PV × PV), es[i]? = some en → kvs[i]? = some kv → RelP D w en.key kv.1 ∧ RelP D w en.val kv.2
  | .no, .free => True
  | _, .gone => True
  | _, _ => False
structure Ok (θ : List Loc) (D : Nat → Prop) (hp : List AObj) (w : World) : Prop where
  len : θ.length = hp.length
  dlt : ∀ b, D b → b < w.heap.size
  inj : ∀ (i j : Nat) (li lj : Loc) (g : Nat), θ[i]? = some li → θ[j]? = some lj → li.has g → lj.has g → i = j
  olt : ∀ (i : Nat) (l : Loc) (g : Nat), θ[i]? = some l → l.has g → g < w.heap.size ∧ ¬ D g
  objs : ∀ (i : Nat) (l : Loc) (o : AObj), θ[i]? = some l → hp[i]? = some o → RelO θ D w l o
structure Keep (O : Nat → Prop) (w w' : World) : Prop where
  os : w'.os = w.os
  tape : w'.tape = w.tape
  output : w'.output = w.output
  size : w.heap.size ≤ w'.heap.size
  block : ∀ k, k < w.heap.size → ¬ O k → w'.heap[k]? = w.heap[k]?
theorem Keep.refl (O : Nat → Prop) (w : World) : Keep O w w := ⟨rfl, rfl, rfl, Nat.le_refl _, fun _ _ _ => rfl⟩
theorem Keep.trans {O : Nat → Prop} {a b c : World} (h : Keep O a b) (k : Keep O b c) : Keep O a c :=
  ⟨k.os.trans h.os, k.tape.trans h.tape, k.output.trans h.output, Nat.le_trans h.size k.size, fun i hi ho => (k.block i (Nat.lt_of_lt_of_le hi h.size) ho).trans (h.block i hi ho)⟩
theorem Keep.of_below {O : Nat → Prop} {w w' : World} (h : Below w.heap.size w w') : Keep O w w' := ⟨h.os, h.tape, h.output, h.size, fun k hk _ => h.block k hk⟩
theorem Keep.below {w w' : World} (h : Keep (fun _ => False) w w') : Below w.heap.size w w' := ⟨h.os, h.tape, h.output, h.size, fun k hk => h.block k hk id⟩
def GW (D : Nat → Prop) (w : World) : Prop := ∀ w', Keep (fun b => ¬ D b) w w' → GT w'
theorem GW.mono {D D' : Nat → Prop} {w w' : World} {O : Nat → Prop} (h : GW D w) (hk : Keep O w w') (hO : ∀ b, D b → ¬ O b) (hD : ∀ b, D b → D' b) : GW D' w' := fun w2 h2 =>
  h w2 ⟨h2.os.trans hk.os, h2.tape.trans hk.tape, h2.output.trans hk.output, Nat.le_trans hk.size h2.size, fun k hk1 hk2 =>
    have hd : D k := Classical.byContradiction hk2
    (h2.block k (Nat.lt_of_lt_of_le hk1 hk.size) (fun h => h (hD k hd))).trans (hk.block k hk1 (hO k hd))⟩
theorem GW.of {w : World} (h : GT w) : GW (fun b => b < w.heap.size) w := fun _ h2 => h.below ⟨h2.os, h2.tape, h2.output, h2.size, fun k hk => h2.block k hk (fun h => h hk)⟩
structure Ctx where
  n : Nat
  w0 : World
  D0 : Nat → Prop
  O0 : Nat → Prop
  dfs : List Deferred
  th : List Loc
  gk : ∀ w, Keep O0 w0 w → GW D0 w
structure Inv (c : Ctx) (θ : List Loc) (D : Nat → Prop) (st : St) (a : Act) (w : World) : Prop where
  size : a.tmps.size = c.n
  defers : a.defers = c.dfs
  ok : Ok θ D st.hp w
  keep : Keep c.O0 c.w0 w
  dsub : ∀ b, c.D0 b → D b
  dnew : ∀ b, D b → c.D0 b ∨ c.O0 b ∨ c.w0.heap.size ≤ b
  onew : ∀ (i : Nat) (l : Loc) (g : Nat), θ[i]? = some l → l.has g → c.O0 g ∨ c.w0.heap.size ≤ g
  fr : ∀ k x, look st.fr k = some x → RelA θ D w (a.tmps.getD k undef) x
  fix : ∀ (k : Nat) (l : Loc), c.th[k]? = some l → l.fixed = true → θ[k]? = some l
def Rel (c : Ctx) (st : St) (a : Act) (w : World) : Prop := ∃ θ D, Inv c θ D st a w
section
variable {θ : List Loc} {D D' : Nat → Prop} {w w' : World}
theorem RelB.mono (hD : ∀ b, D b → D' b) (hw : ∀ b, D b → w'.heap[b]? = w.heap[b]?) {v : Value} {x : BV} (h : RelB θ D w v x) : RelB θ D' w' v x := by
  cases x <;> simp only [RelB] at h ⊢
  case pv p => exact h.mono hD hw
  case full p => exact ⟨h.1.mono hD hw, h.2⟩
  all_goals exact h
theorem RelA.mono (hD : ∀ b, D b → D' b) (hw : ∀ b, D b → w'.heap[b]? = w.heap[b]?) {v : Value} {x : AV} (h : RelA θ D w v x) : RelA θ D' w' v x := by
  cases x with
  | b x => exact RelB.mono hD hw h
  | agg xs =>
    obtain ⟨vs, hv, hs, hh⟩ := h
    exact ⟨vs, hv, hs, fun i u x hu hx => (hh i u x hu hx).mono hD hw⟩
  | tup xs =>
    obtain ⟨vs, hv, hs, hh⟩ := h
    exact ⟨vs, hv, hs, fun i u x hu hx => (hh i u x hu hx).mono hD hw⟩
theorem RelO.mono (hD : ∀ b, D b → D' b) (hw : ∀ b, D b → w'.heap[b]? = w.heap[b]?) {l : Loc} {o : AObj} (hl : ∀ g, l.has g → w'.heap[g]? = w.heap[g]?) (h : RelO θ D w l o) : RelO θ D' w' l o := by
  cases l <;> cases o <;> simp only [RelO] at h ⊢ <;> try exact h
  case blk.box g t cs =>
    obtain ⟨c, h1, h2, h3⟩ := h
    exact ⟨c, (hl g rfl).trans h1, h2, fun i u x hu hx => (h3 i u x hu hx).mono hD hw⟩
  case hdr.tree g n cap s O e sz k xs hole =>
    obtain ⟨h1, h2, h3, h4, h5, c, Os, h6, h7, h8, h9, h11, h10⟩ := h
    refine ⟨h1, h2, h3, h4, h5, c, Os, (hl g (.inl rfl)).trans h6, h7, h8, h9, h11, fun i j x y hx hy => ?_⟩
    obtain ⟨u, e1, e2⟩ := h10 i j x y hx hy
    refine ⟨u, e1, ?_⟩
    split
    · rename_i b hb; rw [hb] at e2; exact e2.mono hD hw
    · rename_i hb; rw [hb] at e2; exact e2.mono hD hw fun b hb => hl b (.inr (h8 i j b hb).1)
  case hdr.vec g n cap s O e sz xs =>
    obtain ⟨h1, h2, h3, h4, h5, c, h6, h7, h8⟩ := h
    exact ⟨h1, h2, h3, h4, h5, c, (hl g (.inl rfl)).trans h6, h7, fun i j x y hx hy => let ⟨u, e1, e2⟩ := h8 i j x y hx hy; ⟨u, e1, e2.mono hD hw⟩⟩
  case mp.map g k e kvs =>
    obtain ⟨es, clock, h1, h2, h3⟩ := h
    exact ⟨es, clock, (hl g rfl).trans h1, h2, fun i en kv he hk => ⟨(h3 i en kv he hk).1.mono hD hw, (h3 i en kv he hk).2.mono hD hw⟩⟩
theorem RelB.extN {θ' : List Loc} (hθ : ∀ (i : Nat) (l : Loc), θ[i]? = some l → l ≠ .no → θ'[i]? = some l) {v : Value} {x : BV} (h : RelB θ D w v x) : RelB θ' D w v x := by
  cases x <;> simp only [RelB] at h ⊢
  · exact h
  · exact h
  · obtain ⟨l, h1, h2⟩ := h; exact ⟨l, hθ _ _ h1 (fun e => by subst e; exact h2), h2⟩
  · obtain ⟨g, h1, h2⟩ := h; exact ⟨g, hθ _ _ h1 (fun e => by cases e), h2⟩
  · obtain ⟨g, n, cap, sz, O, h1, h2⟩ := h; exact ⟨g, n, cap, sz, O, hθ _ _ h1 (fun e => by cases e), h2⟩
  · obtain ⟨gs, h1, h2, h3⟩ := h; exact ⟨gs, h1, fun k id g e1 e2 => hθ _ _ (h2 k id g e1 e2) (fun e => by cases e), h3⟩
  · obtain ⟨g, h1, h2⟩ := h; exact ⟨g, hθ _ _ h1 (fun e => by cases e), h2⟩
  · exact h
  · exact h
theorem RelA.extN {θ' : List Loc} (hθ : ∀ (i : Nat) (l : Loc), θ[i]? = some l → l ≠ .no → θ'[i]? = some l) {v : Value} {x : AV} (h : RelA θ D w v x) : RelA θ' D w v x := by
  cases x with
  | b x => exact RelB.extN hθ h
  | agg xs =>
    obtain ⟨vs, hv, hs, hh⟩ := h
    exact ⟨vs, hv, hs, fun i u x hu hx => (hh i u x hu hx).extN hθ⟩
  | tup xs =>
    obtain ⟨vs, hv, hs, hh⟩ := h
    exact ⟨vs, hv, hs, fun i u x hu hx => (hh i u x hu hx).extN hθ⟩
theorem RelO.extN {θ' : List Loc} (hθ : ∀ (i : Nat) (l : Loc), θ[i]? = some l → l ≠ .no → θ'[i]? = some l) {l : Loc} {o : AObj} (h : RelO θ D w l o) : RelO θ' D w l o := by
  cases l <;> cases o <;> simp only [RelO] at h ⊢ <;> try exact h
  case blk.box g t cs =>
    obtain ⟨c, h1, h2, h3⟩ := h
    exact ⟨c, h1, h2, fun i u x hu hx => (h3 i u x hu hx).extN hθ⟩
  case hdr.tree g n cap s O e sz k xs hole =>
    obtain ⟨h1, h2, h3, h4, h5, c, Os, h6, h7, h8, h9, h11, h10⟩ := h
    refine ⟨h1, h2, h3, h4, h5, c, Os, h6, h7, h8, h9, h11, fun i j x y hx hy => ?_⟩
    obtain ⟨u, e1, e2⟩ := h10 i j x y hx hy
    refine ⟨u, e1, ?_⟩
    split
    · rename_i b hb; rw [hb] at e2; exact e2.extN hθ
    · rename_i hb; rw [hb] at e2; exact e2
theorem RelB.ext {θ' : List Loc} (hθ : ∀ (i : Nat) (l : Loc), θ[i]? = some l → θ'[i]? = some l) {v : Value} {x : BV} (h : RelB θ D w v x) : RelB θ' D w v x := h.extN fun i l hi _ => hθ i l hi
theorem RelA.ext {θ' : List Loc} (hθ : ∀ (i : Nat) (l : Loc), θ[i]? = some l → θ'[i]? = some l) {v : Value} {x : AV} (h : RelA θ D w v x) : RelA θ' D w v x := h.extN fun i l hi _ => hθ i l hi
theorem RelO.ext {θ' : List Loc} (hθ : ∀ (i : Nat) (l : Loc), θ[i]? = some l → θ'[i]? = some l) {l : Loc} {o : AObj} (h : RelO θ D w l o) : RelO θ' D w l o := h.extN fun i l hi _ => hθ i l hi
end
theorem get_append {α : Type} {l m : List α} {i : Nat} {x : α} (h : l[i]? = some x) : (l ++ m)[i]? = some x := by
  rw [List.getElem?_append_left (List.getElem?_eq_some_iff.1 h).1]; exact h
theorem Inv.below {c : Ctx} {θ : List Loc} {D : Nat → Prop} {st : St} {a : Act} {w w' : World} (h : Inv c θ D st a w) (hb : Below w.heap.size w w') (hw0 : c.w0.heap.size ≤ w.heap.size) {D' : Nat → Prop} (hD : ∀ b, D b → D' b)
    (hD' : ∀ b, D' b → D b ∨ (w.heap.size ≤ b ∧ b < w'.heap.size)) : Inv c θ D' st a w' := by
  have hDw : ∀ b, D b → w'.heap[b]? = w.heap[b]? := fun b hb' => hb.block b (h.ok.dlt b hb')
  refine ⟨h.size, h.defers, ⟨h.ok.len, fun b hb' => ?_, h.ok.inj, fun i l g hi hg => ?_, fun i l o hi ho => ?_⟩, h.keep.trans (.of_below hb), fun b hb' => hD b (h.dsub b hb'), fun b hb' => ?_, h.onew, fun k x hk => (h.fr k x hk).mono hD hDw, h.fix⟩
  · rcases hD' b hb' with h1 | h1
    · exact Nat.lt_of_lt_of_le (h.ok.dlt b h1) hb.size
    · exact h1.2
  · obtain ⟨h1, h2⟩ := h.ok.olt i l g hi hg
    refine ⟨Nat.lt_of_lt_of_le h1 hb.size, fun hd => ?_⟩
    rcases hD' g hd with h3 | h3
    · exact h2 h3
    · omega
  · exact (h.ok.objs i l o hi ho).mono hD hDw fun g hg => hb.block g (h.ok.olt i l g hi hg).1
  · rcases hD' b hb' with h1 | h1
    · exact h.dnew b h1
    · exact .inr (.inr (by omega))
theorem Inv.w0le {c : Ctx} {θ : List Loc} {D : Nat → Prop} {st : St} {a : Act} {w : World} (h : Inv c θ D st a w) : c.w0.heap.size ≤ w.heap.size := h.keep.size
theorem Inv.drew {c : Ctx} {θ : List Loc} {D : Nat → Prop} {st : St} {a : Act} {w : World} (h : Inv c θ D st a w) : Inv c θ D st a w.drew :=
  h.below ((Below.refl _ _).drew) h.w0le (fun _ hb => hb) (fun _ hb => .inl hb)
theorem Inv.put {c : Ctx} {θ : List Loc} {D : Nat → Prop} {st : St} {a : Act} {w : World} (h : Inv c θ D st a w) {d : Option Nat} {v : Value} {x : AV} (hd : ∀ k, d = some k → k < c.n) (hv : RelA θ D w v x) : Inv c θ D (st.putO d x) (a.put d v) w := by
  cases d with
  | none => exact h
  | some k =>
    have hk := hd k rfl
    refine ⟨by simpa [Act.put, St.putO, St.put] using h.size, h.defers, h.ok, h.keep, h.dsub, h.dnew, h.onew, fun j y hj => ?_, h.fix⟩
    simp only [St.putO, St.put, look] at hj
    have hs : k < a.tmps.size := by rw [h.size]; exact hk
    by_cases hjk : j = k
    · subst hjk
      simp only [if_true] at hj
      cases hj
      simp [Act.put, hs]
      exact hv
    · simp only [hjk, if_false] at hj
      have := h.fr j y hj
      simp [Act.put, Array.getElem?_setIfInBounds_ne (Ne.symm hjk)] at this ⊢
      exact this
theorem Inv.push {c : Ctx} {θ : List Loc} {D : Nat → Prop} {st : St} {a : Act} {w : World} (h : Inv c θ D st a w) {l : Loc} {o : AObj} (ho : RelO (θ ++ [l]) D w l o)
    (hl : ∀ g, l.has g → c.w0.heap.size ≤ g ∧ g < w.heap.size ∧ ¬ D g ∧ ∀ (i : Nat) (li : Loc), θ[i]? = some li → ¬ li.has g) : Inv c (θ ++ [l]) D { st with hp := st.hp ++ [o] } a w := by
  have hext : ∀ (i : Nat) (l' : Loc), θ[i]? = some l' → (θ ++ [l])[i]? = some l' := fun i l' hi => get_append hi
  have hcase : ∀ (i : Nat) (l' : Loc), (θ ++ [l])[i]? = some l' → θ[i]? = some l' ∨ (i = θ.length ∧ l' = l) := by
    intro i l' hi
    rcases Nat.lt_or_ge i θ.length with h1 | h1
    · rw [List.getElem?_append_left h1] at hi; exact .inl hi
    · rw [List.getElem?_append_right h1] at hi
      have : i - θ.length = 0 := by
        rcases Nat.eq_zero_or_pos (i - θ.length) with h2 | h2
        · exact h2
        · rw [List.getElem?_eq_none (show [l].length ≤ i - θ.length from h2)] at hi; cases hi
      rw [this] at hi
      simp at hi
      exact .inr ⟨by omega, hi.symm⟩
  refine ⟨h.size, h.defers, ⟨by simp [h.ok.len], h.ok.dlt, fun i j li lj g hi hj hgi hgj => ?_, fun i l' g hi hg => ?_, fun i l' o' hi ho' => ?_⟩, h.keep, h.dsub, h.dnew, fun i l' g hi hg => ?_, fun k x hk => (h.fr k x hk).ext hext, fun k l hk hf => hext k l (h.fix k l hk hf)⟩
  · rcases hcase i li hi with h1 | ⟨rfl, rfl⟩ <;> rcases hcase j lj hj with h2 | ⟨rfl, rfl⟩
    · exact h.ok.inj i j li lj g h1 h2 hgi hgj
    · exact absurd hgi ((hl g hgj).2.2.2 i li h1)
    · exact absurd hgj ((hl g hgi).2.2.2 j lj h2)
    · rfl
  · rcases hcase i l' hi with h1 | ⟨rfl, rfl⟩
    · exact h.ok.olt i l' g h1 hg
    · exact ⟨(hl g hg).2.1, (hl g hg).2.2.1⟩
  · rcases hcase i l' hi with h1 | ⟨rfl, rfl⟩
    · have hlt : i < st.hp.length := by rw [← h.ok.len]; exact (List.getElem?_eq_some_iff.1 h1).1
      rw [List.getElem?_append_left hlt] at ho'
      exact (h.ok.objs i l' o' h1 ho').ext hext
    · rw [h.ok.len, List.getElem?_append_right (Nat.le_refl _)] at ho'
      simp at ho'
      subst ho'
      exact ho
  · rcases hcase i l' hi with h1 | ⟨rfl, rfl⟩
    · exact h.onew i l' g h1 hg
    · exact .inr (hl g hg).1
theorem Inv.free_no {c : Ctx} {θ : List Loc} {D : Nat → Prop} {st : St} {a : Act} {w : World} (h : Inv c θ D st a w) {s : Nat} (hs : st.hp[s]? = some .free) : θ[s]? = some .no := by
  have hlt : s < st.hp.length := (List.getElem?_eq_some_iff.1 hs).1
  have hlt' : s < θ.length := by rw [h.ok.len]; exact hlt
  have h1 := List.getElem?_eq_getElem hlt'
  have := h.ok.objs s _ _ h1 hs
  rw [h1]
  cases hq : θ[s] <;> rw [hq] at this <;> simp only [RelO] at this
theorem Inv.fill {c : Ctx} {θ : List Loc} {D : Nat → Prop} {st : St} {a : Act} {w : World} (h : Inv c θ D st a w) {s : Nat} (hs : st.hp[s]? = some .free) {l : Loc} {o : AObj} (ho : RelO (θ.set s l) D w l o)
    (hl : ∀ g, l.has g → c.w0.heap.size ≤ g ∧ g < w.heap.size ∧ ¬ D g ∧ ∀ (i : Nat) (li : Loc), θ[i]? = some li → ¬ li.has g) : Inv c (θ.set s l) D { st with hp := st.hp.set s o } a w := by
  have hlt : s < st.hp.length := (List.getElem?_eq_some_iff.1 hs).1
  have hlt' : s < θ.length := by rw [h.ok.len]; exact hlt
  have hno := h.free_no hs
  have hext : ∀ (i : Nat) (l' : Loc), θ[i]? = some l' → l' ≠ .no → (θ.set s l)[i]? = some l' := fun i l' hi hn => by
    rw [List.getElem?_set_ne (fun e => hn (by subst e; rw [hno] at hi; exact (Option.some.inj hi).symm))]; exact hi
  have hcase : ∀ (i : Nat) (l' : Loc), (θ.set s l)[i]? = some l' → (i = s ∧ l' = l) ∨ (i ≠ s ∧ θ[i]? = some l') := fun i l' hi => by
    by_cases hii : i = s
    · subst hii
      rw [List.getElem?_set_self hlt'] at hi
      exact .inl ⟨rfl, (Option.some.inj hi).symm⟩
    · rw [List.getElem?_set_ne (Ne.symm hii)] at hi
      exact .inr ⟨hii, hi⟩
  refine ⟨h.size, h.defers, ⟨by simp [h.ok.len], h.ok.dlt, fun i j li lj g hi hj hgi hgj => ?_, fun i l' g hi hg => ?_, fun i l' o' hi ho' => ?_⟩, h.keep, h.dsub, h.dnew, fun i l' g hi hg => ?_, fun k x hk => (h.fr k x hk).extN hext, fun k l hk hf => hext k l (h.fix k l hk hf) (fun e => by subst e; cases hf)⟩
  · rcases hcase i li hi with ⟨rfl, rfl⟩ | ⟨h1, h1'⟩ <;> rcases hcase j lj hj with ⟨rfl, rfl⟩ | ⟨h2, h2'⟩
    · rfl
    · exact absurd hgj ((hl g hgi).2.2.2 j lj h2')
    · exact absurd hgi ((hl g hgj).2.2.2 i li h1')
    · exact h.ok.inj i j li lj g h1' h2' hgi hgj
  · rcases hcase i l' hi with ⟨rfl, rfl⟩ | ⟨h1, h1'⟩
    · exact ⟨(hl g hg).2.1, (hl g hg).2.2.1⟩
    · exact h.ok.olt i l' g h1' hg
  · rcases hcase i l' hi with ⟨rfl, rfl⟩ | ⟨h1, h1'⟩
    · rw [List.getElem?_set_self hlt] at ho'
      cases ho'
      exact ho
    · rw [List.getElem?_set_ne (Ne.symm h1)] at ho'
      exact (h.ok.objs i l' o' h1' ho').extN hext
  · rcases hcase i l' hi with ⟨rfl, rfl⟩ | ⟨h1, h1'⟩
    · exact .inr (hl g hg).1
    · exact h.onew i l' g h1' hg
end Go.Av
namespace Go.Av
open Go Go.RowKit
def owns (θ : List Loc) (b : Nat) : Prop := ∃ (i : Nat) (l : Loc), θ[i]? = some l ∧ l.has b
abbrev Outc := Option (AV × List AObj)
def Raised (ch : List PanicEntry) : Prop := ∃ t v, ch = [{ v := .iface t v, recovered := false }]
def Back (θ : List Loc) (D : Nat → Prop) (w : World) (K : Outc → Prop) (e : Ending) (w' : World) : Prop :=
  (∃ v r os' θ' D', e = .returned v ∧ K (some (r, os')) ∧ RelA θ' D' w' v r ∧ Ok θ' D' os' w' ∧ Keep (owns θ) w w' ∧ (∀ b, D b → D' b) ∧ (∀ b, D' b → D b ∨ owns θ b ∨ w.heap.size ≤ b) ∧
    (∀ (i : Nat) (l : Loc) (g : Nat), θ'[i]? = some l → l.has g → owns θ g ∨ w.heap.size ≤ g) ∧ (∀ (k : Nat) (l : Loc), θ[k]? = some l → l.fixed = true → θ'[k]? = some l) ∧ θ.length ≤ θ'.length) ∨
  (∃ ch, Raised ch ∧ e = .panicked ch ∧ K none ∧ Keep (owns θ) w w')
def ACalls (P : Program) (f : FuncId) (ars : List AV) (os : List AObj) (K : Outc → Prop) : Prop :=
  ∀ (w : World) (θ : List Loc) (D : Nat → Prop) (vs : List Value), GW D w → Ok θ D os w → vs.length = ars.length → (∀ (i : Nat) (v : Value) (x : AV), vs[i]? = some v → ars[i]? = some x → RelA θ D w v x) →
    Calls P f vs.toArray w (Back θ D w K)
theorem Back.mono {θ : List Loc} {D : Nat → Prop} {w w' : World} {K K' : Outc → Prop} {e : Ending} (h : Back θ D w K e w') (hk : ∀ o, K o → K' o) : Back θ D w K' e w' := by
  rcases h with ⟨v, r, os', θ', D', h1, h2, h3⟩ | ⟨ch, h0, h1, h2, h3⟩
  · exact .inl ⟨v, r, os', θ', D', h1, hk _ h2, h3⟩
  · exact .inr ⟨ch, h0, h1, hk _ h2, h3⟩
theorem ACalls.mono {P : Program} {f : FuncId} {ars : List AV} {os : List AObj} {K K' : Outc → Prop} (h : ACalls P f ars os K) (hk : ∀ o, K o → K' o) : ACalls P f ars os K' :=
  fun w θ D vs h0 h1 h2 h3 => (h w θ D vs h0 h1 h2 h3).mono fun _ _ hb => hb.mono hk
def BV.FlatB : BV → Prop
  | .pv p => p.Flat
  | .full _ => False
  | _ => True
def AV.FlatA : AV → Prop
  | .b x => x.FlatB
  | .agg xs => ∀ x ∈ xs, x.FlatB
  | .tup xs => ∀ x ∈ xs, x.FlatB
inductive FlatT : Option (TypeId × Nat × K) → PV → Prop
  | flat (p : PV) (h : p.Flat) : FlatT none p
  | sl (e : TypeId) (sz : Nat) (k : K) (p : PV) (xs : List PV) (hp : p = lst sz xs) (h : ∀ (i j : Nat) (x y : PV), xs[i]? = some x → x.cells[j]? = some y → FlatT (k.at j) y) : FlatT (some (e, sz, k)) p
def flatT (k : K) (xs : List PV) : Prop := ∀ (i j : Nat) (x y : PV), xs[i]? = some x → x.cells[j]? = some y → FlatT (k.at j) y
def AObj.FlatO : AObj → Prop
  | .gone => True
  | .free => True
  | .box _ cs => ∀ x ∈ cs, x.FlatB
  | .vec _ _ xs => ∀ x ∈ xs, ∀ y ∈ x.cells, y.Flat
  | .map _ _ kvs => ∀ kv ∈ kvs, kv.1.Flat ∧ kv.2.Flat
  | .tree _ _ k xs h => (∀ i j b, h = some (i, j, b) → b.FlatB) ∧ flatT k xs
def aggT (P : Program) (t : TypeId) : Bool := match P.underlying t with
  | some (.struct _) => true
  | some (.array _ _) => true
  | _ => false
def eqP (P : Program) : Nat → TypeId → PV → PV → Option Bool
  | 0, _, _, _ => none
  | d + 1, t, x, y => match P.underlying t, x, y with
    | some .bool, .sc (.bool a), .sc (.bool b) => some (a == b)
    | some (.int _), .sc (.int k a), .sc (.int k' b) => if k = k' then some (a == b) else none
    | some .string, .sc (.string a), .sc (.string b) => some (a == b)
    | some (.struct fs), .agg xs, .agg ys => if P.stoodInHeld t then none else eqFs d fs.toList xs ys
    | _, _, _ => none
where eqFs (d : Nat) : List Field → List PV → List PV → Option Bool
  | [], _, _ => some true
  | f :: l, xs, ys => if f.name = "_" then none else (P.info? f.type).bind fun i => if (P.underlying f.type).isNone ∨ xs.length < f.offset + i.size ∨ ys.length < f.offset + i.size ∨ (aggT P f.type = false ∧ i.size ≠ 1) then none else
      (eqP P d f.type ((PV.agg xs).sub f.offset i.size (aggT P f.type)) ((PV.agg ys).sub f.offset i.size (aggT P f.type))).bind fun b => if b then eqFs d l xs ys else some false
def keyP (P : Program) : Nat → TypeId → PV → Bool
  | 0, _, _ => false
  | d + 1, t, p => match P.underlying t, p with
    | some .bool, .sc (.bool _) => true
    | some (.int _), .sc (.int _ _) => true
    | some .string, .sc (.string _) => true
    | some (.struct fs), .agg xs => fs.toList.all fun f => f.name != "_" && (match P.info? f.type with
      | some i => (P.underlying f.type).isSome && decide (f.offset + i.size ≤ xs.length) && (aggT P f.type || decide (i.size = 1)) && keyP P d f.type ((PV.agg xs).sub f.offset i.size (aggT P f.type))
      | none => false)
    | _, _ => false
def findP (P : Program) (k : TypeId) (x : PV) : List (PV × PV) → Nat → Option (Option (Nat × PV))
  | [], _ => some none
  | kv :: l, i => (eqP P 64 k x kv.1).bind fun b => if b then some (some (i, kv.2)) else findP P k x l (i + 1)
def callable (P : Program) (f : FuncId) : Bool := match P.funcs[f]? with
  | some fn => fn.body.isSome && fn.name != "runtime.NumGoroutine"
  | none => false
def sev (P : Program) (st : St) (op : SOp) (K : AV → Prop) : Prop :=
  match op with
  | .mv x => bindA (st.get x) K
  | .pick c a b => bindA (st.get c) fun c => isV c fun t => isBool t fun t => (t = true → bindA (st.get a) K) ∧ (t = false → bindA (st.get b) K)
  | .bin op x y => bindA (st.get x) fun x => bindA (st.get y) fun y => isV x fun x => isV y fun y => binV op x y fun v => K (.v v)
  | .eqB neg x y => bindA (st.get x) fun x => bindA (st.get y) fun y => isV x fun x => isV y fun y => isBool x fun a => isBool y fun b => K (.v (.bool (neg ^^ (a == b))))
  | .un op x => bindA (st.get x) fun x => isV x fun x => unV op x fun v => K (.v v)
  | .len str x => bindA (st.get x) fun x => match str with
    | false => isLen st.hp x fun n => K (.v (.int .i64 n))
    | true => isV x fun x => isStr x fun s => K (.v (.int .i64 s.size))
  | .lenM k e x => bindA (st.get x) fun x => isMap st.hp k e x fun _ kvs => K (.v (.int .i64 kvs.length))
  | .idxS x i => bindA (st.get x) fun x => bindA (st.get i) fun i => isV x fun x => isV i fun i => isInt i fun _ n => isStr x fun s => 0 ≤ n ∧ n < s.size ∧ K (.v (.int .u8 (s.toList.getD n.toNat 0).toNat))
  | .idxV n sz ag x i => bindA (st.get x) fun x => bindA (st.get i) fun i => isV i fun i => isInt i fun _ m => bindA x.toPV fun p => 0 ≤ m ∧ m < n ∧ (ag = false → sz = 1) ∧ p.cells.length = n * sz ∧ p.isAgg = true ∧ K (.p (p.sub (m.toNat * sz) sz ag))
  | .idxA sz x i => bindA (st.get x) fun x => bindA (st.get i) fun i => isV i fun i => isInt i fun _ n =>
      ((∃ L, x = .p (lst sz L) ∧ 0 ≤ n ∧ n < L.length ∧ K (.p (.pto (L.getD n.toNat .any)))) ∨ (∃ id, x = .b (.sl id) ∧ bindA st.hp[id]? fun o => (∃ e L, o = .vec e sz L ∧ 0 ≤ n ∧ n < L.length ∧ K (.b (.elt id n.toNat 0))) ∨ (∃ e k L h, o = .tree e sz k L h ∧ 0 ≤ n ∧ n < L.length ∧ K (.b (.elt id n.toNat 0)))))
  | .idxP n sz ag x i => bindA (st.get x) fun x => bindA (st.get i) fun i => isV i fun i => isInt i fun _ m => 0 ≤ m ∧ m < n ∧ ((∃ id off, x = .b (.ptr id off) ∧ K (.b (.ptr id (off + m.toNat * sz)))) ∨
      (∃ p, x = .p (.pto p) ∧ p.cells.length = n * sz ∧ (ag = false → sz = 1) ∧ (p.sub (m.toNat * sz) sz ag).isAgg = ag ∧ K (.p (.pto (p.sub (m.toNat * sz) sz ag)))))
  | .fldA off sz ag x => bindA (st.get x) fun x => (∃ p, x = .p (.pto p) ∧ off + sz ≤ p.cells.length ∧ (ag = false → sz = 1) ∧ (p.sub off sz ag).isAgg = ag ∧ K (.p (.pto (p.sub off sz ag)))) ∨ (∃ id o, x = .b (.ptr id o) ∧ K (.b (.ptr id (o + off)))) ∨ (∃ id i o, x = .b (.elt id i o) ∧ K (.b (.elt id i (o + off))))
  | .fld off sz ag x => bindA (st.get x) fun x => (∃ p, x = .p p ∧ p.isAgg = true ∧ off + sz ≤ p.cells.length ∧ (ag = false → sz = 1) ∧ K (.p (p.sub off sz ag))) ∨ (∃ cs, x = .agg cs ∧ off + sz ≤ cs.length ∧ (ag = false → sz = 1) ∧ K (ofCells ag ((cs.drop off).take sz)))
  | .load sz ag x => bindA (st.get x) fun x => loadA st.hp sz ag x K
  | .cvtI k x => bindA (st.get x) fun x => isV x fun x => isInt x fun _ n => K (.v (.int k (k.wrap n)))
  | .slc sz x lo hi mx => bindA (st.get x) fun x => bindA x.toPV fun q => ∃ L, q = lst sz L ∧ bnd st lo 0 fun l => bnd st hi L.length fun h => bnd st mx L.length fun m =>
      (mx.isSome = true → hi.isSome = true) ∧ l ≤ h ∧ h ≤ m ∧ m ≤ L.length ∧
        (K (.p (lst sz ((L.take h).drop l))) ∨ (mx.isSome = true ∧ h = m ∧ K (.b (.full (lst sz ((L.take h).drop l))))))
  | .slcS x lo hi => bindA (st.get x) fun x => isV x fun x => isStr x fun s => bnd st lo 0 fun l => bnd st hi s.size fun h =>
      l ≤ h ∧ h ≤ s.size ∧ K (.v (.string (s.extract l h)))
  | .ext x i => bindA (st.get x) fun x => (∃ xs, x = .p (.tup xs) ∧ bindA xs[i]? fun p => K (.p p)) ∨ (∃ xs, x = .tup xs ∧ bindA xs[i]? fun p => K (.b p))
  | .nilc x => bindA (st.get x) fun x => ((∃ p, x = .p (.pto p)) ∨ (∃ id o, x = .b (.ptr id o)) ∨ (∃ id i o, x = .b (.elt id i o)) ∨ (∃ f ps, x = .p (.fn (.func f) ps)) ∨ (∃ f ids, x = .b (.clo (.func f) ids))) ∧ K x
  | .build zero parts => bindA (parts.mapM fun q => (st.get q.2.2).map fun a => (q.1, q.2.1, a)) fun ps =>
      (∀ q ∈ ps, q.2.2.ok = true ∧ q.2.2.cells.length = q.2.1 ∧ q.1 + q.2.1 ≤ zero.length) ∧ K (.agg (ps.foldl (fun cs q => splice cs q.1 q.2.2.cells) (zero.map fun v => constB v)))
  | .call bor f args => bindA (args.mapM fun x => (st.get x).bind (argPV st.hp bor)) fun ps => ACalls P f (ps.map .p) [] fun o => ∃ r os', o = some (r, os') ∧ r.ids = [] ∧ (bor = true → r.FlatA) ∧ K r
  | .callp bor x args => bindA (st.get x) fun x => ∃ f cs, x = .p (.fn (.func f) cs) ∧ callable P f = true ∧ bindA (args.mapM fun x => (st.get x).bind (argPV st.hp bor)) fun ps => ACalls P f ((ps ++ cs).map .p) [] fun o => ∃ r os', o = some (r, os') ∧ r.ids = [] ∧ (bor = true → r.FlatA) ∧ K r
  | .boxD _ x => bindA (st.get x) fun x => bindA x.toPV fun p => x.ok = true ∧ (∀ q, x ≠ .b (.full q)) ∧ K (.p (.pto p))
  | .b2s x => bindA (st.get x) fun x => isList st.hp 1 x fun L => bindA (bytesOf L) fun l => K (.v (.string (strOfNums l)))
  | .bslice false _ sz len parts => bindA (parts.mapM fun x => (st.get x).bind AV.toPV) fun ps => ps.length = len ∧ 0 < sz ∧ len * sz ≤ 16777216 ∧ (∀ p ∈ ps, p.cells.length = sz ∧ p.ok = true) ∧ (K (.p (lst sz ps)) ∨ K (.b (.full (lst sz ps))))
  | .mkfn f caps => bindA (caps.mapM st.get) fun ars => (∃ ids : List Nat, ars = ids.map (fun i => .b (.ptr i 0)) ∧ K (.b (.clo (.func f) ids))) ∨ (∃ ps : List PV, ars = ps.map .p ∧ K (.p (.fn (.func f) ps)))
  | .lookup k e ok zero m x => bindA (st.get m) fun m => bindA (st.get x) fun x => isMap st.hp k e m fun _ kvs => bindA x.toPV fun p => keyP P 64 k p = true ∧ (P.underlying k).isSome = true ∧ (∀ kv ∈ kvs, (eqP P 64 k p kv.1).isSome = true) ∧ bindA (findP P k p kvs 0) fun r =>
      K (match ok with
        | true => .tup [.pv (match r with | some (_, v) => v | none => .sc zero), .pv (.sc (.bool r.isSome))]
        | false => .p (match r with | some (_, v) => v | none => .sc zero))
  | .eqT neg t x y => bindA (st.get x) fun x => bindA (st.get y) fun y => bindA x.toPV fun p => bindA y.toPV fun q => bindA (eqP P 64 t p q) fun b => K (.v (.bool (neg ^^ b)))
  | .mnmx mx k x ys => bindA (st.get x) fun x => isV x fun v => isInt v fun k1 n => bindA (ys.mapM st.get) fun ars => ∃ ns : List Int, k1 = k ∧ ars = ns.map (fun n => .v (.int k n)) ∧
      K (.v (.int k (ns.foldl (fun a b => if mx then max a b else min a b) n)))
  | .iface _ x => bindA (st.get x) fun _ => K (.b .ifc)
  | .appD _ sz bytes x y => bindA (st.get x) fun x => bindA (st.get y) fun y => isList st.hp sz y fun L => (∀ p ∈ L, p.ok = true) ∧
      ∃ L0, ((x = .b .nils ∧ L0 = []) ∨ x = .b (.full (lst sz L0))) ∧ (L0.length + L.length) * bytes ≤ 140737488355328 ∧ K (.p (lst sz (L0 ++ L)))
  | .bsliceN _ sz len parts => bindA (parts.mapM fun x => (st.get x).bind AV.toPVn) fun ps => ps.length = len ∧ 0 < sz ∧ len * sz ≤ 16777216 ∧ (∀ p ∈ ps, p.cells.length = sz ∧ p.ok = true) ∧ K (.p (lst sz ps))
  | _ => False
def St.new (st : St) (pl : Option Nat) (o : AObj) : St := match pl with
  | none => { st with hp := st.hp ++ [o] }
  | some s => { st with hp := st.hp.set s o }
def St.nid (st : St) (pl : Option Nat) : Nat := pl.getD st.hp.length
def plOk (st : St) : Option Nat → Prop
  | none => True
  | some s => st.hp[s]? = some .free
def smk (st : St) (op : SOp) (R : AObj → (Nat → BV) → Prop) : Prop :=
  match op with
  | .alloc t zero => R (.box t (zero.map fun v => constB v)) fun n => .ptr n 0
  | .box t x => bindA (st.get x) fun x => x.ok = true ∧ R (.box t x.cells) fun n => .ptr n 0
  | .bslice true e sz len parts => bindA (parts.mapM fun x => (st.get x).bind AV.toPV) fun ps => ps.length = len ∧ 0 < sz ∧ len * sz ≤ 16777216 ∧ (∀ p ∈ ps, p.cells.length = sz ∧ p.ok = true) ∧ R (.vec e sz ps) .sl
  | .mslice e sz bytes zero l c => bindA (st.get l) fun l => bindA (st.get c) fun c => isV l fun l => isV c fun c => isInt l fun _ l => isInt c fun _ c =>
      0 ≤ l ∧ l ≤ c ∧ c ≤ 9223372036854775807 ∧ bytes * c ≤ 281474976710656 ∧ (constA zero).cells.length = sz ∧ 0 < sz ∧ bindA (constA zero).toPV fun z => z.ok = true ∧ R (.vec e sz (List.replicate l.toNat z)) .sl
  | .append e sz bytes x y => bindA (st.get x) fun x => bindA (st.get y) fun y => isList st.hp sz y fun L => (∀ p ∈ L, p.ok = true) ∧
      (x = .b .nils ∨ x = .b (.full (.list 0 []))) ∧ L.length * bytes ≤ 140737488355328 ∧ R (.vec e sz L) .sl
  | .mkmap k e => R (.map k e []) .mp
  | _ => False
def sexec (P : Program) (d : Option Nat) (op : SOp) (st : St) (K KP : St → Prop) : Prop :=
  match op with
  | .store sz x v => bindA (st.get x) fun x => bindA (st.get v) fun v => d = none ∧ storeA st.hp sz x v fun hp => K { st with hp := hp }
  | .alloc t zero => K ({ st with hp := st.hp ++ [AObj.box t (zero.map fun v => constB v)] }.putO d (.b (.ptr st.hp.length 0)))
  | .box t x => bindA (st.get x) fun x => x.ok = true ∧ K ({ st with hp := st.hp ++ [AObj.box t x.cells] }.putO d (.b (.ptr st.hp.length 0)))
  | .bslice true e sz len parts => bindA (parts.mapM fun x => (st.get x).bind AV.toPV) fun ps => ps.length = len ∧ 0 < sz ∧ len * sz ≤ 16777216 ∧ (∀ p ∈ ps, p.cells.length = sz ∧ p.ok = true) ∧
      K ({ st with hp := st.hp ++ [AObj.vec e sz ps] }.putO d (.b (.sl st.hp.length)))
  | .mslice e sz bytes zero l c => bindA (st.get l) fun l => bindA (st.get c) fun c => isV l fun l => isV c fun c => isInt l fun _ l => isInt c fun _ c =>
      0 ≤ l ∧ l ≤ c ∧ c ≤ 9223372036854775807 ∧ bytes * c ≤ 281474976710656 ∧ (constA zero).cells.length = sz ∧ 0 < sz ∧ bindA (constA zero).toPV fun z => z.ok = true ∧ K ({ st with hp := st.hp ++ [AObj.vec e sz (List.replicate l.toNat z)] }.putO d (.b (.sl st.hp.length)))
  | .append e sz bytes x y => bindA (st.get x) fun x => bindA (st.get y) fun y => isList st.hp sz y fun L => (∀ p ∈ L, p.ok = true) ∧
      ((∃ id, x = .b (.sl id) ∧ bindA st.hp[id]? fun o => ∃ xs, o = .vec e sz xs ∧ (xs.length + L.length) * bytes ≤ 140737488355328 ∧
          K ((st.moved id (.vec e sz (xs ++ L))).putO d (.b (.sl id)))) ∨
       ((x = .b .nils ∨ x = .b (.full (.list 0 []))) ∧ L.length * bytes ≤ 140737488355328 ∧ K ({ st with hp := st.hp ++ [AObj.vec e sz L] }.putO d (.b (.sl st.hp.length)))))
  | .callA bor B f args => bindA (args.mapM fun x => (st.get x).bind (argAV st.hp bor B)) fun ars => bindA (B.mapM (st.hp[·]?)) fun os =>
      callK P st d bor B f ars os K KP
  | .callv bor B x args => bindA (st.get x) fun x => ∃ f caps, ((∃ ids : List Nat, x = .b (.clo (.func f) ids) ∧ caps = ids.map fun i => .b (.ptr i 0)) ∨ (∃ ps : List PV, x = .p (.fn (.func f) ps) ∧ caps = ps.map AV.p)) ∧ callable P f = true ∧
      bindA (args.mapM fun x => (st.get x).bind (argAV st.hp bor B)) fun ars => bindA (B.mapM (st.hp[·]?)) fun os => callK P st d bor B f (ars ++ caps) os K KP
  | .msliceT k e sz bytes zero l c => bindA (st.get l) fun l => bindA (st.get c) fun c => isV l fun l => isV c fun c => isInt l fun _ l => isInt c fun _ c =>
      0 ≤ l ∧ l ≤ c ∧ c ≤ 9223372036854775807 ∧ bytes * c ≤ 281474976710656 ∧ (constA zero).cells.length = sz ∧ 0 < sz ∧ bindA (constA zero).toPVn fun z => z.ok = true ∧ k.nilsB z.cells = true ∧ K ({ st with hp := st.hp ++ [AObj.tree e sz k (List.replicate l.toNat (k.unnil z)) none] }.putO d (.b (.sl st.hp.length)))
  | .appT k e sz bytes x y => bindA (st.get x) fun x => bindA (st.get y) fun y => isList st.hp sz y fun L => (∀ p ∈ L, p.ok = true ∧ k.nilsB p.cells = true) ∧
      ((∃ id, x = .b (.sl id) ∧ bindA st.hp[id]? fun o => ∃ xs, o = .tree e sz k xs none ∧ (xs.length + L.length) * bytes ≤ 140737488355328 ∧
          K ((st.moved id (.tree e sz k (xs ++ L.map k.unnil) none)).putO d (.b (.sl id)))) ∨
       (x = .b .nils ∧ L.length * bytes ≤ 140737488355328 ∧ K ({ st with hp := st.hp ++ [AObj.tree e sz k (L.map k.unnil) none] }.putO d (.b (.sl st.hp.length)))))
  | .mkmap k e => K ({ st with hp := st.hp ++ [AObj.map k e []] }.putO d (.b (.mp st.hp.length)))
  | .mapset k e m x v => bindA (st.get m) fun m => bindA (st.get x) fun x => bindA (st.get v) fun v => isMap st.hp k e m fun id kvs => bindA x.toPV fun p => bindA v.toPV fun q => d = none ∧ p.plain = true ∧
      keyP P 64 k p = true ∧ (P.underlying k).isSome = true ∧ (∀ kv ∈ kvs, (eqP P 64 k p kv.1).isSome = true) ∧ bindA (findP P k p kvs 0) fun r => (∀ i u, r = some (i, u) → ∃ u', kvs[i]? = some (p, u')) ∧ K { st with hp := st.hp.set id (.map k e (match r with | some (i, _) => kvs.set i (p, q) | none => kvs ++ [(p, q)])) }
  | .copy e sz x y => bindA (st.get x) fun x => bindA (st.get y) fun y => isList st.hp sz y fun L => (∀ p ∈ L, p.ok = true) ∧ ∃ id, x = .b (.sl id) ∧ y ≠ x ∧ bindA st.hp[id]? fun o => ∃ xs, o = .vec e sz xs ∧
      K ({ st with hp := st.hp.set id (.vec e sz (L.take xs.length ++ xs.drop L.length)) }.putO d (.v (.int .i64 ((min xs.length L.length : Nat) : Int))))
  | .panic x => bindA (st.get x) fun a => a = .b .ifc ∧ KP st
  | .atq s op => smk st op fun o mk => plOk st (some s) ∧ K ((st.new (some s) o).putO d (.b (mk s)))
  | op => sev P st op fun a => K (st.putO d a)
where
  callK (P : Program) (st : St) (d : Option Nat) (bor : Bool) (B : List Nat) (f : FuncId) (ars : List AV) (os : List AObj) (K KP : St → Prop) : Prop :=
    B.Nodup ∧ (∀ a ∈ ars, ∀ i ∈ a.ids, i ∈ B) ∧ (∀ o ∈ os, ∀ i ∈ o.ids, i ∈ B) ∧
    ACalls P f (ars.map (AV.ren (B.idxOf ·))) (os.map (AObj.ren (B.idxOf ·))) fun o => match o with
      | some (r, os') => (bor = true → r.FlatA ∧ ∀ o ∈ os', o.FlatO) ∧ K ((st.back B os').putO d (r.ren (backId B st.hp.length)))
      | none => KP (st.back B (os.map fun _ => .gone))
def sstep (P : Program) (o : SOper) (st : St) (K KP : St → Prop) : Prop :=
  match o.gd with
  | none => sexec P o.dst o.op st K KP
  | some (t, want) => bindA (look st.fr t) fun g => isV g fun v => (yv v = some want → sexec P o.dst o.op st K KP) ∧ (yv v ≠ some want → K (st.putO o.dst (.v undef)))
def Weak (m : Nat) (s s' : St) : Prop := ∀ (c : Ctx) (a : Act) (w : World), c.th.length ≤ m → Rel c s a w → Rel c s' a w
def W (m : Nat) (f : St → Prop) (s : St) : Prop := ∃ s', Weak m s s' ∧ f s'
theorem W.mk {m : Nat} {f : St → Prop} {s : St} (h : f s) : W m f s := ⟨s, fun _ _ _ _ h => h, h⟩
theorem W.to {m : Nat} {f : St → Prop} {s : St} (s' : St) (hw : Weak m s s') (h : f s') : W m f s := ⟨s', hw, h⟩
theorem Weak.refl (m : Nat) (s : St) : Weak m s s := fun _ _ _ _ h => h
theorem Weak.trans {m : Nat} {a b c : St} (h : Weak m a b) (k : Weak m b c) : Weak m a c := fun _ _ _ hm hr => k _ _ _ hm (h _ _ _ hm hr)
theorem W.from {m : Nat} {f : St → Prop} {s s' : St} (h : Weak m s s') (k : W m f s') : W m f s := let ⟨s2, h2, h3⟩ := k; ⟨s2, h.trans h2, h3⟩
theorem W.mono {m : Nat} {f g : St → Prop} {s : St} (h : W m f s) (hk : ∀ x, f x → g x) : W m g s := let ⟨s', h1, h2⟩ := h; ⟨s', h1, hk s' h2⟩
def sops (P : Program) (m : Nat) : List SOper → St → (St → Prop) → (St → Prop) → Prop
  | [], st, K, _ => W m K st
  | o :: l, st, K, KP => W m (fun st => sstep P o st (fun st' => sops P m l st' K KP) KP) st
end Go.Av
namespace Go.Av
open Go Go.RowKit
def sizeT (P : Program) (t : TypeId) : Option Nat := (P.info? t).map (·.size)
def bytesT (P : Program) (t : TypeId) : Option Nat := (P.info? t).map (·.bytes)
def zeroT (P : Program) (t : TypeId) : Option Value := (P.info? t).bind (·.zero)
def elemT (P : Program) (t : TypeId) : Option TypeId := match P.underlying t with
  | some (.slice e) => some e
  | _ => none
def fieldOf (P : Program) (s : TypeId) (f : Nat) : Option Field := match P.underlying s with
  | some (.struct fs) => fs[f]?
  | _ => none
def partsOf (P : Program) (t : TypeId) (parts : List (Nat × Operand)) : Option (List (Nat × Nat × SX)) :=
  match P.underlying t with
  | some (.struct fs) => (fs.toList.mapM fun f => (P.info? f.type).map fun i => (f.offset, i.size)).bind fun places => parts.mapM fun q => (places[q.1]?).map fun pl => (pl.1, pl.2, SX.of q.2)
  | some (.array _ e) => (P.info? e).bind fun ie => parts.mapM fun q => some (q.1 * ie.size, ie.size, SX.of q.2)
  | _ => none
def inOrder (parts : List (Nat × Operand)) : Bool := (parts.map (·.1)) == List.range parts.length
def compOp (P : Program) (o : Oper) : Option SOp :=
  match o.op with
  | .move x | .assign x => some (.mv (.of x))
  | .pick c a b => some (.pick (.of c) (.of a) (.of b))
  | .binOp op t x y _ => match P.underlying t with
    | some (.int _) => some (.bin op (.of x) (.of y))
    | some .string => some (.bin op (.of x) (.of y))
    | some .bool => match op with
      | .eql => some (.eqB false (.of x) (.of y))
      | .neq => some (.eqB true (.of x) (.of y))
      | _ => none
    | some (.struct _) => match op with
      | .eql => some (.eqT false t (.of x) (.of y))
      | .neq => some (.eqT true t (.of x) (.of y))
      | _ => none
    | _ => none
  | .unOp op _ x => some (.un op (.of x))
  | .call c => match c.callee with
    | .builtin .len => match c.args.toList, c.argTypes.toList with
      | [x], [t] => match P.underlying t with
        | some (.slice _) => some (.len false (.of x))
        | some .string => some (.len true (.of x))
        | some (.array n _) => some (.mv (.c (.int .i64 n)))
        | some (.map k e) => some (.lenM k e (.of x))
        | _ => none
      | _, _ => none
    | .builtin .append => match c.args.toList, c.argTypes.toList with
      | [x, y], [t, u] => if t = u then (elemT P t).bind fun e => (sizeT P e).bind fun s => (bytesT P e).bind fun b => (zeroT P e).bind fun z => if z.cells.size = s ∧ 0 < s ∧ 0 < b then some (.append e s b (.of x) (.of y)) else none else none
      | _, _ => none
    | .builtin .copy => match c.args.toList, c.argTypes.toList with
      | [x, y], [t, u] => (elemT P t).bind fun e => (elemT P u).bind fun e' => (sizeT P e).bind fun s => if e = e' ∧ 0 < s then some (.copy e s (.of x) (.of y)) else none
      | _, _ => none
    | .builtin .min => match c.args.toList, c.argTypes.toList with
      | x :: ys, t :: _ => match P.underlying t with
        | some (.int k) => some (.mnmx false k (.of x) (ys.map SX.of))
        | _ => none
      | _, _ => none
    | .builtin .max => match c.args.toList, c.argTypes.toList with
      | x :: ys, t :: _ => match P.underlying t with
        | some (.int k) => some (.mnmx true k (.of x) (ys.map SX.of))
        | _ => none
      | _, _ => none
    | .value (.func f) => if callable P f then some (.call false f (c.args.toList.map SX.of)) else none
    | .value (.tmp t) => some (.callv false [] (.tm t) (c.args.toList.map SX.of))
    | _ => none
  | .index t x i => match P.underlying t with
    | some .string => some (.idxS (.of x) (.of i))
    | some (.array n e) => if (P.underlying e).isSome then (sizeT P e).map fun s => .idxV n s (aggT P e) (.of x) (.of i) else none
    | _ => none
  | .indexAddr t x i => match P.underlying t with
    | some (.slice e) => (sizeT P e).map fun s => .idxA s (.of x) (.of i)
    | some (.array n e) => (sizeT P e).map fun s => .idxP n s (aggT P e) (.of x) (.of i)
    | _ => none
  | .fieldAddr s x f => (fieldOf P s f).bind fun fd => (sizeT P fd.type).bind fun sz => if sz = 0 then none else some (.fldA fd.offset sz (aggT P fd.type) (.of x))
  | .field s x f => (fieldOf P s f).bind fun fd => if (P.underlying fd.type).isSome then (sizeT P fd.type).map fun sz => .fld fd.offset sz (aggT P fd.type) (.of x) else none
  | .load t x => (sizeT P t).bind fun sz => if (P.underlying t).isSome then some (.load sz (aggT P t) (.of x)) else none
  | .store t x v => (sizeT P t).map fun sz => .store sz (.of x) (.of v)
  | .alloc e => (zeroT P e).map fun z => .alloc e z.cells.toList
  | .box e x => some (.box e (.of x))
  | .build t parts => (zeroT P t).bind fun z => (partsOf P t parts.toList).map fun ps => .build z.cells.toList ps
  | .buildSlice t len parts => (elemT P t).bind fun e => (sizeT P e).bind fun s => (zeroT P e).bind fun z => if inOrder parts.toList ∧ z.cells.size = s then some (.bslice false e s len (parts.toList.map fun q => SX.of q.2)) else none
  | .makeSlice t l c => (elemT P t).bind fun e => (sizeT P e).bind fun s => (bytesT P e).bind fun b => (zeroT P e).map fun z => .mslice e s b z (.of l) (.of c)
  | .convert sT d x => match P.underlying sT, P.underlying d with
    | some _, some (.int k) => some (.cvtI k (.of x))
    | some (.slice e), some .string => match P.underlying e with
      | some (.int .u8) => some (.b2s (.of x))
      | _ => none
    | _, _ => none
  | .slice t x lo hi mx => match P.underlying t with
    | some (.slice e) => (sizeT P e).map fun s => .slc s (.of x) (lo.map .of) (hi.map .of) (mx.map .of)
    | some .string => match mx with
      | none => some (.slcS (.of x) (lo.map .of) (hi.map .of))
      | some _ => none
    | _ => none
  | .extract x i => some (.ext (.of x) i)
  | .nilCheck x => some (.nilc (.of x))
  | .makeFunc (.func f) first captured => if first.isEmpty && callable P f then some (.mkfn f (captured.toList.map SX.of)) else none
  | .makeMap t none => match P.underlying t with
    | some (.map k e) => some (.mkmap k e)
    | _ => none
  | .lookup t m x ok => match P.underlying t with
    | some (.map k e) => (zeroT P e).map fun z => .lookup k e ok z (.of m) (.of x)
    | _ => none
  | .mapUpdate t m x v | .insert t m x v => match P.underlying t with
    | some (.map k e) => some (.mapset k e (.of m) (.of x) (.of v))
    | _ => none
  | .panic x => some (.panic (.of x))
  | .makeInterface t x => some (.iface t (.of x))
  | _ => none
def SOp.canon : SOp → SOp
  | .bslice _ e s l ps => .bslice false e s l ps
  | .call _ f xs => .call false f xs
  | .callA _ _ f xs => .call false f xs
  | .boxD t x => .box t x
  | .callv _ _ x xs => .callv false [] x xs
  | .callp _ x xs => .callv false [] x xs
  | .appD e s b x y => .append e s b x y
  | .bsliceN e s l ps => .bslice false e s l ps
  | .msliceT _ e s b z x y => .mslice e s b z x y
  | .appT _ e s b x y => .append e s b x y
  | .atq _ op => op.canon
  | x => x
theorem relB_const {θ : List Loc} {D : Nat → Prop} {w : World} (v : Value) : RelB θ D w v (constB v) := by
  unfold constB
  split
  · rfl
  · exact RelP.sc v
theorem relA_const {θ : List Loc} {D : Nat → Prop} {w : World} (v : Value) : RelA θ D w v (constA v) := by
  unfold constA
  split
  · rename_i cs
    refine ⟨cs, rfl, by simp, fun i u x hu hx => ?_⟩
    simp only [List.getElem?_map] at hx
    rw [Array.getElem?_toList, hu] at hx
    simp at hx
    subst hx
    exact relB_const u
  · exact relB_const _
theorem Inv.get {c : Ctx} {θ : List Loc} {D : Nat → Prop} {st : St} {a : Act} {w : World} (h : Inv c θ D st a w) {x : Operand} {av : AV} (hx : st.get (.of x) = some av) : RelA θ D w (a.eval x) av := by
  cases x with
  | tmp t => exact h.fr t av hx
  | const v => simp [SX.of, St.get] at hx; subst hx; exact relA_const v
  | global g => simp [SX.of, St.get] at hx; subst hx; exact RelP.sc _
  | func f =>
    simp [SX.of, St.get] at hx; subst hx
    exact RelP.fn (.func f) #[] [] rfl fun i v x hv _ => by simp at hv
section
variable {θ : List Loc} {D : Nat → Prop} {w : World}
theorem relA_v {v u : Value} (h : RelA θ D w v (.v u)) : v = u := by cases h; rfl
theorem relA_p {v : Value} {p : PV} (h : RelA θ D w v (.p p)) : RelP D w v p := h
theorem relA_isV {v : Value} {a : AV} {K : Value → Prop} (h : RelA θ D w v a) (hk : isV a K) : K v := by
  obtain ⟨u, rfl, hk⟩ := hk
  rw [relA_v h]; exact hk
theorem mapM_some {α β : Type} {f : α → Option β} : ∀ {l : List α} {m : List β}, l.mapM f = some m → l.length = m.length ∧ ∀ (i : Nat) (x : α) (y : β), l[i]? = some x → m[i]? = some y → f x = some y
  | [], m, h => by simp at h; subst h; exact ⟨rfl, fun i x y hx => by simp at hx⟩
  | x :: l, m, h => by
    simp only [List.mapM_cons, Option.bind_eq_bind, Option.pure_def, Option.bind_eq_some_iff, Option.some.injEq] at h
    obtain ⟨y, hy, m', hm, rfl⟩ := h
    obtain ⟨h1, h2⟩ := mapM_some hm
    refine ⟨by simp [h1], fun i u v hu hv => ?_⟩
    cases i with
    | zero => simp at hu hv; subst hu; subst hv; exact hy
    | succ i => exact h2 i u v (by simpa using hu) (by simpa using hv)
theorem getElem?_of_len {α β : Type} {l : List α} {m : List β} (h : l.length = m.length) {i : Nat} {y : β} (hy : m[i]? = some y) : ∃ x, l[i]? = some x := by
  have : i < l.length := by rw [h]; exact (List.getElem?_eq_some_iff.1 hy).1
  exact ⟨l[i], List.getElem?_eq_getElem this⟩
theorem relP_cellOk {v : Value} {p : PV} (h : RelP D w v p) (hok : p.cellOk = true) : v.oneCell' = true := by
  cases h <;> simp [PV.cellOk] at hok <;> first | exact hok | rfl
theorem relB_cellOk {v : Value} {x : BV} (h : RelB θ D w v x) (hok : x.cellOk = true) : v.oneCell' = true := by
  cases x with
  | pv p => exact relP_cellOk h hok
  | nils => cases h; rfl
  | sl id =>
    obtain ⟨l, _, h2⟩ := h
    cases l <;> simp only [Loc.head] at h2 <;> (subst h2; rfl)
  | ptr id off => obtain ⟨g, _, rfl⟩ := h; rfl
  | elt id i off => obtain ⟨g, n, cap, sz, _, _, rfl⟩ := h; rfl
  | clo f ids => obtain ⟨gs, _, _, rfl⟩ := h; rfl
  | mp id => obtain ⟨g, _, rfl⟩ := h; rfl
  | full p => obtain ⟨_, a, n, rfl⟩ := h; rfl
  | ifc => obtain ⟨t, u, rfl⟩ := h; rfl
theorem cells_one {v : Value} (h : v.oneCell' = true) : v.cells = #[v] := by
  cases v <;> simp [Value.oneCell'] at h <;> rfl
theorem relA_cells {v : Value} {x : AV} (h : RelA θ D w v x) (hok : x.ok = true) : v.cells.size = x.cells.length ∧ ∀ (i : Nat) (u : Value) (y : BV), v.cells[i]? = some u → x.cells[i]? = some y → RelB θ D w u y ∧ u.oneCell' = true := by
  have one : ∀ (v : Value) (y : BV), y.cellOk = true → RelB θ D w v y → v.cells.size = [y].length ∧ ∀ (i : Nat) (u : Value) (z : BV), v.cells[i]? = some u → [y][i]? = some z → RelB θ D w u z ∧ u.oneCell' = true := by
    intro v y hy hr
    have ho := relB_cellOk hr hy
    rw [cells_one ho]
    refine ⟨rfl, fun i u z hu hz => ?_⟩
    cases i with
    | zero => simp at hu hz; subst hu; subst hz; exact ⟨hr, ho⟩
    | succ i => simp at hz
  have all : ∀ y ∈ x.cells, y.cellOk = true := by simpa [AV.ok] using hok
  cases x with
  | tup xs => have := all (.pv .any) (by simp [AV.cells]); simp [BV.cellOk, PV.cellOk] at this
  | agg xs =>
    obtain ⟨vs, rfl, h1, h2⟩ := h
    exact ⟨h1, fun i u y hu hy => ⟨h2 i u y hu hy, relB_cellOk (h2 i u y hu hy) (all y (List.mem_of_getElem? hy))⟩⟩
  | b x =>
    by_cases hag : ∃ xs, x = .pv (.agg xs)
    · obtain ⟨xs, rfl⟩ := hag
      have h' : RelP D w v (.agg xs) := h
      cases h' with
      | agg vs _ hq hh =>
        refine ⟨by simp [AV.cells, PV.cells, Value.cells, hq], fun i u y hu hy => ?_⟩
        have hmem := all y (List.mem_of_getElem? hy)
        simp only [AV.cells, PV.cells, List.getElem?_map] at hy
        cases hxi : xs[i]? with
        | none => rw [hxi] at hy; simp at hy
        | some z =>
          rw [hxi] at hy; simp at hy; subst hy
          have := hh i u z hu hxi
          exact ⟨this, relP_cellOk this hmem⟩
    · have e : (AV.b x).cells = [x] := by
        cases x with
        | pv p => cases p <;> first | rfl | exact absurd ⟨_, rfl⟩ hag
        | _ => rfl
      rw [e] at all ⊢
      exact one v x (all x (by simp)) h
theorem relP_cells {v : Value} {p : PV} (h : RelP D w v p) (hok : p.ok = true) : v.cells.size = p.cells.length ∧ ∀ (i : Nat) (u : Value) (y : PV), v.cells[i]? = some u → p.cells[i]? = some y → RelP D w u y ∧ u.oneCell' = true := by
  have hok' : (AV.p p).ok = true := by
    simp only [PV.ok, List.all_eq_true] at hok
    simp only [AV.ok, AV.cells, List.all_map, List.all_eq_true]
    exact hok
  obtain ⟨h1, h2⟩ := relA_cells (θ := []) (x := .p p) h hok'
  simp only [AV.cells, List.length_map, List.getElem?_map] at h1 h2
  exact ⟨h1, fun i u y hu hy => h2 i u (.pv y) hu (by rw [hy]; rfl)⟩
theorem relB_toPV {v : Value} {x : BV} {p : PV} (h : RelB θ D w v x) (hx : x.toPV = some p) : RelP D w v p := by
  cases x <;> simp [BV.toPV] at hx
  · subst hx; exact h
  · subst hx; cases h; exact .nil none 0
  · subst hx; exact h.1
theorem relA_toPV {v : Value} {x : AV} {p : PV} (h : RelA θ D w v x) (hx : x.toPV = some p) : RelP D w v p := by
  cases x with
  | b x => exact relB_toPV h hx
  | agg xs =>
    obtain ⟨vs, rfl, h1, h2⟩ := h
    simp only [AV.toPV, Option.map_eq_some_iff] at hx
    obtain ⟨ps, hps, rfl⟩ := hx
    obtain ⟨h3, h4⟩ := mapM_some hps
    refine RelP.agg _ _ (by rw [h1, h3]) fun i u p hu hp => ?_
    obtain ⟨x, hx⟩ := getElem?_of_len h3 hp
    exact relB_toPV (h2 i u x hu hx) (h4 i x p hx hp)
  | tup xs =>
    obtain ⟨vs, rfl, h1, h2⟩ := h
    simp only [AV.toPV, Option.map_eq_some_iff] at hx
    obtain ⟨ps, hps, rfl⟩ := hx
    obtain ⟨h3, h4⟩ := mapM_some hps
    refine RelP.tup _ _ (by rw [h1, h3]) fun i u p hu hp => ?_
    obtain ⟨x, hx⟩ := getElem?_of_len h3 hp
    exact relB_toPV (h2 i u x hu hx) (h4 i x p hx hp)
theorem relB_toPVn {v : Value} {x : BV} {p : PV} (h : RelB θ D w v x) (hx : x.toPVn = some p) : RelP D w v p := by
  cases x with
  | nils => cases hx; cases h; exact .sc _
  | _ => exact relB_toPV h hx
theorem relA_toPVn {v : Value} {x : AV} {p : PV} (h : RelA θ D w v x) (hx : x.toPVn = some p) : RelP D w v p := by
  cases x with
  | b x => exact relB_toPVn h hx
  | agg xs =>
    obtain ⟨vs, rfl, h1, h2⟩ := h
    simp only [AV.toPVn, Option.map_eq_some_iff] at hx
    obtain ⟨ps, hps, rfl⟩ := hx
    obtain ⟨h3, h4⟩ := mapM_some hps
    refine RelP.agg _ _ (by rw [h1, h3]) fun i u p hu hp => ?_
    obtain ⟨x, hx⟩ := getElem?_of_len h3 hp
    exact relB_toPVn (h2 i u x hu hx) (h4 i x p hx hp)
  | tup xs => cases hx
theorem relA_list {hp : List AObj} (hok : Ok θ D hp w) {v : Value} {x : AV} {sz : Nat} {K : List PV → Prop} (h : RelA θ D w v x) (hk : isList hp sz x K) :
    ∃ L a cap, K L ∧ v = .slice a L.length cap ∧ L.length ≤ cap ∧ (a = none → cap = 0 ∨ L = []) ∧ (0 < L.length → ∃ b o, a = some ⟨b, o, none⟩ ∧ b < w.heap.size ∧ (∀ x ∈ L, x.cells.length = sz) ∧
      ∀ (i j : Nat) (x y : PV), L[i]? = some x → x.cells[j]? = some y → ∃ u, w.cell? ⟨b, o + i * sz + j, none⟩ = some u ∧ RelP D w u y) := by
  rcases hk with ⟨rfl, hk⟩ | ⟨L, rfl, hk⟩ | ⟨id, e, L, rfl, ho, hk⟩ | ⟨L, rfl, hk⟩
  rotate_left 3
  · obtain ⟨a, cap, rfl, h1, h2⟩ := relP_lst h.1
    refine ⟨L, a, cap, hk, rfl, h1, fun ha => ?_, fun hl => ?_⟩
    · rcases Nat.eq_zero_or_pos L.length with h0 | h0
      · exact .inr (List.eq_nil_of_length_eq_zero h0)
      · obtain ⟨b, o, e, _⟩ := h2 h0
        rw [ha] at e; cases e
    · obtain ⟨b, o, e, hb, h3, h4⟩ := h2 hl
      exact ⟨b, o, e, hok.dlt b hb, h3, h4⟩
  · cases h
    exact ⟨[], none, 0, hk, rfl, Nat.le_refl _, fun _ => .inl rfl, fun h => absurd h (by simp)⟩
  · obtain ⟨a, cap, rfl, h1, h2⟩ := relP_lst (relA_p h)
    refine ⟨L, a, cap, hk, rfl, h1, fun ha => ?_, fun hl => ?_⟩
    · rcases Nat.eq_zero_or_pos L.length with h0 | h0
      · exact .inr (List.eq_nil_of_length_eq_zero h0)
      · obtain ⟨b, o, e, _⟩ := h2 h0
        rw [ha] at e; cases e
    · obtain ⟨b, o, e, hb, h3, h4⟩ := h2 hl
      exact ⟨b, o, e, hok.dlt b hb, h3, h4⟩
  · obtain ⟨l, hl, hh⟩ := h
    have hro := hok.objs id l _ hl ho
    cases l <;> simp only [RelO, Loc.head] at hro hh
    · subst hh; subst hro
      exact ⟨[], _, 0, hk, rfl, Nat.le_refl _, fun _ => .inl rfl, fun h => absurd h (by simp)⟩
    · rename_i g n cap s O
      obtain ⟨rfl, rfl, h3, h4, h5, c, h6, h7, h8⟩ := hro
      subst hh
      refine ⟨L, _, cap, hk, rfl, h3, fun e => by simp at e, fun _ => ⟨g, 0, rfl, (hok.olt id _ g hl (.inl rfl)).1, h5, fun i j x y hx hy => ?_⟩⟩
      obtain ⟨u, h9, h10⟩ := h8 i j x y hx hy
      refine ⟨u, ?_, h10⟩
      rw [Nat.zero_add, cell_of_row w g _ c e (0, 0) h6]
      exact h9
theorem sl_data {hp : List AObj} (hok : Ok θ D hp w) {v : Value} {id : Nat} {p : PV} (h : RelB θ D w v (.sl id)) (hp' : slP hp id = some p) :
    ∃ l, θ[id]? = some l ∧ ∀ D' : Nat → Prop, (∀ b, D b → D' b) → (∀ b, l.has b → D' b) → RelP D' w v p := by
  obtain ⟨l, hl, hh⟩ := h
  refine ⟨l, hl, fun D' hD hO => ?_⟩
  unfold slP at hp'
  split at hp'
  · rename_i e sz xs ho
    cases hp'
    have hro := hok.objs id l _ hl ho
    cases l <;> simp only [RelO, Loc.head] at hro hh
    · subst hh; subst hro; exact .nil _ 0
    · obtain ⟨rfl, rfl, h3, h4, h5, c, h6, h7, h8⟩ := hro
      subst hh
      refine relP_lst_mk h3 fun _ => ⟨_, 0, rfl, hO _ (.inl rfl), h5, fun i j x y hx hy => ?_⟩
      obtain ⟨u, e1, e2⟩ := h8 i j x y hx hy
      refine ⟨u, ?_, e2.mono hD (fun _ _ => rfl)⟩
      rw [Nat.zero_add, cell_of_row w _ _ c e (0, 0) h6]; exact e1
  · rename_i e sz k xs ho
    cases hp'
    have hro := hok.objs id l _ hl ho
    cases l <;> simp only [RelO, Loc.head] at hro hh
    · subst hh; rw [hro.1]; exact .nil _ 0
    · obtain ⟨rfl, rfl, h3, h4, h5, c, Os, h6, h7, h8, h9, h11, h10⟩ := hro
      subst hh
      refine relP_lst_mk h3 fun _ => ⟨_, 0, rfl, hO _ (.inl rfl), h5, fun i j x y hx hy => ?_⟩
      obtain ⟨u, e1, e2⟩ := h10 i j x y hx hy
      refine ⟨u, ?_, RelT.toP hD (fun b hb => hO b (.inr (h8 i j b hb).1)) e2⟩
      rw [Nat.zero_add, cell_of_row w _ _ c e (0, 0) h6]; exact e1
  · cases hp'
theorem flatB_at {k : Av.K} {off n j : Nat} (h : k.flatB off n = true) (hj : j < n) : k.at (off + j) = none := by
  simp only [Av.K.flatB, List.all_eq_true, List.mem_range] at h
  simpa using h j hj
theorem holeAt_some {h : Option (Nat × Nat × BV)} {i j : Nat} {b : BV} (e : holeAt h i j = some b) : h = some (i, j, b) := by
  unfold holeAt at e
  split at e
  · split at e
    · rename_i hij; obtain ⟨rfl, rfl⟩ := hij; cases e; rfl
    · cases e
  · cases e
theorem tree_flat {hole : Option (Nat × Nat × BV)} {k : Av.K} {n i j : Nat} {u : Value} {y : PV} {O : Nat → Prop} (hh : ∀ i j b, hole = some (i, j, b) → i < n ∧ (k.at j).isSome = true) (hf : k.at j = none)
    (h : match holeAt hole i j with | some b => RelB θ D w u b | none => RelT D w (k.at j) O u y) : RelP D w u y := by
  cases hq : holeAt hole i j with
  | some b =>
    have := (hh i j b (holeAt_some hq)).2
    rw [hf] at this; cases this
  | none =>
    rw [hq, hf] at h
    cases h with | flat _ _ _ h => exact h
theorem relA_len {hp : List AObj} (hok : Ok θ D hp w) {v : Value} {x : AV} {K : Nat → Prop} (h : RelA θ D w v x) (hk : isLen hp x K) :
    ∃ n a cap, K n ∧ v = .slice a n cap := by
  rcases hk with ⟨rfl, hk⟩ | ⟨sz, L, rfl, hk⟩ | ⟨id, e, sz, L, rfl, ho, hk⟩ | ⟨sz, L, rfl, hk⟩ | ⟨id, e, sz, k, L, hole, rfl, ho, hk⟩
  rotate_left 3
  · obtain ⟨a, cap, rfl, _⟩ := relP_lst h.1
    exact ⟨_, a, cap, hk, rfl⟩
  · obtain ⟨l, hl, hh⟩ := h
    have hro := hok.objs id l _ hl ho
    cases l <;> simp only [RelO, Loc.head] at hro hh
    · obtain ⟨rfl, rfl⟩ := hro; exact ⟨0, _, 0, hk, hh⟩
    · obtain ⟨_, rfl, _⟩ := hro; exact ⟨_, _, _, hk, hh⟩
  · cases h
    exact ⟨_, _, _, hk, rfl⟩
  · obtain ⟨a, cap, rfl, _⟩ := relP_lst (relA_p h)
    exact ⟨_, a, cap, hk, rfl⟩
  · obtain ⟨L', a, cap, rfl, rfl, _⟩ := relA_list (K := fun L' => L' = L) hok h (.inr (.inr (.inl ⟨id, e, L, rfl, ho, rfl⟩)))
    exact ⟨_, a, cap, hk, rfl⟩
end
end Go.Av
namespace Go.Av
open Go Go.RowKit
def Yields (P : Program) (o : Oper) (a : Act) (w : World) (R : Value → World → Prop) : Prop :=
  ∃ v w', (execOp a.eval o).run P w = .ok (.value v) w' ∧ R v w'
theorem Yields.wp {P : Program} {o : Oper} {a : Act} {w : World} {R : Value → World → Prop} {next : Act → World → Prop} {Q : Exit → Act → World → Prop} (h : Yields P o a w R) (hn : ∀ v w', R v w' → next (a.put o.dst v) w') : o.wp P a w next Q := by
  obtain ⟨v, w', h1, h2⟩ := h
  unfold Oper.wp
  rw [h1]
  exact hn v w' h2
theorem run_binV {P : Program} {w : World} {op : BinOp} {t : TypeId} {x y : Operand} {a b : Value} {K : Value → Prop} (h : binV op a b K) :
    ∃ v, K v ∧ Sem.run P (do eqGuard op t x y a b; binOp op t a b) w = .ok v w := by
  cases a <;> cases b <;> simp only [binV] at h
  case int.int k m k' n =>
    cases op <;> simp only at h
    case shl => obtain ⟨h1, h2⟩ := h; refine ⟨_, h2, ?_⟩; simp [eqGuard, binOp, Op.shift, Int.not_lt.2 h1]
    case shr => obtain ⟨h1, h2⟩ := h; refine ⟨_, h2, ?_⟩; simp [eqGuard, binOp, Op.shift, Int.not_lt.2 h1]
    case quo => obtain ⟨rfl, h1, h2⟩ := h; refine ⟨_, h2, ?_⟩; simp [eqGuard, binOp, Op.intDiv, h1]
    case rem => obtain ⟨rfl, h1, h2⟩ := h; refine ⟨_, h2, ?_⟩; simp [eqGuard, binOp, Op.intDiv, h1]
    all_goals (obtain ⟨rfl, h⟩ := h; refine ⟨_, h, ?_⟩; simp [eqGuard, binOp, Op.intArith, Op.intBits, Op.intCmp, bitsI])
  case string.string s r =>
    cases op <;> simp only at h
    case add =>
      obtain ⟨h1, h2⟩ := h
      refine ⟨_, h2, ?_⟩
      have h3 : IntKind.i64.max = 9223372036854775807 := rfl
      simp [h3, eqGuard, binOp, Op.stringOp]
      omega
    all_goals first | exact h.elim | (refine ⟨_, h, ?_⟩; simp [eqGuard, binOp, Op.stringOp])
theorem run_eqB {P : Program} {w : World} {t : TypeId} {x y : Operand} {a b : Bool} (ht : P.underlying t = some .bool) (neg : Bool) :
    Sem.run P (do eqGuard (if neg then .neq else .eql) t x y (.bool a) (.bool b); binOp (if neg then .neq else .eql) t (.bool a) (.bool b)) w = .ok (.bool (neg ^^ (a == b))) w := by
  have he : Sem.run P (Op.equal t (.bool a) (.bool b)) w = .ok (a == b) w := by
    show Sem.run P (Op.equalIn (9999 + 1) t (.bool a) (.bool b)) w = _
    rw [Op.equalIn]
    simp [run_underlying ht]
  cases neg
  · show Sem.run P (do eqGuard .eql t x y (.bool a) (.bool b); binOp .eql t (.bool a) (.bool b)) w = _
    have h1 : binOp .eql t (.bool a) (.bool b) = (do pure (.bool (← Op.equal t (.bool a) (.bool b)))) := rfl
    rw [h1]
    simp [eqGuard, he]
  · show Sem.run P (do eqGuard .neq t x y (.bool a) (.bool b); binOp .neq t (.bool a) (.bool b)) w = _
    have h1 : binOp .neq t (.bool a) (.bool b) = (do pure (.bool (!(← Op.equal t (.bool a) (.bool b))))) := rfl
    rw [h1]
    simp [eqGuard, he]
theorem run_unV {P : Program} {w : World} {op : UnOp} {a : Value} {K : Value → Prop} (h : unV op a K) : ∃ v, K v ∧ Sem.run P (Op.unary op a) w = .ok v w := by
  unfold unV at h
  split at h
  · exact ⟨_, h, by simp [Op.unary]⟩
  · exact ⟨_, h, by simp [Op.unary, Op.intArith]⟩
  · exact h.elim
section
variable {P : Program} {w : World}
theorem run_sizeOf {t : TypeId} {s : Nat} (h : sizeT P t = some s) : Sem.run P (sizeOf t) w = .ok s w := by
  simp only [sizeT, Option.map_eq_some_iff] at h
  obtain ⟨i, hi, rfl⟩ := h
  simp [sizeOf, typeInfo, hi]
theorem run_isAgg {t : TypeId} {d : TypeDesc} (h : P.underlying t = some d) : Sem.run P (isAgg t) w = .ok (aggT P t) w := by
  simp only [isAgg, aggT, Sem.run_bind, run_underlying h, Result.andThen_ok]
  cases d <;> simp [h]
theorem addr_add (b o i : Nat) : (⟨b, o, none⟩ : Addr).add i = ⟨b, o + i, none⟩ := by
  unfold Addr.add; split <;> simp_all
def partV (ag : Bool) (vs : Array Value) (off sz : Nat) : Value := match ag with
  | true => .agg (vs.extract off (off + sz))
  | false => (vs[off]?).getD undef
def wholeV (ag : Bool) (cs : List Value) : Value := match ag with
  | true => .agg cs.toArray
  | false => cs.headD undef
theorem run_loadVar {t : TypeId} {d : TypeDesc} {s b o : Nat} (hd : P.underlying t = some d) (hs : sizeT P t = some s) (cs : List Value) (hl : cs.length = s) (hag : aggT P t = false → s = 1)
    (hc : ∀ (j : Nat) (v : Value), cs[j]? = some v → w.cell? ⟨b, o + j, none⟩ = some v) :
    Sem.run P (loadVar t ⟨b, o, none⟩) w = .ok (wholeV (aggT P t) cs) w := by
  simp only [loadVar, Sem.run_bind, run_isAgg hd, Result.andThen_ok]
  cases hb : aggT P t
  · simp only [Bool.false_eq_true, if_false]
    have h1 := hag hb
    match cs, hl with
    | [v], _ =>
      have := hc 0 v rfl
      rw [run_load]
      simp at this
      simp [this, wholeV]
    | [], hl => simp at hl; omega
    | _ :: _ :: _, hl => simp at hl; omega
  · simp only [if_true, Sem.run_bind, run_sizeOf hs, Result.andThen_ok]
    have := run_loadCells_list (P := P) (w := w) ⟨b, o, none⟩ cs (fun j v hj => by rw [addr_add]; exact hc j v hj)
    rw [hl] at this
    simp [this, wholeV]
theorem choose_list {α : Type} [Inhabited α] {n : Nat} {p : Nat → α → Prop} (h : ∀ j, j < n → ∃ u, p j u) : ∃ l : List α, l.length = n ∧ ∀ (j : Nat) (u : α), l[j]? = some u → p j u := by
  induction n with
  | zero => exact ⟨[], rfl, fun j u h => by simp at h⟩
  | succ n ih =>
    obtain ⟨l, h1, h2⟩ := ih fun j hj => h j (by omega)
    obtain ⟨u, hu⟩ := h n (by omega)
    refine ⟨l ++ [u], by simp [h1], fun j v hv => ?_⟩
    rcases Nat.lt_or_ge j l.length with h3 | h3
    · rw [List.getElem?_append_left h3] at hv; exact h2 j v hv
    · rw [List.getElem?_append_right h3] at hv
      have : j - l.length = 0 := by
        rcases Nat.eq_zero_or_pos (j - l.length) with h4 | h4
        · exact h4
        · rw [List.getElem?_eq_none (show [u].length ≤ j - l.length from h4)] at hv; cases hv
      rw [this] at hv
      simp at hv
      subst hv
      have : j = n := by omega
      subst this
      exact hu
theorem relP_ofCells {D : Nat → Prop} {cs : List Value} {ps : List PV} (hl : cs.length = ps.length) (h : ∀ (j : Nat) (u : Value) (y : PV), cs[j]? = some u → ps[j]? = some y → RelP D w u y) :
    RelP D w (.agg cs.toArray) (.agg ps) :=
  .agg _ _ (by simp [hl]) fun i v x hv hx => h i v x (by simpa using hv) hx
theorem cells_isAgg {p : PV} : p.isAgg = true → p = .agg p.cells := by
  cases p <;> simp [PV.isAgg, PV.cells]
theorem cells_notAgg {p : PV} : p.isAgg = false → p.cells = [p] := by
  cases p <;> simp [PV.isAgg, PV.cells]
theorem relP_whole {D : Nat → Prop} {cs : List Value} {p : PV} (hl : cs.length = p.cells.length) (h : ∀ (j : Nat) (u : Value) (y : PV), cs[j]? = some u → p.cells[j]? = some y → RelP D w u y) :
    RelP D w (wholeV p.isAgg cs) p := by
  cases hp : p.isAgg
  · have h1 := cells_notAgg hp
    rw [h1] at hl h
    match cs, hl, h with
    | [u], _, h => exact h 0 u p rfl rfl
  · have h1 := cells_isAgg hp
    rw [h1]
    simp only [PV.cells] at hl h ⊢
    exact relP_ofCells hl (fun j u y hu hy => h j u y hu hy)
theorem getD_of_some {α : Type} {l : List α} {i : Nat} {x d : α} (h : l[i]? = some x) : l.getD i d = x := by simp [List.getD, h]
theorem sub_cells {p : PV} {off sz : Nat} {ag : Bool} (hag : ag = false → sz = 1) (hle : off + sz ≤ p.cells.length) :
    (ag = true → (p.sub off sz ag).cells = (p.cells.drop off).take sz) ∧ (ag = false → p.cells[off]? = some (p.sub off sz ag)) := by
  constructor
  · rintro rfl; rfl
  · rintro rfl
    have := hag rfl
    have hlt : off < p.cells.length := by omega
    simp [PV.sub, List.getElem?_eq_getElem hlt]
end
end Go.Av
namespace Go.Av
open Go Go.RowKit
def Res (c : Ctx) (θ : List Loc) (st : St) (a : Act) (K : AV → Prop) : Value → World → Prop := fun v w' => ∃ x D', K x ∧ Inv c θ D' st a w' ∧ RelA θ D' w' v x
section
variable {P : Program} {o : Oper} {c : Ctx} {θ : List Loc} {D : Nat → Prop} {st : St} {a : Act} {w : World} {K : AV → Prop}
theorem Res.same (hI : Inv c θ D st a w) {v : Value} {x : AV} (hk : K x) (hv : RelA θ D w v x) : Res c θ st a K v w := ⟨x, D, hk, hI, hv⟩
theorem yields_same {v : Value} {x : AV} (hI : Inv c θ D st a w) (hr : (execOp a.eval o).run P w = .ok (.value v) w) (hk : K x) (hv : RelA θ D w v x) : Yields P o a w (Res c θ st a K) :=
  ⟨v, w, hr, Res.same hI hk hv⟩
theorem sound_mv (hI : Inv c θ D st a w) {x : Operand} (ho : o.op = .move x ∨ o.op = .assign x) (h : sev P st (.mv (.of x)) K) : Yields P o a w (Res c θ st a K) := by
  obtain ⟨av, hx, hk⟩ := h
  refine yields_same hI ?_ hk (hI.get hx)
  rcases ho with ho | ho <;> simp [execOp, ho]
theorem sound_const (hI : Inv c θ D st a w) {v : Value} (hr : (execOp a.eval o).run P w = .ok (.value v) w) (h : sev P st (.mv (.c v)) K) : Yields P o a w (Res c θ st a K) := by
  obtain ⟨av, hx, hk⟩ := h
  simp [St.get] at hx
  subst hx
  exact yields_same hI hr hk (relA_const v)
theorem sound_pick (hI : Inv c θ D st a w) {x y z : Operand} (ho : o.op = .pick x y z) (h : sev P st (.pick (.of x) (.of y) (.of z)) K) : Yields P o a w (Res c θ st a K) := by
  obtain ⟨av, hx, hv⟩ := h
  obtain ⟨b, hb, ht, hf⟩ := relA_isV (hI.get hx) hv
  cases b
  · obtain ⟨az, hz, hk⟩ := hf rfl
    exact yields_same hI (by simp [execOp, ho, hb, asBool]) hk (hI.get hz)
  · obtain ⟨ay, hy, hk⟩ := ht rfl
    exact yields_same hI (by simp [execOp, ho, hb, asBool]) hk (hI.get hy)
theorem sound_bin (hI : Inv c θ D st a w) {op : BinOp} {t t' : TypeId} {x y : Operand} (ho : o.op = .binOp op t x y t') (h : sev P st (.bin op (.of x) (.of y)) K) : Yields P o a w (Res c θ st a K) := by
  obtain ⟨ax, hx, ay, hy, hv⟩ := h
  have h1 := relA_isV (hI.get hx) hv
  have h2 := relA_isV (hI.get hy) h1
  obtain ⟨v, hk, hr⟩ := run_binV (P := P) (w := w) (t := t) (x := x) (y := y) h2
  refine yields_same hI ?_ hk (RelP.sc v)
  simp only [execOp, ho]
  rw [Sem.run_bind, hr]
  rfl
theorem sound_eqB (hI : Inv c θ D st a w) {neg : Bool} {t t' : TypeId} {x y : Operand} (ho : o.op = .binOp (if neg then .neq else .eql) t x y t') (ht : P.underlying t = some .bool) (h : sev P st (.eqB neg (.of x) (.of y)) K) : Yields P o a w (Res c θ st a K) := by
  obtain ⟨ax, hx, ay, hy, hv⟩ := h
  have h1 := relA_isV (hI.get hx) hv
  have h2 := relA_isV (hI.get hy) h1
  obtain ⟨p, hp, q, hq, hk⟩ := h2
  refine yields_same hI ?_ hk (RelP.sc _)
  simp only [execOp, ho, hp, hq]
  rw [Sem.run_bind, run_eqB ht neg]
  rfl
theorem sound_un (hI : Inv c θ D st a w) {op : UnOp} {t : TypeId} {x : Operand} (ho : o.op = .unOp op t x) (h : sev P st (.un op (.of x)) K) : Yields P o a w (Res c θ st a K) := by
  obtain ⟨ax, hx, hv⟩ := h
  obtain ⟨v, hk, hr⟩ := run_unV (P := P) (w := w) (relA_isV (hI.get hx) hv)
  refine yields_same hI ?_ hk (RelP.sc v)
  simp only [execOp, ho]
  rw [Sem.run_bind, hr]
  rfl
theorem sound_len (hI : Inv c θ D st a w) {x : Operand} {t e : TypeId} {cl : Call} (ho : o.op = .call cl) (hcl : cl.callee = .builtin .len) (hargs : cl.args = #[x]) (htys : cl.argTypes = #[t])
    (ht : P.underlying t = some (.slice e)) (h : sev P st (.len false (.of x)) K) : Yields P o a w (Res c θ st a K) := by
  obtain ⟨ax, hx, hl⟩ := h
  obtain ⟨n, b, cap, hk, hv⟩ := relA_len hI.ok (hI.get hx) hl
  refine yields_same hI ?_ hk (RelP.sc _)
  simp [execOp, ho, resolve, hcl, hargs, htys, invoke, builtin, Builtin.len_, run_underlying ht, hv, goInt]
theorem sound_lenS (hI : Inv c θ D st a w) {x : Operand} {t : TypeId} {cl : Call} (ho : o.op = .call cl) (hcl : cl.callee = .builtin .len) (hargs : cl.args = #[x]) (htys : cl.argTypes = #[t])
    (ht : P.underlying t = some .string) (h : sev P st (.len true (.of x)) K) : Yields P o a w (Res c θ st a K) := by
  obtain ⟨ax, hx, hl⟩ := h
  obtain ⟨s, hs, hk⟩ := relA_isV (hI.get hx) hl
  refine yields_same hI ?_ hk (RelP.sc _)
  simp [execOp, ho, resolve, hcl, hargs, htys, invoke, builtin, Builtin.len_, run_underlying ht, hs, goInt]
theorem sound_idxS (hI : Inv c θ D st a w) {t : TypeId} {x i : Operand} (ho : o.op = .index t x i) (ht : P.underlying t = some .string) (h : sev P st (.idxS (.of x) (.of i)) K) : Yields P o a w (Res c θ st a K) := by
  obtain ⟨ax, hx, ai, hi, hv⟩ := h
  have h1 := relA_isV (hI.get hx) hv
  have h2 := relA_isV (hI.get hi) h1
  obtain ⟨k, n, hn, s, hs, h0, hlt, hk⟩ := h2
  refine yields_same hI ?_ hk (RelP.sc _)
  have hlt' : n.toNat < s.size := by omega
  have hg : s[n.toNat]? = some (s[n.toNat]) := by
    rw [getElem?_pos s n.toNat hlt']
  have e1 : s.toList.getD n.toNat 0 = s[n.toNat] := by
    have : s.toList = s.data.toList := ByteArray.toList_eq s
    rw [this]
    simp only [List.getD, Array.getElem?_toList]
    have h4 : n.toNat < s.data.size := hlt'
    rw [Array.getElem?_eq_getElem h4]
    rfl
  rw [e1]
  simp [execOp, ho, hn, hs, Instr.index, asIntOf, run_underlying ht, h0, hg]
end
end Go.Av
namespace Go.Av
open Go Go.RowKit
section
variable {P : Program} {o : Oper} {c : Ctx} {θ : List Loc} {D : Nat → Prop} {st : St} {a : Act} {w : World} {K : AV → Prop}
theorem relP_sub {v : Array Value} {p : PV} {off sz : Nat} {ag : Bool} (h : RelP D w (.agg v) p) (hp : p.isAgg = true) (hle : off + sz ≤ p.cells.length) (hag : ag = false → sz = 1) :
    v.size = p.cells.length ∧ RelP D w (partV ag v off sz) (p.sub off sz ag) := by
  have hp' := cells_isAgg hp
  obtain ⟨q, rfl⟩ : ∃ q, p = .agg q := ⟨_, hp'⟩
  simp only [PV.cells] at hle
  cases h with
  | agg vs xs hs hh =>
    refine ⟨hs, ?_⟩
    cases ag
    · have := hag rfl
      subst this
      have h1 : off < q.length := by omega
      have h2 : off < v.size := by omega
      simp only [partV, PV.sub, PV.cells, List.getD, List.getElem?_eq_getElem h1, Option.getD_some, Array.getElem?_eq_getElem h2]
      exact hh off _ _ (Array.getElem?_eq_getElem h2) (List.getElem?_eq_getElem h1)
    · simp only [partV, PV.sub, PV.cells]
      refine .agg _ _ (by simp; omega) fun i u x hu hx => ?_
      rw [List.getElem?_take] at hx
      split at hx
      · rename_i hi
        rw [List.getElem?_drop] at hx
        rw [Array.getElem?_extract] at hu
        split at hu
        · exact hh (off + i) u x hu hx
        · cases hu
      · cases hx
theorem run_part {t : TypeId} {d : TypeDesc} {s off : Nat} {cs : Array Value} (hd : P.underlying t = some d) (hs : sizeT P t = some s) (hle : off + s ≤ cs.size) (hag : aggT P t = false → s = 1) :
    Sem.run P (part t cs off) w = .ok (partV (aggT P t) cs off s) w := by
  simp only [part, Sem.run_bind, run_isAgg hd, Result.andThen_ok]
  cases hb : aggT P t
  · have := hag hb
    have h2 : off < cs.size := by omega
    simp [partV, Array.getElem?_eq_getElem h2]
  · simp [partV, run_sizeOf hs]
theorem relA_isAgg {v : Value} {x : AV} {p : PV} (h : RelA θ D w v x) (hx : x.toPV = some p) (hp : p.isAgg = true) : ∃ vs : Array Value, v = .agg vs ∧ RelP D w (.agg vs) p := by
  have h1 := relA_toPV h hx
  have hp' := cells_isAgg hp
  rw [hp'] at h1 ⊢
  cases h1 with
  | agg vs xs hs hh => exact ⟨vs, rfl, .agg vs _ hs hh⟩
theorem sound_idxV (hI : Inv c θ D st a w) {n sz : Nat} {t e : TypeId} {d : TypeDesc} {x i : Operand} (ho : o.op = .index t x i) (ht : P.underlying t = some (.array n e)) (hd : P.underlying e = some d) (hs : sizeT P e = some sz)
    (h : sev P st (.idxV n sz (aggT P e) (.of x) (.of i)) K) : Yields P o a w (Res c θ st a K) := by
  obtain ⟨ax, hx, ai, hi, hv⟩ := h
  obtain ⟨k, m, hm, p, hp, h0, hlt, hag, hlen, hpa, hk⟩ := relA_isV (hI.get hi) hv
  obtain ⟨vs, he, hrel⟩ := relA_isAgg (hI.get hx) hp hpa
  have hmul : m.toNat * sz + sz ≤ n * sz := by
    have : m.toNat + 1 ≤ n := by omega
    have := Nat.mul_le_mul_right sz this
    rw [Nat.add_mul, Nat.one_mul] at this
    exact this
  obtain ⟨hsz, hsub⟩ := relP_sub hrel hpa (by rw [hlen]; exact hmul) hag
  refine yields_same hI ?_ hk hsub
  have hpart := run_part (P := P) (w := w) (t := e) (cs := vs) (off := m.toNat * sz) hd hs (by rw [hsz, hlen]; exact hmul) hag
  have hlt' : m < (n : Int) := hlt
  simp only [execOp, ho, hm, he, Instr.index, asIntOf, Sem.run_bind, Sem.run_pure, Result.andThen_ok, run_underlying ht]
  rw [if_pos ⟨h0, hlt'⟩]
  simp only [Sem.run_bind, run_sizeOf hs, Result.andThen_ok, hpart]
theorem sound_idxA (hI : Inv c θ D st a w) {sz : Nat} {t e : TypeId} {x i : Operand} (ho : o.op = .indexAddr t x i) (ht : P.underlying t = some (.slice e)) (hs : sizeT P e = some sz)
    (h : sev P st (.idxA sz (.of x) (.of i)) K) : Yields P o a w (Res c θ st a K) := by
  obtain ⟨ax, hx, ai, hi, hv⟩ := h
  obtain ⟨k, n, hn, hcase⟩ := relA_isV (hI.get hi) hv
  have hX := hI.get hx
  have run : ∀ (b o' len cap : Nat), a.eval x = .slice (some ⟨b, o', none⟩) len cap → 0 ≤ n → n < (len : Int) → (execOp a.eval o).run P w = .ok (.value (.pointer (some ⟨b, o' + n.toNat * sz, none⟩))) w := by
    intro b o' len cap he h0 h1
    simp only [execOp, ho, hn, he, Instr.indexAt, asIntOf, Sem.run_bind, Sem.run_pure, Result.andThen_ok, run_underlying ht]
    rw [if_pos ⟨h0, h1⟩]
    simp [run_sizeOf hs, addr_add]
  rcases hcase with ⟨L, rfl, h0, hlt, hk⟩ | ⟨id, rfl, ob, hob, ⟨e', L, rfl, h0, hlt, hk⟩ | ⟨e', k', L, hole, rfl, h0, hlt, hk⟩⟩
  · obtain ⟨b, cap, he, hcap, hcells⟩ := relP_lst (relA_p hX)
    obtain ⟨g, o', rfl, hg, hsz, hc⟩ := hcells (by omega)
    have hlt' : n.toNat < L.length := by omega
    refine yields_same hI (run g o' L.length cap he h0 hlt) hk (relP_pto_mk hg fun j y hy => ?_)
    have hget : L[n.toNat]? = some (L.getD n.toNat .any) := by simp [List.getD, List.getElem?_eq_getElem hlt']
    exact hc n.toNat j _ y hget hy
  · obtain ⟨l, hl, hh⟩ := hX
    have hro := hI.ok.objs id l _ hl hob
    cases l <;> simp only [RelO, Loc.head] at hro hh
    · subst hro; simp at hlt; omega
    · rename_i g m cap s O
      obtain ⟨rfl, rfl, _⟩ := hro
      refine yields_same hI (run g 0 _ cap hh h0 hlt) hk ?_
      exact ⟨g, _, cap, s, O, hl, by simp⟩
  · obtain ⟨l, hl, hh⟩ := hX
    have hro := hI.ok.objs id l _ hl hob
    cases l <;> simp only [RelO, Loc.head] at hro hh
    · rw [hro.1] at hlt; simp at hlt; omega
    · rename_i g m cap s O
      obtain ⟨rfl, rfl, _⟩ := hro
      refine yields_same hI (run g 0 _ cap hh h0 hlt) hk ?_
      exact ⟨g, _, cap, s, O, hl, by simp⟩
theorem sub_pto {b o' off sz : Nat} {ag : Bool} {p : PV} (hb : D b) (hc : ∀ (j : Nat) (y : PV), p.cells[j]? = some y → ∃ u, w.cell? ⟨b, o' + j, none⟩ = some u ∧ RelP D w u y) (hle : off + sz ≤ p.cells.length) (hag : ag = false → sz = 1) (hia : (p.sub off sz ag).isAgg = ag) :
    RelP D w (.pointer (some ⟨b, o' + off, none⟩)) (.pto (p.sub off sz ag)) := by
  refine relP_pto_mk hb fun j y hy => ?_
  cases hag' : ag
  · subst hag'
    have := hag rfl
    subst this
    rw [cells_notAgg hia] at hy
    cases j with
    | zero =>
      simp at hy
      subst hy
      have := hc off _ ((sub_cells (p := p) (off := off) hag hle).2 rfl)
      simpa [Nat.add_assoc] using this
    | succ j => simp at hy
  · subst hag'
    rw [(sub_cells (p := p) (off := off) (sz := sz) (ag := true) (fun h => by cases h) hle).1 rfl, List.getElem?_take] at hy
    split at hy
    · rw [List.getElem?_drop] at hy
      have := hc (off + j) y hy
      rwa [← Nat.add_assoc] at this
    · cases hy
theorem sound_idxP (hI : Inv c θ D st a w) {n sz : Nat} {ag : Bool} {t e : TypeId} {x i : Operand} (ho : o.op = .indexAddr t x i) (ht : P.underlying t = some (.array n e)) (hs : sizeT P e = some sz)
    (h : sev P st (.idxP n sz ag (.of x) (.of i)) K) : Yields P o a w (Res c θ st a K) := by
  obtain ⟨ax, hx, ai, hi, hv⟩ := h
  obtain ⟨k, m, hm, h0, hlt, hcase⟩ := relA_isV (hI.get hi) hv
  have run : ∀ (g off : Nat), a.eval x = .pointer (some ⟨g, off, none⟩) → (execOp a.eval o).run P w = .ok (.value (.pointer (some ⟨g, off + m.toNat * sz, none⟩))) w := by
    intro g off he
    simp only [execOp, ho, hm, he, Instr.indexAt, asIntOf, Sem.run_bind, Sem.run_pure, Result.andThen_ok, run_underlying ht, Instr.sureAddr]
    rw [if_pos ⟨h0, hlt⟩]
    simp [run_sizeOf hs, addr_add]
  rcases hcase with ⟨id, off, rfl, hk⟩ | ⟨p, rfl, hlen, hag, hia, hk⟩
  · obtain ⟨g, hg, he⟩ := hI.get hx
    exact yields_same hI (run g off he) hk ⟨g, hg, rfl⟩
  · obtain ⟨b, o', he, hb, hc⟩ := relP_pto (relA_p (hI.get hx))
    have hle : m.toNat * sz + sz ≤ p.cells.length := by
      rw [hlen]
      have h1 : (m.toNat + 1) * sz ≤ n * sz := Nat.mul_le_mul_right _ (by omega)
      rw [Nat.add_mul, Nat.one_mul] at h1
      exact h1
    exact yields_same hI (run b o' he) hk (sub_pto hb hc hle hag hia)
theorem sound_fldA (hI : Inv c θ D st a w) {s : TypeId} {f : Nat} {x : Operand} {fd : Field} {sz : Nat} (ho : o.op = .fieldAddr s x f) (hf : fieldOf P s f = some fd) (hs : sizeT P fd.type = some sz) (hsz : sz ≠ 0)
    (h : sev P st (.fldA fd.offset sz (aggT P fd.type) (.of x)) K) : Yields P o a w (Res c θ st a K) := by
  obtain ⟨ax, hx, hcase⟩ := h
  have hX := hI.get hx
  have run : ∀ (b o' : Nat), a.eval x = .pointer (some ⟨b, o', none⟩) → (execOp a.eval o).run P w = .ok (.value (.pointer (some ⟨b, o' + fd.offset, none⟩))) w := by
    intro b o' he
    unfold fieldOf at hf
    split at hf
    · rename_i fs hfs
      simp [execOp, ho, he, Instr.fieldAt, run_underlying hfs, hf, Instr.sureAddr, fieldPlace, run_sizeOf hs, hsz, addr_add]
    · cases hf
  rcases hcase with ⟨p, rfl, hle, hag, hia, hk⟩ | ⟨id, o', rfl, hk⟩ | ⟨id, i, o', rfl, hk⟩
  · obtain ⟨b, o', he, hb, hc⟩ := relP_pto (relA_p hX)
    refine yields_same hI (run b o' he) hk (relP_pto_mk hb fun j y hy => ?_)
    cases hag' : aggT P fd.type
    · rw [hag'] at hy hag
      have := hag rfl
      subst this
      rw [hag'] at hia
      rw [cells_notAgg hia] at hy
      cases j with
      | zero =>
        simp at hy
        subst hy
        have := hc fd.offset _ ((sub_cells (p := p) (off := fd.offset) hag hle).2 rfl)
        simpa [Nat.add_assoc] using this
      | succ j => simp at hy
    · rw [hag'] at hy
      rw [(sub_cells (p := p) (off := fd.offset) (sz := sz) (ag := true) (fun h => by cases h) hle).1 rfl, List.getElem?_take] at hy
      split at hy
      · rw [List.getElem?_drop] at hy
        have := hc (fd.offset + j) y hy
        rwa [← Nat.add_assoc] at this
      · cases hy
  · obtain ⟨g, hg, he⟩ := hX
    exact yields_same hI (run g o' he) hk ⟨g, hg, rfl⟩
  · obtain ⟨g, n, cap, s', O, hg, he⟩ := hX
    refine yields_same hI (run g _ he) hk ⟨g, n, cap, s', O, hg, ?_⟩
    rw [Nat.add_assoc]
end
end Go.Av
namespace Go.Av
open Go Go.RowKit
section
variable {P : Program} {o : Oper} {c : Ctx} {θ : List Loc} {D : Nat → Prop} {st : St} {a : Act} {w : World} {K : AV → Prop}
theorem relA_ofCells {vs : Array Value} {cs : List BV} {off sz : Nat} {ag : Bool} (hl : vs.size = cs.length) (h : ∀ (i : Nat) (u : Value) (x : BV), vs[i]? = some u → cs[i]? = some x → RelB θ D w u x) (hle : off + sz ≤ cs.length) (hag : ag = false → sz = 1) :
    RelA θ D w (partV ag vs off sz) (ofCells ag ((cs.drop off).take sz)) := by
  cases ag
  · have := hag rfl
    subst this
    have h1 : off < cs.length := by omega
    have h2 : off < vs.size := by omega
    have e : (cs.drop off).take 1 = [cs[off]] := by
      rw [List.drop_eq_getElem_cons h1]; rfl
    simp only [partV, ofCells, e, List.headD_cons, Array.getElem?_eq_getElem h2, Option.getD_some]
    exact h off _ _ (Array.getElem?_eq_getElem h2) (List.getElem?_eq_getElem h1)
  · refine ⟨_, rfl, by simp; omega, fun i u x hu hx => ?_⟩
    rw [List.getElem?_take] at hx
    split at hx
    · rename_i hi
      rw [List.getElem?_drop] at hx
      rw [Array.getElem?_extract] at hu
      split at hu
      · exact h (off + i) u x hu hx
      · cases hu
    · cases hx
theorem sound_fld (hI : Inv c θ D st a w) {t : TypeId} {f : Nat} {x : Operand} {fd : Field} {d : TypeDesc} {sz : Nat} (ho : o.op = .field t x f) (hf : fieldOf P t f = some fd) (hd : P.underlying fd.type = some d) (hs : sizeT P fd.type = some sz)
    (h : sev P st (.fld fd.offset sz (aggT P fd.type) (.of x)) K) : Yields P o a w (Res c θ st a K) := by
  obtain ⟨ax, hx, hcase⟩ := h
  have hX := hI.get hx
  unfold fieldOf at hf
  split at hf
  · rename_i fs hfs
    rcases hcase with ⟨p, rfl, hpa, hle, hag, hk⟩ | ⟨cs, rfl, hle, hag, hk⟩
    · obtain ⟨vs, he, hrel⟩ := relA_isAgg (p := p) hX rfl hpa
      obtain ⟨hsz, hsub⟩ := relP_sub hrel hpa hle hag
      refine yields_same hI ?_ hk hsub
      have hpart := run_part (P := P) (w := w) (t := fd.type) (cs := vs) (off := fd.offset) hd hs (by rw [hsz]; exact hle) hag
      simp [execOp, ho, he, Instr.field, run_underlying hfs, hf, asAgg, hpart]
    · obtain ⟨vs, he, h1, h2⟩ := hX
      refine yields_same hI ?_ hk (relA_ofCells h1 h2 hle hag)
      have hpart := run_part (P := P) (w := w) (t := fd.type) (cs := vs) (off := fd.offset) hd hs (by rw [h1]; exact hle) hag
      simp [execOp, ho, he, Instr.field, run_underlying hfs, hf, asAgg, hpart]
  · cases hf
theorem partV_whole (ag : Bool) (c : Array Value) (off sz : Nat) (hag : ag = false → sz = 1) (hle : off + sz ≤ c.size) : wholeV ag (c.extract off (off + sz)).toList = partV ag c off sz := by
  cases ag
  · have := hag rfl
    subst this
    have h2 : off < c.size := by omega
    simp only [wholeV, partV, List.headD_eq_head?_getD, List.head?_eq_getElem?, Array.getElem?_toList, Array.getElem?_extract]
    rw [if_pos (by omega)]
    rfl
  · show Value.agg _ = Value.agg _
    rw [Array.toArray_toList]
theorem loadTree (hI : Inv c θ D st a w) {x : Operand} {sz : Nat} {ag : Bool} {id i off : Nat} {e : TypeId} {s : Nat} {k : Av.K} {xs : List PV} {hole : Option (Nat × Nat × BV)} (hX : RelA θ D w (a.eval x) (.b (.elt id i off))) (hob : st.hp[id]? = some (.tree e s k xs hole))
    (hi : i < xs.length) (hle : off + sz ≤ s) (hag : ag = false → sz = 1) (hcase : (k.flatB off sz = true ∧ K (.p ((xs.getD i .any).sub off sz ag))) ∨ (∃ bv, hole = some (i, off, bv) ∧ sz = 1 ∧ ag = false ∧ K (.b bv)))
    (run : ∀ (b o' : Nat) (cs : List Value), a.eval x = .pointer (some ⟨b, o', none⟩) → cs.length = sz → (ag = false → sz = 1) → (∀ (j : Nat) (v : Value), cs[j]? = some v → w.cell? ⟨b, o' + j, none⟩ = some v) →
      (execOp a.eval o).run P w = .ok (.value (wholeV ag cs)) w) : Yields P o a w (Res c θ st a K) := by
  obtain ⟨g, n, cap, s', O, hg, he⟩ := hX
  obtain ⟨rfl, rfl, h3, h4, h5, cv, Os, h6, h7, h8, h9, hho, h10⟩ := hI.ok.objs id _ _ hg hob
  obtain ⟨p0, hx0⟩ : ∃ p0, xs[i]? = some p0 := ⟨_, List.getElem?_eq_getElem hi⟩
  have hgd : xs.getD i .any = p0 := getD_of_some hx0
  rw [hgd] at hcase
  have hxl : p0.cells.length = s' := h5 _ (List.mem_of_getElem? hx0)
  have hpos : i * s' + s' ≤ cv.size := by
    rw [h7]
    have : i + 1 ≤ cap := by omega
    have := Nat.mul_le_mul_right s' this
    rw [Nat.add_mul, Nat.one_mul] at this
    exact this
  have hr := run g (i * s' + off) (cv.extract (i * s' + off) (i * s' + off + sz)).toList he (by simp; omega) hag (fun j v hj => by
    rw [cell_of_row w g _ cv e (0, 0) h6]
    simp only [Array.getElem?_toList, Array.getElem?_extract] at hj
    split at hj
    · exact hj
    · cases hj)
  rw [partV_whole _ _ _ _ hag (by omega)] at hr
  rcases hcase with ⟨hf, hk⟩ | ⟨bv, hhole, rfl, rfl, hk⟩
  · have hcell : ∀ (j : Nat) (u : Value) (y : PV), j < sz → cv[i * s' + off + j]? = some u → p0.cells[off + j]? = some y → RelP D w u y := fun j u y hj hu hy => by
      obtain ⟨u', h11, h12⟩ := h10 i (off + j) _ y hx0 hy
      rw [← Nat.add_assoc, hu] at h11; cases h11
      exact tree_flat hho (flatB_at hf hj) h12
    refine yields_same hI hr hk ?_
    show RelP D w _ _
    cases hb : ag
    · have := hag hb
      subst this
      have h9 : off < p0.cells.length := by omega
      have h10 : i * s' + off < cv.size := by omega
      simp only [partV, PV.sub, Array.getElem?_eq_getElem h10, Option.getD_some]
      refine hcell 0 _ _ (by omega) (Array.getElem?_eq_getElem (by omega)) ?_
      rw [List.getElem?_eq_getElem (by omega)]
      simp [List.getD, List.getElem?_eq_getElem h9]
    · simp only [partV, PV.sub]
      refine .agg _ _ (by simp only [Array.size_extract, List.length_take, List.length_drop]; omega) fun k u y hu hy => ?_
      rw [List.getElem?_take] at hy
      split at hy
      · rename_i hk'
        rw [List.getElem?_drop] at hy
        rw [Array.getElem?_extract] at hu
        split at hu
        · exact hcell k u y hk' hu hy
        · cases hu
      · cases hy
  · have h11 : i * s' + off < cv.size := by omega
    have h12 : off < p0.cells.length := by omega
    obtain ⟨u, h13, h14⟩ := h10 i off _ _ hx0 (List.getElem?_eq_getElem h12)
    rw [hhole] at h14
    simp only [holeAt, and_self, if_true] at h14
    refine yields_same hI hr hk ?_
    simp only [partV, h13, Option.getD_some]
    exact h14
theorem sound_load (hI : Inv c θ D st a w) {t : TypeId} {x : Operand} {d : TypeDesc} {sz : Nat} (ho : o.op = .load t x) (hd : P.underlying t = some d) (hs : sizeT P t = some sz)
    (h : sev P st (.load sz (aggT P t) (.of x)) K) : Yields P o a w (Res c θ st a K) := by
  obtain ⟨ax, hx, hcase⟩ := h
  have hX := hI.get hx
  have run : ∀ (b o' : Nat) (cs : List Value), a.eval x = .pointer (some ⟨b, o', none⟩) → cs.length = sz → (aggT P t = false → sz = 1) → (∀ (j : Nat) (v : Value), cs[j]? = some v → w.cell? ⟨b, o' + j, none⟩ = some v) →
      (execOp a.eval o).run P w = .ok (.value (wholeV (aggT P t) cs)) w := by
    intro b o' cs he hl hag hc
    have := run_loadVar (P := P) (w := w) hd hs cs hl hag hc
    simp [execOp, ho, he, Instr.loadAt, Instr.sureAddr, this]
  unfold loadA at hcase
  split at hcase
  · rename_i p
    obtain ⟨hpa, hlen, hk⟩ := hcase
    obtain ⟨b, o', he, hb, hc⟩ := relP_pto (relA_p hX)
    obtain ⟨cs, hl, hcs⟩ := choose_list (n := sz) (p := fun j u => w.cell? ⟨b, o' + j, none⟩ = some u ∧ ∀ y, p.cells[j]? = some y → RelP D w u y) (fun j hj => by
      obtain ⟨u, h1, h2⟩ := hc j (p.cells[j]'(by omega)) (List.getElem?_eq_getElem (by omega))
      exact ⟨u, h1, fun y hy => by rw [List.getElem?_eq_getElem (by omega : j < p.cells.length)] at hy; cases hy; exact h2⟩)
    have hag : aggT P t = false → sz = 1 := fun h => by
      rw [← hpa] at h
      rw [← hlen, cells_notAgg h]; rfl
    refine yields_same hI (run b o' cs he hl hag fun j v hj => (hcs j v hj).1) hk ?_
    rw [← hpa]
    exact relP_whole (by omega) fun j u y hu hy => (hcs j u hu).2 y hy
  · rename_i id off
    obtain ⟨ob, hob, t', cs, rfl, hle, hag, hk⟩ := hcase
    obtain ⟨g, hg, he⟩ := hX
    obtain ⟨cv, h1, h2, h3⟩ := hI.ok.objs id _ _ hg hob
    have hle' : off + sz ≤ cv.size := by omega
    have hr := run g off (cv.extract off (off + sz)).toList he (by simp; omega) hag (fun j v hj => by
      rw [cell_of_row w g _ cv t' (0, 0) h1]
      simp only [Array.getElem?_toList, Array.getElem?_extract] at hj
      split at hj
      · exact hj
      · cases hj)
    rw [partV_whole _ _ _ _ hag hle'] at hr
    rcases hk with hk | ⟨q, hq, hk⟩
    · exact yields_same hI hr hk (relA_ofCells h2 h3 hle hag)
    · exact yields_same hI hr hk (relA_toPV (relA_ofCells h2 h3 hle hag) hq)
  · rename_i id i off
    obtain ⟨ob, hob, ⟨e, s, xs, rfl, hi, hle, hag, hcase⟩ | ⟨e, s, k, xs, hole, rfl, hi, hle, hag, hcase⟩⟩ := hcase
    rotate_left
    · exact loadTree hI hX hob hi hle hag hcase run
    obtain ⟨g, n, cap, s', O, hg, he⟩ := hX
    obtain ⟨rfl, rfl, h3, h4, h5, cv, h6, h7, h8⟩ := hI.ok.objs id _ _ hg hob
    obtain ⟨p0, hx0⟩ : ∃ p0, xs[i]? = some p0 := ⟨_, List.getElem?_eq_getElem hi⟩
    have hgd : xs.getD i .any = p0 := getD_of_some hx0
    rw [hgd] at hcase
    have hxl : p0.cells.length = s' := h5 _ (List.mem_of_getElem? hx0)
    have hpos : i * s' + s' ≤ cv.size := by
      rw [h7]
      have : i + 1 ≤ cap := by omega
      have := Nat.mul_le_mul_right s' this
      rw [Nat.add_mul, Nat.one_mul] at this
      exact this
    have hr := run g (i * s' + off) (cv.extract (i * s' + off) (i * s' + off + sz)).toList he (by simp; omega) hag (fun j v hj => by
      rw [cell_of_row w g _ cv e (0, 0) h6]
      simp only [Array.getElem?_toList, Array.getElem?_extract] at hj
      split at hj
      · exact hj
      · cases hj)
    have hcell : ∀ (j : Nat) (u : Value) (y : PV), cv[i * s' + j]? = some u → p0.cells[j]? = some y → RelP D w u y := fun j u y hu hy => by
      obtain ⟨u', h9, h10⟩ := h8 i j _ y hx0 hy
      rw [hu] at h9; cases h9; exact h10
    rcases hcase with ⟨rfl, rfl, hia, hk⟩ | ⟨hne, hk⟩
    · refine yields_same hI hr hk ?_
      rw [← hia]
      refine relP_whole (by simp only [Array.length_toList, Array.size_extract]; omega) fun j u y hu hy => hcell j u y ?_ hy
      simp only [Array.getElem?_toList, Array.getElem?_extract] at hu
      split at hu
      · rw [Nat.add_zero] at hu; exact hu
      · cases hu
    · rw [partV_whole _ _ _ _ hag (by omega)] at hr
      refine yields_same hI hr hk ?_
      show RelP D w _ _
      cases hb : aggT P t
      · have := hag hb
        subst this
        have h9 : off < p0.cells.length := by omega
        have h10 : i * s' + off < cv.size := by omega
        simp only [partV, PV.sub, Array.getElem?_eq_getElem h10, Option.getD_some]
        refine hcell off _ _ (Array.getElem?_eq_getElem h10) ?_
        rw [List.getElem?_eq_getElem h9]
        simp [List.getD, List.getElem?_eq_getElem h9]
      · simp only [partV, PV.sub]
        refine .agg _ _ (by simp only [Array.size_extract, List.length_take, List.length_drop]; omega) fun k u y hu hy => ?_
        rw [List.getElem?_take] at hy
        split at hy
        · rename_i hk'
          rw [List.getElem?_drop] at hy
          rw [Array.getElem?_extract] at hu
          split at hu
          · exact hcell (off + k) u y (by rw [← Nat.add_assoc]; exact hu) hy
          · cases hu
        · cases hy
  · exact hcase.elim
theorem sound_cvtI (hI : Inv c θ D st a w) {s d : TypeId} {x : Operand} {k : IntKind} {ds : TypeDesc} (ho : o.op = .convert s d x) (hds : P.underlying s = some ds) (hd : P.underlying d = some (.int k)) (h : sev P st (.cvtI k (.of x)) K) : Yields P o a w (Res c θ st a K) := by
  obtain ⟨ax, hx, hv⟩ := h
  obtain ⟨k', n, hn, hk⟩ := relA_isV (hI.get hx) hv
  refine yields_same hI ?_ hk (RelP.sc _)
  simp only [execOp, ho, hn, convert, Sem.run_bind, run_underlying hds, run_underlying hd, Result.andThen_ok]
  cases ds <;> simp [Conv.intToInt]
theorem sound_ext (hI : Inv c θ D st a w) {x : Operand} {i : Nat} (ho : o.op = .extract x i) (h : sev P st (.ext (.of x) i) K) : Yields P o a w (Res c θ st a K) := by
  obtain ⟨ax, hx, hcase⟩ := h
  rcases hcase with ⟨xs, rfl, p, hp, hk⟩ | ⟨xs, rfl, p, hp, hk⟩
  · have hX : RelP D w (a.eval x) (.tup xs) := hI.get hx
    generalize hv : a.eval x = v at hX
    cases hX with
    | tup vs xs hs hh =>
      have hlt : i < vs.size := by rw [hs]; exact (List.getElem?_eq_some_iff.1 hp).1
      refine yields_same hI (v := vs[i]) ?_ hk (hh i _ p (Array.getElem?_eq_getElem hlt) hp)
      simp [execOp, ho, hv, Instr.extract, Array.getElem?_eq_getElem hlt]
  · obtain ⟨vs, hv, hs, hh⟩ := hI.get hx
    have hlt : i < vs.size := by rw [hs]; exact (List.getElem?_eq_some_iff.1 hp).1
    refine yields_same hI (v := vs[i]) ?_ hk (hh i _ p (Array.getElem?_eq_getElem hlt) hp)
    simp [execOp, ho, hv, Instr.extract, Array.getElem?_eq_getElem hlt]
theorem sound_nilc (hI : Inv c θ D st a w) {x : Operand} (ho : o.op = .nilCheck x) (h : sev P st (.nilc (.of x)) K) : Yields P o a w (Res c θ st a K) := by
  obtain ⟨ax, hx, hcase, hk⟩ := h
  have hX := hI.get hx
  rcases hcase with ⟨p, rfl⟩ | ⟨id, o', rfl⟩ | ⟨id, i, o', rfl⟩ | ⟨f, ps, rfl⟩ | ⟨f, ids, rfl⟩
  · obtain ⟨b, o', he, _⟩ := relP_pto (relA_p hX)
    refine yields_same hI (v := a.eval x) ?_ hk hX
    simp [execOp, ho, he]
  · obtain ⟨g, _, he⟩ := hX
    refine yields_same hI (v := a.eval x) ?_ hk (hI.get hx)
    simp [execOp, ho, he]
  · obtain ⟨g, _, _, _, _, he⟩ := hX
    refine yields_same hI (v := a.eval x) ?_ hk (hI.get hx)
    simp [execOp, ho, he]
  · have hX' : RelP D w (a.eval x) (.fn (.func f) ps) := hX
    refine yields_same hI (v := a.eval x) ?_ hk (hI.get hx)
    generalize hv : a.eval x = v at hX'
    cases hX' with
    | fn f' vs xs hs hh => simp [execOp, ho, hv]
  · obtain ⟨gs, _, _, he⟩ := hX
    refine yields_same hI (v := a.eval x) ?_ hk (hI.get hx)
    simp [execOp, ho, he]
end
end Go.Av
namespace Go.Av
open Go Go.RowKit
theorem splice_get {α : Type} (xs : List α) (off : Nat) (ys : List α) (h : off + ys.length ≤ xs.length) (k : Nat) : (splice xs off ys)[k]? = if off ≤ k ∧ k < off + ys.length then ys[k - off]? else xs[k]? := by
  unfold splice
  have hl : (xs.take off).length = off := by simp; omega
  by_cases h1 : k < off
  · rw [List.append_assoc, List.getElem?_append_left (by omega), if_neg (by omega), List.getElem?_take, if_pos h1]
  · rw [List.append_assoc, List.getElem?_append_right (by omega), hl]
    by_cases h2 : k < off + ys.length
    · rw [List.getElem?_append_left (by omega), if_pos ⟨by omega, h2⟩]
    · rw [List.getElem?_append_right (by omega), if_neg (by omega), List.getElem?_drop]
      congr 1; omega
theorem splice_length {α : Type} (xs : List α) (off : Nat) (ys : List α) (h : off + ys.length ≤ xs.length) : (splice xs off ys).length = xs.length := by
  unfold splice; simp; omega
theorem foldl_set (off : Nat) : ∀ (l : List (Value × Nat)) (j : Nat) (cells : Array Value), (∀ (i : Nat) (x : Value × Nat), l[i]? = some x → x.2 = j + i) → off + j + l.length ≤ cells.size →
    (l.foldl (fun cs x => cs.setIfInBounds (off + x.2) x.1) cells).size = cells.size ∧
    ∀ k, (l.foldl (fun cs x => cs.setIfInBounds (off + x.2) x.1) cells)[k]? = if off + j ≤ k ∧ k < off + j + l.length then (l[k - (off + j)]?).map (·.1) else cells[k]?
  | [], j, cells, _, _ => ⟨rfl, fun k => by rw [if_neg (by simp)]; rfl⟩
  | x :: l, j, cells, hx, hl => by
    have h0 : x.2 = j := hx 0 x rfl
    simp only [List.foldl_cons, List.length_cons] at hl ⊢
    obtain ⟨h1, h2⟩ := foldl_set off l (j + 1) (cells.setIfInBounds (off + x.2) x.1) (fun i y hy => by have := hx (i + 1) y (by simpa using hy); omega) (by simp; omega)
    refine ⟨by rw [h1]; simp, fun k => ?_⟩
    rw [h2 k]
    by_cases hk : k = off + j
    · subst hk
      rw [if_neg (by omega), if_pos ⟨by omega, by omega⟩, h0]
      have : off + j < cells.size := by omega
      simp [this]
    · by_cases h3 : off + (j + 1) ≤ k ∧ k < off + (j + 1) + l.length
      · rw [if_pos h3, if_pos ⟨by omega, by omega⟩]
        have : k - (off + j) = (k - (off + (j + 1))) + 1 := by omega
        rw [this]; rfl
      · rw [if_neg h3, if_neg (by omega), h0, Array.getElem?_setIfInBounds_ne (by omega)]
theorem set_cells (off : Nat) (vs cells : Array Value) (h : off + vs.size ≤ cells.size) :
    (vs.zipIdx.foldl (fun cs (c, j) => cs.setIfInBounds (off + j) c) cells).size = cells.size ∧
    ∀ k, (vs.zipIdx.foldl (fun cs (c, j) => cs.setIfInBounds (off + j) c) cells)[k]? = if off ≤ k ∧ k < off + vs.size then vs[k - off]? else cells[k]? := by
  have e : vs.zipIdx.foldl (fun cs (c, j) => cs.setIfInBounds (off + j) c) cells = (vs.toList.zipIdx).foldl (fun cs x => cs.setIfInBounds (off + x.2) x.1) cells := by
    rw [← Array.foldl_toList]
    simp
  rw [e]
  obtain ⟨h1, h2⟩ := foldl_set off vs.toList.zipIdx 0 cells (fun i x hx => by
    rw [List.getElem?_zipIdx] at hx
    cases hv : vs.toList[i]? with
    | none => rw [hv] at hx; cases hx
    | some y => rw [hv] at hx; simp at hx; subst hx; simp) (by simpa using h)
  refine ⟨h1, fun k => ?_⟩
  rw [h2 k]
  simp only [Nat.add_zero, List.length_zipIdx, Array.length_toList]
  split
  · rw [List.getElem?_zipIdx]
    simp [Option.map_map, Function.comp_def]
  · rfl
section
variable {P : Program} {o : Oper} {c : Ctx} {θ : List Loc} {D : Nat → Prop} {st : St} {a : Act} {w : World} {K : AV → Prop}
theorem fill_ok (place : Nat → Option (Nat × Nat)) : ∀ (parts : List (Nat × Value)) (qs : List (Nat × Nat × AV)) (cells : Array Value) (bs : List BV), parts.length = qs.length →
    (∀ (i : Nat) (x : Nat × Value) (q : Nat × Nat × AV), parts[i]? = some x → qs[i]? = some q → place x.1 = some (q.1, q.2.1) ∧ RelA θ D w x.2 q.2.2) →
    (∀ q ∈ qs, q.2.2.ok = true ∧ q.2.2.cells.length = q.2.1 ∧ q.1 + q.2.1 ≤ bs.length) → cells.size = bs.length → (∀ (i : Nat) (u : Value) (x : BV), cells[i]? = some u → bs[i]? = some x → RelB θ D w u x) →
    ∃ out, Instr.fill place cells parts = some out ∧ out.size = (qs.foldl (fun cs q => splice cs q.1 q.2.2.cells) bs).length ∧
      ∀ (i : Nat) (u : Value) (x : BV), out[i]? = some u → (qs.foldl (fun cs q => splice cs q.1 q.2.2.cells) bs)[i]? = some x → RelB θ D w u x
  | [], [], cells, bs, _, _, _, hs, hr => ⟨cells, rfl, hs, hr⟩
  | (i, v) :: parts, q :: qs, cells, bs, hl, hp, hq, hs, hr => by
    obtain ⟨h1, h2⟩ := hp 0 _ _ rfl rfl
    obtain ⟨h3, h4, h5⟩ := hq q (by simp)
    obtain ⟨h6, h7⟩ := relA_cells h2 h3
    have h6' : v.cells.size = q.2.1 := by rw [← h4]; exact h6
    have hsp := splice_length bs q.1 q.2.2.cells (by omega)
    obtain ⟨s1, s2⟩ := set_cells q.1 v.cells cells (by omega)
    obtain ⟨out, e1, e2, e3⟩ := fill_ok place parts qs (v.cells.zipIdx.foldl (fun cs (c, j) => cs.setIfInBounds (q.1 + j) c) cells) (splice bs q.1 q.2.2.cells) (by simpa using hl)
      (fun i x q' hx hq' => hp (i + 1) x q' (by simpa using hx) (by simpa using hq')) (fun q' hq' => by rw [hsp]; exact hq q' (by simp [hq'])) (by rw [s1, hsp]; exact hs)
      (fun k u x hu hx => by
        rw [s2 k] at hu
        rw [splice_get bs q.1 q.2.2.cells (by omega)] at hx
        split at hu
        · rw [if_pos (by omega)] at hx; exact (h7 (k - q.1) u x hu hx).1
        · rw [if_neg (by omega)] at hx; exact hr k u x hu hx)
    refine ⟨out, ?_, e2, e3⟩
    simp only [Instr.fill, h1]
    rw [if_neg (by simp [h6']; omega)]
    exact e1
theorem relB_zero (z : Array Value) : ∀ (i : Nat) (u : Value) (x : BV), z[i]? = some u → (z.toList.map fun v => constB v)[i]? = some x → RelB θ D w u x := by
  intro i u x hu hx
  rw [List.getElem?_map, Array.getElem?_toList, hu] at hx
  simp at hx
  subst hx
  exact relB_const u
theorem sound_build (hI : Inv c θ D st a w) {t : TypeId} {parts : Array (Nat × Operand)} {z : Value} {ps : List (Nat × Nat × SX)} (ho : o.op = .build t parts) (hz : zeroT P t = some z) (hps : partsOf P t parts.toList = some ps)
    (h : sev P st (.build z.cells.toList ps) K) : Yields P o a w (Res c θ st a K) := by
  obtain ⟨qs, hqs, hcond, hk⟩ := h
  obtain ⟨q1, q2⟩ := mapM_some hqs
  have hz' := hz
  simp only [zeroT, Option.bind_eq_some_iff] at hz'
  obtain ⟨it, hit, hz1⟩ := hz'
  have hrel : ∀ (place : Nat → Option (Nat × Nat)), (∀ (i : Nat) (x : Nat × Operand) (s : Nat × Nat × SX), parts.toList[i]? = some x → ps[i]? = some s → place x.1 = some (s.1, s.2.1) ∧ s.2.2 = SX.of x.2) → parts.toList.length = ps.length →
      ∃ out, Instr.fill place z.cells (parts.map fun (i, x) => (i, a.eval x)).toList = some out ∧ RelA θ D w (.agg out) (.agg (qs.foldl (fun cs q => splice cs q.1 q.2.2.cells) (z.cells.toList.map fun v => constB v))) := by
    intro place hpl hlen
    obtain ⟨out, e1, e2, e3⟩ := fill_ok (θ := θ) (D := D) (w := w) place (parts.map fun (i, x) => (i, a.eval x)).toList qs z.cells (z.cells.toList.map fun v => constB v) (by simp; rw [← q1, ← hlen]; simp)
      (fun i x q hx hq => by
        simp only [Array.toList_map, List.getElem?_map] at hx
        cases hpi : parts.toList[i]? with
        | none => rw [hpi] at hx; simp at hx
        | some pr =>
          rw [hpi] at hx; simp at hx; subst hx
          obtain ⟨s, hs⟩ := getElem?_of_len (l := ps) (m := qs) q1 hq
          have := q2 i s q hs hq
          simp only [Option.map_eq_some_iff] at this
          obtain ⟨av, hav, rfl⟩ := this
          obtain ⟨p1, p2⟩ := hpl i pr s hpi hs
          refine ⟨p1, ?_⟩
          rw [p2] at hav
          exact hI.get hav) (fun q hq => by have := hcond q hq; simpa using this) (by simp) (relB_zero z.cells)
    exact ⟨out, e1, out, rfl, e2, e3⟩
  have hbuilt : ∃ out, P.built t (parts.map fun (i, x) => (i, a.eval x)).toList = some out ∧ RelA θ D w (.agg out) (.agg (qs.foldl (fun cs q => splice cs q.1 q.2.2.cells) (z.cells.toList.map fun v => constB v))) := by
    unfold partsOf at hps
    split at hps
    · rename_i fs hfs
      simp only [Option.bind_eq_some_iff] at hps
      obtain ⟨places, hpl, hps⟩ := hps
      obtain ⟨m1, m2⟩ := mapM_some hps
      obtain ⟨out, e1, e2⟩ := hrel (places.toArray[·]?) (fun i x s hx hs => by
        have := m2 i x s hx hs
        simp only [Option.map_eq_some_iff] at this
        obtain ⟨pl, hpl', rfl⟩ := this
        exact ⟨by simp [hpl'], rfl⟩) m1
      refine ⟨out, ?_, e2⟩
      simp only [Program.built, hit, hfs, hz1, hpl]
      exact e1
    · rename_i n e hfs
      simp only [Option.bind_eq_some_iff] at hps
      obtain ⟨ie, hie, hps⟩ := hps
      obtain ⟨m1, m2⟩ := mapM_some hps
      obtain ⟨out, e1, e2⟩ := hrel (fun i => some (i * ie.size, ie.size)) (fun i x s hx hs => by
        have := m2 i x s hx hs
        simp only [Option.some.injEq] at this
        subst this
        exact ⟨rfl, rfl⟩) m1
      refine ⟨out, ?_, e2⟩
      simp only [Program.built, hit, hfs, hz1, hie]
      exact e1
    · cases hps
  obtain ⟨out, e1, e2⟩ := hbuilt
  refine yields_same hI ?_ hk e2
  simp [execOp, ho, run_build w t _ _ e1]
end
end Go.Av
