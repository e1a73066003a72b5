/- Part ML5 of the layer: an abstract and a typed machine over the loaded code, proved sound. -/
import Derived.Test.YtifgipebbagfcaaDoorHL1
import Derived.Test.YtifgipebbagfcaaDoorHL4
set_option linter.unusedVariables false
set_option linter.unusedSimpArgs false
namespace Go.Ev
open Go Go.RowKit Go.Av
inductive Rx where
  | mk (kind lo hi : Int) (kids : List Rx)
  deriving Inhabited
inductive Ty where
  | int (k : IntKind)
  | bool
  | str
  | list (t : Ty)
  | unit
  | pair (a b : Ty)
  | rx
  deriving Inhabited, DecidableEq
@[reducible] def Ty.den : Ty → Type
  | .int _ => Int
  | .bool => Bool
  | .str => List UInt8
  | .list t => List t.den
  | .unit => Unit
  | .pair a b => a.den × b.den
  | .rx => Rx
def Ty.sz : Ty → Nat
  | .unit => 0
  | .pair a b => a.sz + b.sz
  | .rx => 4
  | _ => 1
def Ty.ag : Ty → Bool
  | .unit => true
  | .pair _ _ => true
  | .rx => true
  | _ => false
mutual
def encRx : Rx → PV
  | .mk k l h ks => .agg [.sc (.int .i64 k), .sc (.int .i64 l), .sc (.int .i64 h), lst 4 (encRxs ks)]
def encRxs : List Rx → List PV
  | [] => []
  | r :: rs => encRx r :: encRxs rs
end
def encP : (t : Ty) → t.den → PV
  | .int k, x => .sc (.int k x)
  | .bool, x => .sc (.bool x)
  | .str, x => .sc (.string ⟨x.toArray⟩)
  | .list t, x => lst t.sz (x.map (encP t))
  | .unit, _ => .agg []
  | .pair a b, x => .agg ((encP a x.1).cells ++ (encP b x.2).cells)
  | .rx, x => encRx x
inductive V where
  | d (t : Ty) (x : t.den)
  | nil (t : Ty)
  | agg (vs : List V)
  | tup (vs : List V)
  | sl (id : Nat)
  | ptr (id off : Nat)
  | elt (id i off : Nat)
  | dp (t : Ty) (x : t.den)
  | clo (f : FuncId) (ids : List Nat)
  | fnD (f : FuncId) (cs : List ((t : Ty) × t.den))
  | mp (id : Nat)
  | full (t : Ty) (x : List t.den)
  | pel (id off n : Nat) (t : Ty) (i : Int)
  | raw (v : Value)
  | any
  | ifc
  | lit (k : K) (t : Ty) (xs : List t.den)
instance : Inhabited V := ⟨.raw Go.undef⟩
inductive Ob where
  | gone
  | free
  | box (tid : TypeId) (cs : List V)
  | vec (tid : TypeId) (t : Ty) (xs : List t.den)
  | map (k e : TypeId) (a b : Ty) (kvs : List (a.den × b.den))
  | tree (tid : TypeId) (k : K) (t : Ty) (xs : List t.den) (hole : Option (Nat × Nat × V))
instance : Inhabited Ob := ⟨.gone⟩
def encN (k : K) (t : Ty) (x : t.den) : PV := match encP t x with
  | .agg cs => .agg (cs.mapIdx fun j y => if (k.at j).isSome then nilP else y)
  | y => if (k.at 0).isSome then nilP else y
def encB : V → BV
  | .d t x => .pv (encP t x)
  | .nil _ => .nils
  | .sl id => .sl id
  | .ptr id off => .ptr id off
  | .elt id i off => .elt id i off
  | .dp t x => .pv (.pto (encP t x))
  | .clo f ids => .clo (.func f) ids
  | .fnD f cs => .pv (.fn (.func f) (cs.map fun c => .pto (encP c.1 c.2)))
  | .mp id => .mp id
  | .full t x => .full (lst t.sz (x.map (encP t)))
  | .raw v => constB v
  | .pel id off _ t i => .ptr id (off + i.toNat * t.sz)
  | .any => .pv .any
  | .ifc => .ifc
  | .lit k t xs => .pv (lst t.sz (xs.map (encN k t)))
  | .agg _ => .pv .any
  | .tup _ => .pv .any
def encA : V → AV
  | .agg vs => .agg (vs.map encB)
  | .tup vs => .tup (vs.map encB)
  | v => .b (encB v)
def encH : Option (Nat × Nat × V) → Option (Nat × Nat × BV)
  | some (i, j, v) => some (i, j, encB v)
  | none => none
def encO : Ob → AObj
  | .gone => .gone
  | .free => .free
  | .box t cs => .box t (cs.map encB)
  | .vec e t xs => .vec e t.sz (xs.map (encP t))
  | .map k e a b kvs => .map k e (kvs.map fun p => (encP a p.1, encP b p.2))
  | .tree e k t xs h => .tree e t.sz k (xs.map (encP t)) (encH h)
structure S where
  fr : List (Nat × V)
  hp : List Ob
def enc (s : S) : St := ⟨s.fr.map fun x => (x.1, encA x.2), s.hp.map encO⟩
def lk : List (Nat × V) → Nat → Option V
  | [], _ => none
  | (k, a) :: l, t => bif Nat.beq t k then some a else lk l t
def S.put (s : S) (d : Nat) (v : V) : S := ⟨(d, v) :: s.fr, s.hp⟩
def S.putO (s : S) (d : Option Nat) (v : V) : S := match d with
  | some d => s.put d v
  | none => s
def cast? (t u : Ty) (x : t.den) : Option u.den := if h : t = u then some (h ▸ x) else none
def guardB {R : Type} (b : Bool) (x : Option R) : Option R := bif b then x else none
def getI {α : Type} (xs : List α) (i : Int) : Option α := bif decide (0 ≤ i) then xs[i.toNat]? else none
def rxFields : Ty := .pair (.int .i64) (.pair (.int .i64) (.pair (.int .i64) (.pair (.list .rx) .unit)))
def Rx.out : Rx → rxFields.den
  | .mk k l h ks => (k, l, h, ks, ())
def part? : (t : Ty) → (off : Nat) → (u : Ty) → t.den → Option u.den
  | .pair a b, off, u, x => bif (decide (Ty.pair a b = u) && Nat.beq off 0) then cast? (.pair a b) u x else bif Nat.ble (off + 1) a.sz then part? a off u x.1 else part? b (off - a.sz) u x.2
  | .rx, off, u, x => match off with
    | 0 => bif decide (u = .rx) then cast? .rx u x else cast? (.int .i64) u x.out.1
    | 1 => cast? (.int .i64) u x.out.2.1
    | 2 => cast? (.int .i64) u x.out.2.2.1
    | 3 => cast? (.list .rx) u x.out.2.2.2.1
    | _ => none
  | t, off, u, x => bif Nat.beq off 0 then cast? t u x else none
def setPart? : (t : Ty) → (off : Nat) → (u : Ty) → t.den → u.den → Option t.den
  | .pair a b, off, u, x, y => bif (decide (Ty.pair a b = u) && Nat.beq off 0) then cast? u (.pair a b) y else bif Nat.ble (off + 1) a.sz then (match setPart? a off u x.1 y with | some z => some (z, x.2) | none => none) else (match setPart? b (off - a.sz) u x.2 y with | some z => some (x.1, z) | none => none)
  | .rx, off, u, x, y => bif Nat.beq off 0 && decide (u = .rx) then cast? u .rx y else none
  | t, off, u, _, y => bif Nat.beq off 0 then cast? u t y else none
def leafs : (t : Ty) → t.den → List V
  | .unit, _ => []
  | .pair a b, x => leafs a x.1 ++ leafs b x.2
  | .rx, x => [.d (.int .i64) x.out.1, .d (.int .i64) x.out.2.1, .d (.int .i64) x.out.2.2.1, .d (.list .rx) x.out.2.2.2.1]
  | t, x => [.d t x]
def leaf? (u : Ty) : V → Option u.den
  | .d t x => cast? t u x
  | .nil t => cast? (.list t) u ([] : List t.den)
  | .full t x => cast? (.list t) u x
  | _ => none
def asm : (t : Ty) → List V → Option (t.den × List V)
  | .unit, l => some ((), l)
  | .pair a b, l => match asm a l with
    | some (x, l) => match asm b l with
      | some (y, l) => some ((x, y), l)
      | none => none
    | none => none
  | .rx, l => match l with
    | a :: b :: c :: e :: l => match leaf? (.int .i64) a, leaf? (.int .i64) b, leaf? (.int .i64) c, leaf? (.list .rx) e with
      | some a, some b, some c, some e => some (.mk a b c e, l)
      | _, _, _, _ => none
    | _ => none
  | t, l => match l with
    | v :: l => match leaf? t v with
      | some x => some (x, l)
      | none => none
    | [] => none
def data? (t : Ty) (v : V) : Option t.den := match v with
  | .agg vs => match t.ag with
    | true => match asm t vs with
      | some (x, []) => some x
      | _ => none
    | false => none
  | v => leaf? t v
def cellsV : V → List V
  | .d t x => leafs t x
  | .agg vs => vs
  | v => [v]
def whole (t : Ty) (cs : List V) : V := match t.ag with
  | true => .agg cs
  | false => match cs.headD default with
    | .agg _ => .any
    | .tup _ => .any
    | v => v
def V.cellB : V → Bool
  | .d t _ => !t.ag
  | .agg _ => false
  | .tup _ => false
  | .any => false
  | .lit _ _ _ => false
  | .raw v => v.oneCell'
  | _ => true
def V.okB : V → Bool
  | .d _ _ => true
  | .agg vs => vs.all V.cellB
  | .tup _ => false
  | v => v.cellB
def V.cellD : V → Bool
  | .d _ _ => true
  | .nil _ => true
  | .full _ _ => true
  | _ => false
def eqD : (t : Ty) → t.den → t.den → Bool
  | .int _, x, y => x == y
  | .bool, x, y => x == y
  | .str, x, y => x == y
  | .unit, _, _ => true
  | .pair a b, x, y => eqD a x.1 y.1 && eqD b x.2 y.2
  | _, _, _ => false
def Ty.eqOk : Ty → Bool
  | .int _ => true
  | .bool => true
  | .str => true
  | .unit => true
  | .pair a b => a.eqOk && b.eqOk
  | _ => false
def kvGet (a b : Ty) : List (a.den × b.den) → a.den → Option b.den
  | [], _ => none
  | (k, v) :: l, x => bif eqD a x k then some v else kvGet a b l x
def kvSet (a b : Ty) : List (a.den × b.den) → a.den → b.den → List (a.den × b.den)
  | [], x, y => [(x, y)]
  | (k, v) :: l, x, y => bif eqD a x k then (x, y) :: l else (k, v) :: kvSet a b l x y
def Ty.zero : (t : Ty) → t.den
  | .int _ => (0 : Int)
  | .bool => false
  | .str => []
  | .list _ => []
  | .unit => ()
  | .pair a b => (a.zero, b.zero)
  | .rx => .mk 0 0 0 []
def Ty.flat : Ty → Bool
  | .list _ => false
  | .rx => false
  | .pair a b => a.flat && b.flat
  | _ => true
inductive X where
  | tm (k : Nat)
  | k (t : Ty) (x : t.den)
  | nil (t : Ty)
  | ag (vs : List V)
  | f (n : Nat)
  | raw (v : Value)
  deriving Inhabited
def S.get (s : S) : X → Option V
  | .tm k => lk s.fr k
  | .k t x => some (.d t x)
  | .nil t => some (.nil t)
  | .ag vs => some (.agg vs)
  | .f n => some (.fnD n [])
  | .raw v => some (.raw v)
end Go.Ev
namespace Go.Ev
open Go Go.RowKit Go.Av
inductive Slot where
  | tm (k : Nat) (t : Ty)
  | cell (id j : Nat) (t : Ty)
  | vec (id : Nat) (e : TypeId) (t : Ty)
  | map (id : Nat) (k e : TypeId) (a b : Ty)
  | tree (id : Nat) (e : TypeId) (k : K) (t : Ty)
  | treeH (id : Nat) (e : TypeId) (k : K) (t : Ty) (j kid : Nat)
@[reducible] def Slot.ty : Slot → Ty
  | .tm _ t => t
  | .cell _ _ t => t
  | .vec _ _ t => .list t
  | .map _ _ _ a b => .list (.pair a b)
  | .tree _ _ _ t => .list t
  | .treeH _ _ _ t _ _ => .pair (.list t) (.int .i64)
@[reducible] def HL : List Slot → Type
  | [] => Unit
  | s :: l => s.ty.den × HL l
structure Sh where
  keep : List Nat
  sk : S
  sl : List Slot
def V.isD : V → Bool
  | .d _ _ => true
  | .dp _ _ => true
  | .fnD _ _ => true
  | _ => false
def keepFr (fr : List (Nat × V)) : List Nat → List (Nat × V)
  | [] => []
  | k :: l => match lk fr k with
    | some v => bif v.isD then (k, v) :: keepFr fr l else keepFr fr l
    | none => keepFr fr l
def hasD (fr : List (Nat × V)) (k : Nat) : Bool := match lk fr k with
  | some v => v.isD
  | none => false
def Sh.base (sh : Sh) (s : S) : S := ⟨keepFr s.fr sh.keep ++ sh.sk.fr, sh.sk.hp⟩
def setAt {α : Type} : List α → Nat → α → List α
  | [], _, _ => []
  | _ :: l, 0, y => y :: l
  | x :: l, n + 1, y => x :: setAt l n y
def setCell (hp : List Ob) (id j : Nat) (v : V) : List Ob := match hp[id]? with
  | some (.box t cs) => setAt hp id (.box t (setAt cs j v))
  | _ => hp
def unpack : (sl : List Slot) → HL sl → S → S
  | [], _, s => s
  | .tm k t :: l, c, s => unpack l c.2 ⟨(k, .d t c.1) :: s.fr, s.hp⟩
  | .cell id j t :: l, c, s => unpack l c.2 ⟨s.fr, setCell s.hp id j (.d t c.1)⟩
  | .vec id e t :: l, c, s => unpack l c.2 ⟨s.fr, setAt s.hp id (.vec e t c.1)⟩
  | .map id k e a b :: l, c, s => unpack l c.2 ⟨s.fr, setAt s.hp id (.map k e a b c.1)⟩
  | .tree id e k t :: l, c, s => unpack l c.2 ⟨s.fr, setAt s.hp id (.tree e k t c.1 none)⟩
  | .treeH id e k t j kid :: l, c, s => unpack l c.2 ⟨s.fr, setAt s.hp id (.tree e k t c.1.1 (some (Int.toNat c.1.2, j, .sl kid)))⟩
def V.same : V → V → Bool
  | .sl i, .sl j => Nat.beq i j
  | .ptr i o, .ptr j p => Nat.beq i j && Nat.beq o p
  | .mp i, .mp j => Nat.beq i j
  | .clo f is, .clo g js => Nat.beq f g && decide (is = js)
  | .nil t, .nil u => decide (t = u)
  | .raw (.pointer none), .raw (.pointer none) => true
  | .raw (.map none), .raw (.map none) => true
  | .raw .nilFunc, .raw .nilFunc => true
  | .raw .nilIface, .raw .nilIface => true
  | _, _ => false
def cellsFit : List V → List V → Bool
  | [], [] => true
  | .any :: l, _ :: m => cellsFit l m
  | .agg xs :: l, .agg ys :: m => (xs.length == ys.length) && cellsFit l m
  | x :: l, y :: m => V.same x y && cellsFit l m
  | _, _ => false
def obFit : Ob → Ob → Bool
  | .gone, _ => true
  | .box t cs, .box u ds => Nat.beq t u && cellsFit cs ds
  | .vec e t _, .vec e' t' _ => Nat.beq e e' && decide (t = t')
  | .map k e a b _, .map k' e' a' b' _ => Nat.beq k k' && Nat.beq e e' && decide (a = a') && decide (b = b')
  | .tree e k t _ h, .tree e' k' t' _ h' => Nat.beq e e' && decide (k = k') && decide (t = t') && (match h, h' with
    | none, none => true
    | some (_, j, .sl a), some (_, j', .sl a') => Nat.beq j j' && Nat.beq a a'
    | _, _ => false)
  | _, _ => false
def obsFit : List Ob → List Ob → Bool
  | [], [] => true
  | a :: l, b :: m => obFit a b && obsFit l m
  | _, _ => false
def frFit (fr : List (Nat × V)) : List (Nat × V) → Bool
  | [] => true
  | (k, v) :: l => (match lk fr k with | some w => V.same v w | none => false) && frFit fr l
def S.fits (sk s : S) : Bool := frFit s.fr sk.fr && obsFit sk.hp s.hp
def slotVal (s : S) : (x : Slot) → Option x.ty.den
  | .tm k t => match lk s.fr k with
    | some v => data? t v
    | none => none
  | .cell id j t => match s.hp[id]? with
    | some (.box _ cs) => match cs[j]? with
      | some v => leaf? t v
      | none => none
    | _ => none
  | .vec id _ t => match s.hp[id]? with
    | some (.vec _ u xs) => cast? (.list u) (.list t) xs
    | _ => none
  | .map id _ _ a b => match s.hp[id]? with
    | some (.map _ _ a' b' kvs) => cast? (.list (.pair a' b')) (.list (.pair a b)) kvs
    | _ => none
  | .tree id _ _ t => match s.hp[id]? with
    | some (.tree _ _ u xs none) => cast? (.list u) (.list t) xs
    | _ => none
  | .treeH id _ _ t _ _ => match s.hp[id]? with
    | some (.tree _ _ u xs (some (i, _, _))) => match cast? (.list u) (.list t) xs with
      | some xs => some (xs, (i : Int))
      | none => none
    | _ => none
def packL (s : S) : (sl : List Slot) → Option (HL sl)
  | [] => some ()
  | x :: l => match slotVal s x with
    | some c => match packL s l with
      | some r => some (c, r)
      | none => none
    | none => none
def pack (sh : Sh) (s : S) : Option (HL sh.sl) := match S.fits sh.sk s && sh.keep.all (hasD s.fr) with
  | true => packL s sh.sl
  | false => none
def slotB (hp : List Ob) : Slot → Bool
  | .vec id e t => match hp[id]? with
    | some (.vec e' t' _) => Nat.beq e e' && decide (t = t')
    | _ => false
  | .map id k e a b => match hp[id]? with
    | some (.map k' e' a' b' _) => Nat.beq k k' && Nat.beq e e' && decide (a = a') && decide (b = b')
    | _ => false
  | .tree id e k t => match hp[id]? with
    | some (.tree e' k' t' _ none) => Nat.beq e e' && decide (k = k') && decide (t = t')
    | _ => false
  | .treeH id e k t j kid => match hp[id]? with
    | some (.tree e' k' t' _ (some (_, j', .sl kid'))) => Nat.beq e e' && decide (k = k') && decide (t = t') && Nat.beq j j' && Nat.beq kid kid'
    | _ => false
  | _ => true
def obsB (sl : List Slot) : Nat → List Ob → Bool
  | _, [] => true
  | i, o :: l => (match o with
    | .vec _ _ _ => sl.any fun x => match x with
      | .vec j _ _ => Nat.beq j i
      | _ => false
    | .map _ _ _ _ _ => sl.any fun x => match x with
      | .map j _ _ _ _ => Nat.beq j i
      | _ => false
    | .tree _ _ _ _ _ => sl.any fun x => match x with
      | .tree j _ _ _ => Nat.beq j i
      | .treeH j _ _ _ _ _ => Nat.beq j i
      | _ => false
    | _ => true) && obsB sl (i + 1) l
def Sh.wfB (sh : Sh) : Bool := sh.sl.all (slotB sh.sk.hp) && obsB sh.sl 0 sh.sk.hp
@[reducible] def XT : List (Nat × Sh) → Type
  | [] => Empty
  | [(_, sh)] => HL sh.sl
  | (_, sh) :: l => HL sh.sl ⊕ XT l
def inj : (xs : List (Nat × Sh)) → Nat → S → Option (XT xs)
  | [], _, _ => none
  | [(k, sh)], key, s => bif Nat.beq k key then pack sh s else none
  | (k, sh) :: a :: l, key, s => bif Nat.beq k key then (match pack sh s with | some c => some (.inl c) | none => none) else (match inj (a :: l) key s with | some c => some (.inr c) | none => none)
def dispatch {R : Type} (s : S) (κ : Nat → S → Option R) : (xs : List (Nat × Sh)) → XT xs → Option R
  | [], _ => none
  | [(k, sh)], c => κ k (unpack sh.sl c (sh.base s))
  | (k, sh) :: a :: l, c => Sum.elim (fun c => κ k (unpack sh.sl c (sh.base s))) (fun c => dispatch s κ (a :: l) c) c
inductive Adj where
  | freeze (id : Nat)
  | adopt (k : Nat) (e : TypeId) (t : Ty)
  | adoptC (id j : Nat) (e : TypeId) (t : Ty)
  | sel (ids : List Nat) (ks : List Nat)
  | drop (ks : List Nat)
  | focus (id k j : Nat) (u : Ty)
  | close (id : Nat)
  | adoptT (k : Nat) (e : TypeId) (kk : K) (t : Ty)
  | adoptCT (id j : Nat) (e : TypeId) (kk : K) (t : Ty)
def V.ren (ρ : Nat → Nat) : V → V
  | .sl id => .sl (ρ id)
  | .ptr id off => .ptr (ρ id) off
  | .pel id off n t i => .pel (ρ id) off n t i
  | .elt id i off => .elt (ρ id) i off
  | .clo f ids => .clo f (ids.map ρ)
  | .mp id => .mp (ρ id)
  | x => x
def V.ids1 : V → List Nat
  | .sl id => [id]
  | .ptr id _ => [id]
  | .pel id _ _ _ _ => [id]
  | .elt id _ _ => [id]
  | .clo _ ids => ids
  | .mp id => [id]
  | _ => []
def mapV (g : V → V) : V → V
  | .agg vs => .agg (vs.map g)
  | .tup vs => .tup (vs.map g)
  | v => g v
def mapHo (g : V → V) : Option (Nat × Nat × V) → Option (Nat × Nat × V)
  | some (i, j, v) => some (i, j, g v)
  | none => none
def mapO (g : V → V) : Ob → Ob
  | .box t cs => .box t (cs.map g)
  | .tree e k t xs h => .tree e k t xs (mapHo g h)
  | o => o
def V.ids : V → List Nat
  | .agg vs => vs.flatMap V.ids1
  | .tup vs => vs.flatMap V.ids1
  | v => v.ids1
def Ob.ids : Ob → List Nat
  | .box _ cs => cs.flatMap V.ids1
  | .tree _ _ _ _ (some (_, _, v)) => v.ids1
  | _ => []
def S.map (g : V → V) (s : S) : S := ⟨s.fr.map fun x => (x.1, mapV g x.2), s.hp.map (mapO g)⟩
def V.kill1 (id : Nat) : V → V
  | .sl k => bif Nat.beq k id then .any else .sl k
  | .elt k i o => bif Nat.beq k id then .any else .elt k i o
  | v => v
def S.moved (s : S) (id : Nat) (o : Ob) : S := ⟨s.fr.map fun x => (x.1, mapV (V.kill1 id) x.2), setAt (s.hp.map (mapO (V.kill1 id))) id o⟩
def idx (l : List Nat) (x : Nat) : Nat := l.idxOf x
def inL (l : List Nat) (x : Nat) : Bool := l.any (Nat.beq x)
def allIn (l m : List Nat) : Bool := m.all (inL l)
def frz (id : Nat) (t : Ty) (x : List t.den) : V → V
  | .sl k => bif Nat.beq k id then .d (.list t) x else .sl k
  | .elt k i o => bif Nat.beq k id then .any else .elt k i o
  | v => v
def innerOb (e : TypeId) (k : K) (u : Ty) (L : List u.den) : Ob := bif k.allF then .vec e u L else .tree e k u L none
def outerOb (e : TypeId) (k : K) (u : Ty) : Ob → Option (List u.den)
  | .vec e' t xs => bif k.allF && Nat.beq e e' then cast? (.list t) (.list u) xs else none
  | .tree e' k' t xs none => bif !k.allF && Nat.beq e e' && decide (k = k') then cast? (.list t) (.list u) xs else none
  | _ => none
def elTy : Ty → Nat → Option Ty
  | .list u, 0 => some u
  | .pair a b, off => bif Nat.ble (off + 1) a.sz then elTy a off else elTy b (off - a.sz)
  | _, _ => none
def adj : Adj → S → Option S
  | .freeze id, s => match s.hp[id]? with
    | some (.vec _ t xs) => some (let s' := s.map (frz id t xs); ⟨s'.fr, setAt s'.hp id .gone⟩)
    | some (.tree _ _ t xs none) => some (let s' := s.map (frz id t xs); ⟨s'.fr, setAt s'.hp id .gone⟩)
    | _ => none
  | .focus id k j u, s => match lk s.fr k, s.hp[id]? with
    | some (.d (.int _) n), some (.tree e kk t xs none) => match kk.at j with
      | some (e', sz', k') => bif Nat.beq sz' u.sz && decide (0 ≤ n) then Option.bind xs[n.toNat]? fun x => (match part? t j (.list u) x with
        | some L => some ⟨s.fr, setAt s.hp id (.tree e kk t xs (some (n.toNat, j, .sl s.hp.length))) ++ [innerOb e' k' u L]⟩
        | none => none) else none
      | none => none
    | _, _ => none
  | .close id, s => match s.hp[id]? with
    | some (.tree e kk t xs (some (i, j, .sl kid))) => bif Nat.beq kid id then none else (match kk.at j, s.hp[kid]?, elTy t j with
      | some (e', sz', k'), some o, some u => match outerOb e' k' u o with
        | some L => bif Nat.beq sz' u.sz then Option.bind xs[i]? fun x => (match setPart? t j (.list u) x L with
          | some y => some (let s' := s.moved kid .gone; ⟨s'.fr, setAt s'.hp id (.tree e kk t (xs.set i y) none)⟩)
          | none => none) else none
        | none => none
      | _, _, _ => none)
    | _ => none
  | .adopt k e t, s => match lk s.fr k with
    | some (.nil _) => some ⟨(k, .sl s.hp.length) :: s.fr, s.hp ++ [.vec e t []]⟩
    | _ => none
  | .adoptC id j e t, s => match s.hp[id]? with
    | some (.box u cs) => match cs[j]? with
      | some (.nil _) => some ⟨s.fr, setAt s.hp id (.box u (setAt cs j (.sl s.hp.length))) ++ [.vec e t []]⟩
      | _ => none
    | _ => none
  | .adoptT k e kk t, s => match lk s.fr k with
    | some (.nil _) => some ⟨(k, .sl s.hp.length) :: s.fr, s.hp ++ [.tree e kk t [] none]⟩
    | _ => none
  | .adoptCT id j e kk t, s => match s.hp[id]? with
    | some (.box u cs) => match cs[j]? with
      | some (.nil _) => some ⟨s.fr, setAt s.hp id (.box u (setAt cs j (.sl s.hp.length))) ++ [.tree e kk t [] none]⟩
      | _ => none
    | _ => none
  | .sel ids ks, s => match ids.mapM (fun i => s.hp[i]?), ks.mapM (fun k => (lk s.fr k).map fun v => (k, v)) with
    | some os, some fr => bif decide ids.Nodup && os.all (fun o => allIn ids o.ids) && fr.all (fun x => allIn ids x.2.ids) then
        some ⟨fr.map fun x => (x.1, mapV (V.ren (idx ids)) x.2), os.map (mapO (V.ren (idx ids)))⟩ else none
    | _, _ => none
  | .drop ks, s => some ⟨s.fr.filter fun x => !inL ks x.1, s.hp⟩
def adjs : List Adj → S → Option S
  | [], s => some s
  | a :: l, s => match adj a s with
    | some s => adjs l s
    | none => none
def adjK {R : Type} : Adj → S → (S → Option R) → Option R
  | .focus id k j u, s, κ => match lk s.fr k, s.hp[id]? with
    | some (.d (.int _) n), some (.tree e kk t xs none) => match kk.at j with
      | some (e', sz', k') => bif Nat.beq sz' u.sz then guardB (decide (0 ≤ n)) (Option.bind xs[n.toNat]? fun x => (match part? t j (.list u) x with
        | some L => κ ⟨s.fr, setAt s.hp id (.tree e kk t xs (some (n.toNat, j, .sl s.hp.length))) ++ [innerOb e' k' u L]⟩
        | none => none)) else none
      | none => none
    | _, _ => none
  | .close id, s, κ => match s.hp[id]? with
    | some (.tree e kk t xs (some (i, j, .sl kid))) => bif Nat.beq kid id then none else (match kk.at j, s.hp[kid]?, elTy t j with
      | some (e', sz', k'), some o, some u => match outerOb e' k' u o with
        | some L => bif Nat.beq sz' u.sz then Option.bind xs[i]? fun x => (match setPart? t j (.list u) x L with
          | some y => κ (let s' := s.moved kid .gone; ⟨s'.fr, setAt s'.hp id (.tree e kk t (xs.set i y) none)⟩)
          | none => none) else none
        | none => none
      | _, _, _ => none)
    | _ => none
  | a, s, κ => match adj a s with
    | some s => κ s
    | none => none
def adjsK {R : Type} : List Adj → S → (S → Option R) → Option R
  | [], s, κ => κ s
  | a :: l, s, κ => adjK a s fun s => adjsK l s κ
inductive Arg where
  | d (t : Ty)
  | x
inductive TOp where
  | mv (x : X)
  | pick (c a b : X)
  | bin (op : BinOp) (x y : X)
  | eqB (neg : Bool) (x y : X)
  | eqT (neg : Bool) (tid : TypeId) (t : Ty) (x y : X)
  | un (op : UnOp) (x : X)
  | len (str : Bool) (x : X)
  | lenM (k e : TypeId) (x : X)
  | idxS (x i : X)
  | idxV (n : Nat) (t : Ty) (x i : X)
  | idxA (t : Ty) (x i : X)
  | idxP (n : Nat) (t : Ty) (x i : X)
  | fldA (off : Nat) (t : Ty) (x : X)
  | fld (off : Nat) (t : Ty) (x : X)
  | load (t : Ty) (x : X)
  | store (t : Ty) (x v : X)
  | alloc (tid : TypeId) (zero : List V)
  | box (tid : TypeId) (x : X)
  | boxD (tid : TypeId) (t : Ty) (x : X)
  | build (zero : List V) (parts : List (Nat × Nat × X))
  | bslice (own : Bool) (tid : TypeId) (t : Ty) (len : Nat) (parts : List X)
  | mslice (tid : TypeId) (t : Ty) (bytes : Nat) (l c : X)
  | append (tid : TypeId) (t : Ty) (bytes : Nat) (x y : X)
  | cvtI (k : IntKind) (x : X)
  | slc (full : Bool) (t : Ty) (x : X) (lo hi mx : Option X)
  | slcS (x : X) (lo hi : Option X)
  | ext (x : X) (i : Nat)
  | nilc (x : X)
  | call (bor : Bool) (f : FuncId) (args : List (Arg × X)) (sh : Sh)
  | callA (pan bor : Bool) (B : List Nat) (f : FuncId) (args : List (Arg × X)) (sh : Sh)
  | callv (pan bor : Bool) (B : List Nat) (num : Nat) (x : X) (args : List (Arg × X)) (sh : Sh)
  | b2s (x : X)
  | mkfn (f : FuncId) (caps : List X)
  | mkmap (k e : TypeId) (a b : Ty)
  | lookup (k e : TypeId) (ok : Bool) (a b : Ty) (m x : X)
  | mapset (k e : TypeId) (a b : Ty) (m x v : X)
  | copy (tid : TypeId) (t : Ty) (x y : X)
  | mnmx (mx : Bool) (k : IntKind) (x : X) (ys : List X)
  | panic (x : X)
  | iface (tid : TypeId) (x : X)
  | bsliceF (tid : TypeId) (t : Ty) (len : Nat) (parts : List X)
  | appD (tid : TypeId) (t : Ty) (bytes : Nat) (x y : X)
  | bsliceN (tid : TypeId) (k : K) (t : Ty) (len : Nat) (parts : List X)
  | msliceT (tid : TypeId) (k : K) (u : Ty) (bytes : Nat) (l c : X)
  | appT (tid : TypeId) (k : K) (t : Ty) (bytes : Nat) (x y : X)
  | callp (bor : Bool) (num : Nat) (x : X) (args : List (Arg × X)) (sh : Sh)
  | atq (k : Nat) (op : TOp)
abbrev Oracle := FuncId → List V → List Ob → Option (Option S)
section
variable {R : Type}
def binI (op : BinOp) (k k' : IntKind) (a b : Int) (κ : V → Option R) : Option R :=
  match op with
  | .shl => guardB (decide (0 ≤ b)) (κ (.d (.int k) (k.wrap (a * 2 ^ (min b.toNat k.bits)))))
  | .shr => guardB (decide (0 ≤ b)) (κ (.d (.int k) (a.fdiv (2 ^ (min b.toNat k.bits)))))
  | op => bif decide (k = k') then (match op with
    | .add => κ (.d (.int k) (k.wrap (a + b)))
    | .sub => κ (.d (.int k) (k.wrap (a - b)))
    | .mul => κ (.d (.int k) (k.wrap (a * b)))
    | .quo => guardB (b != 0) (κ (.d (.int k) (k.wrap (a.tdiv b))))
    | .rem => guardB (b != 0) (κ (.d (.int k) (a.tmod b)))
    | .and => κ (.d (.int k) (bitsI k .and a b))
    | .or => κ (.d (.int k) (bitsI k .or a b))
    | .xor => κ (.d (.int k) (bitsI k .xor a b))
    | .andNot => κ (.d (.int k) (bitsI k .andNot a b))
    | .eql => κ (.d .bool (a == b))
    | .neq => κ (.d .bool (a != b))
    | .lss => κ (.d .bool (decide (a < b)))
    | .leq => κ (.d .bool (decide (a ≤ b)))
    | .gtr => κ (.d .bool (decide (a > b)))
    | .geq => κ (.d .bool (decide (a ≥ b)))
    | _ => none) else none
def binS (op : BinOp) (a b : List UInt8) (κ : V → Option R) : Option R :=
  match op with
  | .add => guardB (decide (a.length + b.length ≤ 9223372036854775807)) (κ (.d .str (a ++ b)))
  | .eql => κ (.d .bool (a == b))
  | .neq => κ (.d .bool (!(a == b)))
  | .lss => κ (.d .bool (Op.bytesLess a b))
  | .leq => κ (.d .bool (Op.bytesLess a b || a == b))
  | .gtr => κ (.d .bool (!(Op.bytesLess a b || a == b)))
  | .geq => κ (.d .bool (!(Op.bytesLess a b)))
  | _ => none
def intOf (v : Option V) (κ : Int → Option R) : Option R := match v with
  | some (.d (.int _) n) => κ n
  | _ => none
def listOf (hp : List Ob) (t : Ty) (v : Option V) (κ : List t.den → Option R) : Option R := match v with
  | some (.sl id) => match hp[id]? with
    | some (.vec _ u xs) => match cast? (.list u) (.list t) xs with
      | some xs => κ xs
      | none => none
    | _ => none
  | some v => match leaf? (.list t) v with
    | some xs => κ xs
    | none => none
  | none => none
def bndOf (s : S) (x : Option X) (dflt : Nat) (κ : Nat → Option R) : Option R := match x with
  | none => κ dflt
  | some x => intOf (s.get x) fun n => guardB (decide (0 ≤ n)) (κ n.toNat)
def rowAt (t : Ty) : Nat → V → Int → Option t.den
  | n + 1, .d (.pair a b) x, m => match cast? a t x.1 with
    | some y => bif decide (m = 0) then some y else rowAt t n (.d b x.2) (m - 1)
    | none => none
  | n + 1, .agg vs, m => match asm t vs with
    | some (x, l) => bif decide (m = 0) then some x else rowAt t n (.agg l) (m - 1)
    | none => none
  | _, _, _ => none
def rowSet (t : Ty) (y : t.den) : Nat → List V → Int → Option (List V)
  | n + 1, vs, m => match asm t vs with
    | some (x, l) => match rowSet t y n l (m - 1) with
      | some r => some (leafs t (bif decide (m = 0) then y else x) ++ r)
      | none => none
    | none => none
  | 0, vs, _ => some vs
def loadT (hp : List Ob) (t : Ty) (v : Option V) (κ : V → Option R) : Option R := match v with
  | some (.dp u x) => match cast? u t x with
    | some x => κ (.d t x)
    | none => none
  | some (.ptr id off) => match hp[id]? with
    | some (.box _ cs) => bif Nat.ble (off + t.sz) cs.length then κ (whole t ((cs.drop off).take t.sz)) else none
    | _ => none
  | some (.pel id off n u m) => match hp[id]? with
    | some (.box _ cs) => bif Nat.ble (off + n * u.sz) cs.length && decide (u = t) then Option.bind (rowAt t n (.agg ((cs.drop off).take (n * u.sz))) m) fun x => κ (.d t x) else none
    | _ => none
  | some (.elt id i off) => match hp[id]? with
    | some (.vec _ u xs) => bif decide (u = t) || !Nat.beq t.sz u.sz then Option.bind xs[i]? fun x => (match part? u off t x with
      | some y => κ (.d t y)
      | none => none) else none
    | some (.tree _ k u xs hole) => bif k.flatB off t.sz then Option.bind xs[i]? fun x => (match part? u off t x with
      | some y => κ (.d t y)
      | none => none) else (match hole with
        | some (hi, hj, v) => bif Nat.beq hj off && !t.ag && Nat.ble (off + 1) u.sz && (match v with | .sl _ => true | _ => false) then Option.bind xs[i]? fun _ => guardB (Nat.beq hi i) (κ v) else none
        | none => none)
    | _ => none
  | _ => none
def spliceV (cs : List V) (off : Nat) (vs : List V) : List V := cs.take off ++ vs ++ cs.drop (off + vs.length)
def storeT (s : S) (t : Ty) (a : Option V) (v : Option V) (κ : S → Option R) : Option R := match a, v with
  | some (.ptr id off), some v => match s.hp[id]? with
    | some (.box tid cs) => bif Nat.beq (cellsV v).length t.sz && Nat.ble (off + t.sz) cs.length && v.okB then κ ⟨s.fr, setAt s.hp id (.box tid (spliceV cs off (cellsV v)))⟩ else none
    | _ => none
  | some (.pel id off n u m), some v => match s.hp[id]?, data? t v with
    | some (.box tid cs), some y => bif Nat.ble (off + n * u.sz) cs.length && decide (u = t) && Nat.ble 1 t.sz then (match rowSet t y n ((cs.drop off).take (n * u.sz)) m with
      | some vs => guardB (decide (0 ≤ m) && decide (m < n)) (κ ⟨s.fr, setAt s.hp id (.box tid (spliceV cs off vs))⟩)
      | none => none) else none
    | _, _ => none
  | some (.elt id i off), some v => match s.hp[id]?, data? t v with
    | some (.vec e u xs), some y => bif decide (u = t) || !Nat.beq t.sz u.sz then Option.bind xs[i]? fun x => (match setPart? u off t x y with
      | some z => κ ⟨s.fr, setAt s.hp id (.vec e u (xs.set i z))⟩
      | none => none) else none
    | some (.tree e k u xs hole), some y => bif k.flatB off t.sz && u.ag then Option.bind xs[i]? fun x => (match setPart? u off t x y with
      | some z => κ ⟨s.fr, setAt s.hp id (.tree e k u (xs.set i z) hole)⟩
      | none => none) else none
    | some (.tree e k u xs (some (hi, hj, _))), none => (match v with
      | .sl kid => bif Nat.beq hj off && Nat.beq t.sz 1 && Nat.ble (off + 1) u.sz then Option.bind xs[i]? fun _ => guardB (Nat.beq hi i) (κ ⟨s.fr, setAt s.hp id (.tree e k u xs (some (hi, hj, .sl kid)))⟩) else none
      | _ => none)
    | _, _ => none
  | _, _ => none
def V.isRef : V → Bool
  | .sl _ => true
  | .ptr _ _ => true
  | .pel _ _ _ _ _ => true
  | .elt _ _ _ => true
  | .clo _ _ => true
  | .mp _ => true
  | _ => false
def argOf (s : S) (bor : Bool) (B : List Nat) (a : Arg × X) : Option V := match a.1, s.get a.2 with
  | .d (.list t), some (.sl id) => bif bor && !inL B id then (match s.hp[id]? with
    | some (.vec _ u xs) => match cast? (.list u) (.list t) xs with
      | some xs => some (.d (.list t) xs)
      | none => none
    | some (.tree _ _ u xs none) => match cast? (.list u) (.list t) xs with
      | some xs => some (.d (.list t) xs)
      | none => none
    | _ => none) else none
  | .d t, some v => match data? t v with
    | some x => some (.d t x)
    | none => none
  | .x, some v => match v with
    | .d _ _ => none
    | .nil _ => none
    | .full _ _ => none
    | .raw (.slice _ _ _) => none
    | .agg vs => bif vs.any V.isRef then some (.agg vs) else none
    | v => some v
  | _, none => none
def argsOf (s : S) (bor : Bool) (B : List Nat) : List (Arg × X) → Option (List V)
  | [] => some []
  | a :: l => match argOf s bor B a with
    | some v => match argsOf s bor B l with
      | some vs => some (v :: vs)
      | none => none
    | none => none
def leafTys : Ty → List Ty
  | .unit => []
  | .pair a b => leafTys a ++ leafTys b
  | .rx => [.int .i64, .int .i64, .int .i64, .list .rx]
  | t => [t]
def flatK : K → List Ty → Bool
  | .e, ts => ts.all Ty.flat
  | .f r, t :: ts => t.flat && flatK r ts
  | .s _ sz sub r, .list u :: ts => Nat.beq sz u.sz && flatK sub (leafTys u) && flatK r ts
  | _, _ => false
def Slot.flat : Slot → Bool
  | .tm _ t => t.flat
  | .cell _ _ t => t.flat
  | .vec _ _ t => t.flat
  | .map _ _ _ a b => a.flat && b.flat
  | .tree _ _ k t => flatK k (leafTys t)
  | .treeH _ _ k t _ _ => flatK k (leafTys t)
def resV (fr : List (Nat × V)) (n : Nat) : List V := (List.range n).map fun i => (lk fr i).getD .any
def res (n : Nat) (fr : List (Nat × V)) : V := bif Nat.beq n 1 then (lk fr 0).getD .any else .tup (resV fr n)
def V.isA : V → Bool
  | .agg _ => true
  | .tup _ => true
  | _ => false
def oneOk (n : Nat) (fr : List (Nat × V)) : Bool := Nat.beq n 1 || fr.all fun x => !x.2.isA
def backI (B : List Nat) (n k : Nat) : Nat := bif Nat.ble (k + 1) B.length then B.getD k 0 else n + (k - B.length)
def killB1 (B : List Nat) : V → V
  | .sl k => bif inL B k then .any else .sl k
  | .elt k i o => bif inL B k then .any else .elt k i o
  | v => v
def backH (B : List Nat) (os : List Ob) (n : Nat) : Nat → List Ob → List Ob
  | _, [] => []
  | i, o :: l => (bif inL B i then mapO (V.ren (backI B n)) (os.getD (idx B i) .gone) else mapO (killB1 B) o) :: backH B os n (i + 1) l
def S.back (s : S) (B : List Nat) (os : List Ob) : S :=
  ⟨s.fr.map fun x => (x.1, mapV (killB1 B) x.2), backH B os s.hp.length 0 s.hp ++ (os.drop B.length).map (mapO (V.ren (backI B s.hp.length)))⟩
def Sh.n (sh : Sh) : Nat := (sh.sk.fr.length) + (sh.sl.filter fun x => match x with | .tm _ _ => true | _ => false).length
def callR (O : Oracle) (f : FuncId) (ars : List V) (os : List Ob) (sh : Sh) : Option (HL sh.sl) := match O f ars os with
  | some (some s) => bif Nat.beq s.fr.length sh.n && oneOk sh.n s.fr then pack sh s else none
  | _ => none
def callP (O : Oracle) (f : FuncId) (ars : List V) (os : List Ob) (sh : Sh) : Option (Option (HL sh.sl)) := match O f ars os with
  | some (some s) => bif Nat.beq s.fr.length sh.n && oneOk sh.n s.fr then (match pack sh s with | some c => some (some c) | none => none) else none
  | some none => some none
  | none => none
end
end Go.Ev
namespace Go.Ev
open Go Go.RowKit Go.Av
def V.isNil : V → Bool
  | .nil _ => true
  | _ => false
def V.isRaw : V → Bool
  | .raw _ => true
  | _ => false
def nilOk (k : K) (v : V) : Bool := (match v with | .agg _ => true | .nil _ => true | _ => false) && (List.range (cellsV v).length).all fun j => (((cellsV v).getD j .any).isNil == (k.at j).isSome) && !((cellsV v).getD j .any).isRaw
def ownE (k : K) (cs : List V) : Bool := (List.range cs.length).all fun j => match k.at j with
  | some _ => (match cs.getD j .any with | .d (.list _) l => l.isEmpty | _ => false)
  | none => true
section
variable {R : Type}
def afterCall (s : S) (d : Option Nat) (B : List Nat) (n : Nat) (sh : Sh) (κ : S → Option R) (c : HL sh.sl) : Option R :=
  let r := unpack sh.sl c (sh.base ⟨[], []⟩)
  κ ((s.back B r.hp).putO d (mapV (V.ren (backI B s.hp.length)) (res n r.fr)))
def obsOf (s : S) (B : List Nat) : Option (List Ob) := match B with
  | [] => some []
  | i :: B => match s.hp[i]? with
    | some o => match obsOf s B with
      | some os => some (o :: os)
      | none => none
    | none => none
def callOn (pan : Bool) (O : Oracle) (s : S) (d : Option Nat) (bor : Bool) (B : List Nat) (f : FuncId) (ars : List V) (sh : Sh) (κ kp : S → Option R) : Option R := match obsOf s B with
  | some os => bif decide B.Nodup && ars.all (fun a => allIn B a.ids) && os.all (fun o => allIn B o.ids) && (!bor || sh.sl.all Slot.flat) then
      (match pan with
      | false => Option.bind (callR O f (ars.map (mapV (V.ren (idx B)))) (os.map (mapO (V.ren (idx B)))) sh) (afterCall s d B sh.n sh κ)
      | true => Option.bind (callP O f (ars.map (mapV (V.ren (idx B)))) (os.map (mapO (V.ren (idx B)))) sh) fun o => match o with
        | some c => afterCall s d B sh.n sh κ c
        | none => kp (s.back B (os.map fun _ => .gone))) else none
  | none => none
def evOp (O : Oracle) (d : Option Nat) (op : TOp) (s : S) (κ kp : S → Option R) : Option R :=
  match op with
  | .mv x => match s.get x with
    | some v => κ (s.putO d v)
    | none => none
  | .pick c a b => match s.get c, s.get a, s.get b with
    | some (.d .bool c), some (.d t x), some (.d u y) => match cast? u t y with
      | some y => κ (s.putO d (.d t (bif c then x else y)))
      | none => none
    | some (.d .bool c), some (.raw _), some (.d u y) => bif c then none else κ (s.putO d (.d u y))
    | some (.d .bool c), some (.d t x), some (.raw _) => bif c then κ (s.putO d (.d t x)) else none
    | _, _, _ => none
  | .bin op x y => match s.get x, s.get y with
    | some (.d (.int k) a), some (.d (.int k') b) => binI op k k' a b fun v => κ (s.putO d v)
    | some (.d .str a), some (.d .str b) => binS op a b fun v => κ (s.putO d v)
    | _, _ => none
  | .eqB neg x y => match s.get x, s.get y with
    | some (.d .bool a), some (.d .bool b) => κ (s.putO d (.d .bool (neg ^^ (a == b))))
    | _, _ => none
  | .eqT neg _ t x y => match s.get x, s.get y with
    | some v, some u => match data? t v, data? t u with
      | some a, some b => bif t.eqOk then κ (s.putO d (.d .bool (neg ^^ eqD t a b))) else none
      | _, _ => none
    | _, _ => none
  | .un op x => match op, s.get x with
    | .not, some (.d .bool a) => κ (s.putO d (.d .bool (!a)))
    | .neg, some (.d (.int k) a) => κ (s.putO d (.d (.int k) (k.wrap (0 - a))))
    | _, _ => none
  | .len str x => match str, s.get x with
    | true, some (.d .str a) => κ (s.putO d (.d (.int .i64) a.length))
    | false, some (.d (.list _) a) => κ (s.putO d (.d (.int .i64) a.length))
    | false, some (.nil _) => κ (s.putO d (.d (.int .i64) 0))
    | false, some (.sl id) => match s.hp[id]? with
      | some (.vec _ _ xs) => κ (s.putO d (.d (.int .i64) xs.length))
      | some (.tree _ _ _ xs _) => κ (s.putO d (.d (.int .i64) xs.length))
      | _ => none
    | _, _ => none
  | .lenM k e x => match s.get x with
    | some (.mp id) => match s.hp[id]? with
      | some (.map k' e' _ _ kvs) => bif Nat.beq k k' && Nat.beq e e' then κ (s.putO d (.d (.int .i64) kvs.length)) else none
      | _ => none
    | _ => none
  | .idxS x i => match s.get x with
    | some (.d .str a) => intOf (s.get i) fun n => Option.bind (getI a n) fun c => κ (s.putO d (.d (.int .u8) c.toNat))
    | _ => none
  | .idxV n t x i => match s.get x with
    | some v => bif Nat.beq (cellsV v).length (n * t.sz) && (match v with | .agg vs => vs.all V.cellD | _ => true) then intOf (s.get i) fun m => Option.bind (rowAt t n v m) fun c => κ (s.putO d (.d t c)) else none
    | none => none
  | .idxA t x i => match s.get x with
    | some (.sl id) => match s.hp[id]? with
      | some (.vec _ u xs) => bif decide (u = t) then intOf (s.get i) fun n => Option.bind (getI xs n) fun _ => κ (s.putO d (.elt id n.toNat 0)) else none
      | some (.tree _ _ u xs _) => bif decide (u = t) then intOf (s.get i) fun n => Option.bind (getI xs n) fun _ => κ (s.putO d (.elt id n.toNat 0)) else none
      | _ => none
    | some (.d (.list u) xs) => match cast? (.list u) (.list t) xs with
      | some xs => intOf (s.get i) fun n => Option.bind (getI xs n) fun x => κ (s.putO d (.dp t x))
      | none => none
    | _ => none
  | .idxP n t x i => match s.get x, i with
    | some (.ptr id off), .k (.int _) m => guardB (decide (0 ≤ m) && decide (m < n)) (κ (s.putO d (.ptr id (off + m.toNat * t.sz))))
    | some (.ptr id off), i => intOf (s.get i) fun m => guardB (decide (0 ≤ m) && decide (m < n)) (κ (s.putO d (.pel id off n t m)))
    | some (.dp u y), i => bif Nat.beq u.sz (n * t.sz) && u.ag then intOf (s.get i) fun m => Option.bind (rowAt t n (.d u y) m) fun c => κ (s.putO d (.dp t c)) else none
    | _, _ => none
  | .fldA off t x => match s.get x with
    | some (.dp u y) => match part? u off t y with
      | some z => κ (s.putO d (.dp t z))
      | none => none
    | some (.ptr id o) => κ (s.putO d (.ptr id (o + off)))
    | some (.elt id i o) => κ (s.putO d (.elt id i (o + off)))
    | _ => none
  | .fld off t x => match s.get x with
    | some (.d u y) => bif u.ag then (match part? u off t y with
      | some z => κ (s.putO d (.d t z))
      | none => none) else none
    | some (.agg vs) => bif Nat.ble (off + t.sz) vs.length then κ (s.putO d (whole t ((vs.drop off).take t.sz))) else none
    | _ => none
  | .load t x => loadT s.hp t (s.get x) fun v => κ (s.putO d v)
  | .store t x v => match d with
    | none => storeT s t (s.get x) (s.get v) κ
    | some _ => none
  | .alloc tid zero => κ (S.putO ⟨s.fr, s.hp ++ [.box tid zero]⟩ d (.ptr s.hp.length 0))
  | .box tid x => match s.get x with
    | some v => bif v.okB then κ (S.putO ⟨s.fr, s.hp ++ [.box tid (cellsV v)]⟩ d (.ptr s.hp.length 0)) else none
    | none => none
  | .boxD _ t x => match s.get x with
    | some (.full _ _) => none
    | some v => match data? t v with
      | some y => κ (s.putO d (.dp t y))
      | none => none
    | none => none
  | .build zero parts => buildT s zero parts fun cs => κ (s.putO d (.agg cs))
  | .bslice own tid t len parts => bif Nat.beq parts.length len && Nat.ble 1 t.sz && Nat.ble (len * t.sz) 16777216 then listT s t parts fun xs => (match own with
      | true => κ (S.putO ⟨s.fr, s.hp ++ [.vec tid t xs]⟩ d (.sl s.hp.length))
      | false => κ (s.putO d (.d (.list t) xs))) else none
  | .mslice tid t bytes l c => bif Nat.ble 1 t.sz then intOf (s.get l) fun l => intOf (s.get c) fun c =>
      guardB (decide (0 ≤ l) && decide (l ≤ c) && decide (c ≤ 9223372036854775807) && decide (bytes * c ≤ 281474976710656)) (κ (S.putO ⟨s.fr, s.hp ++ [.vec tid t (List.replicate l.toNat t.zero)]⟩ d (.sl s.hp.length))) else none
  | .append tid t bytes x y => listOf s.hp t (s.get y) fun ys => match s.get x with
    | some (.sl id) => match s.hp[id]? with
      | some (.vec e u xs) => match cast? (.list u) (.list t) xs with
        | some xs => bif Nat.beq e tid then guardB (decide ((xs.length + ys.length) * bytes ≤ 140737488355328)) (κ ((s.moved id (.vec e t (xs ++ ys))).putO d (.sl id))) else none
        | none => none
      | _ => none
    | some (.nil _) => guardB (decide (ys.length * bytes ≤ 140737488355328)) (κ (S.putO ⟨s.fr, s.hp ++ [.vec tid t ys]⟩ d (.sl s.hp.length)))
    | some (.full _ []) => guardB (decide (ys.length * bytes ≤ 140737488355328)) (κ (S.putO ⟨s.fr, s.hp ++ [.vec tid t ys]⟩ d (.sl s.hp.length)))
    | _ => none
  | .cvtI k x => match s.get x with
    | some (.d (.int _) n) => κ (s.putO d (.d (.int k) (k.wrap n)))
    | _ => none
  | .slc full t x lo hi mx => match s.get x with
    | some (.sl _) => none
    | v => listOf s.hp t v fun xs => bndOf s lo 0 fun l => bndOf s hi xs.length fun h => bndOf s mx xs.length fun m =>
      bif !(mx.isSome && !hi.isSome) then guardB (decide (l ≤ h) && decide (h ≤ m) && decide (m ≤ xs.length)) (match full with
        | false => κ (s.putO d (.d (.list t) ((xs.take h).drop l)))
        | true => guardB (mx.isSome && decide (h = m)) (κ (s.putO d (.full t ((xs.take h).drop l))))) else none
  | .slcS x lo hi => match s.get x with
    | some (.d .str a) => bndOf s lo 0 fun l => bndOf s hi a.length fun h => guardB (decide (l ≤ h) && decide (h ≤ a.length)) (κ (s.putO d (.d .str ((a.take h).drop l))))
    | _ => none
  | .ext x i => match s.get x with
    | some (.tup vs) => match vs[i]? with
      | some v => bif (match v with | .agg _ => false | .tup _ => false | _ => true) then κ (s.putO d v) else none
      | none => none
    | _ => none
  | .nilc x => match s.get x with
    | some v => (match v with
      | .dp _ _ => κ (s.putO d v)
      | .ptr _ _ => κ (s.putO d v)
      | .pel _ _ _ _ _ => κ (s.putO d v)
      | .elt _ _ _ => κ (s.putO d v)
      | .clo _ _ => κ (s.putO d v)
      | .fnD _ _ => κ (s.putO d v)
      | _ => none)
    | none => none
  | .call bor f args sh => match argsOf s bor [] args with
    | some ars => bif ars.all V.isD && sh.sk.fr.isEmpty && (!bor || sh.sl.all Slot.flat) then
        Option.bind (callR O f ars [] sh) fun c => κ (s.putO d (res sh.n (unpack sh.sl c (sh.base ⟨[], []⟩)).fr)) else none
    | none => none
  | .callA pan bor B f args sh => match argsOf s bor B args with
    | some ars => callOn pan O s d bor B f ars sh κ kp
    | none => none
  | .callv pan bor B num x args sh => match s.get x, argsOf s bor B args with
    | some (.clo f ids), some ars => bif Nat.beq (num % 10000) f then callOn pan O s d bor B num (ars ++ ids.map fun i => .ptr i 0) sh κ kp else none
    | some (.fnD f cs), some ars => bif Nat.beq (num % 10000) f then callOn pan O s d bor B num (ars ++ cs.map fun c => .dp c.1 c.2) sh κ kp else none
    | _, _ => none
  | .callp bor num x args sh => match s.get x, argsOf s bor [] args with
    | some (.fnD f cs), some ars => bif Nat.beq (num % 10000) f && ars.all V.isD && sh.sk.fr.isEmpty && (!bor || sh.sl.all Slot.flat) then
        Option.bind (callR O num (ars ++ cs.map fun c => .dp c.1 c.2) [] sh) fun c => κ (s.putO d (res sh.n (unpack sh.sl c (sh.base ⟨[], []⟩)).fr)) else none
    | _, _ => none
  | .b2s x => listOf s.hp (.int .u8) (s.get x) fun l => κ (s.putO d (.d .str (l.map fun (n : Int) => UInt8.ofNat n.toNat)))
  | .mkfn f caps => match capsOf s caps with
    | some ids => κ (s.putO d (.clo f ids))
    | none => match capsD s caps with
      | some cs => κ (s.putO d (.fnD f cs))
      | none => none
  | .mkmap k e a b => κ (S.putO ⟨s.fr, s.hp ++ [.map k e a b []]⟩ d (.mp s.hp.length))
  | .lookup k e ok a b m x => match s.get m, s.get x with
    | some (.mp id), some v => match s.hp[id]?, data? a v with
      | some (.map k' e' a' b' kvs), some y => match cast? (.list (.pair a' b')) (.list (.pair a b)) kvs with
        | some kvs => bif Nat.beq k k' && Nat.beq e e' && a.eqOk then (match ok with
          | true => κ (s.putO d (.tup [.d b ((kvGet a b kvs y).getD b.zero), .d .bool (kvGet a b kvs y).isSome]))
          | false => κ (s.putO d (.d b ((kvGet a b kvs y).getD b.zero)))) else none
        | none => none
      | _, _ => none
    | _, _ => none
  | .mapset k e a b m x v => match d, s.get m, s.get x, s.get v with
    | none, some (.mp id), some u, some w => match s.hp[id]?, data? a u, data? b w with
      | some (.map k' e' a' b' kvs), some y, some z => match cast? (.list (.pair a' b')) (.list (.pair a b)) kvs with
        | some kvs => bif Nat.beq k k' && Nat.beq e e' && a.eqOk && !b.ag then guardB (decide (kvs.length < maxLen)) (κ ⟨s.fr, setAt s.hp id (.map k e a b (kvSet a b kvs y z))⟩) else none
        | none => none
      | _, _, _ => none
    | _, _, _, _ => none
  | .copy tid t x y => match s.get x, s.get y with
    | some (.sl id), some v => bif (match v with | .sl j => !Nat.beq id j | _ => true) then (listOf s.hp t (some v) fun ys => match s.hp[id]? with
      | some (.vec e u xs) => match cast? (.list u) (.list t) xs with
        | some xs => bif Nat.beq e tid then κ (S.putO ⟨s.fr, setAt s.hp id (.vec e t (ys.take xs.length ++ xs.drop ys.length))⟩ d (.d (.int .i64) (min xs.length ys.length : Nat))) else none
        | none => none
      | _ => none) else none
    | _, _ => none
  | .mnmx mx k x ys => match s.get x with
    | some (.d (.int k') n) => bif decide (k' = k) then intsOf s k ys fun ns => κ (s.putO d (.d (.int k) (ns.foldl (fun (a b : Int) => bif mx then max a b else min a b) n))) else none
    | _ => none
  | .panic x => match s.get x with
    | some .ifc => kp s
    | _ => none
  | .iface _ x => match s.get x with
    | some _ => κ (s.putO d .ifc)
    | none => none
  | .bsliceF _ t len parts => bif Nat.beq parts.length len && Nat.ble 1 t.sz && Nat.ble (len * t.sz) 16777216 then listT s t parts fun xs => κ (s.putO d (.full t xs)) else none
  | .appD _ t bytes x y => listOf s.hp t (s.get y) fun ys => match s.get x with
    | some (.nil _) => guardB (decide (ys.length * bytes ≤ 140737488355328)) (κ (s.putO d (.d (.list t) ys)))
    | some (.full u xs) => match cast? (.list u) (.list t) xs with
      | some xs => guardB (decide ((xs.length + ys.length) * bytes ≤ 140737488355328)) (κ (s.putO d (.d (.list t) (xs ++ ys))))
      | none => none
    | _ => none
  | .bsliceN _ k t len parts => bif Nat.beq parts.length len && Nat.ble 1 t.sz && Nat.ble (len * t.sz) 16777216 then listN s k t parts fun xs => κ (s.putO d (.lit k t xs)) else none
  | .msliceT tid k u bytes l c => bif (k.at 0).isSome then intOf (s.get l) fun l => intOf (s.get c) fun c =>
      guardB (decide (0 ≤ l) && decide (l ≤ c) && decide (c ≤ 9223372036854775807) && decide (bytes * c ≤ 281474976710656)) (κ (S.putO ⟨s.fr, s.hp ++ [.tree tid k (.list u) (List.replicate l.toNat []) none]⟩ d (.sl s.hp.length))) else none
  | .appT tid k t bytes x y => match s.get y with
    | some (.lit k' u ys) => bif decide (k = k') then (match cast? (.list u) (.list t) ys with
      | some ys => bif ys.all (fun y => ownE k (leafs t y)) then (match s.get x with
        | some (.sl id) => match s.hp[id]? with
          | some (.tree e k2 u2 xs none) => match cast? (.list u2) (.list t) xs with
            | some xs => bif Nat.beq e tid && decide (k = k2) then guardB (decide ((xs.length + ys.length) * bytes ≤ 140737488355328)) (κ ((s.moved id (.tree e k t (xs ++ ys) none)).putO d (.sl id))) else none
            | none => none
          | _ => none
        | some (.nil _) => guardB (decide (ys.length * bytes ≤ 140737488355328)) (κ (S.putO ⟨s.fr, s.hp ++ [.tree tid k t ys none]⟩ d (.sl s.hp.length)))
        | _ => none) else none
      | none => none) else none
    | _ => none
  | .atq k op => match s.hp[k]? with
    | some .free => mkT s op fun o v => κ (S.putO ⟨s.fr, setAt s.hp k o⟩ d (v k))
    | _ => none
where
  mkT (s : S) (op : TOp) (κ : Ob → (Nat → V) → Option R) : Option R := match op with
    | .alloc tid zero => κ (.box tid zero) fun n => .ptr n 0
    | .box tid x => match s.get x with
      | some v => bif v.okB then κ (.box tid (cellsV v)) (fun n => .ptr n 0) else none
      | none => none
    | .bslice true tid t len parts => bif Nat.beq parts.length len && Nat.ble 1 t.sz && Nat.ble (len * t.sz) 16777216 then listT s t parts fun xs => κ (.vec tid t xs) .sl else none
    | .mslice tid t bytes l c => bif Nat.ble 1 t.sz then intOf (s.get l) fun l => intOf (s.get c) fun c =>
        guardB (decide (0 ≤ l) && decide (l ≤ c) && decide (c ≤ 9223372036854775807) && decide (bytes * c ≤ 281474976710656)) (κ (.vec tid t (List.replicate l.toNat t.zero)) .sl) else none
    | .append tid t bytes x y => listOf s.hp t (s.get y) fun ys => match s.get x with
      | some (.nil _) => guardB (decide (ys.length * bytes ≤ 140737488355328)) (κ (.vec tid t ys) .sl)
      | some (.full _ []) => guardB (decide (ys.length * bytes ≤ 140737488355328)) (κ (.vec tid t ys) .sl)
      | _ => none
    | .mkmap k e a b => κ (.map k e a b []) .mp
    | _ => none
  buildT (s : S) (cs : List V) : List (Nat × Nat × X) → (List V → Option R) → Option R
    | [], κ => κ cs
    | (off, sz, x) :: l, κ => match s.get x with
      | some v => bif Nat.beq (cellsV v).length sz && Nat.ble (off + sz) cs.length && v.okB then buildT s (spliceV cs off (cellsV v)) l κ else none
      | none => none
  listT (s : S) (t : Ty) : List X → (List t.den → Option R) → Option R
    | [], κ => κ []
    | x :: l, κ => match s.get x with
      | some v => match data? t v with
        | some y => listT s t l fun ys => κ (y :: ys)
        | none => none
      | none => none
  listN (s : S) (k : K) (t : Ty) : List X → (List t.den → Option R) → Option R
    | [], κ => κ []
    | x :: l, κ => match s.get x with
      | some v => match data? t v with
        | some y => bif nilOk k v then listN s k t l fun ys => κ (y :: ys) else none
        | none => none
      | none => none
  capsOf (s : S) : List X → Option (List Nat)
    | [] => some []
    | x :: l => match s.get x with
      | some (.ptr i 0) => match capsOf s l with
        | some ids => some (i :: ids)
        | none => none
      | _ => none
  capsD (s : S) : List X → Option (List ((t : Ty) × t.den))
    | [] => some []
    | x :: l => match s.get x with
      | some (.dp t y) => match capsD s l with
        | some cs => some (⟨t, y⟩ :: cs)
        | none => none
      | _ => none
  intsOf (s : S) (k : IntKind) : List X → (List Int → Option R) → Option R
    | [], κ => κ []
    | x :: l, κ => match s.get x with
      | some (.d (.int k') n) => bif decide (k' = k) then intsOf s k l fun ns => κ (n :: ns) else none
      | _ => none
inductive RC where
  | nil
  | op (d : Option Nat) (o : TOp) (rest : RC)
  | adj (l : List Adj) (rest : RC)
  | gb (t : Nat) (want : Bool) (blk : RC) (ty : Ty) (r alt : X) (dst : Nat) (rest : RC)
def RC.asg : RC → List Nat
  | .nil => []
  | .op d _ rest => (match d with | some d => [d] | none => []) ++ rest.asg
  | .adj _ rest => rest.asg
  | .gb _ _ blk _ _ _ dst rest => blk.asg ++ dst :: rest.asg
def evR (O : Oracle) : (R : Type) → RC → S → (S → Option R) → (S → Option R) → Option R
  | _, .nil, s, κ, _ => κ s
  | R, .op d o rest, s, κ, kp => evOp O d o s (fun s' => evR O R rest s' κ kp) kp
  | R, .adj l rest, s, κ, kp => adjsK l s fun s => evR O R rest s κ kp
  | R, .gb t want blk ty r alt dst rest, s, κ, kp => match lk s.fr t, s.get alt with
    | some (.d .bool b), some va => match (bif blk.asg.all (fun k => (lk s.fr k).isNone) then data? ty va else none) with
      | some alt => Option.bind (match want with
          | true => bif b then evR O ty.den blk s (fun s' => match s'.get r with | some v => data? ty v | none => none) (fun _ => none) else some alt
          | false => bif b then some alt else evR O ty.den blk s (fun s' => match s'.get r with | some v => data? ty v | none => none) (fun _ => none))
          fun c => evR O R rest (s.put dst (.d ty c)) κ kp
      | none => none
    | _, _ => none
end
structure PO where
  j : Nat
  b : Bool
  us : List Nat
  rd : List Nat
  lent : List Nat
  d : Option Nat
  o : TOp
  g : Option (Nat × Bool)
def touchT (s : S) (rd lent : List Nat) : List Nat := (rd.flatMap fun k => match lk s.fr k with | some v => v.ids | none => []) ++ lent
def touchM (s : S) (p : PO) : List Nat := match p.b, p.o, p.g with
  | true, .mv _, none => []
  | _, _, _ => touchT s p.rd p.lent
def commB (r : Av.Rec) (T rd lent : List Nat) (d : Option Nat) (b : Bool) : Bool :=
  (match r.d with
    | some t => !inL rd t && (match d with | some u => !Nat.beq u t | none => true)
    | none => true) &&
  (match d with
    | some t => !inL r.rd t
    | none => true) &&
  (match r.s with
    | some t => !inL T t
    | none => true) &&
  (match b with
    | true => lent.all fun t => !inL r.F t
    | false => r.s.isNone && T.all fun t => !inL r.F t)
def idsAt (s : S) (i : Nat) : List Nat := match s.hp[i]? with
  | some o => o.ids
  | none => []
def slotOf : TOp → Option Nat
  | .atq k _ => some k
  | _ => none
def idsOf (s : S) (d : Option Nat) : List Nat := match d with
  | some k => (match lk s.fr k with
    | some v => v.ids
    | none => [])
  | none => []
def recF (s s' : S) (d : Option Nat) (T : List Nat) : List Nat := T ++ T.flatMap (idsAt s) ++ idsOf s' d
def stOk (s : S) : TOp → Bool
  | .store _ x _ => (match s.get x with
    | some (.ptr _ _) => true
    | _ => false)
  | _ => true
def chkP (A : List Av.Rec) (s : S) (p : PO) : Bool := A.all (fun r => !inL p.us r.i || commB r (touchM s p) p.rd p.lent p.d p.b) && (!p.b || (touchM s p).all fun i => Nat.blt i s.hp.length) && stOk s p.o
def recP (A : List Av.Rec) (s s' : S) (p : PO) : List Av.Rec := bif p.b then A ++ [⟨p.j, p.d, p.rd, slotOf p.o, recF s s' p.d (touchM s p)⟩] else A
def evP {R : Type} (O : Oracle) : List Av.Rec → List PO → S → (S → Option R) → (S → Option R) → Option R
  | _, [], s, κ, _ => κ s
  | A, p :: l, s, κ, kp => match p.g with
    | none => bif chkP A s p then evOp O p.d p.o s (fun s' => evP O (recP A s s' p) l s' κ kp) kp else none
    | some (t, want) => match lk s.fr t with
      | some (.d .bool b) => bif want == b
          then (bif chkP A (s.put t (.d .bool want)) p then evOp O p.d p.o (s.put t (.d .bool want)) (fun s' => evP O (recP A (s.put t (.d .bool want)) s' p) l s' κ kp) kp else none)
          else (bif chkP A (s.put t (.d .bool (!want))) p then evP O (recP A (s.put t (.d .bool (!want))) ((s.put t (.d .bool (!want))).putO p.d (.raw Go.undef)) p) l ((s.put t (.d .bool (!want))).putO p.d (.raw Go.undef)) κ kp else none)
      | _ => none
def evL {R : Type} (O : Oracle) : List PO → S → (S → Option R) → (S → Option R) → Option R
  | [], s, κ, _ => κ s
  | p :: l, s, κ, kp => match p.g with
    | none => evOp O p.d p.o s (fun s' => evL O l s' κ kp) kp
    | some (t, want) => match lk s.fr t with
      | some (.d .bool b) => bif b
          then (match want with
            | true => evOp O p.d p.o (s.put t (.d .bool true)) (fun s' => evL O l s' κ kp) kp
            | false => evL O l ((s.put t (.d .bool true)).putO p.d (.raw Go.undef)) κ kp)
          else (match want with
            | true => evL O l ((s.put t (.d .bool false)).putO p.d (.raw Go.undef)) κ kp
            | false => evOp O p.d p.o (s.put t (.d .bool false)) (fun s' => evL O l s' κ kp) kp)
      | _ => none
inductive TC where
  | skip
  | region (ops : RC)
  | draw (k : Nat) (ops : RC) (af : List (List Nat))
  | draw2 (r : Nat) (pre : List PO) (tl : RC) (af : List (List Nat))
  | regL (pre : List PO)
  | seq (a b : TC)
  | cond (x : X) (a b : TC)
  | block (id : Nat) (a : TC)
  | loop (sh : Sh) (xs : List (Nat × Sh)) (a : TC)
  | exit (id : Nat)
  | ret
  | adj (l : List Adj) (a : TC)
  | after (a : TC) (l : List Adj)
  | cut (xs : List (Nat × Sh)) (a : TC)
def TC.asg : TC → List Nat
  | .region ops => ops.asg
  | .draw _ ops _ => ops.asg
  | .regL pre => pre.flatMap fun p => match p.d with | some d => [d] | none => []
  | .draw2 _ pre tl _ => (pre.flatMap fun p => match p.d with | some d => [d] | none => []) ++ tl.asg
  | .seq a b => a.asg ++ b.asg
  | .cond _ a b => a.asg ++ b.asg
  | .block _ a => a.asg
  | .loop _ _ a => a.asg
  | .adj _ a => a.asg
  | .after a _ => a.asg
  | .cut _ a => a.asg
  | _ => []
def TC.noD2 : TC → Bool
  | .draw2 _ _ _ _ => false
  | .seq a b => a.noD2 && b.noD2
  | .cond _ a b => a.noD2 && b.noD2
  | .block _ a => a.noD2
  | .loop _ _ a => a.noD2
  | .adj _ a => a.noD2
  | .after a _ => a.noD2
  | .cut _ a => a.noD2
  | _ => true
def mayTurn (A : List Nat) (fr : List (Nat × V)) (k : Nat) : Bool := inL A k || (match lk fr k with
  | some v => !v.isD
  | none => false)
def Slot.tmOk (A : List Nat) (fr : List (Nat × V)) : Slot → Bool
  | .tm k _ => mayTurn A fr k
  | _ => true
def Sh.okAt (sh : Sh) (A : List Nat) (s : S) : Bool := sh.keep.all (fun k => !inL A k) && sh.sl.all (Slot.tmOk A s.fr) && sh.sk.fr.all (fun x => mayTurn A s.fr x.1)
def loopN {σ τ : Type} : Nat → (σ → Option (σ ⊕ τ)) → σ → Option τ
  | 0, _, _ => none
  | n + 1, f, s => Option.bind (f s) (Sum.elim (fun s' => loopN n f s') some)
def evC (O : Oracle) (n : Nat) : (R : Type) → TC → S → (kn : S → Option R) → (kx : Nat → S → Option R) → (kr kp : S → Option R) → Option R
  | _, .skip, s, kn, _, _, _ => kn s
  | R, .region ops, s, kn, _, _, kp => evR O R ops s kn kp
  | R, .draw _ ops _, s, kn, _, _, kp => evR O R ops s kn kp
  | _, .regL pre, s, kn, _, _, kp => evL O pre s kn kp
  | R, .draw2 r pre tl _, s, kn, _, _, kp => evP O [] pre ⟨s.fr, s.hp ++ List.replicate r .free⟩ (fun s => evR O R tl s kn kp) kp
  | R, .seq a b, s, kn, kx, kr, kp => evC O n R a s (fun s => evC O n R b s kn kx kr kp) kx kr kp
  | R, .cond x a b, s, kn, kx, kr, kp => match s.get x with
    | some (.d .bool t) => bif t then evC O n R a s kn kx kr kp else evC O n R b s kn kx kr kp
    | _ => none
  | R, .block id a, s, kn, kx, kr, kp => evC O n R a s kn (fun i s => bif Nat.beq i id then kn s else kx i s) kr kp
  | _, .exit id, s, _, kx, _, _ => kx id s
  | _, .ret, s, _, _, kr, _ => kr s
  | R, .adj l a, s, kn, kx, kr, kp => adjsK l s fun s => evC O n R a s kn kx kr kp
  | R, .cut xs a, s, kn, kx, kr, kp => bif xs.all (fun x => x.2.okAt a.asg s) then
      Option.bind (evC O n (XT xs) a s (fun s => inj xs 0 s) (fun i s => inj xs (i + 3) s) (fun s => inj xs 1 s) (fun s => inj xs 2 s))
        (dispatch s (fun key s => match key with | 0 => kn s | 1 => kr s | 2 => kp s | i + 3 => kx i s) xs) else none
  | R, .loop sh xs a, s, kn, kx, kr, kp => match pack sh s with
    | some c => bif sh.okAt a.asg s && xs.all (fun x => x.2.okAt a.asg s) then Option.bind (loopN n (fun c => evC O n (HL sh.sl ⊕ XT xs) a (unpack sh.sl c (sh.base s)) (fun s => match pack sh s with | some c => some (.inl c) | none => none)
          (fun i s => match inj xs (i + 3) s with | some c => some (.inr c) | none => none) (fun s => match inj xs 1 s with | some c => some (.inr c) | none => none) (fun s => match inj xs 2 s with | some c => some (.inr c) | none => none)) c)
        (dispatch s (fun key s => match key with | 0 => kn s | 1 => kr s | 2 => kp s | i + 3 => kx i s) xs) else none
    | none => none
  | R, .after a l, s, kn, kx, kr, kp => evC O n R a s (fun s => adjsK l s kn) kx kr kp
inductive RX where
  | tm (t : Nat)
  | cell (a : Nat) (t : Ty)
structure TF where
  code : TC
  res : List RX
  ntmps : Nat
  sh : Sh
  m : Nat
def resOf (s : S) : List RX → Option (List V)
  | [] => some []
  | .tm t :: l => match lk s.fr t with
    | some v => match resOf s l with
      | some vs => some (v :: vs)
      | none => none
    | none => none
  | .cell a t :: l => match lk s.fr a with
    | some (.ptr id off) => match s.hp[id]? with
      | some (.box _ cs) => bif Nat.ble (off + t.sz) cs.length then (match resOf s l with
        | some vs => some (whole t ((cs.drop off).take t.sz) :: vs)
        | none => none) else none
      | _ => none
    | _ => none
def numbered : Nat → List V → List (Nat × V)
  | _, [] => []
  | i, v :: vs => (i, v) :: numbered (i + 1) vs
def outQ (sh : Sh) (c : HL sh.sl) : S := unpack sh.sl c (sh.base ⟨[], []⟩)
def retQ (sh : Sh) (c : HL sh.sl) : Option (Option S) := some (some (outQ sh c))
def V.one : V → Bool
  | .agg vs => vs.all V.cellD
  | .tup _ => false
  | _ => true
def finS (c : TF) (s : S) : Option (Option S) := match resOf s c.res with
  | some vs => bif Nat.ble c.sh.sk.hp.length s.hp.length && (s.hp.take c.sh.sk.hp.length).all (fun o => o.ids.all fun i => Nat.ble (i + 1) c.sh.sk.hp.length) && vs.all (fun v => v.ids.all fun i => Nat.ble (i + 1) c.sh.sk.hp.length) && Nat.beq c.sh.n vs.length && (Nat.beq vs.length 1 || vs.all V.one) then
      (match pack c.sh ⟨numbered 0 vs, s.hp.take c.sh.sk.hp.length⟩ with
      | some x => retQ c.sh x
      | none => none) else none
  | none => none
def evF1 (O : Oracle) (n : Nat) (c : TF) (ars : List V) (os : List Ob) : Option (Option S) :=
  evC O n (Option S) c.code ⟨numbered 0 ars, os⟩ (finS c) (fun _ _ => none) (finS c) (fun _ => some none)
structure TD where
  c : TF
  a : TC
  h : TC
  ta : Nat
  tb : Nat
  t8 : Nat
def isBox (s : S) (t i : Nat) : Bool := match lk s.fr t with
  | some (.ptr j o) => Nat.beq j i && Nat.beq o 0
  | _ => false
def noT (s : S) (t : Nat) : Bool := match lk s.fr t with
  | some _ => false
  | none => true
def finD (d : TD) (s : S) : Option (Option S) := finS d.c ⟨[(d.ta, .ptr 0 0), (d.tb, .ptr 1 0)], s.hp⟩
def evFD (O : Oracle) (n : Nat) (d : TD) (ars : List V) : Option (Option S) :=
  evC O n (Option S) d.a ⟨numbered 0 ars, []⟩ (fun s => bif isBox s d.ta 0 && isBox s d.tb 1 && noT s d.t8 && Nat.beq s.hp.length 2 then
    evC O n (Option S) d.c.code s (finS d.c) (fun _ _ => none) (finS d.c) (fun s => bif isBox s d.ta 0 && isBox s d.tb 1 then
      evC O n (Option S) d.h ⟨[(0, .ptr 0 0), (1, .ptr 1 0)], s.hp⟩ (finD d) (fun _ _ => none) (finD d) (fun _ => none) else none) else none) (fun _ _ => none) (fun _ => none) (fun _ => none)
inductive Fun' where
  | code (c : TF)
  | dfr (d : TD)
  | nat (g : List V → Option S)
def evF (tbl : Nat → Option Fun') : Nat → Oracle
  | 0 => fun _ _ _ => none
  | n + 1 => fun f ars os => match tbl f with
    | some (.code c) => bif Nat.beq os.length c.m && Nat.ble ars.length c.ntmps then evF1 (evF tbl n) n c ars os else none
    | some (.dfr d) => bif Nat.beq os.length 0 && Nat.ble ars.length d.c.ntmps then evFD (evF tbl n) n d ars else none
    | some (.nat g) => (match os with
      | [] => (match g ars with
        | some s => some (some s)
        | none => none)
      | _ => none)
    | none => none
abbrev tI : Ty := .int .i64
abbrev tY : Ty := .int .u8
abbrev tB : Ty := .bool
abbrev tS : Ty := .str
@[reducible] def pr : List Ty → Ty
  | [] => .unit
  | t :: l => .pair t (pr l)
end Go.Ev
namespace Go.Ev
open Go Go.RowKit Go.Av
abbrev cellsP (t : Ty) (x : t.den) : List PV := (encP t x).cells
theorem cellsP_len : ∀ (t : Ty) (x : t.den), (cellsP t x).length = t.sz
  | .int _, _ => rfl
  | .bool, _ => rfl
  | .str, _ => rfl
  | .list t, x => by cases h : x.map (encP t) <;> simp [cellsP, encP, h, lst, PV.cells, Ty.sz]
  | .unit, _ => rfl
  | .pair a b, x => by
    have h1 := cellsP_len a x.1
    have h2 := cellsP_len b x.2
    simp only [cellsP, encP, PV.cells, List.length_append, Ty.sz] at h1 h2 ⊢
    omega
  | .rx, .mk k l h ks => rfl
theorem encP_ag : ∀ (t : Ty) (x : t.den), (encP t x).isAgg = t.ag
  | .int _, _ => rfl
  | .bool, _ => rfl
  | .str, _ => rfl
  | .list t, x => by cases h : x.map (encP t) <;> simp [encP, h, lst, PV.isAgg, Ty.ag]
  | .unit, _ => rfl
  | .pair a b, x => rfl
  | .rx, .mk k l h ks => rfl
theorem encP_agg {t : Ty} (x : t.den) (h : t.ag = true) : encP t x = .agg (cellsP t x) := by
  have := encP_ag t x
  rw [h] at this
  cases he : encP t x <;> rw [he] at this <;> simp [PV.isAgg] at this
  simp [cellsP, he, PV.cells]
theorem encP_one {t : Ty} (x : t.den) (h : t.ag = false) : cellsP t x = [encP t x] := by
  have := encP_ag t x
  rw [h] at this
  cases he : encP t x <;> rw [he] at this <;> simp_all [cellsP, PV.cells, PV.isAgg]
theorem sz_one {t : Ty} (h : t.ag = false) : t.sz = 1 := by cases t <;> simp_all [Ty.ag, Ty.sz]
theorem cast?_some {t u : Ty} {x : t.den} {y : u.den} (h : cast? t u x = some y) : ∃ e : t = u, y = e ▸ x := by
  unfold cast? at h
  split at h
  · rename_i e; exact ⟨e, by simpa using h.symm⟩
  · cases h
theorem cast?_enc {t u : Ty} {x : t.den} {y : u.den} (h : cast? t u x = some y) : encP u y = encP t x ∧ t = u := by
  obtain ⟨rfl, rfl⟩ := cast?_some h
  exact ⟨rfl, rfl⟩
theorem encRxs_map : ∀ (ks : List Rx), encRxs ks = ks.map encRx
  | [] => rfl
  | k :: ks => by rw [encRxs, encRxs_map ks]; rfl
theorem rx_cells (r : Rx) : cellsP .rx r = [encP (.int .i64) r.out.1, encP (.int .i64) r.out.2.1, encP (.int .i64) r.out.2.2.1, encP (.list .rx) r.out.2.2.2.1] := by
  cases r with
  | mk k l h ks =>
    show [_, _, _, _] = [_, _, _, _]
    simp only [encP, Rx.out, encRxs_map]
    rfl
theorem part_cells : ∀ (t : Ty) (off : Nat) (u : Ty) (x : t.den) (y : u.den), part? t off u x = some y → off + u.sz ≤ t.sz ∧ ((cellsP t x).drop off).take u.sz = cellsP u y
  | .pair a b, off, u, x, y, h => by
    have hl1 := cellsP_len a x.1
    have hl2 := cellsP_len b x.2
    have hc : cellsP (.pair a b) x = cellsP a x.1 ++ cellsP b x.2 := rfl
    unfold part? at h
    cases hcond : (decide (Ty.pair a b = u) && Nat.beq off 0)
    · rw [hcond] at h
      simp only [cond_false] at h
      cases hle : Nat.ble (off + 1) a.sz
      · rw [hle] at h
        simp only [cond_false] at h
        have hge : a.sz ≤ off := by
          have := Nat.not_le_of_not_ble_eq_true (by rw [hle]; simp)
          omega
        obtain ⟨h1, h2⟩ := part_cells b (off - a.sz) u x.2 y h
        refine ⟨by simp only [Ty.sz]; omega, ?_⟩
        rw [hc, List.drop_append, hl1, List.drop_eq_nil_of_le (by omega), List.nil_append]
        exact h2
      · rw [hle] at h
        simp only [cond_true] at h
        have hlt := Nat.le_of_ble_eq_true hle
        obtain ⟨h1, h2⟩ := part_cells a off u x.1 y h
        refine ⟨by simp only [Ty.sz]; omega, ?_⟩
        rw [hc, List.drop_append_of_le_length (by omega), List.take_append_of_le_length (by simp; omega)]
        exact h2
    · rw [hcond] at h
      simp only [cond_true] at h
      simp only [Bool.and_eq_true, decide_eq_true_eq] at hcond
      have h0 : off = 0 := Nat.eq_of_beq_eq_true hcond.2
      subst h0
      obtain ⟨e1, rfl⟩ := cast?_enc h
      refine ⟨by omega, ?_⟩
      rw [List.drop_zero, List.take_of_length_le (by rw [cellsP_len]; exact Nat.le_refl _)]
      simp only [cellsP, e1]
  | .rx, off, u, x, y, h => by
    have hc := rx_cells x
    have one : ∀ {t : Ty} {z : t.den}, t.ag = false → cast? t u z = some y → cellsP u y = [encP t z] ∧ u.sz = 1 := fun {t z} ht hh => by
      obtain ⟨e1, rfl⟩ := cast?_enc hh
      exact ⟨by rw [encP_one _ ht, e1], sz_one ht⟩
    unfold part? at h
    split at h
    · by_cases hu : u = .rx
      · subst hu
        simp only [decide_true, cond_true] at h
        obtain ⟨e1, _⟩ := cast?_enc h
        refine ⟨by simp [Ty.sz], ?_⟩
        rw [List.drop_zero, List.take_of_length_le (by rw [cellsP_len]; exact Nat.le_refl _)]
        simp only [cellsP, e1]
      · simp only [hu, decide_false, cond_false] at h
        obtain ⟨e1, e2⟩ := one rfl h
        rw [e1, e2, hc]
        exact ⟨by simp [Ty.sz], rfl⟩
    · obtain ⟨e1, e2⟩ := one rfl h
      rw [e1, e2, hc]
      exact ⟨by simp [Ty.sz], rfl⟩
    · obtain ⟨e1, e2⟩ := one rfl h
      rw [e1, e2, hc]
      exact ⟨by simp [Ty.sz], rfl⟩
    · obtain ⟨e1, e2⟩ := one rfl h
      rw [e1, e2, hc]
      exact ⟨by simp [Ty.sz], rfl⟩
    · cases h
  | .int k, off, u, x, y, h => part_leaf (.int k) off u x y h
  | .bool, off, u, x, y, h => part_leaf .bool off u x y h
  | .str, off, u, x, y, h => part_leaf .str off u x y h
  | .list t, off, u, x, y, h => part_leaf (.list t) off u x y h
  | .unit, off, u, x, y, h => part_leaf .unit off u x y h
where
  part_leaf (t : Ty) (off : Nat) (u : Ty) (x : t.den) (y : u.den) (h : (bif Nat.beq off 0 then cast? t u x else none) = some y) : off + u.sz ≤ t.sz ∧ ((cellsP t x).drop off).take u.sz = cellsP u y := by
    cases h0 : Nat.beq off 0
    · rw [h0] at h; cases h
    · rw [h0] at h
      simp only [cond_true] at h
      have := Nat.eq_of_beq_eq_true h0
      subst this
      obtain ⟨e1, rfl⟩ := cast?_enc h
      refine ⟨by omega, ?_⟩
      rw [List.drop_zero, List.take_of_length_le (by rw [cellsP_len]; exact Nat.le_refl _)]
      simp only [cellsP, e1]
theorem part_sub {t : Ty} {off : Nat} {u : Ty} {x : t.den} {y : u.den} (h : part? t off u x = some y) : off + u.sz ≤ (encP t x).cells.length ∧ (u.ag = false → u.sz = 1) ∧ (encP t x).sub off u.sz u.ag = encP u y := by
  obtain ⟨h1, h2⟩ := part_cells t off u x y h
  refine ⟨by rw [cellsP_len]; exact h1, sz_one, ?_⟩
  cases hu : u.ag
  · have hs := sz_one hu
    rw [hs, encP_one y hu] at h2
    have hlt : off < (cellsP t x).length := by rw [cellsP_len]; omega
    rw [List.drop_eq_getElem_cons hlt] at h2
    simp only [List.take_succ_cons, List.take_zero, List.cons.injEq, and_true] at h2
    simp only [PV.sub, List.getD, List.getElem?_eq_getElem hlt, Option.getD_some]
    exact h2
  · simp only [PV.sub]
    rw [encP_agg y hu, ← h2]
theorem leafs_enc : ∀ (t : Ty) (x : t.den), (leafs t x).map encB = (cellsP t x).map BV.pv ∧ (leafs t x).length = t.sz
  | .int _, _ => ⟨rfl, rfl⟩
  | .bool, _ => ⟨rfl, rfl⟩
  | .str, _ => ⟨rfl, rfl⟩
  | .list t, x => ⟨by rw [encP_one (t := .list t) x rfl]; rfl, rfl⟩
  | .unit, _ => ⟨rfl, rfl⟩
  | .pair a b, x => by
    obtain ⟨h1, h2⟩ := leafs_enc a x.1
    obtain ⟨h3, h4⟩ := leafs_enc b x.2
    have hc : cellsP (.pair a b) x = cellsP a x.1 ++ cellsP b x.2 := rfl
    refine ⟨?_, by simp only [leafs, List.length_append, h2, h4, Ty.sz]⟩
    rw [hc]
    simp only [leafs, List.map_append, h1, h3]
  | .rx, x => ⟨by rw [rx_cells x]; rfl, rfl⟩
theorem leaf_enc {u : Ty} {v : V} {x : u.den} (h : leaf? u v = some x) : (encB v).toPV = some (encP u x) := by
  cases v <;> simp only [leaf?] at h <;> try cases h
  · obtain ⟨e1, rfl⟩ := cast?_enc h; rw [e1]; rfl
  · obtain ⟨rfl, rfl⟩ := cast?_some h; rfl
  · obtain ⟨e1, rfl⟩ := cast?_enc h; rw [e1]; rfl
theorem leaf_encA {u : Ty} {v : V} {x : u.den} (h : leaf? u v = some x) : encA v = .b (encB v) := by
  cases v <;> simp only [leaf?] at h <;> first | rfl | cases h
theorem asm_enc : ∀ (t : Ty) (l : List V) (x : t.den) (m : List V), asm t l = some (x, m) → ∃ l0, l = l0 ++ m ∧ (l0.map encB).mapM BV.toPV = some (cellsP t x)
  | .unit, l, x, m, h => by simp only [asm, Option.some.injEq, Prod.mk.injEq] at h; obtain ⟨_, rfl⟩ := h; exact ⟨[], rfl, rfl⟩
  | .pair a b, l, x, m, h => by
    simp only [asm] at h
    split at h
    · rename_i y l1 h1
      split at h
      · rename_i z l2 h2
        simp only [Option.some.injEq, Prod.mk.injEq] at h
        obtain ⟨rfl, rfl⟩ := h
        obtain ⟨p, rfl, hp⟩ := asm_enc a l y l1 h1
        obtain ⟨q, rfl, hq⟩ := asm_enc b l1 z l2 h2
        refine ⟨p ++ q, by simp, ?_⟩
        have hc : cellsP (.pair a b) (y, z) = cellsP a y ++ cellsP b z := rfl
        rw [hc, List.map_append, List.mapM_append, hp, hq]
        rfl
      · cases h
    · cases h
  | .rx, l, x, m, h => by
    unfold asm at h
    split at h
    · rename_i a b c e l'
      split at h
      · rename_i a' b' c' e' h1 h2 h3 h4
        simp only [Option.some.injEq, Prod.mk.injEq] at h
        obtain ⟨rfl, rfl⟩ := h
        refine ⟨[a, b, c, e], rfl, ?_⟩
        rw [rx_cells]
        simp only [List.map_cons, List.map_nil, List.mapM_cons, List.mapM_nil, leaf_enc h1, leaf_enc h2, leaf_enc h3, leaf_enc h4]
        rfl
      · cases h
    · cases h
  | .int k, l, x, m, h => asm_leaf (.int k) l x m rfl h
  | .bool, l, x, m, h => asm_leaf .bool l x m rfl h
  | .str, l, x, m, h => asm_leaf .str l x m rfl h
  | .list t, l, x, m, h => asm_leaf (.list t) l x m rfl h
where
  asm_leaf (t : Ty) (l : List V) (x : t.den) (m : List V) (ht : t.ag = false) (h : (match l with
    | v :: l => match leaf? t v with
      | some x => some (x, l)
      | none => none
    | [] => none) = some (x, m)) : ∃ l0, l = l0 ++ m ∧ (l0.map encB).mapM BV.toPV = some (cellsP t x) := by
    split at h
    · rename_i v l'
      split at h
      · rename_i y h1
        simp only [Option.some.injEq, Prod.mk.injEq] at h
        obtain ⟨rfl, rfl⟩ := h
        refine ⟨[v], rfl, ?_⟩
        rw [encP_one _ ht]
        simp only [List.map_cons, List.map_nil, List.mapM_cons, List.mapM_nil, leaf_enc h1]
        rfl
      · cases h
    · cases h
theorem data_enc {t : Ty} {v : V} {x : t.den} (h : data? t v = some x) : (encA v).toPV = some (encP t x) := by
  unfold data? at h
  split at h
  · rename_i vs
    split at h
    · rename_i ht
      split at h
      · rename_i y h1
        cases h
        obtain ⟨l0, h2, h3⟩ := asm_enc t vs x [] h1
        rw [List.append_nil] at h2
        subst h2
        show ((vs.map encB).mapM BV.toPV).map PV.agg = _
        rw [h3, encP_agg x ht]
        rfl
      · cases h
    · cases h
  · rw [leaf_encA h]
    exact leaf_enc h
theorem cellsV_enc (v : V) (hv : ∀ vs, v ≠ .tup vs) : (cellsV v).map encB = (encA v).cells := by
  cases v with
  | d t x => exact (leafs_enc t x).1
  | agg vs => rfl
  | tup vs => exact absurd rfl (hv vs)
  | nil t => rfl
  | raw v => show [constB v] = _; unfold encA; simp only [encB]; cases hc : constB v <;> first | rfl | skip
             rename_i p
             unfold constB at hc
             split at hc
             · cases hc
             · cases hc; rfl
  | full t x => rfl
  | any => rfl
  | dp t x => rfl
  | fnD f cs => rfl
  | lit k t xs => cases xs <;> rfl
  | _ => rfl
theorem lst_ok (sz : Nat) (xs : List PV) : (lst sz xs).cells = [lst sz xs] ∧ (lst sz xs).cellOk = true := by
  cases xs <;> exact ⟨rfl, rfl⟩
theorem list_ok (t : Ty) (x : List t.den) : (encP (.list t) x).cells = [encP (.list t) x] ∧ (encP (.list t) x).cellOk = true := lst_ok _ _
theorem leaf_ok : ∀ (t : Ty) (x : t.den), ((cellsP t x).all PV.cellOk) = true
  | .int _, _ => rfl
  | .bool, _ => rfl
  | .str, _ => rfl
  | .list t, x => by
    have h := list_ok t x
    show ((encP (.list t) x).cells.all PV.cellOk) = true
    rw [h.1]
    simp [h.2]
  | .unit, _ => rfl
  | .pair a b, x => by
    show (((encP a x.1).cells ++ (encP b x.2).cells).all PV.cellOk) = true
    rw [List.all_append, leaf_ok a x.1, leaf_ok b x.2]
    rfl
  | .rx, r => by
    rw [rx_cells]
    have h := (list_ok .rx r.out.2.2.2.1).2
    simp only [List.all_cons, List.all_nil, Bool.and_true, h]
    rfl
theorem enc_ok (t : Ty) (x : t.den) : (encP t x).ok = true := leaf_ok t x
theorem flat_enc : ∀ (t : Ty) (x : t.den), t.flat = true → (encP t x).Flat ∧ ∀ y ∈ cellsP t x, y.Flat
  | .int _, _, _ => ⟨.sc _, fun y hy => by rw [List.mem_singleton.1 hy]; exact .sc _⟩
  | .bool, _, _ => ⟨.sc _, fun y hy => by rw [List.mem_singleton.1 hy]; exact .sc _⟩
  | .str, _, _ => ⟨.sc _, fun y hy => by rw [List.mem_singleton.1 hy]; exact .sc _⟩
  | .unit, _, _ => ⟨.agg [] (by simp), fun y hy => by cases hy⟩
  | .pair a b, x, h => by
    simp only [Ty.flat, Bool.and_eq_true] at h
    have h1 := (flat_enc a x.1 h.1).2
    have h2 := (flat_enc b x.2 h.2).2
    have hc : ∀ y ∈ cellsP (.pair a b) x, y.Flat := fun y hy => by
      have : cellsP (.pair a b) x = cellsP a x.1 ++ cellsP b x.2 := rfl
      rw [this, List.mem_append] at hy
      exact hy.elim (h1 y) (h2 y)
    exact ⟨.agg _ fun i y hy => hc y (List.mem_of_getElem? hy), hc⟩
end Go.Ev
namespace Go.Ev
open Go Go.RowKit Go.Av
def valOf : (t : Ty) → t.den → Value
  | .int k, x => .int k x
  | .bool, x => .bool x
  | .str, x => .string ⟨x.toArray⟩
  | _, _ => .slice none 0 0
def rawV : V → Value
  | .d t x => valOf t x
  | .nil _ => .slice none 0 0
  | .raw v => v
  | _ => Go.undef
def Ty.sc : Ty → Bool
  | .int _ => true
  | .bool => true
  | .str => true
  | _ => false
def V.konst : V → Bool
  | .d t _ => t.sc
  | .nil _ => true
  | .raw _ => true
  | _ => false
def X.er : X → SX
  | .tm j => .tm j
  | .k t x => .c (valOf t x)
  | .nil _ => .c (.slice none 0 0)
  | .ag vs => .c (.agg (vs.map rawV).toArray)
  | .f n => .f n
  | .raw v => .c v
def X.wf : X → Bool
  | .k t _ => t.sc
  | .ag vs => vs.all V.konst
  | .raw v => match v with
    | .agg _ => false
    | .slice _ _ _ => false
    | _ => true
  | _ => true
def zeroVal (t : Ty) : Value := match t.ag with
  | true => .agg (((leafs t t.zero).map fun v => match v with
    | .d (.list _) _ => Value.slice none 0 0
    | v => rawV v).toArray)
  | false => match t with
    | .list _ => .slice none 0 0
    | t => valOf t t.zero
def oer (x : Option X) : Option SX := x.map X.er
def TOp.er : TOp → SOp
  | .mv x => .mv x.er
  | .pick c a b => .pick c.er a.er b.er
  | .bin op x y => .bin op x.er y.er
  | .eqB neg x y => .eqB neg x.er y.er
  | .eqT neg tid _ x y => .eqT neg tid x.er y.er
  | .un op x => .un op x.er
  | .len str x => .len str x.er
  | .lenM k e x => .lenM k e x.er
  | .idxS x i => .idxS x.er i.er
  | .idxV n t x i => .idxV n t.sz t.ag x.er i.er
  | .idxA t x i => .idxA t.sz x.er i.er
  | .idxP n t x i => .idxP n t.sz t.ag x.er i.er
  | .fldA off t x => .fldA off t.sz t.ag x.er
  | .fld off t x => .fld off t.sz t.ag x.er
  | .load t x => .load t.sz t.ag x.er
  | .store t x v => .store t.sz x.er v.er
  | .alloc tid zero => .alloc tid (zero.map rawV)
  | .box tid x => .box tid x.er
  | .boxD tid _ x => .boxD tid x.er
  | .build zero parts => .build (zero.map rawV) (parts.map fun q => (q.1, q.2.1, q.2.2.er))
  | .bslice own tid t ln parts => .bslice own tid t.sz ln (parts.map X.er)
  | .mslice tid t bytes l c => .mslice tid t.sz bytes (zeroVal t) l.er c.er
  | .append tid t bytes x y => .append tid t.sz bytes x.er y.er
  | .cvtI k x => .cvtI k x.er
  | .slc _ t x lo hi mx => .slc t.sz x.er (oer lo) (oer hi) (oer mx)
  | .slcS x lo hi => .slcS x.er (oer lo) (oer hi)
  | .ext x i => .ext x.er i
  | .nilc x => .nilc x.er
  | .call bor f args _ => .call bor (f % 10000) (args.map fun a => a.2.er)
  | .callA _ bor B f args _ => .callA bor B (f % 10000) (args.map fun a => a.2.er)
  | .callv _ bor B _ x args _ => .callv bor B x.er (args.map fun a => a.2.er)
  | .callp bor _ x args _ => .callp bor x.er (args.map fun a => a.2.er)
  | .b2s x => .b2s x.er
  | .mkfn f caps => .mkfn f (caps.map X.er)
  | .mkmap k e _ _ => .mkmap k e
  | .lookup k e ok _ b m x => .lookup k e ok (zeroVal b) m.er x.er
  | .mapset k e _ _ m x v => .mapset k e m.er x.er v.er
  | .copy tid t x y => .copy tid t.sz x.er y.er
  | .mnmx mx k x ys => .mnmx mx k x.er (ys.map X.er)
  | .panic x => .panic x.er
  | .iface tid x => .iface tid x.er
  | .bsliceF tid t ln parts => .bslice false tid t.sz ln (parts.map X.er)
  | .appD tid t bytes x y => .appD tid t.sz bytes x.er y.er
  | .bsliceN tid _ t ln parts => .bsliceN tid t.sz ln (parts.map X.er)
  | .msliceT tid k _ bytes l c => .msliceT k tid 1 bytes (.slice none 0 0) l.er c.er
  | .appT tid k t bytes x y => .appT k tid t.sz bytes x.er y.er
  | .atq k op => .atq k op.er
def fsT (P : Program) (go : TypeId → Ty → Bool) : List Field → Nat → Ty → Bool
  | [], _, .unit => true
  | f :: l, off, .pair a b => (f.name != "_") && Nat.beq f.offset off && (match P.info? f.type with
    | some i => Nat.beq i.size a.sz && (P.underlying f.type).isSome && (aggT P f.type == a.ag)
    | none => false) && go f.type a && fsT P go l (off + a.sz) b
  | _, _, _ => false
def fitT (P : Program) : Nat → TypeId → Ty → Bool
  | 0, _, _ => false
  | d + 1, t, u => match P.underlying t, u with
    | some .bool, .bool => true
    | some (.int k), .int k' => decide (k = k')
    | some .string, .str => true
    | some (.struct fs), u => !P.stoodInHeld t && fsT P (fitT P d) fs.toList 0 u
    | _, _ => false
def argsWf (l : List (Arg × X)) : Bool := l.all fun a => a.2.wf
def oWf (x : Option X) : Bool := match x with
  | some x => x.wf
  | none => true
def TOp.wf (P : Program) : TOp → Bool
  | .mv x => x.wf
  | .pick c a b => c.wf && a.wf && b.wf
  | .bin _ x y => x.wf && y.wf
  | .eqB _ x y => x.wf && y.wf
  | .eqT _ tid t x y => x.wf && y.wf && fitT P 64 tid t
  | .un _ x => x.wf
  | .len _ x => x.wf
  | .lenM _ _ x => x.wf
  | .idxS x i => x.wf && i.wf
  | .idxV _ _ x i => x.wf && i.wf
  | .idxA _ x i => x.wf && i.wf
  | .idxP _ _ x i => x.wf && i.wf
  | .fldA _ _ x => x.wf
  | .fld _ _ x => x.wf
  | .load _ x => x.wf
  | .store _ x v => x.wf && v.wf
  | .alloc _ zero => zero.all V.konst
  | .box _ x => x.wf
  | .boxD _ _ x => x.wf
  | .build zero parts => zero.all V.konst && parts.all fun q => q.2.2.wf
  | .bslice _ _ _ _ parts => parts.all X.wf
  | .mslice _ t _ l c => l.wf && c.wf && decide (t ≠ .rx)
  | .append _ _ _ x y => x.wf && y.wf
  | .cvtI _ x => x.wf
  | .slc _ _ x lo hi mx => x.wf && oWf lo && oWf hi && oWf mx
  | .slcS x lo hi => x.wf && oWf lo && oWf hi
  | .ext x _ => x.wf
  | .nilc x => x.wf
  | .call _ _ args sh => argsWf args && sh.wfB
  | .callA _ _ _ _ args sh => argsWf args && sh.wfB
  | .callv _ _ _ num x args sh => x.wf && argsWf args && callable P (num % 10000) && sh.wfB
  | .callp _ num x args sh => x.wf && argsWf args && callable P (num % 10000) && sh.wfB
  | .b2s x => x.wf
  | .mkfn _ caps => caps.all X.wf
  | .mkmap _ _ _ _ => true
  | .lookup k _ _ a b m x => m.wf && x.wf && fitT P 64 k a && b.sc
  | .mapset k _ a _ m x v => m.wf && x.wf && v.wf && fitT P 64 k a
  | .copy _ _ x y => x.wf && y.wf
  | .mnmx _ _ x ys => x.wf && ys.all X.wf
  | .panic x => x.wf
  | .iface _ x => x.wf
  | .bsliceF _ _ _ parts => parts.all X.wf
  | .appD _ _ _ x y => x.wf && y.wf
  | .bsliceN _ _ _ _ parts => parts.all X.wf
  | .msliceT _ _ _ _ l c => l.wf && c.wf
  | .appT _ _ _ _ x y => x.wf && y.wf
  | .atq _ op => op.wf P
def pickO (t : Nat) (want : Bool) (r alt : SX) : SOp := match want with
  | true => .pick (.tm t) r alt
  | false => .pick (.tm t) alt r
def RC.er : Option (Nat × Bool) → RC → List SOper
  | _, .nil => []
  | g, .op d o rest => ⟨d, o.er, g⟩ :: rest.er g
  | g, .adj _ rest => rest.er g
  | g, .gb t want blk _ r alt dst rest => blk.er (some (t, want)) ++ (⟨some dst, pickO t want r.er alt.er, g⟩ :: rest.er g)
def TOp.pureB : TOp → Bool
  | .store .. => false
  | .alloc .. => false
  | .box .. => false
  | .bslice own .. => !own
  | .mslice .. => false
  | .append .. => false
  | .callA .. => false
  | .callv .. => false
  | .mkmap .. => false
  | .mapset .. => false
  | .copy .. => false
  | .panic .. => false
  | .atq .. => false
  | .msliceT .. => false
  | .appT .. => false
  | _ => true
def TOp.exB : TOp → Bool
  | .append .. => true
  | .callA .. => true
  | .callv .. => true
  | .store .. => true
  | o => o.pureB
def TOp.isAt : TOp → Bool
  | .atq .. => true
  | _ => false
def RC.pureB : RC → Bool
  | .nil => true
  | .op _ o rest => o.pureB && rest.pureB
  | .adj _ _ => false
  | .gb _ _ blk _ _ _ _ rest => blk.pureB && rest.pureB
def RC.wf (P : Program) : RC → Bool
  | .nil => true
  | .op _ o rest => o.wf P && rest.wf P
  | .adj _ rest => rest.wf P
  | .gb _ _ blk _ r alt _ rest => blk.wf P && blk.pureB && r.wf && alt.wf && rest.wf P
def mkPO (j : Nat) (b : Bool) (us : List Nat) (d : Option Nat) (o : TOp) : PO := ⟨j, b, us, o.er.rd, o.er.lent, d, o, none⟩
def mkPG (j : Nat) (b : Bool) (us : List Nat) (t : Nat) (want : Bool) (d : Option Nat) (o : TOp) : PO := ⟨j, b, us, o.er.rd ++ [t], o.er.lent, d, o, some (t, want)⟩
def PO.so (p : PO) : SOper := ⟨p.d, p.o.er, p.g⟩
def lexO (pre : List PO) : List SOper := (List.range pre.length).map fun j => match pre.find? fun p => Nat.beq p.j j with
  | some p => p.so
  | none => default
def TC.er : TC → AC
  | .skip => .skip
  | .region ops => .region (ops.er none)
  | .draw k ops af => .draw k (ops.er none) af
  | .regL pre => .region (pre.map PO.so)
  | .draw2 _ pre tl af => .draw2 (pre.map fun p => (p.j, p.b)) (lexO pre ++ tl.er none) af
  | .seq a b => .seq a.er b.er
  | .cond x a b => .cond x.er a.er b.er
  | .block id a => .block id a.er
  | .loop _ _ a => .loop a.er
  | .exit id => .exit id
  | .ret => .ret
  | .adj _ a => a.er
  | .after a _ => a.er
  | .cut _ a => a.er
theorem lk_look (fr : List (Nat × V)) (k : Nat) : Av.look (fr.map fun x => (x.1, encA x.2)) k = (lk fr k).map encA := by
  induction fr with
  | nil => rfl
  | cons x fr ih =>
    obtain ⟨j, v⟩ := x
    simp only [List.map_cons, Av.look, lk]
    by_cases h : k = j
    · subst h; simp
    · rw [if_neg h, ih]
      have : Nat.beq k j = false := by
        cases hb : Nat.beq k j
        · rfl
        · exact absurd (Nat.eq_of_beq_eq_true hb) h
      rw [this]; rfl
theorem konst_enc {v : V} (h : v.konst = true) : constB (rawV v) = encB v := by
  cases v <;> simp only [V.konst] at h <;> try cases h
  · rename_i t x
    cases t <;> simp only [Ty.sc] at h <;> first | rfl | cases h
  · rfl
  · rfl
theorem get_er {s : S} {x : X} {v : V} (hw : x.wf = true) (h : s.get x = some v) : (enc s).get x.er = some (encA v) := by
  cases x with
  | tm k =>
    simp only [S.get] at h
    show Av.look (s.fr.map fun x => (x.1, encA x.2)) k = _
    rw [lk_look, h]; rfl
  | k t x =>
    simp only [S.get, Option.some.injEq] at h
    subst h
    simp only [X.wf] at hw
    cases t <;> simp only [Ty.sc] at hw <;> first | rfl | cases hw
  | nil t => simp only [S.get, Option.some.injEq] at h; subst h; rfl
  | ag vs =>
    simp only [S.get, Option.some.injEq] at h
    subst h
    simp only [X.wf, List.all_eq_true] at hw
    show some (AV.agg (((vs.map rawV).toArray).toList.map constB)) = some (.agg (vs.map encB))
    simp only [List.map_map]
    congr 2
    exact List.map_congr_left fun v hv => konst_enc (hw v hv)
  | f n => simp only [S.get, Option.some.injEq] at h; subst h; rfl
  | raw v =>
    simp only [S.get, Option.some.injEq] at h
    subst h
    simp only [X.wf] at hw
    cases v <;> simp only at hw <;> first | rfl | cases hw
theorem enc_put (s : S) (d : Option Nat) (v : V) : enc (s.putO d v) = (enc s).putO d (encA v) := by
  cases d <;> rfl
theorem hp_get (s : S) (i : Nat) : (enc s).hp[i]? = (s.hp[i]?).map encO := by simp [enc]
theorem setAt_eq {α : Type} : ∀ (l : List α) (n : Nat) (y : α), setAt l n y = l.set n y
  | [], _, _ => rfl
  | _ :: _, 0, _ => rfl
  | x :: l, n + 1, y => by simp [setAt, setAt_eq l n y]
theorem zero_enc (t : Ty) (ht : t ≠ .rx) : (constA (zeroVal t)).toPV = some (encP t t.zero) ∧ (constA (zeroVal t)).cells.length = t.sz := by
  have leafZ : ∀ (t : Ty), (((leafs t t.zero).map fun v => match v with
      | .d (.list _) _ => Value.slice none 0 0
      | v => rawV v).map constB).mapM BV.toPV = some (cellsP t t.zero) ∧ (leafs t t.zero).length = t.sz := by
    intro t
    refine ⟨?_, (leafs_enc t t.zero).2⟩
    induction t with
    | pair a b iha ihb =>
      have hc : cellsP (.pair a b) (Ty.zero (.pair a b)) = cellsP a a.zero ++ cellsP b b.zero := rfl
      rw [hc]
      simp only [leafs, Ty.zero, List.map_append, List.mapM_append]
      rw [iha, ihb]
      rfl
    | rx => rfl
    | list t => rfl
    | _ => rfl
  cases h : t.ag
  · cases t <;> simp [Ty.ag] at h <;> exact ⟨rfl, rfl⟩
  · have := leafZ t
    simp only [zeroVal, h]
    simp only [constA]
    refine ⟨?_, ?_⟩
    · show ((((((leafs t t.zero).map fun v => match v with
      | .d (.list _) _ => Value.slice none 0 0
      | v => rawV v).toArray).toList).map constB).mapM BV.toPV).map PV.agg = _
      rw [List.toList_toArray, this.1, encP_agg _ h]
      rfl
    · show (((((leafs t t.zero).map fun v => match v with
      | .d (.list _) _ => Value.slice none 0 0
      | v => rawV v).toArray).toList).map constB).length = _
      simp [this.2]
end Go.Ev
namespace Go.Ev
open Go Go.RowKit Go.Av
structure Zt where
  ty : List Ty
  kk : List K
  sh : List Sh
  zs : List (List V)
structure Zx where
  o : List TOp
  c : List TC
def nthD {α : Type} (d : α) : List α → Nat → α
  | [], _ => d
  | x :: l, n => bif Nat.beq n 0 then x else nthD d l (n - 1)
def zf : Nat → Nat → Nat × Nat
  | 0, n => (0, n)
  | f + 1, n => bif Nat.ble 8 (n % 16) then (match zf f (n / 16) with | (v, r) => (n % 16 - 8 + 8 * v, r)) else (n % 16, n / 16)
def zn (n : Nat) : Nat × Nat := zf 24 n
def zl {α : Type} (p : Nat → α × Nat) : Nat → Nat → List α × Nat
  | 0, n => ([], n)
  | k + 1, n => match p n with
    | (a, r) => match zl p k r with
      | (l, r) => (a :: l, r)
def zls {α : Type} (p : Nat → α × Nat) (n : Nat) : List α × Nat := match zn n with
  | (k, r) => zl p k r
def zm {α β : Type} (f : α → β) (p : α × Nat) : β × Nat := match p with
  | (a, r) => (f a, r)
def zb {α β : Type} (p : α × Nat) (f : α → Nat → β × Nat) : β × Nat := match p with
  | (a, r) => f a r
def zint (v : Nat) : Int := bif Nat.beq (v % 2) 0 then Int.ofNat (v / 2) else Int.negSucc (v / 2)
def zasc : Nat → Nat → Nat → List Nat × Nat
  | 0, _, n => ([], n)
  | k + 1, b, n => match zn n with
    | (v, r) => match zasc k (b + v) r with
      | (l, r) => ((b + v) :: l, r)
def zas (n : Nat) : List Nat × Nat := match zn n with
  | (k, r) => zasc k 0 r
def zrel (b c : Nat) : Nat := bif Nat.beq (c % 2) 0 then b + c / 2 else b - (c / 2 + 1)
def zt (b n : Nat) : Nat × Nat := match zn n with
  | (c, r) => (zrel b c, r)
def zd (b n : Nat) : Option Nat × Nat := match zn n with
  | (c, r) => (bif Nat.beq c 0 then none else some (zrel b (c - 1)), r)
section
variable (T : Zt)
def zty (n : Nat) : Ty × Nat := match zn n with
  | (i, r) => (nthD .unit T.ty i, r)
def zk (n : Nat) : K × Nat := match zn n with
  | (i, r) => (nthD .e T.kk i, r)
def zsh (n : Nat) : Sh × Nat := match zn n with
  | (i, r) => (nthD ⟨[], ⟨[], []⟩, []⟩ T.sh i, r)
def zV : Nat → Nat → V × Nat
  | 0, n => (.any, n)
  | f + 1, n => match zn n with
    | (o, r) => match o with
      | 0 => (.any, r)
      | 1 => zm V.sl (zn r)
      | 2 => zb (zn r) fun i r => zm (V.ptr i) (zn r)
      | 3 => zm V.mp (zn r)
      | 4 => zm V.nil (zty T r)
      | 5 => (.raw (.pointer none), r)
      | 6 => (.raw (.slice none 0 0), r)
      | 7 => zm V.agg (zls (zV f) r)
      | 8 => zm V.tup (zls (zV f) r)
      | 9 => zm (fun v => V.d tI (zint v)) (zn r)
      | 10 => zm (fun v => V.d tB (Nat.beq v 1)) (zn r)
      | 11 => zb (zn r) fun i r => zm (V.clo i) (zls zn r)
      | 12 => (.raw .nilIface, r)
      | 13 => (.raw (.map none), r)
      | 14 => (.ifc, r)
      | 15 => zb (zn r) fun k r => zm (fun v => match nthD .unit T.ty k with | .int k => V.d (.int k) (zint v) | _ => .any) (zn r)
      | _ => zm (fun l => V.d tS (l.map UInt8.ofNat)) (zls zn r)
def zX (b n : Nat) : X × Nat := match zn n with
  | (c, r) => match c % 4 with
    | 0 => (.tm (zrel b (c / 4)), r)
    | 1 => (.k tI (zint (c / 4)), r)
    | _ => match c / 4 with
      | 0 => (.k tB false, r)
      | 1 => (.k tB true, r)
      | 2 => zm X.nil (zty T r)
      | 3 => zb (zn r) fun k r => zm (fun v => match nthD .unit T.ty k with | .int k => X.k (.int k) (zint v) | _ => .f 0) (zn r)
      | 4 => zm (fun l => X.k tS (l.map UInt8.ofNat)) (zls zn r)
      | 5 => zm X.ag (zls (zV T 9) r)
      | 6 => zm X.f (zn r)
      | 7 => (.raw (.pointer none), r)
      | 8 => (.raw (.slice none 0 0), r)
      | 9 => (.raw .nilIface, r)
      | _ => (.raw (.map none), r)
def zarg (b n : Nat) : (Arg × X) × Nat := match zn n with
  | (c, r) => zm (fun x => (bif Nat.beq c 0 then Arg.x else .d (nthD .unit T.ty (c - 1)), x)) (zX T b r)
def zbin : Nat → BinOp
  | 0 => .add | 1 => .sub | 2 => .mul | 3 => .quo | 4 => .rem | 5 => .and | 6 => .or | 7 => .xor | 8 => .andNot | 9 => .shl | 10 => .shr
  | 11 => .eql | 12 => .neq | 13 => .lss | 14 => .leq | 15 => .gtr | _ => .geq
def zox (b n : Nat) : Option X × Nat := match zn n with
  | (0, r) => (none, r)
  | (_, r) => zm some (zX T b r)
def zop1 (x : Zx) (b : Nat) (o : Nat) (r : Nat) : TOp × Nat :=
  match o with
  | 1 => zm (fun t => .mv (.tm t)) (zt b r)
  | 2 => zb (zty T r) fun t r => zm (fun x => .load t (.tm x)) (zt b r)
  | 3 => zb (zn r) fun j r => zb (zty T r) fun t r => zm (fun x => .fldA j t (.tm x)) (zt b r)
  | 5 => zb (zn r) fun k r => zb (zX T b r) fun x r => zm (fun y => .bin (zbin k) x y) (zX T b r)
  | 6 => zm .mv (zX T b r)
  | 7 => zb (zty T r) fun t r => zb (zX T b r) fun x r => zm (fun i => .idxA t x i) (zX T b r)
  | 8 => zb (zty T r) fun t r => zb (zX T b r) fun x r => zm (fun i => .store t x i) (zX T b r)
  | 9 => zm (.len false) (zX T b r)
  | 10 => zb (zn r) fun f r => zb (zls (zarg T b) r) fun l r => zm (fun q => .call false f l q) (zsh T r)
  | 12 => zm .nilc (zX T b r)
  | 13 => zb (zX T b r) fun x r => zm (.ext x) (zn r)
  | 14 => zm (.un .not) (zX T b r)
  | 15 => zm (fun i => nthD (.mv (.tm 0)) x.o i) (zn r)
  | 17 => zb (zn r) fun t r => zm (fun i => .alloc t (nthD [] T.zs i)) (zn r)
  | 18 => zb (zn r) fun t r => zb (zty T r) fun u r => zm (.boxD t u) (zX T b r)
  | 19 => zb (zn r) fun i r => zm (.build (nthD [] T.zs i)) (zls (fun r => zb (zn r) fun a r => zb (zn r) fun c r => zm (fun x => (a, c, x)) (zX T b r)) r)
  | 20 => zb (zn r) fun o r => zb (zn r) fun t r => zb (zty T r) fun u r => zb (zn r) fun l r => zm (fun p => .bslice (Nat.beq o 1) t u l p) (zls (zX T b) r)
  | 21 => zb (zn r) fun t r => zb (zty T r) fun u r => zb (zn r) fun s r => zb (zX T b r) fun x r => zm (.append t u s x) (zX T b r)
  | 22 => zb (zn r) fun m r => zb (zls zn r) fun B r => zb (zn r) fun f r => zb (zls (zarg T b) r) fun l r => zm (fun q => .callA (Nat.ble 2 m) (Nat.beq (m % 2) 1) B f l q) (zsh T r)
  | 23 => zb (zn r) fun t r => zb (zty T r) fun u r => zb (zn r) fun s r => zb (zX T b r) fun x r => zm (.mslice t u s x) (zX T b r)
  | 24 => zb (zn r) fun j r => zb (zty T r) fun t r => zm (.fld j t) (zX T b r)
  | 25 => zb (zn r) fun t r => zm (.box t) (zX T b r)
  | 26 => zb (zn r) fun m r => zb (zX T b r) fun x r => zm (.eqB (Nat.beq m 1) x) (zX T b r)
  | 27 => zb (zX T b r) fun x r => zm (.idxS x) (zX T b r)
  | 28 => zm (.len true) (zX T b r)
  | 29 => zb (zn r) fun m r => zb (zn r) fun t r => zb (zty T r) fun u r => zb (zX T b r) fun x r => zm (.eqT (Nat.beq m 1) t u x) (zX T b r)
  | 30 => zb (zn r) fun f r => zb (zls (zarg T b) r) fun l r => zm (fun q => .call true f l q) (zsh T r)
  | 31 => zb (zX T b r) fun x r => zb (zox T b r) fun l r => zm (.slcS x l) (zox T b r)
  | _ => zb (zn r) fun m r => zb (zty T r) fun t r => zb (zX T b r) fun x r => zb (zox T b r) fun l r => zb (zox T b r) fun h r => zm (.slc (Nat.beq m 1) t x l h) (zox T b r)
def zop (x : Zx) (b : Nat) (o : Nat) (r : Nat) : TOp × Nat := match o with
  | 33 => zb (zn r) fun s r => zb (zn r) fun o r => zm (.atq s) (zop1 T x b o r)
  | o => zop1 T x b o r
def zadj (n : Nat) : Adj × Nat := match zn n with
  | (o, r) => match o with
    | 0 => zm Adj.freeze (zn r)
    | 1 => zb (zn r) fun k r => zb (zn r) fun ty r => zm (.adopt k ty) (zty T r)
    | 2 => zb (zn r) fun i r => zb (zn r) fun j r => zb (zn r) fun ty r => zm (.adoptC i j ty) (zty T r)
    | 3 => zb (zls zn r) fun a r => zm (.sel a) (zas r)
    | 4 => zm Adj.drop (zls zn r)
    | 5 => zb (zn r) fun i r => zb (zn r) fun k r => zb (zn r) fun j r => zm (.focus i k j) (zty T r)
    | 6 => zm Adj.close (zn r)
    | 7 => zb (zn r) fun k r => zb (zn r) fun ty r => zb (zk T r) fun kk r => zm (.adoptT k ty kk) (zty T r)
    | _ => zb (zn r) fun i r => zb (zn r) fun j r => zb (zn r) fun ty r => zb (zk T r) fun kk r => zm (.adoptCT i j ty kk) (zty T r)
def zR (x : Zx) (b : Nat) : Nat → Nat → RC
  | 0, _ => .nil
  | f + 1, n => match zn n with
    | (o, r) => match o with
      | 0 => .nil
      | 4 => match zn r with
        | (c, r) => match zn r with
          | (j, r) => match zty T r with
            | (t, r) => match zt b r with
              | (k, r) => .op (some (zrel b c)) (.fldA j t (.tm k)) (.op (some (zrel b c + 1)) (.load t (.tm (zrel b c))) (zR x b f r))
      | 11 => match zn r with
        | (m, r) => match zt b r with
          | (t, r) => match zty T r with
            | (ty, r) => match zX T b r with
              | (u, r) => match zX T b r with
                | (al, r) => match zt b r with
                  | (d, r) => match zn r with
                    | (len, r) => .gb t (Nat.beq m 1) (zR x b f r) ty u al d (zR x b f (Nat.shiftRight r (4 * len)))
      | 16 => match zls (zadj T) r with
        | (l, r) => .adj l (zR x b f r)
      | o => match zd b r with
        | (d, r) => match zop T x b o r with
          | (op, r) => .op d op (zR x b f r)
def zob (n : Nat) : Ob × Nat := match zn n with
  | (o, r) => match o with
    | 0 => (.gone, r)
    | 1 => zb (zn r) fun t r => zm (.box t) (zls (zV T 9) r)
    | 2 => zb (zn r) fun t r => zm (fun u => .vec t u []) (zty T r)
    | 3 => zb (zn r) fun t r => zb (zk T r) fun k r => zm (fun u => .tree t k u [] none) (zty T r)
    | 4 => zb (zn r) fun t r => zb (zk T r) fun k r => zb (zty T r) fun u r => zb (zn r) fun j r => zm (fun s => .tree t k u [] (some (0, j, .sl s))) (zn r)
    | 5 => zb (zn r) fun k r => zb (zn r) fun ty r => zb (zty T r) fun a r => zm (fun c => .map k ty a c []) (zty T r)
    | _ => (.free, r)
def zslot (n : Nat) : Slot × Nat := match zn n with
  | (o, r) => match o with
    | 0 => zb (zn r) fun k r => zm (.tm k) (zty T r)
    | 1 => zb (zn r) fun k r => zb (zn r) fun j r => zm (.cell k j) (zty T r)
    | 2 => zb (zn r) fun k r => zb (zn r) fun j r => zm (.vec k j) (zty T r)
    | 3 => zb (zn r) fun k r => zb (zn r) fun j r => zb (zn r) fun ty r => zb (zty T r) fun a r => zm (.map k j ty a) (zty T r)
    | 4 => zb (zn r) fun k r => zb (zn r) fun j r => zb (zk T r) fun ty r => zm (.tree k j ty) (zty T r)
    | _ => zb (zn r) fun k r => zb (zn r) fun j r => zb (zk T r) fun ty r => zb (zty T r) fun u r => zb (zn r) fun i r => zm (.treeH k j ty u i) (zn r)
def zSh (n : Nat) : Sh × Nat :=
  zb (zas n) fun ks r => zb (zls (fun r => zb (zn r) fun k r => zm (fun v => (k, v)) (zV T 9 r)) r) fun fr r => zb (zls (zob T) r) fun hp r => zm (fun sl => ⟨ks, ⟨fr, hp⟩, sl⟩) (zls (zslot T) r)
def zxs (n : Nat) : List (Nat × Sh) × Nat := zls (fun r => zb (zn r) fun k r => zm (fun v => (k, v)) (zSh T r)) n
def zPO (x : Zx) (b n : Nat) : PO × Nat :=
  zb (zn n) fun j r => zb (zn r) fun c r => zb (zls zn r) fun us r => zb (zd b r) fun d r => zb (zd b r) fun g r => zb (zn r) fun o r => zm (fun op => match g with | none => mkPO j (Nat.beq (c % 2) 1) us d op | some t => mkPG j (Nat.beq (c % 2) 1) us t (Nat.ble 2 c) d op) (zop T x b o r)
def zC (x : Zx) : Nat → Nat → TC
  | 0, _ => .skip
  | f + 1, n => match zn n with
    | (o, r) => match o with
      | 0 => .skip
      | 1 => match zn r with
        | (b, r) => .region (zR T x b 400 r)
      | 2 => match zn r with
        | (len, r) => .seq (zC x f r) (zC x f (Nat.shiftRight r (4 * len)))
      | 3 => match zX T 0 r with
        | (c, r) => match zn r with
          | (len, r) => .cond c (zC x f r) (zC x f (Nat.shiftRight r (4 * len)))
      | 4 => match zn r with
        | (i, r) => .block i (zC x f r)
      | 5 => match zSh T r with
        | (sh, r) => match zxs T r with
          | (xs, r) => .loop sh xs (zC x f r)
      | 6 => match zn r with
        | (i, _) => .exit i
      | 7 => .ret
      | 8 => match zn r with
        | (k, r) => match zls (zls zn) r with
          | (af, r) => match zn r with
            | (b, r) => .draw k (zR T x b 400 r) af
      | 9 => match zls (zadj T) r with
        | (l, r) => .adj l (zC x f r)
      | 10 => match zls (zadj T) r with
        | (l, r) => .after (zC x f r) l
      | 11 => match zxs T r with
        | (xs, r) => .cut xs (zC x f r)
      | 12 => match zn r with
        | (k, r) => match zls (zls zn) r with
          | (af, r) => match zn r with
            | (b, r) => match zls (zPO T x b) r with
              | (pre, r) => .draw2 k pre (zR T x b 400 r) af
      | 13 => match zn r with
        | (b, r) => match zls (zPO T x b) r with
          | (pre, _) => .regL pre
      | _ => match zn r with
        | (i, _) => nthD .skip x.c i
end
end Go.Ev
namespace Go.Ev
open Go Go.RowKit Go.Av
noncomputable def lkQ (l : List (Nat × V)) (t : Nat) : Option V := List.rec (motive := fun _ => Option V) none (fun x _ ih => Bool.rec (motive := fun _ => Option V) ih (some x.2) (Nat.beq t x.1)) l
theorem lkQ_eq (t : Nat) : ∀ l : List (Nat × V), lkQ l t = lk l t
  | [] => rfl
  | (k, a) :: l => by
    show (Bool.rec (motive := fun _ => Option V) (lkQ l t) (some a) (Nat.beq t k)) = bif Nat.beq t k then some a else lk l t
    rw [lkQ_eq t l]
    cases Nat.beq t k <;> rfl
noncomputable def S.getQ (s : S) (x : X) : Option V := X.casesOn (motive := fun _ => Option V) x (fun k => lkQ s.fr k) (fun t x => some (.d t x)) (fun t => some (.nil t)) (fun vs => some (.agg vs)) (fun n => some (.fnD n [])) (fun v => some (.raw v))
theorem getQ_eq (s : S) (x : X) : s.getQ x = s.get x := by
  cases x <;> first | exact lkQ_eq _ _ | rfl
def testQ (m k : Nat) : Bool := Nat.beq (Nat.land (Nat.shiftRight m k) 1) 1
theorem testQ_eq (m k : Nat) : testQ m k = m.testBit k := by
  show Nat.beq ((m >>> k) &&& 1) 1 = ((1 &&& (m >>> k)) != 0)
  rw [Nat.and_comm, Nat.and_comm 1, Nat.and_comm, Nat.one_and_eq_mod_two]
  rcases Nat.mod_two_eq_zero_or_one (m >>> k) with h | h <;> rw [h] <;> rfl
theorem inL_app (a b : List Nat) (k : Nat) : inL (a ++ b) k = (inL a k || inL b k) := by simp [inL]
theorem testQ_or (a b k : Nat) : testQ (Nat.lor a b) k = (testQ a k || testQ b k) := by
  rw [testQ_eq, testQ_eq, testQ_eq]; exact Nat.testBit_or a b k
theorem testQ_one (d k : Nat) : testQ (2 ^ d) k = inL [d] k := by
  rw [testQ_eq, Nat.testBit_two_pow]
  show decide (d = k) = (Nat.beq k d || false)
  rw [Bool.or_false]
  by_cases h : d = k
  · subst h; simp
  · rw [decide_eq_false h]
    cases hb : Nat.beq k d
    · rfl
    · exact absurd (Nat.eq_of_beq_eq_true hb).symm h
theorem testQ_zero (k : Nat) : testQ 0 k = inL [] k := by rw [testQ_eq]; simp [inL]
def dmsk : Option Nat → Nat
  | some d => 2 ^ d
  | none => 0
theorem dmsk_eq (d : Option Nat) (k : Nat) : testQ (dmsk d) k = inL (match d with | some d => [d] | none => []) k := by
  cases d with
  | none => exact testQ_zero k
  | some d => exact testQ_one d k
def RC.msk : RC → Nat
  | .nil => 0
  | .op d _ rest => Nat.lor (dmsk d) rest.msk
  | .adj _ rest => rest.msk
  | .gb _ _ blk _ _ _ dst rest => Nat.lor blk.msk (Nat.lor (2 ^ dst) rest.msk)
theorem RC.msk_eq (k : Nat) : ∀ r : RC, testQ r.msk k = inL r.asg k
  | .nil => testQ_zero k
  | .op d o rest => by simp only [RC.msk, RC.asg, testQ_or, inL_app, dmsk_eq, RC.msk_eq k rest] <;> rfl
  | .adj l rest => by simp only [RC.msk, RC.asg, RC.msk_eq k rest]
  | .gb a b blk c d e dst rest => by
    simp only [RC.msk, RC.asg, testQ_or, inL_app, RC.msk_eq k rest, RC.msk_eq k blk, testQ_one]
    rw [show dst :: rest.asg = [dst] ++ rest.asg from rfl, inL_app]
def pmsk : List PO → Nat
  | [] => 0
  | p :: l => Nat.lor (dmsk p.d) (pmsk l)
theorem pmsk_eq (k : Nat) : ∀ l : List PO, testQ (pmsk l) k = inL (l.flatMap fun p => match p.d with | some d => [d] | none => []) k
  | [] => testQ_zero k
  | p :: l => by simp only [pmsk, List.flatMap_cons, testQ_or, inL_app, dmsk_eq, pmsk_eq k l] <;> rfl
def TC.msk : TC → Nat
  | .region ops => ops.msk
  | .draw _ ops _ => ops.msk
  | .draw2 _ pre tl _ => Nat.lor (pmsk pre) tl.msk
  | .regL pre => pmsk pre
  | .seq a b => Nat.lor a.msk b.msk
  | .cond _ a b => Nat.lor a.msk b.msk
  | .block _ a => a.msk
  | .loop _ _ a => a.msk
  | .adj _ a => a.msk
  | .after a _ => a.msk
  | .cut _ a => a.msk
  | _ => 0
theorem TC.msk_eq (k : Nat) : ∀ c : TC, testQ c.msk k = inL c.asg k
  | .region ops => RC.msk_eq k ops
  | .draw _ ops _ => RC.msk_eq k ops
  | .regL pre => pmsk_eq k pre
  | .draw2 _ pre tl _ => by simp only [TC.msk, TC.asg, testQ_or, inL_app, RC.msk_eq k tl, pmsk_eq k pre] <;> rfl
  | .seq a b => by simp only [TC.msk, TC.asg, testQ_or, inL_app, TC.msk_eq k a, TC.msk_eq k b]
  | .cond _ a b => by simp only [TC.msk, TC.asg, testQ_or, inL_app, TC.msk_eq k a, TC.msk_eq k b]
  | .block _ a => TC.msk_eq k a
  | .loop _ _ a => TC.msk_eq k a
  | .adj _ a => TC.msk_eq k a
  | .after a _ => TC.msk_eq k a
  | .cut _ a => TC.msk_eq k a
  | .skip => testQ_zero k
  | .exit _ => testQ_zero k
  | .ret => testQ_zero k
noncomputable def mayQ (m : Nat) (fr : List (Nat × V)) (k : Nat) : Bool := testQ m k || (match lkQ fr k with
  | some v => !v.isD
  | none => false)
def tmQ (m : Nat → Bool) : Slot → Bool
  | .tm k _ => m k
  | _ => true
noncomputable def okQ (sh : Sh) (m : Nat) (s : S) : Bool := sh.keep.all (fun k => !testQ m k) && sh.sl.all (tmQ (mayQ m s.fr)) && sh.sk.fr.all (fun x => mayQ m s.fr x.1)
theorem mayQ_eq {m : Nat} {A : List Nat} (h : ∀ k, testQ m k = inL A k) (fr : List (Nat × V)) (k : Nat) : mayQ m fr k = mayTurn A fr k := by
  unfold mayQ mayTurn
  rw [h, lkQ_eq]
  all_goals rfl
theorem okQ_eq {m : Nat} {A : List Nat} (h : ∀ k, testQ m k = inL A k) (sh : Sh) (s : S) : okQ sh m s = sh.okAt A s := by
  unfold okQ Sh.okAt
  congr 1
  · congr 1
    · congr 1; funext k; rw [h]
    · congr 1; funext x
      cases x <;> first | exact mayQ_eq h _ _ | rfl
  · congr 1; funext x; exact mayQ_eq h _ _
noncomputable def frM (fr : List (Nat × V)) : Nat := List.rec (motive := fun _ => Nat) 0 (fun x _ ih => Nat.lor (2 ^ x.1) ih) fr
theorem frM_eq (k : Nat) : ∀ fr : List (Nat × V), testQ (frM fr) k = (lk fr k).isSome
  | [] => testQ_zero k
  | (j, v) :: l => by
    show testQ (Nat.lor (2 ^ j) (frM l)) k = (bif Nat.beq k j then some v else lk l k).isSome
    rw [testQ_or, frM_eq k l, testQ_one]
    show ((Nat.beq k j || false) || _) = _
    cases Nat.beq k j <;> rfl
theorem noneQ_eq (r : RC) (fr : List (Nat × V)) : Nat.beq (Nat.land r.msk (frM fr)) 0 = r.asg.all (fun k => (lk fr k).isNone) := by
  cases hb : r.asg.all (fun k => (lk fr k).isNone)
  · cases hz : Nat.beq (Nat.land r.msk (frM fr)) 0
    · rfl
    · have hz := Nat.eq_of_beq_eq_true hz
      rw [List.all_eq_false] at hb
      obtain ⟨k, hk, hn⟩ := hb
      have h1 : (Nat.land r.msk (frM fr)).testBit k = (r.msk.testBit k && (frM fr).testBit k) := Nat.testBit_and _ _ _
      rw [hz, ← testQ_eq r.msk, ← testQ_eq (frM fr), RC.msk_eq, frM_eq, Nat.zero_testBit] at h1
      have h2 : inL r.asg k = true := List.any_eq_true.2 ⟨k, hk, Nat.beq_refl k⟩
      rw [h2] at h1
      simp at h1
      rw [h1] at hn
      simp at hn
  · have : Nat.land r.msk (frM fr) = 0 := by
      refine Nat.eq_of_testBit_eq fun k => ?_
      have h1 : (Nat.land r.msk (frM fr)).testBit k = (r.msk.testBit k && (frM fr).testBit k) := Nat.testBit_and _ _ _
      rw [h1, ← testQ_eq r.msk, ← testQ_eq (frM fr), RC.msk_eq, frM_eq, Nat.zero_testBit]
      cases hi : inL r.asg k
      · rfl
      · obtain ⟨j, hj, he⟩ := List.any_eq_true.1 hi
        have he := Nat.eq_of_beq_eq_true he
        subst he
        have := List.all_eq_true.1 hb k hj
        rw [Option.isNone_iff_eq_none.1 this]; rfl
    rw [this]; rfl
noncomputable def frFitQ (fr l : List (Nat × V)) : Bool := List.rec (motive := fun _ => Bool) true (fun x _ ih => Option.rec (motive := fun _ => Bool) false (fun w => Bool.rec (motive := fun _ => Bool) false ih (V.same x.2 w)) (lkQ fr x.1)) l
theorem frFitQ_eq (fr : List (Nat × V)) : ∀ l, frFitQ fr l = frFit fr l
  | [] => rfl
  | (k, v) :: l => by
    show Option.rec (motive := fun _ => Bool) false (fun w => Bool.rec (motive := fun _ => Bool) false (frFitQ fr l) (V.same v w)) (lkQ fr k) = ((match lk fr k with | some w => V.same v w | none => false) && frFit fr l)
    rw [lkQ_eq, frFitQ_eq fr l]
    cases lk fr k with
    | none => rfl
    | some w => show Bool.rec (motive := fun _ => Bool) false _ (V.same v w) = (V.same v w && _); cases V.same v w <;> rfl
noncomputable def slotQ (s : S) (x : Slot) : Option x.ty.den := Slot.casesOn (motive := fun x => Option x.ty.den) x (fun k t => Option.rec (motive := fun _ => Option t.den) none (fun v => data? t v) (lkQ s.fr k)) (fun a b c => slotVal s (.cell a b c)) (fun a b c => slotVal s (.vec a b c)) (fun a b c d e => slotVal s (.map a b c d e)) (fun a b c d => slotVal s (.tree a b c d)) (fun a b c d e f => slotVal s (.treeH a b c d e f))
theorem slotQ_eq (s : S) (x : Slot) : slotQ s x = slotVal s x := by
  cases x <;> try rfl
  rename_i k t
  show Option.rec (motive := fun _ => Option t.den) none (fun v => data? t v) (lkQ s.fr k) = match lk s.fr k with | some v => data? t v | none => none
  rw [lkQ_eq]
  cases lk s.fr k <;> rfl
noncomputable def packLQ (s : S) (sl : List Slot) : Option (HL sl) := List.rec (motive := fun sl => Option (HL sl)) (some ()) (fun x l ih => Option.rec (motive := fun _ => Option (HL (x :: l))) none (fun c => Option.rec (motive := fun _ => Option (HL (x :: l))) none (fun r => some (c, r)) ih) (slotQ s x)) sl
theorem packLQ_eq (s : S) : ∀ sl, packLQ s sl = packL s sl
  | [] => rfl
  | x :: l => by
    show Option.rec (motive := fun _ => Option (HL (x :: l))) none (fun c => Option.rec (motive := fun _ => Option (HL (x :: l))) none (fun r => some (c, r)) (packLQ s l)) (slotQ s x) = match slotVal s x with
      | some c => match packL s l with
        | some r => some (c, r)
        | none => none
      | none => none
    rw [slotQ_eq, packLQ_eq s l]
    cases slotVal s x with
    | none => rfl
    | some c => cases packL s l <;> rfl
noncomputable def allDQ (fr : List (Nat × V)) (ks : List Nat) : Bool := List.rec (motive := fun _ => Bool) true (fun k _ ih => Option.rec (motive := fun _ => Bool) false (fun v => Bool.rec (motive := fun _ => Bool) false ih v.isD) (lkQ fr k)) ks
theorem allDQ_eq (fr : List (Nat × V)) : ∀ ks, allDQ fr ks = ks.all (hasD fr)
  | [] => rfl
  | k :: l => by
    show Option.rec (motive := fun _ => Bool) false (fun v => Bool.rec (motive := fun _ => Bool) false (allDQ fr l) v.isD) (lkQ fr k) = ((match lk fr k with | some v => v.isD | none => false) && l.all (hasD fr))
    rw [lkQ_eq, allDQ_eq fr l]
    cases lk fr k with
    | none => rfl
    | some v => show Bool.rec (motive := fun _ => Bool) false _ v.isD = (v.isD && _); cases v.isD <;> rfl
noncomputable def packQ (sh : Sh) (s : S) : Option (HL sh.sl) := Bool.rec (motive := fun _ => Option (HL sh.sl)) none (packLQ s sh.sl) (frFitQ s.fr sh.sk.fr && obsFit sh.sk.hp s.hp && allDQ s.fr sh.keep)
theorem packQ_eq (sh : Sh) (s : S) : packQ sh s = pack sh s := by
  unfold packQ pack S.fits
  rw [frFitQ_eq, allDQ_eq, packLQ_eq]
  cases frFit s.fr sh.sk.fr && obsFit sh.sk.hp s.hp && sh.keep.all (hasD s.fr) <;> rfl
noncomputable def keepQ (fr : List (Nat × V)) (ks : List Nat) : List (Nat × V) := List.rec (motive := fun _ => List (Nat × V)) [] (fun k _ ih => Option.rec (motive := fun _ => List (Nat × V)) ih (fun v => Bool.rec (motive := fun _ => List (Nat × V)) ih ((k, v) :: ih) v.isD) (lkQ fr k)) ks
theorem keepQ_eq (fr : List (Nat × V)) : ∀ ks, keepQ fr ks = keepFr fr ks
  | [] => rfl
  | k :: l => by
    show Option.rec (motive := fun _ => List (Nat × V)) (keepQ fr l) (fun v => Bool.rec (motive := fun _ => List (Nat × V)) (keepQ fr l) ((k, v) :: keepQ fr l) v.isD) (lkQ fr k) = match lk fr k with
      | some v => bif v.isD then (k, v) :: keepFr fr l else keepFr fr l
      | none => keepFr fr l
    rw [lkQ_eq, keepQ_eq fr l]
    cases lk fr k with
    | none => rfl
    | some v => show Bool.rec (motive := fun _ => List (Nat × V)) _ _ v.isD = bif v.isD then _ else _; cases v.isD <;> rfl
noncomputable def Sh.baseQ (sh : Sh) (s : S) : S := ⟨keepQ s.fr sh.keep ++ sh.sk.fr, sh.sk.hp⟩
theorem baseQ_eq (sh : Sh) (s : S) : sh.baseQ s = sh.base s := by unfold Sh.baseQ Sh.base; rw [keepQ_eq]
noncomputable def injQ : (xs : List (Nat × Sh)) → Nat → S → Option (XT xs)
  | [], _, _ => none
  | [(k, sh)], key, s => bif Nat.beq k key then packQ sh s else none
  | (k, sh) :: a :: l, key, s => bif Nat.beq k key then (match packQ sh s with | some c => some (.inl c) | none => none) else (match injQ (a :: l) key s with | some c => some (.inr c) | none => none)
theorem injQ_eq (key : Nat) (s : S) : ∀ xs, injQ xs key s = inj xs key s
  | [] => rfl
  | [(k, sh)] => by simp only [injQ, inj, packQ_eq]
  | (k, sh) :: a :: l => by simp only [injQ, inj, packQ_eq, injQ_eq key s (a :: l)] <;> rfl
noncomputable def dispatchQ {R : Type} (s : S) (κ : Nat → S → Option R) : (xs : List (Nat × Sh)) → XT xs → Option R
  | [], _ => none
  | [(k, sh)], c => κ k (unpack sh.sl c (sh.baseQ s))
  | (k, sh) :: a :: l, c => Sum.elim (fun c => κ k (unpack sh.sl c (sh.baseQ s))) (fun c => dispatchQ s κ (a :: l) c) c
theorem dispatchQ_eq {R : Type} (s : S) (κ : Nat → S → Option R) : ∀ xs c, dispatchQ s κ xs c = dispatch s κ xs c
  | [], _ => rfl
  | [(k, sh)], c => by simp only [dispatchQ, dispatch, baseQ_eq]
  | (k, sh) :: a :: l, c => by simp only [dispatchQ, dispatch, baseQ_eq, dispatchQ_eq s κ (a :: l)]
abbrev MQ (R : Type) : Type := Oracle → Option Nat → S → (S → Option R) → (S → Option R) → Option R
section
variable {R : Type}
noncomputable def q_mv (x : X) : MQ R := fun O d s κ kp => match s.getQ x with
    | some v => κ (s.putO d v)
    | none => none
def q_pick (c : X) (a : X) (b : X) : MQ R := fun O d s κ kp => evOp O d (.pick c a b) s κ kp
noncomputable def q_bin (op : BinOp) (x : X) (y : X) : MQ R := fun O d s κ kp => match s.getQ x, s.getQ y with
    | some (.d (.int k) a), some (.d (.int k') b) => binI op k k' a b fun v => κ (s.putO d v)
    | some (.d .str a), some (.d .str b) => binS op a b fun v => κ (s.putO d v)
    | _, _ => none
noncomputable def q_eqB (neg : Bool) (x : X) (y : X) : MQ R := fun O d s κ kp => match s.getQ x, s.getQ y with
    | some (.d .bool a), some (.d .bool b) => κ (s.putO d (.d .bool (neg ^^ (a == b))))
    | _, _ => none
def q_eqT (neg : Bool) (tid : TypeId) (t : Ty) (x : X) (y : X) : MQ R := fun O d s κ kp => evOp O d (.eqT neg tid t x y) s κ kp
noncomputable def q_un (op : UnOp) (x : X) : MQ R := fun O d s κ kp => match op, s.getQ x with
    | .not, some (.d .bool a) => κ (s.putO d (.d .bool (!a)))
    | .neg, some (.d (.int k) a) => κ (s.putO d (.d (.int k) (k.wrap (0 - a))))
    | _, _ => none
noncomputable def q_len (str : Bool) (x : X) : MQ R := fun O d s κ kp => match str, s.getQ x with
    | true, some (.d .str a) => κ (s.putO d (.d (.int .i64) a.length))
    | false, some (.d (.list _) a) => κ (s.putO d (.d (.int .i64) a.length))
    | false, some (.nil _) => κ (s.putO d (.d (.int .i64) 0))
    | false, some (.sl id) => match s.hp[id]? with
      | some (.vec _ _ xs) => κ (s.putO d (.d (.int .i64) xs.length))
      | some (.tree _ _ _ xs _) => κ (s.putO d (.d (.int .i64) xs.length))
      | _ => none
    | _, _ => none
def q_lenM (k : TypeId) (e : TypeId) (x : X) : MQ R := fun O d s κ kp => evOp O d (.lenM k e x) s κ kp
def q_idxS (x : X) (i : X) : MQ R := fun O d s κ kp => evOp O d (.idxS x i) s κ kp
def q_idxV (n : Nat) (t : Ty) (x : X) (i : X) : MQ R := fun O d s κ kp => evOp O d (.idxV n t x i) s κ kp
noncomputable def q_idxA (t : Ty) (x : X) (i : X) : MQ R := fun O d s κ kp => match s.getQ x with
    | some (.sl id) => match s.hp[id]? with
      | some (.vec _ u xs) => bif decide (u = t) then intOf (s.getQ i) fun n => Option.bind (getI xs n) fun _ => κ (s.putO d (.elt id n.toNat 0)) else none
      | some (.tree _ _ u xs _) => bif decide (u = t) then intOf (s.getQ i) fun n => Option.bind (getI xs n) fun _ => κ (s.putO d (.elt id n.toNat 0)) else none
      | _ => none
    | some (.d (.list u) xs) => match cast? (.list u) (.list t) xs with
      | some xs => intOf (s.getQ i) fun n => Option.bind (getI xs n) fun x => κ (s.putO d (.dp t x))
      | none => none
    | _ => none
def q_idxP (n : Nat) (t : Ty) (x : X) (i : X) : MQ R := fun O d s κ kp => evOp O d (.idxP n t x i) s κ kp
noncomputable def q_fldA (off : Nat) (t : Ty) (x : X) : MQ R := fun O d s κ kp => match s.getQ x with
    | some (.dp u y) => match part? u off t y with
      | some z => κ (s.putO d (.dp t z))
      | none => none
    | some (.ptr id o) => κ (s.putO d (.ptr id (o + off)))
    | some (.elt id i o) => κ (s.putO d (.elt id i (o + off)))
    | _ => none
def q_fld (off : Nat) (t : Ty) (x : X) : MQ R := fun O d s κ kp => evOp O d (.fld off t x) s κ kp
noncomputable def q_load (t : Ty) (x : X) : MQ R := fun O d s κ kp => loadT s.hp t (s.getQ x) fun v => κ (s.putO d v)
noncomputable def q_store (t : Ty) (x : X) (v : X) : MQ R := fun O d s κ kp => match d with
    | none => storeT s t (s.getQ x) (s.getQ v) κ
    | some _ => none
def q_alloc (tid : TypeId) (zero : List V) : MQ R := fun O d s κ kp => evOp O d (.alloc tid zero) s κ kp
def q_box (tid : TypeId) (x : X) : MQ R := fun O d s κ kp => evOp O d (.box tid x) s κ kp
def q_boxD (tid : TypeId) (t : Ty) (x : X) : MQ R := fun O d s κ kp => evOp O d (.boxD tid t x) s κ kp
def q_build (zero : List V) (parts : List (Nat × Nat × X)) : MQ R := fun O d s κ kp => evOp O d (.build zero parts) s κ kp
def q_bslice (own : Bool) (tid : TypeId) (t : Ty) (len : Nat) (parts : List X) : MQ R := fun O d s κ kp => evOp O d (.bslice own tid t len parts) s κ kp
def q_mslice (tid : TypeId) (t : Ty) (bytes : Nat) (l : X) (c : X) : MQ R := fun O d s κ kp => evOp O d (.mslice tid t bytes l c) s κ kp
def q_append (tid : TypeId) (t : Ty) (bytes : Nat) (x : X) (y : X) : MQ R := fun O d s κ kp => evOp O d (.append tid t bytes x y) s κ kp
def q_cvtI (k : IntKind) (x : X) : MQ R := fun O d s κ kp => evOp O d (.cvtI k x) s κ kp
def q_slc (full : Bool) (t : Ty) (x : X) (lo : Option X) (hi : Option X) (mx : Option X) : MQ R := fun O d s κ kp => evOp O d (.slc full t x lo hi mx) s κ kp
def q_slcS (x : X) (lo : Option X) (hi : Option X) : MQ R := fun O d s κ kp => evOp O d (.slcS x lo hi) s κ kp
noncomputable def q_ext (x : X) (i : Nat) : MQ R := fun O d s κ kp => match s.getQ x with
    | some (.tup vs) => match vs[i]? with
      | some v => bif (match v with | .agg _ => false | .tup _ => false | _ => true) then κ (s.putO d v) else none
      | none => none
    | _ => none
noncomputable def q_nilc (x : X) : MQ R := fun O d s κ kp => match s.getQ x with
    | some v => (match v with
      | .dp _ _ => κ (s.putO d v)
      | .ptr _ _ => κ (s.putO d v)
      | .pel _ _ _ _ _ => κ (s.putO d v)
      | .elt _ _ _ => κ (s.putO d v)
      | .clo _ _ => κ (s.putO d v)
      | .fnD _ _ => κ (s.putO d v)
      | _ => none)
    | none => none
noncomputable def q_call (bor : Bool) (f : FuncId) (args : List (Arg × X)) (sh : Sh) : MQ R := fun O d s κ kp => match argsOf s bor [] args with
    | some ars => bif ars.all V.isD && sh.sk.fr.isEmpty && (!bor || sh.sl.all Slot.flat) then
        Option.bind (callR O f ars [] sh) fun c => κ (s.putO d (res sh.n (unpack sh.sl c (sh.base ⟨[], []⟩)).fr)) else none
    | none => none
noncomputable def q_callA (pan : Bool) (bor : Bool) (B : List Nat) (f : FuncId) (args : List (Arg × X)) (sh : Sh) : MQ R := fun O d s κ kp => match argsOf s bor B args with
    | some ars => callOn pan O s d bor B f ars sh κ kp
    | none => none
def q_callv (pan : Bool) (bor : Bool) (B : List Nat) (num : Nat) (x : X) (args : List (Arg × X)) (sh : Sh) : MQ R := fun O d s κ kp => evOp O d (.callv pan bor B num x args sh) s κ kp
def q_b2s (x : X) : MQ R := fun O d s κ kp => evOp O d (.b2s x) s κ kp
def q_mkfn (f : FuncId) (caps : List X) : MQ R := fun O d s κ kp => evOp O d (.mkfn f caps) s κ kp
def q_mkmap (k : TypeId) (e : TypeId) (a : Ty) (b : Ty) : MQ R := fun O d s κ kp => evOp O d (.mkmap k e a b) s κ kp
def q_lookup (k : TypeId) (e : TypeId) (ok : Bool) (a : Ty) (b : Ty) (m : X) (x : X) : MQ R := fun O d s κ kp => evOp O d (.lookup k e ok a b m x) s κ kp
def q_mapset (k : TypeId) (e : TypeId) (a : Ty) (b : Ty) (m : X) (x : X) (v : X) : MQ R := fun O d s κ kp => evOp O d (.mapset k e a b m x v) s κ kp
def q_copy (tid : TypeId) (t : Ty) (x : X) (y : X) : MQ R := fun O d s κ kp => evOp O d (.copy tid t x y) s κ kp
def q_mnmx (mx : Bool) (k : IntKind) (x : X) (ys : List X) : MQ R := fun O d s κ kp => evOp O d (.mnmx mx k x ys) s κ kp
def q_panic (x : X) : MQ R := fun O d s κ kp => evOp O d (.panic x) s κ kp
def q_iface (tid : TypeId) (x : X) : MQ R := fun O d s κ kp => evOp O d (.iface tid x) s κ kp
def q_bsliceF (tid : TypeId) (t : Ty) (len : Nat) (parts : List X) : MQ R := fun O d s κ kp => evOp O d (.bsliceF tid t len parts) s κ kp
def q_appD (tid : TypeId) (t : Ty) (bytes : Nat) (x : X) (y : X) : MQ R := fun O d s κ kp => evOp O d (.appD tid t bytes x y) s κ kp
def q_bsliceN (tid : TypeId) (k : K) (t : Ty) (len : Nat) (parts : List X) : MQ R := fun O d s κ kp => evOp O d (.bsliceN tid k t len parts) s κ kp
def q_msliceT (tid : TypeId) (k : K) (u : Ty) (bytes : Nat) (l : X) (c : X) : MQ R := fun O d s κ kp => evOp O d (.msliceT tid k u bytes l c) s κ kp
def q_appT (tid : TypeId) (k : K) (t : Ty) (bytes : Nat) (x : X) (y : X) : MQ R := fun O d s κ kp => evOp O d (.appT tid k t bytes x y) s κ kp
def q_callp (bor : Bool) (num : Nat) (x : X) (args : List (Arg × X)) (sh : Sh) : MQ R := fun O d s κ kp => evOp O d (.callp bor num x args sh) s κ kp
def q_at (k : Nat) (op : TOp) : MQ R := fun O d s κ kp => evOp O d (.atq k op) s κ kp
noncomputable def evOpQ (op : TOp) : MQ R := TOp.casesOn (motive := fun _ => MQ R) op q_mv q_pick q_bin q_eqB q_eqT q_un q_len q_lenM q_idxS q_idxV q_idxA q_idxP q_fldA q_fld q_load q_store q_alloc q_box q_boxD q_build q_bslice q_mslice q_append q_cvtI q_slc q_slcS q_ext q_nilc q_call q_callA q_callv q_b2s q_mkfn q_mkmap q_lookup q_mapset q_copy q_mnmx q_panic q_iface q_bsliceF q_appD q_bsliceN q_msliceT q_appT q_callp q_at
theorem evOpQ_eq (op : TOp) (O : Oracle) (d : Option Nat) (s : S) (κ kp : S → Option R) : evOpQ op O d s κ kp = evOp O d op s κ kp := by
  cases op
  case mv => simp only [evOpQ, q_mv, evOp, getQ_eq] <;> rfl
  case bin => simp only [evOpQ, q_bin, evOp, getQ_eq] <;> rfl
  case eqB => simp only [evOpQ, q_eqB, evOp, getQ_eq] <;> rfl
  case un => simp only [evOpQ, q_un, evOp, getQ_eq] <;> rfl
  case len => simp only [evOpQ, q_len, evOp, getQ_eq] <;> rfl
  case idxA => simp only [evOpQ, q_idxA, evOp, getQ_eq] <;> rfl
  case fldA => simp only [evOpQ, q_fldA, evOp, getQ_eq] <;> rfl
  case load => simp only [evOpQ, q_load, evOp, getQ_eq] <;> rfl
  case store => simp only [evOpQ, q_store, evOp, getQ_eq] <;> rfl
  case ext => simp only [evOpQ, q_ext, evOp, getQ_eq] <;> rfl
  case nilc => simp only [evOpQ, q_nilc, evOp, getQ_eq] <;> rfl
  case call => simp only [evOpQ, q_call, evOp, getQ_eq] <;> rfl
  case callA => simp only [evOpQ, q_callA, evOp, getQ_eq] <;> rfl
  all_goals rfl
abbrev RQ : Type 1 := (R : Type) → S → (S → Option R) → (S → Option R) → Option R
def r_nil : RQ := fun _ s κ _ => κ s
noncomputable def r_op (O : Oracle) (d : Option Nat) (o : TOp) (_ : RC) (ih : RQ) : RQ := fun R s κ kp => evOpQ o O d s (fun s' => ih R s' κ kp) kp
def r_adj (l : List Adj) (_ : RC) (ih : RQ) : RQ := fun R s κ kp => adjsK l s fun s => ih R s κ kp
noncomputable def r_gb (t : Nat) (want : Bool) (blk : RC) (ty : Ty) (r alt : X) (dst : Nat) (_ : RC) (ib ih : RQ) : RQ := fun R s κ kp => match lkQ s.fr t, s.getQ alt with
    | some (.d .bool b), some va => match (bif Nat.beq (Nat.land blk.msk (frM s.fr)) 0 then data? ty va else none) with
      | some alt => Option.bind (match want with
          | true => bif b then ib ty.den s (fun s' => match s'.getQ r with | some v => data? ty v | none => none) (fun _ => none) else some alt
          | false => bif b then some alt else ib ty.den s (fun s' => match s'.getQ r with | some v => data? ty v | none => none) (fun _ => none))
          fun c => ih R (s.put dst (.d ty c)) κ kp
      | none => none
    | _, _ => none
noncomputable def evRQ (O : Oracle) (r : RC) : RQ := RC.rec (motive := fun _ => RQ) r_nil (r_op O) r_adj r_gb r
theorem evRQ_eq (O : Oracle) (r : RC) : ∀ (R : Type) (s : S) (κ kp : S → Option R), evRQ O r R s κ kp = evR O R r s κ kp := by
  induction r with
  | nil => intro R s κ kp; rfl
  | op d o rest ih =>
    intro R s κ kp
    show evOpQ o O d s (fun s' => evRQ O rest R s' κ kp) kp = evOp O d o s (fun s' => evR O R rest s' κ kp) kp
    rw [evOpQ_eq]
    congr 1
    funext s'
    exact ih R s' κ kp
  | adj l rest ih =>
    intro R s κ kp
    show adjsK l s (fun s => evRQ O rest R s κ kp) = adjsK l s fun s => evR O R rest s κ kp
    congr 1
    funext s'
    exact ih R s' κ kp
  | gb t want blk ty r alt dst rest ib ih =>
    intro R s κ kp
    have e1 : evRQ O blk = fun R s κ kp => evR O R blk s κ kp := by funext R s κ kp; exact ib R s κ kp
    have e2 : evRQ O rest = fun R s κ kp => evR O R rest s κ kp := by funext R s κ kp; exact ih R s κ kp
    show r_gb t want blk ty r alt dst rest (evRQ O blk) (evRQ O rest) R s κ kp = _
    rw [e1, e2]
    simp only [r_gb, evR, getQ_eq, lkQ_eq, noneQ_eq] <;> rfl
noncomputable def evPQ {R : Type} (O : Oracle) (l : List PO) : List Av.Rec → S → (S → Option R) → (S → Option R) → Option R := List.rec (motive := fun _ => List Av.Rec → S → (S → Option R) → (S → Option R) → Option R) (fun _ s κ _ => κ s) (fun p _ ih A s κ kp =>
    match p.g with
    | none => bif chkP A s p then evOpQ p.o O p.d s (fun s' => ih (recP A s s' p) s' κ kp) kp else none
    | some (t, want) => match lkQ s.fr t with
      | some (.d .bool b) => bif want == b
          then (bif chkP A (s.put t (.d .bool want)) p then evOpQ p.o O p.d (s.put t (.d .bool want)) (fun s' => ih (recP A (s.put t (.d .bool want)) s' p) s' κ kp) kp else none)
          else (bif chkP A (s.put t (.d .bool (!want))) p then ih (recP A (s.put t (.d .bool (!want))) ((s.put t (.d .bool (!want))).putO p.d (.raw Go.undef)) p) ((s.put t (.d .bool (!want))).putO p.d (.raw Go.undef)) κ kp else none)
      | _ => none) l
theorem evPQ_eq {R : Type} (O : Oracle) : ∀ (l : List PO) (A : List Av.Rec) (s : S) (κ kp : S → Option R), evPQ O l A s κ kp = evP O A l s κ kp
  | [], _, _, _, _ => rfl
  | p :: l, A, s, κ, kp => by
    show (match p.g with
    | none => bif chkP A s p then evOpQ p.o O p.d s (fun s' => evPQ O l (recP A s s' p) s' κ kp) kp else none
    | some (t, want) => match lkQ s.fr t with
      | some (.d .bool b) => bif want == b
          then (bif chkP A (s.put t (.d .bool want)) p then evOpQ p.o O p.d (s.put t (.d .bool want)) (fun s' => evPQ O l (recP A (s.put t (.d .bool want)) s' p) s' κ kp) kp else none)
          else (bif chkP A (s.put t (.d .bool (!want))) p then evPQ O l (recP A (s.put t (.d .bool (!want))) ((s.put t (.d .bool (!want))).putO p.d (.raw Go.undef)) p) ((s.put t (.d .bool (!want))).putO p.d (.raw Go.undef)) κ kp else none)
      | _ => none) = _
    simp only [evPQ_eq O l, evOpQ_eq, evP, lkQ_eq] <;> rfl
noncomputable def evLQ {R : Type} (O : Oracle) (l : List PO) : S → (S → Option R) → (S → Option R) → Option R := List.rec (motive := fun _ => S → (S → Option R) → (S → Option R) → Option R) (fun s κ _ => κ s) (fun p _ ih s κ kp =>
    match p.g with
    | none => evOpQ p.o O p.d s (fun s' => ih s' κ kp) kp
    | some (t, want) => match lkQ s.fr t with
      | some (.d .bool b) => bif b
          then (match want with
            | true => evOpQ p.o O p.d (s.put t (.d .bool true)) (fun s' => ih s' κ kp) kp
            | false => ih ((s.put t (.d .bool true)).putO p.d (.raw Go.undef)) κ kp)
          else (match want with
            | true => ih ((s.put t (.d .bool false)).putO p.d (.raw Go.undef)) κ kp
            | false => evOpQ p.o O p.d (s.put t (.d .bool false)) (fun s' => ih s' κ kp) kp)
      | _ => none) l
theorem evLQ_eq {R : Type} (O : Oracle) : ∀ (l : List PO) (s : S) (κ kp : S → Option R), evLQ O l s κ kp = evL O l s κ kp
  | [], _, _, _ => rfl
  | p :: l, s, κ, kp => by
    show (match p.g with
    | none => evOpQ p.o O p.d s (fun s' => evLQ O l s' κ kp) kp
    | some (t, want) => match lkQ s.fr t with
      | some (.d .bool b) => bif b
          then (match want with
            | true => evOpQ p.o O p.d (s.put t (.d .bool true)) (fun s' => evLQ O l s' κ kp) kp
            | false => evLQ O l ((s.put t (.d .bool true)).putO p.d (.raw Go.undef)) κ kp)
          else (match want with
            | true => evLQ O l ((s.put t (.d .bool false)).putO p.d (.raw Go.undef)) κ kp
            | false => evOpQ p.o O p.d (s.put t (.d .bool false)) (fun s' => evLQ O l s' κ kp) kp)
      | _ => none) = _
    simp only [evLQ_eq O l, evOpQ_eq, evL, lkQ_eq] <;> rfl
abbrev CQ : Type 1 := (R : Type) → S → (S → Option R) → (Nat → S → Option R) → (S → Option R) → (S → Option R) → Option R
def c_skip : CQ := fun _ s kn _ _ _ => kn s
noncomputable def c_region (O : Oracle) (ops : RC) : CQ := fun R s kn _ _ kp => evRQ O ops R s kn kp
noncomputable def c_draw (O : Oracle) (_ : Nat) (ops : RC) (_ : List (List Nat)) : CQ := fun R s kn _ _ kp => evRQ O ops R s kn kp
noncomputable def c_draw2 (O : Oracle) (r : Nat) (pre : List PO) (tl : RC) (_ : List (List Nat)) : CQ := fun R s kn _ _ kp => evPQ O pre [] ⟨s.fr, s.hp ++ List.replicate r .free⟩ (fun s => evRQ O tl R s kn kp) kp
noncomputable def c_regL (O : Oracle) (pre : List PO) : CQ := fun _ s kn _ _ kp => evLQ O pre s kn kp
def c_seq (_ _ : TC) (ia ib : CQ) : CQ := fun R s kn kx kr kp => ia R s (fun s => ib R s kn kx kr kp) kx kr kp
noncomputable def c_cond (x : X) (_ _ : TC) (ia ib : CQ) : CQ := fun R s kn kx kr kp => match s.getQ x with
    | some (.d .bool t) => bif t then ia R s kn kx kr kp else ib R s kn kx kr kp
    | _ => none
def c_block (id : Nat) (_ : TC) (ia : CQ) : CQ := fun R s kn kx kr kp => ia R s kn (fun i s => bif Nat.beq i id then kn s else kx i s) kr kp
def c_exit (id : Nat) : CQ := fun _ s _ kx _ _ => kx id s
def c_ret : CQ := fun _ s _ _ kr _ => kr s
def c_adj (l : List Adj) (_ : TC) (ia : CQ) : CQ := fun R s kn kx kr kp => adjsK l s fun s => ia R s kn kx kr kp
def c_after (_ : TC) (l : List Adj) (ia : CQ) : CQ := fun R s kn kx kr kp => ia R s (fun s => adjsK l s kn) kx kr kp
noncomputable def c_cut (xs : List (Nat × Sh)) (a : TC) (ia : CQ) : CQ := fun R s kn kx kr kp => bif xs.all (fun x => okQ x.2 a.msk s) then
      Option.bind (ia (XT xs) s (fun s => injQ xs 0 s) (fun i s => injQ xs (i + 3) s) (fun s => injQ xs 1 s) (fun s => injQ xs 2 s))
        (dispatchQ s (fun key s => match key with | 0 => kn s | 1 => kr s | 2 => kp s | i + 3 => kx i s) xs) else none
noncomputable def c_loop (n : Nat) (sh : Sh) (xs : List (Nat × Sh)) (a : TC) (ia : CQ) : CQ := fun R s kn kx kr kp => match packQ sh s with
    | some c => bif okQ sh a.msk s && xs.all (fun x => okQ x.2 a.msk s) then Option.bind (loopN n (fun c => ia (HL sh.sl ⊕ XT xs) (unpack sh.sl c (sh.baseQ s)) (fun s => match packQ sh s with | some c => some (.inl c) | none => none)
          (fun i s => match injQ xs (i + 3) s with | some c => some (.inr c) | none => none) (fun s => match injQ xs 1 s with | some c => some (.inr c) | none => none) (fun s => match injQ xs 2 s with | some c => some (.inr c) | none => none)) c)
        (dispatchQ s (fun key s => match key with | 0 => kn s | 1 => kr s | 2 => kp s | i + 3 => kx i s) xs) else none
    | none => none
noncomputable def evCQ (O : Oracle) (n : Nat) (c : TC) : CQ := TC.rec (motive := fun _ => CQ) c_skip (c_region O) (c_draw O) (c_draw2 O) (c_regL O) c_seq c_cond c_block (c_loop n) c_exit c_ret c_adj c_after c_cut c
theorem evCQ_eq (O : Oracle) (n : Nat) (c : TC) : ∀ (R : Type) (s : S) (kn : S → Option R) (kx : Nat → S → Option R) (kr kp : S → Option R), evCQ O n c R s kn kx kr kp = evC O n R c s kn kx kr kp := by
  have hx : ∀ a : TC, (∀ (R : Type) (s : S) (kn : S → Option R) (kx : Nat → S → Option R) (kr kp : S → Option R), evCQ O n a R s kn kx kr kp = evC O n R a s kn kx kr kp) → evCQ O n a = fun R s kn kx kr kp => evC O n R a s kn kx kr kp := fun a h => by
    funext R s kn kx kr kp; exact h R s kn kx kr kp
  induction c with
  | skip => intro R s kn kx kr kp; rfl
  | region ops => intro R s kn kx kr kp; exact evRQ_eq O ops R s kn kp
  | draw k ops af => intro R s kn kx kr kp; exact evRQ_eq O ops R s kn kp
  | draw2 r pre tl af =>
    intro R s kn kx kr kp
    show evPQ O pre [] _ (fun s => evRQ O tl R s kn kp) kp = evP O [] pre _ (fun s => evR O R tl s kn kp) kp
    rw [evPQ_eq]
    congr 1
    funext s'
    exact evRQ_eq O tl R s' kn kp
  | regL pre => intro R s kn kx kr kp; exact evLQ_eq O pre s kn kp
  | seq a b iha ihb =>
    intro R s kn kx kr kp
    show c_seq a b (evCQ O n a) (evCQ O n b) R s kn kx kr kp = _
    rw [hx a iha, hx b ihb]; rfl
  | cond x a b iha ihb =>
    intro R s kn kx kr kp
    show c_cond x a b (evCQ O n a) (evCQ O n b) R s kn kx kr kp = _
    rw [hx a iha, hx b ihb]
    simp only [c_cond, getQ_eq, evC] <;> rfl
  | block id a iha =>
    intro R s kn kx kr kp
    show c_block id a (evCQ O n a) R s kn kx kr kp = _
    rw [hx a iha]; rfl
  | loop sh xs a iha =>
    intro R s kn kx kr kp
    show c_loop n sh xs a (evCQ O n a) R s kn kx kr kp = _
    rw [hx a iha]
    have hd : ∀ (κ : Nat → S → Option R), dispatchQ s κ xs = dispatch s κ xs := fun κ => funext fun c => dispatchQ_eq s κ xs c
    simp only [c_loop, evC, okQ_eq fun k => TC.msk_eq k a, packQ_eq, baseQ_eq, injQ_eq, hd] <;> rfl
  | exit id => intro R s kn kx kr kp; rfl
  | ret => intro R s kn kx kr kp; rfl
  | adj l a iha =>
    intro R s kn kx kr kp
    show c_adj l a (evCQ O n a) R s kn kx kr kp = _
    rw [hx a iha]; rfl
  | after a l iha =>
    intro R s kn kx kr kp
    show c_after a l (evCQ O n a) R s kn kx kr kp = _
    rw [hx a iha]; rfl
  | cut xs a iha =>
    intro R s kn kx kr kp
    show c_cut xs a (evCQ O n a) R s kn kx kr kp = _
    rw [hx a iha]
    have hd : ∀ (κ : Nat → S → Option R), dispatchQ s κ xs = dispatch s κ xs := fun κ => funext fun c => dispatchQ_eq s κ xs c
    simp only [c_cut, evC, okQ_eq fun k => TC.msk_eq k a, injQ_eq, hd] <;> rfl
end
noncomputable def evF1Q (O : Oracle) (n : Nat) (c : TF) (ars : List V) (os : List Ob) : Option (Option S) :=
  evCQ O n c.code (Option S) ⟨numbered 0 ars, os⟩ (finS c) (fun _ _ => none) (finS c) (fun _ => some none)
noncomputable def evFDQ (O : Oracle) (n : Nat) (d : TD) (ars : List V) : Option (Option S) :=
  evCQ O n d.a (Option S) ⟨numbered 0 ars, []⟩ (fun s => bif isBox s d.ta 0 && isBox s d.tb 1 && noT s d.t8 && Nat.beq s.hp.length 2 then
    evCQ O n d.c.code (Option S) s (finS d.c) (fun _ _ => none) (finS d.c) (fun s => bif isBox s d.ta 0 && isBox s d.tb 1 then
      evCQ O n d.h (Option S) ⟨[(0, .ptr 0 0), (1, .ptr 1 0)], s.hp⟩ (finD d) (fun _ _ => none) (finD d) (fun _ => none) else none) else none) (fun _ _ => none) (fun _ => none) (fun _ => none)
noncomputable def evFQ (tbl : Nat → Option Fun') (n : Nat) : Oracle := Nat.rec (motive := fun _ => Oracle) (fun _ _ _ => none) (fun n ih f ars os => match tbl f with
    | some (.code c) => bif Nat.beq os.length c.m && Nat.ble ars.length c.ntmps then evF1Q ih n c ars os else none
    | some (.dfr d) => bif Nat.beq os.length 0 && Nat.ble ars.length d.c.ntmps then evFDQ ih n d ars else none
    | some (.nat g) => (match os with
      | [] => (match g ars with
        | some s => some (some s)
        | none => none)
      | _ => none)
    | none => none) n
theorem evF1Q_eq (O : Oracle) (n : Nat) (c : TF) (ars : List V) (os : List Ob) : evF1Q O n c ars os = evF1 O n c ars os := evCQ_eq O n c.code _ _ _ _ _ _
theorem evFDQ_eq (O : Oracle) (n : Nat) (d : TD) (ars : List V) : evFDQ O n d ars = evFD O n d ars := by
  simp only [evFDQ, evFD, evCQ_eq]
theorem evFQ_eq (tbl : Nat → Option Fun') : ∀ n, evFQ tbl n = evF tbl n
  | 0 => rfl
  | n + 1 => by
    funext f ars os
    have ih := evFQ_eq tbl n
    simp only [evF]
    rw [← ih]
    show (match tbl f with
    | some (.code c) => bif Nat.beq os.length c.m && Nat.ble ars.length c.ntmps then evF1Q (evFQ tbl n) n c ars os else none
    | some (.dfr d) => bif Nat.beq os.length 0 && Nat.ble ars.length d.c.ntmps then evFDQ (evFQ tbl n) n d ars else none
    | some (.nat g) => (match os with
      | [] => (match g ars with
        | some s => some (some s)
        | none => none)
      | _ => none)
    | none => none) = _
    cases tbl f with
    | none => rfl
    | some x => cases x with
      | code c => simp only [evF1Q_eq]
      | dfr d => simp only [evFDQ_eq]
      | nat g => rfl
theorem callR_Q {tbl : Nat → Option Fun'} {n f : Nat} {ars : List V} {os : List Ob} {sh : Sh} {c : HL sh.sl} (h : callR (evFQ tbl n) f ars os sh = some c) : callR (evF tbl n) f ars os sh = some c := by
  rw [← evFQ_eq]; exact h
theorem calls_Q {tbl : Nat → Option Fun'} {f : Nat} {ars : List V} {os : List Ob} {sh : Sh} {c : HL sh.sl} {m : Nat} (h : ∀ k, callR (evFQ tbl (k + m)) f ars os sh = some c) : ∃ n0, ∀ n, n0 ≤ n → callR (evF tbl n) f ars os sh = some c :=
  ⟨m, fun n hn => by
    obtain ⟨k, rfl⟩ : ∃ k, n = k + m := ⟨n - m, by omega⟩
    exact callR_Q (h k)⟩
end Go.Ev
namespace Go.Ev
open Go Go.RowKit Go.Av
inductive LeB : BV → BV → Prop
  | refl (x : BV) : LeB x x
  | data (x : BV) (p : PV) (h : x.toPV = some p) : LeB x (.pv p)
  | any (x : BV) : LeB x (.pv .any)
inductive LeA : AV → AV → Prop
  | refl (x : AV) : LeA x x
  | data (x : AV) (p : PV) (h : x.toPV = some p) : LeA x (.b (.pv p))
  | any (x : AV) : LeA x (.b (.pv .any))
  | agg (xs ys : List BV) (hl : xs.length = ys.length) (h : ∀ (i : Nat) (x y : BV), xs[i]? = some x → ys[i]? = some y → LeB x y) : LeA (.agg xs) (.agg ys)
  | tup (xs ys : List BV) (hl : xs.length = ys.length) (h : ∀ (i : Nat) (x y : BV), xs[i]? = some x → ys[i]? = some y → LeB x y) : LeA (.tup xs) (.tup ys)
inductive LeO : AObj → AObj → Prop
  | refl (x : AObj) : LeO x x
  | gone (x : AObj) : LeO x .gone
  | box (t : TypeId) (xs ys : List BV) (hl : xs.length = ys.length) (h : ∀ (i : Nat) (x y : BV), xs[i]? = some x → ys[i]? = some y → LeB x y) : LeO (.box t xs) (.box t ys)
section
variable {θ : List Av.Loc} {D : Nat → Prop} {w : World}
theorem LeB.rel {x y : BV} (h : LeB x y) {v : Value} (hr : RelB θ D w v x) : RelB θ D w v y := by
  cases h with
  | refl => exact hr
  | data p h => exact relB_toPV hr h
  | any => exact RelP.any v
theorem rel_pt {vs : Array Value} {xs ys : List BV} (hl : xs.length = ys.length) (h : ∀ (i : Nat) (x y : BV), xs[i]? = some x → ys[i]? = some y → LeB x y) (h1 : vs.size = xs.length) (h2 : ∀ (i : Nat) (u : Value) (x : BV), vs[i]? = some u → xs[i]? = some x → RelB θ D w u x) :
    vs.size = ys.length ∧ ∀ (i : Nat) (u : Value) (x : BV), vs[i]? = some u → ys[i]? = some x → RelB θ D w u x :=
  ⟨by omega, fun i u y hu hy => by
    obtain ⟨x, hx⟩ := getElem?_of_len (l := xs) hl hy
    exact (h i x y hx hy).rel (h2 i u x hu hx)⟩
theorem LeA.rel {x y : AV} (h : LeA x y) {v : Value} (hr : RelA θ D w v x) : RelA θ D w v y := by
  cases h with
  | refl => exact hr
  | data _ p h => exact relA_toPV hr h
  | any => exact RelP.any v
  | agg xs ys hl h => obtain ⟨vs, hv, h1, h2⟩ := hr; obtain ⟨h3, h4⟩ := rel_pt hl h h1 h2; exact ⟨vs, hv, h3, h4⟩
  | tup xs ys hl h => obtain ⟨vs, hv, h1, h2⟩ := hr; obtain ⟨h3, h4⟩ := rel_pt hl h h1 h2; exact ⟨vs, hv, h3, h4⟩
theorem LeO.rel {x y : AObj} (h : LeO x y) {l : Av.Loc} (hr : RelO θ D w l x) : RelO θ D w l y := by
  cases h with
  | refl => exact hr
  | gone => cases l <;> trivial
  | box t xs ys hl h =>
    cases l <;> simp only [RelO] at hr ⊢ <;> try exact hr.elim
    obtain ⟨cv, e1, e2, e3⟩ := hr
    obtain ⟨h3, h4⟩ := rel_pt hl h e2 e3
    exact ⟨cv, e1, h3, h4⟩
end
structure LeS (a b : St) : Prop where
  fr : ∀ k y, Av.look b.fr k = some y → ∃ x, Av.look a.fr k = some x ∧ LeA x y
  len : a.hp.length = b.hp.length
  hp : ∀ (i : Nat) (x y : AObj), a.hp[i]? = some x → b.hp[i]? = some y → LeO x y
theorem LeS.weak {m : Nat} {a b : St} (h : LeS a b) : Weak m a b := by
  rintro c ac w _ ⟨θ, D, hI⟩
  refine ⟨θ, D, hI.size, hI.defers, ⟨by rw [hI.ok.len, h.len], hI.ok.dlt, hI.ok.inj, hI.ok.olt, fun i l o hi ho => ?_⟩, hI.keep, hI.dsub, hI.dnew, hI.onew, fun k y hk => ?_, hI.fix⟩
  · obtain ⟨x, hx⟩ := getElem?_of_len (l := a.hp) h.len ho
    exact (h.hp i x o hx ho).rel (hI.ok.objs i l x hi hx)
  · obtain ⟨x, hx, hle⟩ := h.fr k y hk
    exact hle.rel (hI.fr k x hx)
theorem LeS.frame {fr fr' : List (Nat × AV)} {hp : List AObj} (h : ∀ k y, Av.look fr' k = some y → Av.look fr k = some y) : LeS ⟨fr, hp⟩ ⟨fr', hp⟩ :=
  ⟨fun k y hk => ⟨y, h k y hk, .refl y⟩, rfl, fun i x y hx hy => by rw [hx] at hy; cases hy; exact .refl x⟩
def Keeps (A : List Nat) (s s' : S) : Prop := ∀ k, k ∉ A → (∀ v, lk s.fr k = some v → v.isD = true → lk s'.fr k = some v ∨ lk s'.fr k = none) ∧ (lk s.fr k = none → lk s'.fr k = none)
theorem lk_map (g : V → V) : ∀ (fr : List (Nat × V)) (k : Nat), lk (fr.map fun x => (x.1, g x.2)) k = (lk fr k).map g
  | [], _ => rfl
  | (j, v) :: fr, k => by
    simp only [List.map_cons, lk]
    cases Nat.beq k j
    · exact lk_map g fr k
    · rfl
theorem Keeps.refl (A : List Nat) (s : S) : Keeps A s s := fun _ _ => ⟨fun _ h _ => .inl h, id⟩
theorem Keeps.trans {A : List Nat} {a b c : S} (h : Keeps A a b) (k : Keeps A b c) : Keeps A a c := fun i hi => by
  refine ⟨fun v hv hd => ?_, fun hn => (k i hi).2 ((h i hi).2 hn)⟩
  rcases (h i hi).1 v hv hd with h1 | h1
  · exact (k i hi).1 v h1 hd
  · exact .inr ((k i hi).2 h1)
theorem Keeps.sub {A B : List Nat} {a b : S} (h : Keeps A a b) (hs : ∀ x ∈ A, x ∈ B) : Keeps B a b := fun i hi => h i fun hx => hi (hs i hx)
def dstL (d : Option Nat) : List Nat := match d with
  | some d => [d]
  | none => []
theorem lk_putO (s : S) (d : Option Nat) (v : V) (k : Nat) (h : k ∉ dstL d) : lk (s.putO d v).fr k = lk s.fr k := by
  cases d with
  | none => rfl
  | some j =>
    have hne : k ≠ j := fun e => h (by simp [dstL, e])
    have : Nat.beq k j = false := by
      cases hb : Nat.beq k j
      · rfl
      · exact absurd (Nat.eq_of_beq_eq_true hb) hne
    show (bif Nat.beq k j then some v else lk s.fr k) = _
    rw [this]; rfl
theorem Keeps.put (s : S) (d : Option Nat) (v : V) : Keeps (dstL d) s (s.putO d v) := fun k hk => by
  rw [lk_putO s d v k hk]
  exact ⟨fun _ h _ => .inl h, id⟩
theorem Keeps.map (A : List Nat) (s s' : S) (g : V → V) (hg : ∀ v, v.isD = true → mapV g v = v) (hfr : s'.fr = s.fr.map fun x => (x.1, mapV g x.2)) : Keeps A s s' := fun k _ => by
  have : lk s'.fr k = (lk s.fr k).map (mapV g) := by rw [hfr]; exact lk_map (mapV g) s.fr k
  refine ⟨fun v hv hd => .inl ?_, fun h => ?_⟩
  · rw [this, hv]; simp [hg v hd]
  · rw [this, h]; rfl
theorem Keeps.fr {A : List Nat} {s s' : S} (h : s'.fr = s.fr) : Keeps A s s' := fun k _ => by rw [h]; exact ⟨fun _ h _ => .inl h, id⟩
section
variable {R : Type} {P : Program} {O : Oracle} {d : Option Nat} {s : S} {κ kp : S → Option R} {r : R}
def Pu (P : Program) (s : S) (op : SOp) (d : Option Nat) (κ : S → Option R) (r : R) : Prop := ∃ v, sev P (enc s) op (fun y => y = encA v) ∧ κ (s.putO d v) = some r
theorem bind_eq {α β : Type} {o : Option α} {f : α → Option β} {b : β} (h : Option.bind o f = some b) : ∃ a, o = some a ∧ f a = some b := by
  cases o with
  | none => cases h
  | some a => exact ⟨a, rfl, h⟩
theorem guardB_eq {α : Type} {b : Bool} {x : Option α} {a : α} (h : guardB b x = some a) : b = true ∧ x = some a := by
  cases b
  · cases h
  · exact ⟨rfl, h⟩
theorem bif_eq {α : Type} {b : Bool} {x : Option α} {a : α} (h : (bif b then x else none) = some a) : b = true ∧ x = some a := by
  cases b
  · cases h
  · exact ⟨rfl, h⟩
theorem getI_eq {α : Type} {xs : List α} {i : Int} {x : α} (h : getI xs i = some x) : 0 ≤ i ∧ xs[i.toNat]? = some x := by
  unfold getI at h
  obtain ⟨h1, h2⟩ := bif_eq h
  exact ⟨by simpa using h1, h2⟩
theorem pu_mv {x : X} (hw : x.wf = true) (h : evOp O d (.mv x) s κ kp = some r) : Pu P s (.mv x.er) d κ r := by
  simp only [evOp] at h
  split at h
  · rename_i v hv; exact ⟨v, ⟨_, get_er hw hv, rfl⟩, h⟩
  · cases h
theorem bs_toList (a : List UInt8) : (⟨a.toArray⟩ : ByteArray).toList = a := by rw [ByteArray.toList_eq]
theorem bs_size (a : List UInt8) : (⟨a.toArray⟩ : ByteArray).size = a.length := by show a.toArray.size = a.length; simp
theorem bs_append (a b : List UInt8) : (⟨a.toArray⟩ : ByteArray) ++ (⟨b.toArray⟩ : ByteArray) = ⟨(a ++ b).toArray⟩ := by
  apply ByteArray.ext
  rw [ByteArray.data_append]
  simp
theorem binI_sound {op : BinOp} {k k' : IntKind} {a b : Int} {κ' : V → Option R} (h : binI op k k' a b κ' = some r) : ∃ v, binV op (.int k a) (.int k' b) (fun u => AV.v u = encA v) ∧ κ' v = some r := by
  cases op <;> simp only [binI] at h
  case shl => obtain ⟨h1, h2⟩ := guardB_eq h; exact ⟨_, ⟨by simpa using h1, rfl⟩, h2⟩
  case shr => obtain ⟨h1, h2⟩ := guardB_eq h; exact ⟨_, ⟨by simpa using h1, rfl⟩, h2⟩
  case quo => obtain ⟨h1, h2⟩ := bif_eq h; obtain ⟨h3, h4⟩ := guardB_eq h2; exact ⟨_, ⟨by simpa using h1, by simpa using h3, rfl⟩, h4⟩
  case rem => obtain ⟨h1, h2⟩ := bif_eq h; obtain ⟨h3, h4⟩ := guardB_eq h2; exact ⟨_, ⟨by simpa using h1, by simpa using h3, rfl⟩, h4⟩
  all_goals (obtain ⟨h1, h2⟩ := bif_eq h; exact ⟨_, ⟨by simpa using h1, rfl⟩, h2⟩)
theorem binS_sound {op : BinOp} {a b : List UInt8} {κ' : V → Option R} (h : binS op a b κ' = some r) : ∃ v, binV op (.string ⟨a.toArray⟩) (.string ⟨b.toArray⟩) (fun u => AV.v u = encA v) ∧ κ' v = some r := by
  cases op <;> simp only [binS] at h
  case add =>
    obtain ⟨h1, h2⟩ := guardB_eq h
    refine ⟨_, ⟨by rw [bs_size, bs_size]; simpa using h1, ?_⟩, h2⟩
    rw [bs_append]; rfl
  all_goals first
    | (cases h; done)
    | exact ⟨_, by simp only [binV, bs_toList]; rfl, h⟩
theorem pu_bin {op : BinOp} {x y : X} (hw : x.wf = true ∧ y.wf = true) (h : evOp O d (.bin op x y) s κ kp = some r) : Pu P s (.bin op x.er y.er) d κ r := by
  simp only [evOp] at h
  split at h
  · rename_i k a k' b hx hy
    obtain ⟨v, h1, h2⟩ := binI_sound h
    exact ⟨v, ⟨_, get_er hw.1 hx, _, get_er hw.2 hy, _, rfl, _, rfl, h1⟩, h2⟩
  · rename_i a b hx hy
    obtain ⟨v, h1, h2⟩ := binS_sound h
    exact ⟨v, ⟨_, get_er hw.1 hx, _, get_er hw.2 hy, _, rfl, _, rfl, h1⟩, h2⟩
  · cases h
theorem pu_pick {c a b : X} (hw : c.wf = true ∧ a.wf = true ∧ b.wf = true) (h : evOp O d (.pick c a b) s κ kp = some r) : Pu P s (.pick c.er a.er b.er) d κ r := by
  simp only [evOp] at h
  split at h
  · rename_i t x y u z hc ha hb
    split at h
    · rename_i z' hz
      obtain ⟨e1, rfl⟩ := cast?_enc hz
      refine ⟨_, ⟨_, get_er hw.1 hc, _, rfl, t, rfl, fun ht => ⟨_, get_er hw.2.1 ha, ?_⟩, fun ht => ⟨_, get_er hw.2.2 hb, ?_⟩⟩, h⟩
      · subst ht; rfl
      · subst ht
        show AV.b (.pv (encP _ z)) = AV.b (.pv (encP _ z'))
        rw [e1]
    · cases h
  · rename_i t x u z hc ha hb
    obtain ⟨ht, h⟩ : t = false ∧ κ (s.putO d (.d u z)) = some r := by cases t <;> first | exact ⟨rfl, h⟩ | cases h
    exact ⟨_, ⟨_, get_er hw.1 hc, _, rfl, t, rfl, fun e => (by rw [ht] at e; cases e), fun _ => ⟨_, get_er hw.2.2 hb, rfl⟩⟩, h⟩
  · rename_i t u z x hc ha hb
    obtain ⟨ht, h⟩ : t = true ∧ κ (s.putO d (.d u z)) = some r := by cases t <;> first | exact ⟨rfl, h⟩ | cases h
    exact ⟨_, ⟨_, get_er hw.1 hc, _, rfl, t, rfl, fun _ => ⟨_, get_er hw.2.1 ha, rfl⟩, fun e => (by rw [ht] at e; cases e)⟩, h⟩
  · cases h
theorem pu_eqB {neg : Bool} {x y : X} (hw : x.wf = true ∧ y.wf = true) (h : evOp O d (.eqB neg x y) s κ kp = some r) : Pu P s (.eqB neg x.er y.er) d κ r := by
  simp only [evOp] at h
  split at h
  · rename_i a b hx hy
    exact ⟨_, ⟨_, get_er hw.1 hx, _, get_er hw.2 hy, _, rfl, _, rfl, _, rfl, _, rfl, rfl⟩, h⟩
  · cases h
theorem pu_un {op : UnOp} {x : X} (hw : x.wf = true) (h : evOp O d (.un op x) s κ kp = some r) : Pu P s (.un op x.er) d κ r := by
  simp only [evOp] at h
  split at h
  · rename_i a hx; exact ⟨_, ⟨_, get_er hw hx, _, rfl, show _ = _ from rfl⟩, h⟩
  · rename_i k a hx; exact ⟨_, ⟨_, get_er hw hx, _, rfl, show _ = _ from rfl⟩, h⟩
  · cases h
theorem pu_len {str : Bool} {x : X} (hw : x.wf = true) (h : evOp O d (.len str x) s κ kp = some r) : Pu P s (.len str x.er) d κ r := by
  simp only [evOp] at h
  split at h
  · rename_i a hx
    refine ⟨_, ⟨_, get_er hw hx, _, rfl, _, rfl, ?_⟩, h⟩
    show AV.v (.int .i64 ((⟨a.toArray⟩ : ByteArray).size : Nat)) = _
    rw [bs_size]; rfl
  · rename_i t a hx
    refine ⟨_, ⟨_, get_er hw hx, .inr (.inl ⟨_, _, rfl, ?_⟩)⟩, h⟩
    show AV.v (.int .i64 ((a.map _).length : Nat)) = _
    rw [List.length_map]; rfl
  · rename_i t hx
    exact ⟨_, ⟨_, get_er hw hx, .inl ⟨rfl, rfl⟩⟩, h⟩
  · rename_i id hx
    split at h
    · rename_i e t xs ho
      refine ⟨_, ⟨_, get_er hw hx, .inr (.inr (.inl ⟨id, e, _, _, rfl, by rw [hp_get, ho]; rfl, ?_⟩))⟩, h⟩
      show AV.v (.int .i64 ((xs.map _).length : Nat)) = _
      rw [List.length_map]; rfl
    · rename_i e k t xs hole ho
      refine ⟨_, ⟨_, get_er hw hx, .inr (.inr (.inr (.inr ⟨id, e, _, k, _, _, rfl, by rw [hp_get, ho]; rfl, ?_⟩)))⟩, h⟩
      show AV.v (.int .i64 ((xs.map _).length : Nat)) = _
      rw [List.length_map]; rfl
    · cases h
  · cases h
theorem pu_lenM {k e : TypeId} {x : X} (hw : x.wf = true) (h : evOp O d (.lenM k e x) s κ kp = some r) : Pu P s (.lenM k e x.er) d κ r := by
  simp only [evOp] at h
  split at h
  · rename_i id hx
    split at h
    · rename_i k' e' a b kvs ho
      obtain ⟨h1, h2⟩ := bif_eq h
      rw [Bool.and_eq_true] at h1
      have e1 := Nat.eq_of_beq_eq_true h1.1
      have e2 := Nat.eq_of_beq_eq_true h1.2
      subst e1; subst e2
      refine ⟨_, ⟨_, get_er hw hx, id, _, rfl, by rw [hp_get, ho]; rfl, ?_⟩, h2⟩
      show AV.v (.int .i64 ((kvs.map _).length : Nat)) = _
      rw [List.length_map]; rfl
    · cases h
  · cases h
theorem intOf_eq {o : Option V} {f : Int → Option R} (h : intOf o f = some r) : ∃ k n, o = some (.d (.int k) n) ∧ f n = some r := by
  unfold intOf at h
  split at h
  · exact ⟨_, _, rfl, h⟩
  · cases h
theorem pu_idxS {x i : X} (hw : x.wf = true ∧ i.wf = true) (h : evOp O d (.idxS x i) s κ kp = some r) : Pu P s (.idxS x.er i.er) d κ r := by
  simp only [evOp] at h
  split at h
  · rename_i a hx
    obtain ⟨k, n, hi, h⟩ := intOf_eq h
    obtain ⟨c, hc, h⟩ := bind_eq h
    obtain ⟨h0, h1⟩ := getI_eq hc
    have hlt := (List.getElem?_eq_some_iff.1 h1).1
    refine ⟨_, ⟨_, get_er hw.1 hx, _, get_er hw.2 hi, _, rfl, _, rfl, _, _, rfl, _, rfl, h0, by rw [bs_size]; omega, ?_⟩, h⟩
    rw [bs_toList]
    simp only [List.getD, h1, Option.getD_some]
    rfl
  · cases h
theorem pu_cvtI {k : IntKind} {x : X} (hw : x.wf = true) (h : evOp O d (.cvtI k x) s κ kp = some r) : Pu P s (.cvtI k x.er) d κ r := by
  simp only [evOp] at h
  split at h
  · rename_i k' n hx; exact ⟨_, ⟨_, get_er hw hx, _, rfl, _, _, rfl, rfl⟩, h⟩
  · cases h
theorem pu_ext {x : X} {i : Nat} (hw : x.wf = true) (h : evOp O d (.ext x i) s κ kp = some r) : Pu P s (.ext x.er i) d κ r := by
  simp only [evOp] at h
  split at h
  · rename_i vs hx
    split at h
    · rename_i v hv
      obtain ⟨h1, h2⟩ := bif_eq h
      refine ⟨v, ⟨_, get_er hw hx, .inr ⟨_, rfl, encB v, by rw [List.getElem?_map, hv]; rfl, ?_⟩⟩, h2⟩
      cases v <;> first | rfl | cases h1
    · cases h
  · cases h
end
end Go.Ev
