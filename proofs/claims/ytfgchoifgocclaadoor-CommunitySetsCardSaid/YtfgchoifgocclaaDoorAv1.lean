/-
  THE ABSTRACT LAYER, 1: abstract values, and what it means that a value in a world reads as one.
-/
import Derived.WalkKit
import Derived.KernelRfl
import Derived.Deep.Quiet
namespace Go.Av
open Go Go.RowKit

/-- Plain data, as a Go value reads. -/
inductive PV where
  | sc (v : Value)
  | list (sz : Nat) (xs : List PV)
  | agg (xs : List PV)
  | tup (xs : List PV)
  | pto (x : PV)
  | fn (f : Fn) (caps : List PV)
  | any
  deriving Inhabited

def PV.cells : PV → List PV
  | .agg xs => xs
  | x => [x]

/-- A list of elements of sz cells each; the empty one has one form. -/
def lst (sz : Nat) : List PV → PV
  | [] => .list 0 []
  | x :: xs => .list sz (x :: xs)

theorem lst_nil (sz : Nat) : lst sz [] = .list 0 [] := rfl
theorem lst_cons (sz : Nat) (x : PV) (xs : List PV) : lst sz (x :: xs) = .list sz (x :: xs) := rfl

inductive RelP (D : Nat → Prop) (w : World) : Value → PV → Prop
  | sc (v : Value) : RelP D w v (.sc v)
  | any (v : Value) : RelP D w v .any
  | agg (vs : Array Value) (xs : List PV) (hs : vs.size = xs.length) (h : ∀ (i : Nat) (v : Value) (x : PV), vs[i]? = some v → xs[i]? = some x → RelP D w v x) : RelP D w (.agg vs) (.agg xs)
  | tup (vs : Array Value) (xs : List PV) (hs : vs.size = xs.length) (h : ∀ (i : Nat) (v : Value) (x : PV), vs[i]? = some v → xs[i]? = some x → RelP D w v x) : RelP D w (.tuple vs) (.tup xs)
  | nil (a : Option Addr) (cap : Nat) : RelP D w (.slice a 0 cap) (.list 0 [])
  | list (b o cap sz : Nat) (x0 : PV) (xs : List PV) (val : Nat → Nat → Value) (hcap : (x0 :: xs).length ≤ cap) (hD : D b) (hsz : ∀ x ∈ x0 :: xs, x.cells.length = sz)
      (hc : ∀ (i j : Nat) (x y : PV), (x0 :: xs)[i]? = some x → x.cells[j]? = some y → w.cell? ⟨b, o + i * sz + j, none⟩ = some (val i j))
      (hr : ∀ (i j : Nat) (x y : PV), (x0 :: xs)[i]? = some x → x.cells[j]? = some y → RelP D w (val i j) y) :
      RelP D w (.slice (some ⟨b, o, none⟩) (x0 :: xs).length cap) (.list sz (x0 :: xs))
  | pto (b o : Nat) (x : PV) (val : Nat → Value) (hD : D b) (hc : ∀ (j : Nat) (y : PV), x.cells[j]? = some y → w.cell? ⟨b, o + j, none⟩ = some (val j))
      (hr : ∀ (j : Nat) (y : PV), x.cells[j]? = some y → RelP D w (val j) y) : RelP D w (.pointer (some ⟨b, o, none⟩)) (.pto x)
  | fn (f : Fn) (vs : Array Value) (xs : List PV) (hs : vs.size = xs.length) (h : ∀ (i : Nat) (v : Value) (x : PV), vs[i]? = some v → xs[i]? = some x → RelP D w v x) : RelP D w (.func f #[] vs) (.fn f xs)

theorem cell_same {w w' : World} {a : Addr} (h : w'.heap[a.block]? = w.heap[a.block]?) : w'.cell? a = w.cell? a := World.cell?_of_block h

/-- A reading stands as long as the blocks that it leans on are as they were. -/
theorem RelP.mono {D D' : Nat → Prop} {w w' : World} (hD : ∀ b, D b → D' b) (hw : ∀ b, D b → w'.heap[b]? = w.heap[b]?) {v : Value} {p : PV} (h : RelP D w v p) : RelP D' w' v p := by
  induction h with
  | sc v => exact .sc v
  | any v => exact .any v
  | agg vs xs hs _ ih => exact .agg vs xs hs ih
  | tup vs xs hs _ ih => exact .tup vs xs hs ih
  | nil a cap => exact .nil a cap
  | list b o cap sz x0 xs val hcap hb hsz hc _ ih =>
    exact .list b o cap sz x0 xs val hcap (hD b hb) hsz (fun i j x y hx hy => by rw [cell_same (hw b hb)]; exact hc i j x y hx hy) ih
  | pto b o x val hb hc _ ih => exact .pto b o x val (hD b hb) (fun j y hy => by rw [cell_same (hw b hb)]; exact hc j y hy) ih
  | fn f vs xs hs _ ih => exact .fn f vs xs hs ih

/-- A value that leads to no memory. -/
inductive PV.Flat : PV → Prop
  | sc (v : Value) : Flat (.sc v)
  | any : Flat .any
  | agg (xs : List PV) (h : ∀ (i : Nat) (x : PV), xs[i]? = some x → Flat x) : Flat (.agg xs)
  | tup (xs : List PV) (h : ∀ (i : Nat) (x : PV), xs[i]? = some x → Flat x) : Flat (.tup xs)

theorem RelP.flat {D D' : Nat → Prop} {w w' : World} {v : Value} {p : PV} (h : RelP D w v p) (hf : p.Flat) : RelP D' w' v p := by
  induction h with
  | sc v => exact .sc v
  | any v => exact .any v
  | agg vs xs hs _ ih => cases hf with | agg _ hh => exact .agg vs xs hs fun i v x hv hx => ih i v x hv hx (hh i x hx)
  | tup vs xs hs _ ih => cases hf with | tup _ hh => exact .tup vs xs hs fun i v x hv hx => ih i v x hv hx (hh i x hx)
  | nil a cap => exact .nil a cap
  | list => cases hf
  | pto => cases hf
  | fn => cases hf

/-- A slice value, taken apart. -/
theorem relP_lst {D : Nat → Prop} {w : World} {v : Value} {sz : Nat} {xs : List PV} (h : RelP D w v (lst sz xs)) :
    ∃ a cap, v = .slice a xs.length cap ∧ xs.length ≤ cap ∧ (0 < xs.length → ∃ b o, a = some ⟨b, o, none⟩ ∧ D b ∧ (∀ x ∈ xs, x.cells.length = sz) ∧
      ∀ (i j : Nat) (x y : PV), xs[i]? = some x → x.cells[j]? = some y → ∃ u, w.cell? ⟨b, o + i * sz + j, none⟩ = some u ∧ RelP D w u y) := by
  cases xs with
  | nil =>
    cases h with
    | nil a cap => exact ⟨a, cap, rfl, Nat.zero_le _, fun h => absurd h (by simp)⟩
  | cons x0 xs =>
    cases h with
    | list b o cap _ _ _ val hcap hb hsz hc hr =>
      exact ⟨_, cap, rfl, hcap, fun _ => ⟨b, o, rfl, hb, hsz, fun i j x y hx hy => ⟨val i j, hc i j x y hx hy, hr i j x y hx hy⟩⟩⟩

theorem relP_lst_mk {D : Nat → Prop} {w : World} {sz : Nat} {xs : List PV} {a : Option Addr} {cap : Nat} (hcap : xs.length ≤ cap)
    (h : 0 < xs.length → ∃ b o, a = some ⟨b, o, none⟩ ∧ D b ∧ (∀ x ∈ xs, x.cells.length = sz) ∧
      ∀ (i j : Nat) (x y : PV), xs[i]? = some x → x.cells[j]? = some y → ∃ u, w.cell? ⟨b, o + i * sz + j, none⟩ = some u ∧ RelP D w u y) :
    RelP D w (.slice a xs.length cap) (lst sz xs) := by
  cases xs with
  | nil => exact .nil a cap
  | cons x0 xs =>
    obtain ⟨b, o, rfl, hb, hsz, hc⟩ := h (by simp)
    have key : ∀ i j, ∃ u, ∀ x y, (x0 :: xs)[i]? = some x → x.cells[j]? = some y → w.cell? ⟨b, o + i * sz + j, none⟩ = some u ∧ RelP D w u y := by
      intro i j
      by_cases hx : ∃ x y, (x0 :: xs)[i]? = some x ∧ x.cells[j]? = some y
      · obtain ⟨x, y, hx, hy⟩ := hx
        obtain ⟨u, h1, h2⟩ := hc i j x y hx hy
        refine ⟨u, fun x' y' hx' hy' => ?_⟩
        rw [hx] at hx'; cases hx'
        rw [hy] at hy'; cases hy'
        exact ⟨h1, h2⟩
      · exact ⟨undef, fun x y h1 h2 => absurd ⟨x, y, h1, h2⟩ hx⟩
    exact .list b o cap sz x0 xs (fun i j => (key i j).choose) hcap hb hsz (fun i j x y hx hy => ((key i j).choose_spec x y hx hy).1) (fun i j x y hx hy => ((key i j).choose_spec x y hx hy).2)

theorem relP_pto {D : Nat → Prop} {w : World} {v : Value} {x : PV} (h : RelP D w v (.pto x)) :
    ∃ b o, v = .pointer (some ⟨b, o, none⟩) ∧ D b ∧ ∀ (j : Nat) (y : PV), x.cells[j]? = some y → ∃ u, w.cell? ⟨b, o + j, none⟩ = some u ∧ RelP D w u y := by
  cases h with
  | pto b o _ val hb hc hr => exact ⟨b, o, rfl, hb, fun j y hy => ⟨val j, hc j y hy, hr j y hy⟩⟩

theorem relP_pto_mk {D : Nat → Prop} {w : World} {b o : Nat} {x : PV} (hb : D b)
    (h : ∀ (j : Nat) (y : PV), x.cells[j]? = some y → ∃ u, w.cell? ⟨b, o + j, none⟩ = some u ∧ RelP D w u y) : RelP D w (.pointer (some ⟨b, o, none⟩)) (.pto x) := by
  have key : ∀ j, ∃ u, ∀ y, x.cells[j]? = some y → w.cell? ⟨b, o + j, none⟩ = some u ∧ RelP D w u y := by
    intro j
    cases hj : x.cells[j]? with
    | none => exact ⟨undef, fun y h => by cases h⟩
    | some y =>
      obtain ⟨u, h1, h2⟩ := h j y hj
      exact ⟨u, fun y' hy' => by cases hy'; exact ⟨h1, h2⟩⟩
  exact .pto b o x (fun j => (key j).choose) hb (fun j y hy => ((key j).choose_spec y hy).1) (fun j y hy => ((key j).choose_spec y hy).2)

end Go.Av
