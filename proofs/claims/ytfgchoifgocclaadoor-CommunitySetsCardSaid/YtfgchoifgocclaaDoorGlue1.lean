/-
  ARGUMENTS THAT ARE SLICES OF NUMBERS, AS THE WALKS READ THEM.
-/
import Derived.Test.YtfgchoifgocclaaDoorGlue0
import Derived.OpenShut
namespace Go.Proofs.YtfgchoifgocclaaDoor
open Go Go.Av Go.Cm Go.ChangeShapes Go.WideShapes Go.ChangeAt Go.RowKit

theorem cells27 : Tryd.prog.cellsOf 27 = 1 := by kernel_rfl

/-- What a slice of numbers reads as. -/
theorem slice_rel {H : Type} {enc : TypeId × Value → H} {W : World} {base : Nat} {held : Bool} {v : Value} {d : DataW H} {p : List MemPlace} (hv : ∃ a len cap, v = .slice a len cap)
    (h : DataW.Trod enc Tryd.prog W base (fun _ => true) held 22 v d p) (hlt : ∀ x ∈ p, x.block < W.heap.size) :
    ∃ l : List Int, RelP (fun b => b < W.heap.size) W v (u32s l) ∧ l.length ≤ 9223372036854775807 ∧ (l = [] ∨ ∃ x y : List (DataW H), d = .slice x y ∧ x.length = l.length) := by
  obtain ⟨a0, len0, cap0, rfl⟩ := hv
  obtain ⟨fuel, hf⟩ := h
  rcases open_ints Tryd.underlying22 Tryd.underlying27 cells27 hf with ⟨hcs, hx⟩ | ⟨a, len, cap, zs, hcs, _, hl, hm, hz, hx, hcell, hwz⟩
  · simp [Value.cells] at hcs
    obtain ⟨rfl, rfl, rfl⟩ := hcs
    exact ⟨[], .nil none 0, by simp, .inl rfl⟩
  · simp [Value.cells] at hcs
    obtain ⟨rfl, rfl, rfl⟩ := hcs
    simp only [Prod.mk.injEq] at hx
    obtain ⟨rfl, rfl⟩ := hx
    simp only [if_true] at hz
    have hmx : maxLen = 9223372036854775807 := rfl
    refine ⟨zs.take len0, ?_, by simp; omega, .inr ⟨_, _, rfl, by simp [lits]⟩⟩
    have hlen : ((zs.take len0).map fun x => PV.sc (.int .u32 x)).length = len0 := by simp; omega
    have key := relP_lst_mk (D := fun b => b < W.heap.size) (w := W) (sz := 1) (xs := (zs.take len0).map fun x => PV.sc (.int .u32 x)) (a := some a) (cap := cap0) (by rw [hlen]; omega) ?_
    · rw [hlen] at key; exact key
    intro hpos
    rw [hlen] at hpos
    obtain ⟨b, off, spot⟩ := a
    have hspot : spot = none := by simpa [Addr.add] using World.cell?_spot (hcell 0 (by omega))
    subst hspot
    refine ⟨b, off, rfl, hlt (.cell b off) (MemPlace.mem_row.2 ⟨0, by omega, by simp⟩), ?_, ?_⟩
    · intro x hx
      simp only [List.mem_map] at hx
      obtain ⟨n, _, rfl⟩ := hx
      rfl
    · intro i j x y hx hy
      rw [List.getElem?_map, List.getElem?_take] at hx
      split at hx
      · rename_i hi
        rw [List.getElem?_eq_getElem (by omega)] at hx
        simp only [Option.map_some, Option.some.injEq] at hx
        subst hx
        match j, hy with
        | 0, hy =>
          cases hy
          refine ⟨_, ?_, .sc _⟩
          have := hcell i (by omega)
          rw [add_plain] at this
          rw [Nat.mul_one, Nat.add_zero, this]
          simp [List.getD, List.getElem?_eq_getElem (show i < zs.length by omega)]
      · cases hx

theorem cells43 : Tryd.prog.cellsOf 43 = 2 := by kernel_rfl

/-- An array of two numbers. -/
theorem arr_rel {H : Type} {enc : TypeId × Value → H} {W : World} {base b0 : Nat} {r : Reach} {held : Bool} {v : Value} {d : DataW H} {p : List MemPlace} {D : Nat → Prop} (hv : Value.okWide Tryd.prog W r b0 43 v)
    (h : DataW.Trod enc Tryd.prog W base (fun _ => true) held 43 v d p) : ∃ c e : Int, RelP D W v (.agg [nv .u32 c, nv .u32 e]) := by
  simp only [Value.okWide, Tryd.underlying43] at hv
  obtain ⟨cs, rfl, hsz, _⟩ := hv
  rw [cells43] at hsz
  obtain ⟨fuel, hf⟩ := h
  obtain ⟨xs, m, rfl, hx, hcl, hxl, hel⟩ := DataW.trod_array Tryd.underlying43 hf
  rw [cells27] at hel
  have one : ∀ i, i < 2 → ∃ n : Int, cs[i]? = some (.int .u32 n) := by
    intro i hi
    have h1 := hel i hi
    rw [List.getElem?_eq_getElem (by omega)] at h1
    obtain ⟨n, h2, _⟩ := DataW.trod_int Tryd.underlying27 h1
    have h3 : ((cs.toList.drop (i * 1)).take 1)[0]? = some (.int .u32 n) := by
      have : (Value.agg cs).cells.toList = cs.toList := rfl
      rw [this] at h2
      rw [h2]; rfl
    rw [List.getElem?_take, if_pos (by omega), List.getElem?_drop] at h3
    refine ⟨n, ?_⟩
    rw [← Array.getElem?_toList]
    simpa using h3
  obtain ⟨c, hc⟩ := one 0 (by omega)
  obtain ⟨e, he⟩ := one 1 (by omega)
  refine ⟨c, e, .agg cs _ (by simp [hsz]) fun i v x hv hx => ?_⟩
  match i, hv, hx with
  | 0, hv, hx => rw [hc] at hv; cases hv; cases hx; exact .sc _
  | 1, hv, hx => rw [he] at hv; cases hv; cases hx; exact .sc _
end Go.Proofs.YtfgchoifgocclaaDoor
