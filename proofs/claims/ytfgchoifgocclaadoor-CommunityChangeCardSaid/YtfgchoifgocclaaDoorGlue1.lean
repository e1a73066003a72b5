/-
  ARGUMENTS THAT ARE SLICES OF NUMBERS, AS THE WALKS READ THEM.
-/
import Derived.Test.YtfgchoifgocclaaDoorGlue0
namespace Go.Proofs.YtfgchoifgocclaaDoor
open Go Go.Av Go.Cm Go.ChangeShapes Go.WideShapes Go.ChangeAt Go.RowKit

theorem cells27 : Tryd.prog.cellsOf 27 = 1 := by kernel_rfl

/-- What a slice of numbers reads as. -/
theorem slice_rel {H : Type} {enc : TypeId × Value → H} {W : World} {base : Nat} {held : Bool} {v : Value} {d : DataW H} {p : List MemPlace} (hv : ∃ a len cap, v = .slice a len cap)
    (h : DataW.Trod enc Tryd.prog W base (fun _ => true) held 22 v d p) (hlt : ∀ x ∈ p, x.block < W.heap.size) :
    ∃ l : List Int, RelP (fun b => b < W.heap.size) W v (u32s l) ∧ l.length ≤ 9223372036854775807 := by
  obtain ⟨a0, len0, cap0, rfl⟩ := hv
  obtain ⟨fuel, hf⟩ := h
  rcases open_ints Tryd.underlying22 Tryd.underlying27 cells27 hf with ⟨hcs, hx⟩ | ⟨a, len, cap, zs, hcs, _, hl, hm, hz, hx, hcell, hwz⟩
  · simp [Value.cells] at hcs
    obtain ⟨rfl, rfl, rfl⟩ := hcs
    exact ⟨[], .nil none 0, by simp⟩
  · simp [Value.cells] at hcs
    obtain ⟨rfl, rfl, rfl⟩ := hcs
    simp only [Prod.mk.injEq] at hx
    obtain ⟨_, rfl⟩ := hx
    simp only [if_true] at hz
    have hmx : maxLen = 9223372036854775807 := rfl
    refine ⟨zs.take len0, ?_, by simp; omega⟩
    have hlen : ((zs.take len0).map fun x => PV.sc (.int .u32 x)).length = len0 := by simp; omega
    have key := relP_lst_mk (D := fun b => b < W.heap.size) (w := W) (sz := 1) (xs := (zs.take len0).map fun x => PV.sc (.int .u32 x)) (a := some a) (cap := cap0) (by rw [hlen]; omega) ?_
    · rw [hlen] at key; exact key
    intro hpos
    rw [hlen] at hpos
    obtain ⟨b, off, spot⟩ := a
    have hspot : spot = none := by simpa [Addr.add] using World.cell?_spot (hcell 0 (by omega))
    subst hspot
    refine ⟨b, off, rfl, hlt (.cell b off) (MemPlace.mem_row.2 ⟨0, by omega, by simp⟩), ?_, ?_⟩
    · intro x hx
      simp only [List.mem_map] at hx
      obtain ⟨n, _, rfl⟩ := hx
      rfl
    · intro i j x y hx hy
      rw [List.getElem?_map, List.getElem?_take] at hx
      split at hx
      · rename_i hi
        rw [List.getElem?_eq_getElem (by omega)] at hx
        simp only [Option.map_some, Option.some.injEq] at hx
        subst hx
        match j, hy with
        | 0, hy =>
          cases hy
          refine ⟨_, ?_, .sc _⟩
          have := hcell i (by omega)
          rw [add_plain] at this
          rw [Nat.mul_one, Nat.add_zero, this]
          simp [List.getD, List.getElem?_eq_getElem (show i < zs.length by omega)]
      · cases hx
end Go.Proofs.YtfgchoifgocclaaDoor
