/-
  WHAT THE ROWS OF THIS SEAT SHARE.
-/
import Derived.Test.YtifgipebbagfcaaDoorRows
import Derived.Test.YtifgipebbagfcaaDoorHL8
import Derived.Test.YtifgipebbagfcaaDoorHTE
import Derived.ProofKit
import Derived.SizedLaws
import Derived.LaidLaws
import Derived.Lib.LaidTab
set_option linter.unusedVariables false
set_option linter.unusedSimpArgs false
namespace Go.Proofs.YtifgipebbagfcaaDoor
open Go Go.Av Go.Ev Go.RowKit Go.ChangeShapes Go.WideShapes Go.ChangeAt
theorem own : ownKnob Tryd.prog.godebug = none := by kernel_rfl
theorem laidOut : laidOutB Tryd.prog = true := by kernel_rfl
theorem mixed : Tryd.prog.follows .mixedOrders = true := by kernel_rfl
theorem g0 : Tryd.prog.globalNamed "internal/strconv.uint64pow10" = some 0 := by kernel_rfl
theorem ty0 : (Tryd.prog.globals[0]?).map (·.type) = some 106 := by kernel_rfl
theorem un66 : ∃ e, Tryd.prog.underlying 106 = some (.array 20 e) ∧ Tryd.prog.underlying e = some (.int .u64) ∧ Tryd.prog.cellsOf e = 1 := ⟨90, by kernel_rfl, by kernel_rfl, by kernel_rfl⟩
theorem ce66 : Tryd.prog.cellsOf 106 = 20 := by kernel_rfl
abbrev laidL : List (String × DataW Unit) := Rows.regexCheckRow.laid
theorem gw_of_laid {W : World} (h : laidMet Tryd.prog laidL W) : GT W := by
  obtain ⟨ps, ⟨_, _, _, _, _, _, _, _, _, _, ⟨_, _, _, _, _, _, _, _, _, _, ⟨g', t', cs, fuel, p, q, hg', ht', hvar, hd, _, _⟩, _⟩, _⟩, _⟩ := h
  obtain rfl := Option.some.inj (g0.symm.trans hg')
  obtain rfl := Option.some.inj (ty0.symm.trans ht')
  obtain ⟨e, h1, h2, h3⟩ := un66
  have hd' : DataW.trod _ Tryd.prog _ _ _ _ fuel 106 cs.toList = some (Lib.tabData .u64 Lib.pow10Tab, p) := hd
  show Lib.TabIs Tryd.prog W _ _ _
  unfold Lib.TabIs
  rw [hvar, ← Lib.cells_of_tab h1 h2 h3 ce66 hd']
def tab32 : List Int := [0, 1, 28, 2, 29, 14, 24, 3, 30, 22, 20, 15, 25, 17, 4, 8, 31, 27, 13, 23, 21, 19, 16, 7, 26, 12, 18, 6, 11, 5, 10, 9]
def tab64 : List Int := [0, 1, 56, 2, 57, 49, 28, 3, 61, 58, 42, 50, 38, 29, 17, 4, 62, 47, 59, 36, 45, 43, 51, 22, 53, 39, 33, 30, 24, 18, 12, 5, 63, 55, 48, 27, 60, 41, 37, 16, 46, 35, 44, 21, 52, 32, 23, 11, 54, 26, 40, 15, 34, 20, 31, 10, 25, 14, 19, 9, 13, 8, 7, 6]
def setCells (k : IntKind) (l : List Int) : Obj → Obj
  | .cells _ t frozen => .cells (l.map (Value.int k)).toArray t frozen
  | o => o
noncomputable def laidWorld (os : Os) : World :=
  let w0 := World.holding Tryd.prog os ⟨#[], #[], []⟩
  { w0 with heap := ((w0.heap.modify 0 (setCells .u64 Lib.pow10Tab)).modify 1 (setCells .u8 tab32)).modify 2 (setCells .u8 tab64) }
set_option maxRecDepth 100000 in
theorem laidWorld_met (os : Os) (args : Array Value) : laidMet Tryd.prog laidL ((laidWorld os).forCall (fun _ _ => 0) ⟨#[], args, []⟩).memory :=
  laidMet_of_run' 8 (by kernel_rfl) (by kernel_rfl)
def LawOk (N : Nat) (us : List Ty) : Prop := ∀ xs : HD us, okAll us xs → ∃ s : S, Conv tbl N (argsV us xs) [] (· = some s) ∧ encA (res s.fr.length s.fr) = .b (.pv (.sc (.bool true)))
end Go.Proofs.YtifgipebbagfcaaDoor
