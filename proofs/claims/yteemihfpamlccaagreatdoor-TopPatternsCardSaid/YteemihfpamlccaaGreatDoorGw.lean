/-
  WHAT IS KNOWN OF THE LIBRARY'S TABLES IN A WORLD, AND THAT IT STAYS.
-/
import Derived.Test.YteemihfpamlccaaGreatDoorProg
import Derived.Lib.AppendIntMem
import Derived.Below
set_option linter.all false
namespace Go.Av
open Go Go.RowKit

/-- The library's table of powers reads as its initialiser lays it. -/
def GT (w : World) : Prop := Lib.TabIs Go.Proofs.Tryz.prog w "internal/strconv.uint64pow10" .u64 Lib.pow10Tab
theorem GT.below {w w' : World} (h : GT w) (hb : Below w.heap.size w w') : GT w' := Lib.tabBelow_of_tabIs h w' hb
end Go.Av
