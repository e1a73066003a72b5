/-
  WHAT IS KNOWN OF THE LIBRARY'S TABLES IN A WORLD: nothing is needed.
-/
import Derived.Test.YtbpdbooalkkenaaProg
import Derived.WalkKit
import Derived.KernelRfl
import Derived.Below
namespace Go.Av
open Go Go.RowKit

def GT (_ : World) : Prop := True
theorem GT.below {w w' : World} (_ : GT w) (_ : Below w.heap.size w w') : GT w' := trivial
end Go.Av
