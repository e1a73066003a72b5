/-
  WHAT THE ROWS OF THIS SEAT SHARE.
-/
import Derived.Test.YtbpdbooalkkenaaRows
import Derived.Test.YtbpdbooalkkenaaUL8
import Derived.Test.YtbpdbooalkkenaaUTE
import Derived.ProofKit
import Derived.SizedLaws
set_option linter.unusedVariables false
set_option linter.unusedSimpArgs false
namespace Go.Proofs.Ytbpdbooalkkenaa
open Go Go.Av Go.Ev Go.RowKit Go.ChangeShapes Go.WideShapes Go.ChangeAt
theorem own : ownKnob Try.prog.godebug = none := by kernel_rfl
theorem laidOut : laidOutB Try.prog = true := by kernel_rfl
theorem mixed : Try.prog.follows .mixedOrders = true := by kernel_rfl
def LawOk (N : Nat) (us : List Ty) : Prop := ∀ xs : HD us, okAll us xs → ∃ s : S, Conv tbl N (argsV us xs) [] (· = some s) ∧ encA (res s.fr.length s.fr) = .b (.pv (.sc (.bool true)))
end Go.Proofs.Ytbpdbooalkkenaa
