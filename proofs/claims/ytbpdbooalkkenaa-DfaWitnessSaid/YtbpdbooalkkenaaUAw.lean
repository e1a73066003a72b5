/-
  THE EXAMPLES OF THE CHAPTER, computed.
-/
import Derived.Test.YtbpdbooalkkenaaUGlueB
import Derived.Test.YtbpdbooalkkenaaUL8
set_option linter.unusedVariables false
set_option linter.unusedSimpArgs false
namespace Go.Proofs.Ytbpdbooalkkenaa
open Go Go.Av Go.Ev
theorem C_awake : Calls' tbl N_law16_awake [] [] q_law16_awake (true, ()) := ⟨60, fun n hn => by
  obtain ⟨k, rfl⟩ : ∃ k, n = k + 60 := ⟨n - 60, by omega⟩
  kernel_rfl⟩
end Go.Proofs.Ytbpdbooalkkenaa
