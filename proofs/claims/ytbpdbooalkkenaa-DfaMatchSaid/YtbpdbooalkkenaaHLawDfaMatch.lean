/-
  'DfaMatch': THE PLAIN LAW.
-/
import Derived.Test.YtbpdbooalkkenaaHLawDfaRun
set_option linter.unusedVariables false
set_option linter.unusedSimpArgs false
namespace Go.Proofs.Ytbpdbooalkkenaa
open Go Go.Av Go.Ev
theorem law_DfaMatch : LawOk N_law16_DfaMatch [pr [.list tI, .list (.list tI), .list tB, tI], .list tI] := by
  rintro ⟨d, path, _⟩ ⟨_, hp, _⟩
  have hp : path.length ≤ 9223372036854775807 := hp.1
  refine ⟨outQ q_law16_DfaMatch (true, ()), ?_, rfl⟩
  refine conv_of t_law16_DfaMatch rfl (fun O n => x_law16_DfaMatch O n d path) ?_
  unfold G_law16_DfaMatch
  refine wp_call (C_law16_Large d) ?_
  refine wp_bind (wp_or (fun _ => wp_some rfl) ?_)
  refine wp_bif (fun _ => wp_call C_awake (wp_some rfl)) fun _ => ?_
  refine wp_call (C_dfa_Match d path hp) (wp_call (C_ref16_Match d path hp) ?_)
  refine wp_bind (wp_and (b := true) (fun _ => wp_call C_awake (wp_some rfl)) (wp_some ?_))
  simp
end Go.Proofs.Ytbpdbooalkkenaa
