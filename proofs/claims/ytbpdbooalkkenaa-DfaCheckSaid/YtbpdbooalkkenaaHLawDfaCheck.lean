/-
  'DfaCheck': THE PLAIN LAW.
-/
import Derived.Test.YtbpdbooalkkenaaHLawDfaBase
set_option linter.unusedVariables false
set_option linter.unusedSimpArgs false
namespace Go.Proofs.Ytbpdbooalkkenaa
open Go Go.Av Go.Ev
theorem law_DfaCheck : LawOk N_law16_DfaCheck [pr [.list tI, .list (.list tI), .list tB, tI]] := by
  rintro ⟨d, _⟩ _
  refine ⟨outQ q_law16_DfaCheck (true, ()), ?_, rfl⟩
  refine conv_of t_law16_DfaCheck rfl (fun O n => x_law16_DfaCheck O n d) ?_
  unfold G_law16_DfaCheck
  refine wp_call (C_dfa_Check d) (wp_call (C_ref16_Check d) ?_)
  refine wp_bind (wp_and (b := true) (fun _ => wp_call C_awake (wp_some rfl)) (wp_some ?_))
  simp
end Go.Proofs.Ytbpdbooalkkenaa
