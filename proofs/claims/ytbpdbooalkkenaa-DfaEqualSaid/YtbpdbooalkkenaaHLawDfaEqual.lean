/-
  'DfaEqual': THE PLAIN LAW.
-/
import Derived.Test.YtbpdbooalkkenaaHLawDfaEq
set_option linter.unusedVariables false
set_option linter.unusedSimpArgs false
namespace Go.Proofs.Ytbpdbooalkkenaa
open Go Go.Av Go.Ev
theorem law_DfaEqual : LawOk N_law16_DfaEqual [pr [.list tI, .list (.list tI), .list tB, tI], pr [.list tI, .list (.list tI), .list tB, tI]] := by
  rintro ⟨a, b, _⟩ ⟨ha, hb, _⟩
  have ha := okDF_of ha
  refine ⟨outQ q_law16_DfaEqual (true, ()), ?_, rfl⟩
  refine conv_of t_law16_DfaEqual rfl (fun O n => x_law16_DfaEqual O n a b) ?_
  unfold G_law16_DfaEqual
  refine wp_call (C_law16_Large a) ?_
  refine wp_bind (wp_or (fun _ => wp_call (C_law16_Large b) (wp_some rfl)) ?_)
  refine wp_bif (fun _ => wp_call C_awake (wp_some rfl)) fun _ => ?_
  refine wp_call (C_dfa_Equal a b ha) (wp_call (C_ref16_Equal a b ha) ?_)
  refine wp_bind (wp_and (b := true) (fun _ => wp_call (C_dfa_Equal a a ha) (wp_some (by simp))) (wp_bind (wp_and (b := true) (fun _ => wp_call C_awake (wp_some rfl)) (wp_some ?_))))
  simp
end Go.Proofs.Ytbpdbooalkkenaa
