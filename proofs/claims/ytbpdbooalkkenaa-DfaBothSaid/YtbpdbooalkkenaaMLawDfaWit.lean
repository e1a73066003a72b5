/-
  dfa: WITNESSES (both of the program and of the reference).
-/
import Derived.Test.YtbpdbooalkkenaaMLawDfaMul
set_option linter.unusedVariables false
set_option linter.unusedSimpArgs false
namespace Go.Proofs.Ytbpdbooalkkenaa
open Go Go.Av Go.Ev Go.Pl
noncomputable abbrev expP (a b : DF) (i : Nat) : SR := expl (stepP a b) (startP a b) (labs a b) i
noncomputable abbrev expPE (a b : DF) (sp : List PR → PR → Bool) (i : Nat) : SR ⊕ SR := explE (stepP a b) (startP a b) (labs a b) sp i
noncomputable abbrev allP (a b : DF) : SR := expP a b (a.2.1.length * b.2.1.length)
theorem allP_fin {a b : DF} (ha : Good a) (hb : Good b) : (allP a b).1.length ≤ a.2.1.length * b.2.1.length := okP_len ha hb (expl_ok _)
noncomputable def resM (a b : DF) (f : Bool) (S : SR) : Bool × List Int × List PR × List Int × List Int × List (List Int) × Unit := (f, labs a b, S.1, fromL S.2.1, byL S.2.1, rowsL S.2.2, ())
theorem rows_len {a b : DF} (i : Nat) : (expP a b i).2.2.length ≤ i := by
  rw [expl_rows i i (Nat.le_refl _), List.length_map, List.length_take]; omega
end Go.Proofs.Ytbpdbooalkkenaa
