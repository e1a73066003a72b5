/-
  dfa: WITNESSES AND RUNS.
-/
import Derived.Test.YtbpdbooalkkenaaJLawDfaWit
set_option linter.unusedVariables false
set_option linter.unusedSimpArgs false
namespace Go.Proofs.Ytbpdbooalkkenaa
open Go Go.Av Go.Ev Go.Pl
theorem foldl_stepP {a b : DF} : ∀ (l : List Int) (x : PR), l.foldl (stepP a b) x = (l.foldl (stepS a) x.1, l.foldl (stepS b) x.2.1, ())
  | [], _ => rfl
  | v :: l, x => by rw [List.foldl_cons, foldl_stepP l]; rfl
theorem C_dfa_Same {a b : DF} {c : List Int × Bool × Unit} (hc : Calls' tbl N_dfa_Witness [.d (pr [.list tI, .list (.list tI), .list tB, tI]) a, .d (pr [.list tI, .list (.list tI), .list tB, tI]) b] [] q_dfa_Witness c) :
    Calls' tbl N_dfa_Same [.d (pr [.list tI, .list (.list tI), .list tB, tI]) a, .d (pr [.list tI, .list (.list tI), .list tB, tI]) b] [] q_dfa_Same (!((checkS a != (0 : Int)) || (checkS b != (0 : Int))) && !c.2.1, ()) := by
  refine calls_of rfl (conv_of t_dfa_Same rfl (fun O n => x_dfa_Same O n a b) ?_)
  unfold G_dfa_Same
  refine wp_call (C_dfa_Check a) (wp_bind (wp_or (fun _ => wp_call (C_dfa_Check b) (wp_some rfl)) ?_))
  refine wp_bif (fun h => wp_some ?_) fun h => wp_call hc (wp_some ?_)
  · rw [h]; rfl
  · rw [h]; rfl
end Go.Proofs.Ytbpdbooalkkenaa
