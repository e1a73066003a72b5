/-
  THE EXAMPLES OF THE CHAPTER, computed call by call.
-/
import Derived.Test.YtbpdbooalkkenaaMGlueB
import Derived.Test.YtbpdbooalkkenaaML8
import Derived.Test.YtbpdbooalkkenaaML5
set_option linter.unusedVariables false
set_option linter.unusedSimpArgs false
namespace Go.Proofs.Ytbpdbooalkkenaa
open Go Go.Av Go.Ev
theorem A0 : Calls' tbl N_law16_first [] [] q_law16_first ((Rx.mk 3 0 0 [Rx.mk 1 65001 65001 [], Rx.mk 5 0 0 [Rx.mk 2 0 0 []]]), ()) := calls_Q (m := 90) fun k => by kernel_rfl
theorem A1 : Calls' tbl N_dfa_Build [.d .rx (Rx.mk 3 0 0 [Rx.mk 1 65001 65001 [], Rx.mk 5 0 0 [Rx.mk 2 0 0 []]])] [] q_dfa_Build ((([0, 65001, 65002], ([[1, 2, 1], [1, 1, 1], [2, 2, 2]], ([false, false, true], (0, ()))))), (0), ()) := calls_Q (m := 90) fun k => by kernel_rfl
theorem A2 : Calls' tbl N_dfa_Build [.d .rx (Rx.mk 2 0 0 [])] [] q_dfa_Build ((([0], ([[1], [2], [2]], ([false, true, false], (0, ()))))), (0), ()) := calls_Q (m := 90) fun k => by kernel_rfl
theorem A3 : Calls' tbl N_dfa_Build [.d .rx (Rx.mk 1 65001 65001 [])] [] q_dfa_Build ((([0, 65001, 65002], ([[1, 2, 1], [1, 1, 1], [1, 1, 1]], ([false, false, true], (0, ()))))), (0), ()) := calls_Q (m := 90) fun k => by kernel_rfl
theorem A4 : Calls' tbl N_dfa_Witness [.d (pr [(.list tI), (.list (.list tI)), (.list tB), tI]) (([0], ([[1], [2], [2]], ([false, true, false], (0, ()))))), .d (pr [(.list tI), (.list (.list tI)), (.list tB), tI]) (([0, 65001, 65002], ([[1, 2, 1], [1, 1, 1], [1, 1, 1]], ([false, false, true], (0, ())))))] [] q_dfa_Witness (([0]), (true), ()) := calls_Q (m := 90) fun k => by kernel_rfl
theorem A5 : Calls' tbl N_dfa_Not [.d (pr [(.list tI), (.list (.list tI)), (.list tB), tI]) (([0], ([[1], [2], [2]], ([false, true, false], (0, ())))))] [] q_dfa_Not ((([0], ([[1], [2], [2]], ([true, false, true], (0, ()))))), ()) := calls_Q (m := 90) fun k => by kernel_rfl
theorem A6 : Calls' tbl N_dfa_Both [.d (pr [(.list tI), (.list (.list tI)), (.list tB), tI]) (([0], ([[1], [2], [2]], ([false, true, false], (0, ()))))), .d (pr [(.list tI), (.list (.list tI)), (.list tB), tI]) (([0], ([[1], [2], [2]], ([true, false, true], (0, ())))))] [] q_dfa_Both ((([0], ([[0]], ([false], (0, ()))))), (0), ()) := calls_Q (m := 90) fun k => by kernel_rfl
theorem A7 : Calls' tbl N_ref16_Equal [.d (pr [(.list tI), (.list (.list tI)), (.list tB), tI]) (([0, 65001, 65002], ([[1, 2, 1], [1, 1, 1], [2, 2, 2]], ([false, false, true], (0, ()))))), .d (pr [(.list tI), (.list (.list tI)), (.list tB), tI]) (([0, 65001, 65002], ([[1, 2, 1], [1, 1, 1], [2, 2, 2]], ([false, false, true], (0, ())))))] [] q_ref16_Equal ((true), ()) := calls_Q (m := 90) fun k => by kernel_rfl
theorem A8 : Calls' tbl N_dfa_Equal [.d (pr [(.list tI), (.list (.list tI)), (.list tB), tI]) (([0, 65001, 65002], ([[1, 2, 1], [1, 1, 1], [2, 2, 2]], ([false, false, true], (0, ()))))), .d (pr [(.list tI), (.list (.list tI)), (.list tB), tI]) (([0, 65001, 65002], ([[1, 2, 1], [1, 1, 1], [2, 2, 2]], ([false, false, true], (0, ())))))] [] q_dfa_Equal ((true), ()) := calls_Q (m := 90) fun k => by kernel_rfl
theorem A9 : Calls' tbl N_dfa_Check [.d (pr [(.list tI), (.list (.list tI)), (.list tB), tI]) (([0, 65001, 65002], ([[1, 2, 1], [1, 1, 1], [2, 2, 2]], ([false, false, true], (0, ())))))] [] q_dfa_Check ((0), ()) := calls_Q (m := 90) fun k => by kernel_rfl
theorem A10 : Calls' tbl N_dfa_Check [.d (pr [(.list tI), (.list (.list tI)), (.list tB), tI]) (([], ([], ([], (0, ())))))] [] q_dfa_Check ((16), ()) := calls_Q (m := 90) fun k => by kernel_rfl
theorem A11 : Calls' tbl N_dfa_Match [.d (pr [(.list tI), (.list (.list tI)), (.list tB), tI]) (([0, 65001, 65002], ([[1, 2, 1], [1, 1, 1], [2, 2, 2]], ([false, false, true], (0, ()))))), .d (.list tI) ([65001, 7])] [] q_dfa_Match ((true), ()) := calls_Q (m := 90) fun k => by kernel_rfl
theorem A12 : Calls' tbl N_dfa_Match [.d (pr [(.list tI), (.list (.list tI)), (.list tB), tI]) (([0, 65001, 65002], ([[1, 2, 1], [1, 1, 1], [2, 2, 2]], ([false, false, true], (0, ()))))), .d (.list tI) ([])] [] q_dfa_Match ((false), ()) := calls_Q (m := 90) fun k => by kernel_rfl
theorem A13 : Calls' tbl N_dfa_Not [.d (pr [(.list tI), (.list (.list tI)), (.list tB), tI]) (([0, 65001, 65002], ([[1, 2, 1], [1, 1, 1], [2, 2, 2]], ([false, false, true], (0, ())))))] [] q_dfa_Not ((([0, 65001, 65002], ([[1, 2, 1], [1, 1, 1], [2, 2, 2]], ([true, true, false], (0, ()))))), ()) := calls_Q (m := 90) fun k => by kernel_rfl
theorem A14 : Calls' tbl N_dfa_Match [.d (pr [(.list tI), (.list (.list tI)), (.list tB), tI]) (([0, 65001, 65002], ([[1, 2, 1], [1, 1, 1], [2, 2, 2]], ([true, true, false], (0, ()))))), .d (.list tI) ([])] [] q_dfa_Match ((true), ()) := calls_Q (m := 90) fun k => by kernel_rfl
theorem A15 : Calls' tbl N_dfa_Same [.d (pr [(.list tI), (.list (.list tI)), (.list tB), tI]) (([0, 65001, 65002], ([[1, 2, 1], [1, 1, 1], [2, 2, 2]], ([false, false, true], (0, ()))))), .d (pr [(.list tI), (.list (.list tI)), (.list tB), tI]) (([0, 65001, 65002], ([[1, 2, 1], [1, 1, 1], [2, 2, 2]], ([false, false, true], (0, ())))))] [] q_dfa_Same ((true), ()) := calls_Q (m := 90) fun k => by kernel_rfl
theorem A16 : Calls' tbl N_dfa_Same [.d (pr [(.list tI), (.list (.list tI)), (.list tB), tI]) (([0], ([[1], [2], [2]], ([false, true, false], (0, ()))))), .d (pr [(.list tI), (.list (.list tI)), (.list tB), tI]) (([0, 65001, 65002], ([[1, 2, 1], [1, 1, 1], [1, 1, 1]], ([false, false, true], (0, ())))))] [] q_dfa_Same ((false), ()) := calls_Q (m := 90) fun k => by kernel_rfl
theorem C_awake : Calls' tbl N_law16_awake [] [] q_law16_awake (true, ()) := by
  refine calls_of rfl (conv_of t_law16_awake rfl (fun O n => x_law16_awake O n) ?_)
  unfold G_law16_awake
  repeat first
    | refine wp_call A0 ?_
    | refine wp_call A1 ?_
    | refine wp_call A2 ?_
    | refine wp_call A3 ?_
    | refine wp_call A4 ?_
    | refine wp_call A5 ?_
    | refine wp_call A6 ?_
    | refine wp_call A7 ?_
    | refine wp_call A8 ?_
    | refine wp_call A9 ?_
    | refine wp_call A10 ?_
    | refine wp_call A11 ?_
    | refine wp_call A12 ?_
    | refine wp_call A13 ?_
    | refine wp_call A14 ?_
    | refine wp_call A15 ?_
    | refine wp_call A16 ?_
    | refine wp_bifT rfl ?_
    | refine wp_bifF rfl ?_
    | refine wp_some ?_
    | refine wp_idx (by decide) rfl ?_
    | refine wp_bind ?_
  rfl
end Go.Proofs.Ytbpdbooalkkenaa
