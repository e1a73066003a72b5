/-
  THE EXAMPLES OF THE CHAPTER, computed call by call.
-/
import Derived.Test.YtifgipebbagfcaaDoorHGlueB
import Derived.Test.YtifgipebbagfcaaDoorHL8
import Derived.Test.YtifgipebbagfcaaDoorHL5
set_option linter.unusedVariables false
set_option linter.unusedSimpArgs false
namespace Go.Proofs.YtifgipebbagfcaaDoor
open Go Go.Av Go.Ev
theorem A0 : Calls' tbl N_regex_Parse [.d tS ([54, 53, 48, 48, 49, 32, 46, 42])] [] q_regex_Parse ((Rx.mk 3 0 0 [Rx.mk 1 65001 65001 [], Rx.mk 5 0 0 [Rx.mk 2 0 0 []]]), (0), ()) := calls_Q (m := 90) fun k => by kernel_rfl
theorem A1 : Calls' tbl N_regex_Print [.d .rx (Rx.mk 3 0 0 [Rx.mk 1 65001 65001 [], Rx.mk 5 0 0 [Rx.mk 2 0 0 []]])] [] q_regex_Print (([54, 53, 48, 48, 49, 32, 46, 42]), (0), ()) := calls_Q (m := 90) fun k => by kernel_rfl
theorem A2 : Calls' tbl N_regex_Parse [.d tS ([54, 53, 48, 48, 49, 32, 32, 54, 53, 48, 48, 50])] [] q_regex_Parse ((Rx.mk 0 0 0 []), (2), ()) := calls_Q (m := 90) fun k => by kernel_rfl
theorem A3 : Calls' tbl N_regex_Parse [.d tS ([91, 53, 45, 53, 93])] [] q_regex_Parse ((Rx.mk 0 0 0 []), (2), ()) := calls_Q (m := 90) fun k => by kernel_rfl
theorem A4 : Calls' tbl N_regex_Parse [.d tS ([40, 54, 53, 48, 48, 49, 41])] [] q_regex_Parse ((Rx.mk 0 0 0 []), (2), ()) := calls_Q (m := 90) fun k => by kernel_rfl
theorem A5 : Calls' tbl N_regex_Parse [.d tS ([33])] [] q_regex_Parse ((Rx.mk 4 0 0 []), (0), ()) := calls_Q (m := 90) fun k => by kernel_rfl
theorem A6 : Calls' tbl N_regex_Check [.d .rx (Rx.mk 8 0 0 [])] [] q_regex_Check ((15), ()) := calls_Q (m := 90) fun k => by kernel_rfl
theorem A7 : Calls' tbl N_regex_Check [.d .rx (Rx.mk 1 2 1 [])] [] q_regex_Check ((5), ()) := calls_Q (m := 90) fun k => by kernel_rfl
theorem A8 : Calls' tbl N_regex_Check [.d .rx (Rx.mk 3 0 0 [])] [] q_regex_Check ((1), ()) := calls_Q (m := 90) fun k => by kernel_rfl
theorem A9 : Calls' tbl N_regex_Match [.d .rx (Rx.mk 3 0 0 [Rx.mk 1 65001 65001 [], Rx.mk 5 0 0 [Rx.mk 2 0 0 []]]), .d (.list tI) ([65001, 7])] [] q_regex_Match ((true), ()) := calls_Q (m := 90) fun k => by kernel_rfl
theorem A10 : Calls' tbl N_regex_Match [.d .rx (Rx.mk 3 0 0 [Rx.mk 1 65001 65001 [], Rx.mk 5 0 0 [Rx.mk 2 0 0 []]]), .d (.list tI) ([7, 65001])] [] q_regex_Match ((false), ()) := calls_Q (m := 90) fun k => by kernel_rfl
theorem A11 : Calls' tbl N_regex_Match [.d .rx (Rx.mk 4 0 0 []), .d (.list tI) ([])] [] q_regex_Match ((false), ()) := calls_Q (m := 90) fun k => by kernel_rfl
theorem A12 : Calls' tbl N_regex_Nullable [.d .rx (Rx.mk 3 0 0 [Rx.mk 1 65001 65001 [], Rx.mk 5 0 0 [Rx.mk 2 0 0 []]])] [] q_regex_Nullable ((false), ()) := calls_Q (m := 90) fun k => by kernel_rfl
theorem A13 : Calls' tbl N_regex_Derive [.d .rx (Rx.mk 3 0 0 [Rx.mk 1 65001 65001 [], Rx.mk 5 0 0 [Rx.mk 2 0 0 []]]), .d tI (65001)] [] q_regex_Derive ((Rx.mk 5 0 0 [Rx.mk 2 0 0 []]), ()) := calls_Q (m := 90) fun k => by kernel_rfl
theorem A14 : Calls' tbl N_regex_Match [.d .rx (Rx.mk 5 0 0 [Rx.mk 2 0 0 []]), .d (.list tI) ([])] [] q_regex_Match ((true), ()) := calls_Q (m := 90) fun k => by kernel_rfl
theorem A15 : Calls' tbl N_regex_Same [.d .rx (Rx.mk 3 0 0 [Rx.mk 1 65001 65001 [], Rx.mk 5 0 0 [Rx.mk 2 0 0 []]]), .d .rx (Rx.mk 3 0 0 [Rx.mk 1 65001 65001 [], Rx.mk 5 0 0 [Rx.mk 2 0 0 []]])] [] q_regex_Same ((true), ()) := calls_Q (m := 90) fun k => by kernel_rfl
theorem A16 : Calls' tbl N_regex_Same [.d .rx (Rx.mk 3 0 0 [Rx.mk 1 65001 65001 [], Rx.mk 5 0 0 [Rx.mk 2 0 0 []]]), .d .rx (Rx.mk 4 0 0 [])] [] q_regex_Same ((false), ()) := calls_Q (m := 90) fun k => by kernel_rfl
theorem C_awake : Calls' tbl N_law15_awake [] [] q_law15_awake (true, ()) := by
  refine calls_of rfl (conv_of t_law15_awake rfl (fun O n => x_law15_awake O n) ?_)
  unfold G_law15_awake
  repeat first
    | refine wp_call A0 ?_
    | refine wp_call A1 ?_
    | refine wp_call A2 ?_
    | refine wp_call A3 ?_
    | refine wp_call A4 ?_
    | refine wp_call A5 ?_
    | refine wp_call A6 ?_
    | refine wp_call A7 ?_
    | refine wp_call A8 ?_
    | refine wp_call A9 ?_
    | refine wp_call A10 ?_
    | refine wp_call A11 ?_
    | refine wp_call A12 ?_
    | refine wp_call A13 ?_
    | refine wp_call A14 ?_
    | refine wp_call A15 ?_
    | refine wp_call A16 ?_
    | refine wp_bifT rfl ?_
    | refine wp_bifF rfl ?_
    | refine wp_some ?_
    | refine wp_idx (by decide) rfl ?_
    | refine wp_bind ?_
  rfl
end Go.Proofs.YtifgipebbagfcaaDoor
