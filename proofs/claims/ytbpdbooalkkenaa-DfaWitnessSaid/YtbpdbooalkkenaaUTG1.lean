/-
  THE LOADED FUNCTIONS AS TYPED CODE AND AS PLAIN FUNCTIONS, printed by program; each pair held by the kernel.
-/
import Derived.Test.YtbpdbooalkkenaaUL5
import Derived.KernelRfl
set_option linter.unusedVariables false
set_option linter.unusedSimpArgs false
namespace Go.Proofs.Ytbpdbooalkkenaa
open Go Go.Av Go.Ev
abbrev N_dfa_Check : Nat := 12
abbrev N_ref16_Check : Nat := 13
abbrev N_law16_first : Nat := 36
abbrev N_regex_kids : Nat := 79
abbrev N_regex_node : Nat := 74
abbrev N_regex_check_ddr : Nat := 60
abbrev N_regex_Check : Nat := 37
abbrev N_dfa_positions_add_rdd : Nat := 61
abbrev N_dfa_positions_link_rdd : Nat := 62
abbrev N_dfa_positions_walk_rd : Nat := 38
abbrev N_dfa_merge : Nat := 63
abbrev N_dfa_positions_starts_r : Nat := 39
abbrev N_dfa_positions_matching_rd : Nat := 40
abbrev N_dfa_reachable : Nat := 64
abbrev N_dfa_signature : Nat := 78
abbrev N_dfa_blocks : Nat := 65
abbrev N_dfa_numbered : Nat := 66
abbrev N_dfa_minimal : Nat := 41
abbrev N_dfa_Build : Nat := 16
abbrev N_dfa_Witness_1_dpp : Nat := 48
abbrev N_dfa_class : Nat := 45
abbrev N_dfa_multiply_dddf : Nat := 47
abbrev N_dfa_Witness : Nat := 22
abbrev N_dfa_Not : Nat := 26
abbrev N_dfa_Both_1 : Nat := 50
abbrev N_dfa_multiply_dddf_v1 : Nat := 10047
abbrev N_dfa_Both : Nat := 28
abbrev N_ref16_equal : Nat := 44
abbrev N_ref16_Equal : Nat := 18
abbrev N_dfa_equal : Nat := 51
abbrev N_dfa_Equal : Nat := 30
abbrev N_dfa_Match : Nat := 20
abbrev N_dfa_Same : Nat := 24
abbrev N_law16_awake : Nat := 14
abbrev N_law16_DfaCheck : Nat := 3
abbrev N_ref16_sorted : Nat := 68
abbrev N_law16_Large : Nat := 19
abbrev N_ref16_class : Nat := 46
abbrev N_ref16_Match : Nat := 21
abbrev N_law16_DfaMatch : Nat := 5
abbrev N_ref16_pairs : Nat := 49
abbrev N_ref16_Witness : Nat := 23
abbrev N_ref16_Same : Nat := 25
abbrev N_law16_DfaWitness : Nat := 6
abbrev N_ref16_Not : Nat := 27
abbrev N_law16_DfaNot : Nat := 7
abbrev N_law16_DfaEqual : Nat := 9
abbrev F_dfa_Witness_1 : Nat := 48
abbrev F_dfa_Both_1 : Nat := 50
abbrev T_i64 : TypeId := 3
abbrev T_bool : TypeId := 4
abbrev T_u8 : TypeId := 5
abbrev T_string : TypeId := 9
abbrev T_sl_i64 : TypeId := 22
abbrev T_str_api_DFA : TypeId := 26
abbrev T_str_dfa_positions : TypeId := 52
abbrev T_u64 : TypeId := 53
abbrev T_str_dfa_sets : TypeId := 55
abbrev T_str_dfa_state : TypeId := 59
abbrev T_str_dfa_pair : TypeId := 73
abbrev T_str_dfa_product : TypeId := 77
abbrev T_str_ref16_pair : TypeId := 82
def q_dfa_Check : Sh := ⟨[], ⟨[], []⟩, [.tm 0 tI]⟩
def f_dfa_Check : TF := ⟨(.seq (.region (
.op (some 1) (.boxD 26 (pr [(.list tI), (.list (.list tI)), (.list tB), tI]) (.tm 0)) <|
.op (some 2) (.mv (.k tI (0 : Int))) <|
.nil)) (.seq (.seq (.region (
.op (some 12) (.fldA 2 (.list tB) (.tm 1)) <|
.op (some 13) (.load (.list tB) (.tm 12)) <|
.op (some 14) (.len false (.tm 13)) <|
.op (some 15) (.bin .gtr (.tm 14) (.k tI (4096 : Int))) <|
.op (some 16) (.mv (.tm 15)) <|
.gb 16 false (
.op (some 17) (.fldA 1 (.list (.list tI)) (.tm 1)) <|
.op (some 18) (.load (.list (.list tI)) (.tm 17)) <|
.op (some 19) (.len false (.tm 18)) <|
.op (some 20) (.bin .gtr (.tm 19) (.k tI (4096 : Int))) <|
.nil) tB (.tm 20) (.k tB true) 21 <|
.op (some 22) (.mv (.tm 21)) <|
.gb 22 false (
.op (some 23) (.fldA 0 (.list tI) (.tm 1)) <|
.op (some 24) (.load (.list tI) (.tm 23)) <|
.op (some 25) (.len false (.tm 24)) <|
.op (some 26) (.bin .gtr (.tm 25) (.k tI (2000 : Int))) <|
.nil) tB (.tm 26) (.k tB true) 27 <|
.nil)) (.cond (.tm 27) (.seq (.region (
.op (some 2) (.mv (.k tI (4 : Int))) <|
.nil)) .ret) .skip)) (.seq (.seq (.region (
.op (some 28) (.fldA 0 (.list tI) (.tm 1)) <|
.op (some 29) (.load (.list tI) (.tm 28)) <|
.op (some 30) (.len false (.tm 29)) <|
.op (some 31) (.mv (.k tI (0 : Int))) <|
.nil)) (.block 0 (.loop ⟨[1, 29, 30], ⟨[], []⟩, [.tm 31 tI]⟩ [(1, ⟨[], ⟨[], []⟩, [.tm 2 tI]⟩), (3, ⟨[1], ⟨[], []⟩, []⟩)] (.seq (.region (
.op (some 32) (.bin .lss (.tm 31) (.tm 30)) <|
.nil)) (.seq (.cond (.tm 32) .skip (.exit 0)) (.seq (.block 1 (.seq (.region (
.op (some 33) (.mv (.tm 31)) <|
.op (some 34) (.idxA tI (.tm 29) (.tm 31)) <|
.op (some 35) (.load tI (.tm 34)) <|
.op (some 3) (.mv (.tm 33)) <|
.op (some 4) (.mv (.tm 35)) <|
.nil)) (.seq (.region (
.op (some 36) (.mv (.tm 3)) <|
.op (some 37) (.bin .eql (.tm 36) (.k tI (0 : Int))) <|
.op (some 38) (.mv (.tm 37)) <|
.gb 38 true (
.op (some 39) (.mv (.tm 4)) <|
.op (some 40) (.bin .neq (.tm 39) (.k tI (0 : Int))) <|
.nil) tB (.tm 40) (.k tB false) 41 <|
.op (some 42) (.mv (.tm 41)) <|
.gb 42 false (
.op (some 43) (.mv (.tm 3)) <|
.op (some 44) (.bin .gtr (.tm 43) (.k tI (0 : Int))) <|
.op (some 45) (.mv (.tm 44)) <|
.gb 45 true (
.op (some 46) (.mv (.tm 4)) <|
.op (some 47) (.fldA 0 (.list tI) (.tm 1)) <|
.op (some 48) (.load (.list tI) (.tm 47)) <|
.op (some 49) (.mv (.tm 3)) <|
.op (some 50) (.bin .sub (.tm 49) (.k tI (1 : Int))) <|
.op (some 51) (.idxA tI (.tm 48) (.tm 50)) <|
.op (some 52) (.load tI (.tm 51)) <|
.op (some 53) (.bin .leq (.tm 46) (.tm 52)) <|
.nil) tB (.tm 53) (.k tB false) 54 <|
.nil) tB (.tm 54) (.k tB true) 55 <|
.op (some 56) (.mv (.tm 55)) <|
.gb 56 false (
.op (some 57) (.mv (.tm 4)) <|
.op (some 58) (.bin .gtr (.tm 57) (.k tI (4294967295 : Int))) <|
.nil) tB (.tm 58) (.k tB true) 59 <|
.nil)) (.cond (.tm 59) (.seq (.region (
.op (some 2) (.mv (.k tI (16 : Int))) <|
.nil)) .ret) .skip)))) (.region (
.op (some 60) (.bin .add (.tm 31) (.k tI (1 : Int))) <|
.op (some 31) (.mv (.tm 60)) <|
.nil)))))))) (.seq (.seq (.region (
.op (some 61) (.fldA 0 (.list tI) (.tm 1)) <|
.op (some 62) (.load (.list tI) (.tm 61)) <|
.op (some 63) (.len false (.tm 62)) <|
.op (some 64) (.bin .eql (.tm 63) (.k tI (0 : Int))) <|
.nil)) (.cond (.tm 64) (.seq (.region (
.op (some 2) (.mv (.k tI (16 : Int))) <|
.nil)) .ret) .skip)) (.seq (.region (
.op (some 65) (.fldA 1 (.list (.list tI)) (.tm 1)) <|
.op (some 66) (.load (.list (.list tI)) (.tm 65)) <|
.op (some 67) (.len false (.tm 66)) <|
.op (some 5) (.mv (.tm 67)) <|
.nil)) (.seq (.seq (.region (
.op (some 68) (.mv (.tm 5)) <|
.op (some 69) (.bin .eql (.tm 68) (.k tI (0 : Int))) <|
.op (some 70) (.mv (.tm 69)) <|
.gb 70 false (
.op (some 71) (.fldA 2 (.list tB) (.tm 1)) <|
.op (some 72) (.load (.list tB) (.tm 71)) <|
.op (some 73) (.len false (.tm 72)) <|
.op (some 74) (.mv (.tm 5)) <|
.op (some 75) (.bin .neq (.tm 73) (.tm 74)) <|
.nil) tB (.tm 75) (.k tB true) 76 <|
.nil)) (.cond (.tm 76) (.seq (.region (
.op (some 2) (.mv (.k tI (14 : Int))) <|
.nil)) .ret) .skip)) (.seq (.seq (.region (
.op (some 77) (.fldA 1 (.list (.list tI)) (.tm 1)) <|
.op (some 78) (.load (.list (.list tI)) (.tm 77)) <|
.op (some 79) (.len false (.tm 78)) <|
.op (some 80) (.mv (.k tI (0 : Int))) <|
.nil)) (.block 2 (.loop ⟨[1, 5, 78, 79], ⟨[], []⟩, [.tm 80 tI]⟩ [(1, ⟨[], ⟨[], []⟩, [.tm 2 tI]⟩), (5, ⟨[1, 5], ⟨[], []⟩, []⟩)] (.seq (.region (
.op (some 81) (.bin .lss (.tm 80) (.tm 79)) <|
.nil)) (.seq (.cond (.tm 81) .skip (.exit 2)) (.seq (.block 3 (.seq (.region (
.op (some 82) (.idxA (.list tI) (.tm 78) (.tm 80)) <|
.op (some 83) (.load (.list tI) (.tm 82)) <|
.op (some 7) (.mv (.tm 83)) <|
.nil)) (.seq (.region (
.op (some 84) (.mv (.tm 7)) <|
.op (some 85) (.len false (.tm 84)) <|
.op (some 86) (.fldA 0 (.list tI) (.tm 1)) <|
.op (some 87) (.load (.list tI) (.tm 86)) <|
.op (some 88) (.len false (.tm 87)) <|
.op (some 89) (.bin .neq (.tm 85) (.tm 88)) <|
.nil)) (.cond (.tm 89) (.seq (.region (
.op (some 2) (.mv (.k tI (14 : Int))) <|
.nil)) .ret) .skip)))) (.region (
.op (some 90) (.bin .add (.tm 80) (.k tI (1 : Int))) <|
.op (some 80) (.mv (.tm 90)) <|
.nil)))))))) (.seq (.seq (.region (
.op (some 91) (.fldA 3 tI (.tm 1)) <|
.op (some 92) (.load tI (.tm 91)) <|
.op (some 93) (.bin .lss (.tm 92) (.k tI (0 : Int))) <|
.op (some 94) (.mv (.tm 93)) <|
.gb 94 false (
.op (some 95) (.fldA 3 tI (.tm 1)) <|
.op (some 96) (.load tI (.tm 95)) <|
.op (some 97) (.mv (.tm 5)) <|
.op (some 98) (.bin .geq (.tm 96) (.tm 97)) <|
.nil) tB (.tm 98) (.k tB true) 99 <|
.nil)) (.cond (.tm 99) (.seq (.region (
.op (some 2) (.mv (.k tI (5 : Int))) <|
.nil)) .ret) .skip)) (.seq (.seq (.region (
.op (some 100) (.fldA 1 (.list (.list tI)) (.tm 1)) <|
.op (some 101) (.load (.list (.list tI)) (.tm 100)) <|
.op (some 102) (.len false (.tm 101)) <|
.op (some 103) (.mv (.k tI (0 : Int))) <|
.nil)) (.block 4 (.loop ⟨[5, 101, 102], ⟨[], []⟩, [.tm 103 tI]⟩ [(1, ⟨[], ⟨[], []⟩, [.tm 2 tI]⟩), (7, ⟨[], ⟨[], []⟩, []⟩)] (.seq (.region (
.op (some 104) (.bin .lss (.tm 103) (.tm 102)) <|
.nil)) (.seq (.cond (.tm 104) .skip (.exit 4)) (.seq (.block 5 (.seq (.region (
.op (some 105) (.idxA (.list tI) (.tm 101) (.tm 103)) <|
.op (some 106) (.load (.list tI) (.tm 105)) <|
.op (some 9) (.mv (.tm 106)) <|
.nil)) (.seq (.region (
.op (some 107) (.mv (.tm 9)) <|
.op (some 108) (.len false (.tm 107)) <|
.op (some 109) (.mv (.k tI (0 : Int))) <|
.nil)) (.block 6 (.loop ⟨[5, 101, 102, 103, 107, 108], ⟨[], []⟩, [.tm 109 tI]⟩ [(1, ⟨[], ⟨[], []⟩, [.tm 2 tI]⟩), (9, ⟨[5, 101, 102, 103], ⟨[], []⟩, []⟩)] (.seq (.region (
.op (some 110) (.bin .lss (.tm 109) (.tm 108)) <|
.nil)) (.seq (.cond (.tm 110) .skip (.exit 6)) (.seq (.block 7 (.seq (.region (
.op (some 111) (.idxA tI (.tm 107) (.tm 109)) <|
.op (some 112) (.load tI (.tm 111)) <|
.op (some 11) (.mv (.tm 112)) <|
.nil)) (.seq (.region (
.op (some 113) (.mv (.tm 11)) <|
.op (some 114) (.bin .lss (.tm 113) (.k tI (0 : Int))) <|
.op (some 115) (.mv (.tm 114)) <|
.gb 115 false (
.op (some 116) (.mv (.tm 11)) <|
.op (some 117) (.mv (.tm 5)) <|
.op (some 118) (.bin .geq (.tm 116) (.tm 117)) <|
.nil) tB (.tm 118) (.k tB true) 119 <|
.nil)) (.cond (.tm 119) (.seq (.region (
.op (some 2) (.mv (.k tI (5 : Int))) <|
.nil)) .ret) .skip)))) (.region (
.op (some 120) (.bin .add (.tm 109) (.k tI (1 : Int))) <|
.op (some 109) (.mv (.tm 120)) <|
.nil)))))))))) (.region (
.op (some 121) (.bin .add (.tm 103) (.k tI (1 : Int))) <|
.op (some 103) (.mv (.tm 121)) <|
.nil)))))))) (.seq (.region (
.op (some 2) (.mv (.k tI (0 : Int))) <|
.nil)) .ret)))))))))), [.tm 2], 122, q_dfa_Check, 0⟩
def L_dfa_Check_0 (O : Oracle) (n : Nat) (d : ((List Int) × ((List (List Int)) × ((List Bool) × (Int × Unit))))) (s : (Int × Unit)) : Option ((Int × Unit) ⊕ (Int × Unit) ⊕ Unit) :=
 bif decide (s.1 < (d.1.length : Int)) then
 Option.bind (getI d.1 s.1) fun v3 =>
 Option.bind (bif (s.1 == (0 : Int)) then
 some ((v3 != (0 : Int)))
else some (false)) fun v4 =>
 Option.bind (bif v4 then some (true) else
 Option.bind (bif decide (s.1 > (0 : Int)) then
 Option.bind (getI d.1 (IntKind.wrap .i64 (s.1 - (1 : Int)))) fun v5 =>
 some (decide (v3 ≤ v5))
else some (false)) fun v6 =>
 some (v6)) fun v7 =>
 Option.bind (bif v7 then some (true) else
 some (decide (v3 > (4294967295 : Int)))) fun v8 =>
 bif v8 then
 some (.inr (.inl (((16 : Int), ()))))
else
 some (.inl (IntKind.wrap .i64 (s.1 + (1 : Int)), ()))
else
 some (.inr (.inr (())))
def L_dfa_Check_1 (O : Oracle) (n : Nat) (d : ((List Int) × ((List (List Int)) × ((List Bool) × (Int × Unit))))) (v13 : (Int × Unit)) : Option ((Int × Unit) ⊕ (Int × Unit) ⊕ Unit) :=
 bif decide (v13.1 < (d.2.1.length : Int)) then
 Option.bind (getI d.2.1 v13.1) fun v14 =>
 bif ((v14.length : Int) != (d.1.length : Int)) then
 some (.inr (.inl (((14 : Int), ()))))
else
 some (.inl (IntKind.wrap .i64 (v13.1 + (1 : Int)), ()))
else
 some (.inr (.inr (())))
def L_dfa_Check_2 (O : Oracle) (n : Nat) (d : ((List Int) × ((List (List Int)) × ((List Bool) × (Int × Unit))))) (v20 : (List Int)) (v21 : (Int × Unit)) : Option ((Int × Unit) ⊕ (Int × Unit) ⊕ Unit) :=
 bif decide (v21.1 < (v20.length : Int)) then
 Option.bind (getI v20 v21.1) fun v22 =>
 Option.bind (bif decide (v22 < (0 : Int)) then some (true) else
 some (decide (v22 ≥ (d.2.1.length : Int)))) fun v23 =>
 bif v23 then
 some (.inr (.inl (((5 : Int), ()))))
else
 some (.inl (IntKind.wrap .i64 (v21.1 + (1 : Int)), ()))
else
 some (.inr (.inr (())))
def L_dfa_Check_3 (O : Oracle) (n : Nat) (d : ((List Int) × ((List (List Int)) × ((List Bool) × (Int × Unit))))) (v19 : (Int × Unit)) : Option ((Int × Unit) ⊕ (Int × Unit) ⊕ Unit) :=
 bif decide (v19.1 < (d.2.1.length : Int)) then
 Option.bind (getI d.2.1 v19.1) fun v20 =>
 Option.bind (loopN n (L_dfa_Check_2 O n d v20) ((0 : Int), ())) fun (v24 : (Int × Unit) ⊕ Unit) =>
 Sum.elim (fun v25 =>
 some (.inr (.inl ((v25.1, ()))))) (fun v26 =>
 some (.inl (IntKind.wrap .i64 (v19.1 + (1 : Int)), ()))) v24
else
 some (.inr (.inr (())))
def G_dfa_Check (O : Oracle) (n : Nat) (d : ((List Int) × ((List (List Int)) × ((List Bool) × (Int × Unit))))) : Option (Option S) :=
 Option.bind (bif decide ((d.2.2.1.length : Int) > (4096 : Int)) then some (true) else
 some (decide ((d.2.1.length : Int) > (4096 : Int)))) fun v =>
 Option.bind (bif v then some (true) else
 some (decide ((d.1.length : Int) > (2000 : Int)))) fun v1 =>
 bif v1 then
 retQ q_dfa_Check ((4 : Int), ())
else
 Option.bind (loopN n (L_dfa_Check_0 O n d) ((0 : Int), ())) fun (v9 : (Int × Unit) ⊕ Unit) =>
 Sum.elim (fun v10 =>
 retQ q_dfa_Check (v10.1, ())) (fun v11 =>
 bif ((d.1.length : Int) == (0 : Int)) then
 retQ q_dfa_Check ((16 : Int), ())
else
 Option.bind (bif ((d.2.1.length : Int) == (0 : Int)) then some (true) else
 some (((d.2.2.1.length : Int) != (d.2.1.length : Int)))) fun v12 =>
 bif v12 then
 retQ q_dfa_Check ((14 : Int), ())
else
 Option.bind (loopN n (L_dfa_Check_1 O n d) ((0 : Int), ())) fun (v15 : (Int × Unit) ⊕ Unit) =>
 Sum.elim (fun v16 =>
 retQ q_dfa_Check (v16.1, ())) (fun v17 =>
 Option.bind (bif decide (d.2.2.2.1 < (0 : Int)) then some (true) else
 some (decide (d.2.2.2.1 ≥ (d.2.1.length : Int)))) fun v18 =>
 bif v18 then
 retQ q_dfa_Check ((5 : Int), ())
else
 Option.bind (loopN n (L_dfa_Check_3 O n d) ((0 : Int), ())) fun (v27 : (Int × Unit) ⊕ Unit) =>
 Sum.elim (fun v28 =>
 retQ q_dfa_Check (v28.1, ())) (fun v29 =>
 retQ q_dfa_Check ((0 : Int), ())) v27) v15) v9
theorem x_dfa_Check (O : Oracle) (n : Nat) (d : ((List Int) × ((List (List Int)) × ((List Bool) × (Int × Unit))))) : evF1 O n f_dfa_Check [.d (pr [(.list tI), (.list (.list tI)), (.list tB), tI]) d] [] = G_dfa_Check O n d := by kernel_rfl
def q_ref16_Check : Sh := ⟨[], ⟨[], []⟩, [.tm 0 tI]⟩
def f_ref16_Check : TF := ⟨(.seq (.region (
.op (some 1) (.boxD 26 (pr [(.list tI), (.list (.list tI)), (.list tB), tI]) (.tm 0)) <|
.op (some 2) (.mv (.k tI (0 : Int))) <|
.nil)) (.seq (.seq (.region (
.op (some 11) (.fldA 2 (.list tB) (.tm 1)) <|
.op (some 12) (.load (.list tB) (.tm 11)) <|
.op (some 13) (.len false (.tm 12)) <|
.op (some 14) (.bin .gtr (.tm 13) (.k tI (4096 : Int))) <|
.op (some 15) (.mv (.tm 14)) <|
.gb 15 false (
.op (some 16) (.fldA 1 (.list (.list tI)) (.tm 1)) <|
.op (some 17) (.load (.list (.list tI)) (.tm 16)) <|
.op (some 18) (.len false (.tm 17)) <|
.op (some 19) (.bin .gtr (.tm 18) (.k tI (4096 : Int))) <|
.nil) tB (.tm 19) (.k tB true) 20 <|
.op (some 21) (.mv (.tm 20)) <|
.gb 21 false (
.op (some 22) (.fldA 0 (.list tI) (.tm 1)) <|
.op (some 23) (.load (.list tI) (.tm 22)) <|
.op (some 24) (.len false (.tm 23)) <|
.op (some 25) (.bin .gtr (.tm 24) (.k tI (2000 : Int))) <|
.nil) tB (.tm 25) (.k tB true) 26 <|
.nil)) (.cond (.tm 26) (.seq (.region (
.op (some 2) (.mv (.k tI (4 : Int))) <|
.nil)) .ret) .skip)) (.seq (.seq (.region (
.op (some 27) (.fldA 0 (.list tI) (.tm 1)) <|
.op (some 28) (.load (.list tI) (.tm 27)) <|
.op (some 29) (.len false (.tm 28)) <|
.op (some 30) (.bin .eql (.tm 29) (.k tI (0 : Int))) <|
.op (some 31) (.mv (.tm 30)) <|
.gb 31 false (
.op (some 32) (.fldA 0 (.list tI) (.tm 1)) <|
.op (some 33) (.load (.list tI) (.tm 32)) <|
.op (some 34) (.idxA tI (.tm 33) (.k tI (0 : Int))) <|
.op (some 35) (.load tI (.tm 34)) <|
.op (some 36) (.bin .neq (.tm 35) (.k tI (0 : Int))) <|
.nil) tB (.tm 36) (.k tB true) 37 <|
.nil)) (.cond (.tm 37) (.seq (.region (
.op (some 2) (.mv (.k tI (16 : Int))) <|
.nil)) .ret) .skip)) (.seq (.seq (.region (
.op (some 38) (.fldA 0 (.list tI) (.tm 1)) <|
.op (some 39) (.load (.list tI) (.tm 38)) <|
.op (some 40) (.len false (.tm 39)) <|
.op (some 41) (.mv (.k tI (0 : Int))) <|
.nil)) (.block 0 (.loop ⟨[1, 39, 40], ⟨[], []⟩, [.tm 41 tI]⟩ [(1, ⟨[], ⟨[], []⟩, [.tm 2 tI]⟩), (3, ⟨[1], ⟨[], []⟩, []⟩)] (.seq (.region (
.op (some 42) (.bin .lss (.tm 41) (.tm 40)) <|
.nil)) (.seq (.cond (.tm 42) .skip (.exit 0)) (.seq (.block 1 (.seq (.region (
.op (some 43) (.mv (.tm 41)) <|
.op (some 44) (.idxA tI (.tm 39) (.tm 41)) <|
.op (some 45) (.load tI (.tm 44)) <|
.op (some 3) (.mv (.tm 43)) <|
.op (some 4) (.mv (.tm 45)) <|
.nil)) (.seq (.region (
.op (some 46) (.mv (.tm 4)) <|
.op (some 47) (.bin .gtr (.tm 46) (.k tI (4294967295 : Int))) <|
.op (some 48) (.mv (.tm 47)) <|
.gb 48 false (
.op (some 49) (.mv (.tm 3)) <|
.op (some 50) (.bin .gtr (.tm 49) (.k tI (0 : Int))) <|
.op (some 51) (.mv (.tm 50)) <|
.gb 51 true (
.op (some 52) (.mv (.tm 4)) <|
.op (some 53) (.fldA 0 (.list tI) (.tm 1)) <|
.op (some 54) (.load (.list tI) (.tm 53)) <|
.op (some 55) (.mv (.tm 3)) <|
.op (some 56) (.bin .sub (.tm 55) (.k tI (1 : Int))) <|
.op (some 57) (.idxA tI (.tm 54) (.tm 56)) <|
.op (some 58) (.load tI (.tm 57)) <|
.op (some 59) (.bin .leq (.tm 52) (.tm 58)) <|
.nil) tB (.tm 59) (.k tB false) 60 <|
.nil) tB (.tm 60) (.k tB true) 61 <|
.nil)) (.cond (.tm 61) (.seq (.region (
.op (some 2) (.mv (.k tI (16 : Int))) <|
.nil)) .ret) .skip)))) (.region (
.op (some 62) (.bin .add (.tm 41) (.k tI (1 : Int))) <|
.op (some 41) (.mv (.tm 62)) <|
.nil)))))))) (.seq (.seq (.region (
.op (some 63) (.fldA 1 (.list (.list tI)) (.tm 1)) <|
.op (some 64) (.load (.list (.list tI)) (.tm 63)) <|
.op (some 65) (.len false (.tm 64)) <|
.op (some 66) (.bin .eql (.tm 65) (.k tI (0 : Int))) <|
.op (some 67) (.mv (.tm 66)) <|
.gb 67 false (
.op (some 68) (.fldA 1 (.list (.list tI)) (.tm 1)) <|
.op (some 69) (.load (.list (.list tI)) (.tm 68)) <|
.op (some 70) (.len false (.tm 69)) <|
.op (some 71) (.fldA 2 (.list tB) (.tm 1)) <|
.op (some 72) (.load (.list tB) (.tm 71)) <|
.op (some 73) (.len false (.tm 72)) <|
.op (some 74) (.bin .neq (.tm 70) (.tm 73)) <|
.nil) tB (.tm 74) (.k tB true) 75 <|
.nil)) (.cond (.tm 75) (.seq (.region (
.op (some 2) (.mv (.k tI (14 : Int))) <|
.nil)) .ret) .skip)) (.seq (.seq (.region (
.op (some 76) (.fldA 1 (.list (.list tI)) (.tm 1)) <|
.op (some 77) (.load (.list (.list tI)) (.tm 76)) <|
.op (some 78) (.len false (.tm 77)) <|
.op (some 79) (.mv (.k tI (0 : Int))) <|
.nil)) (.block 2 (.loop ⟨[1, 77, 78], ⟨[], []⟩, [.tm 79 tI]⟩ [(1, ⟨[], ⟨[], []⟩, [.tm 2 tI]⟩), (5, ⟨[1], ⟨[], []⟩, []⟩)] (.seq (.region (
.op (some 80) (.bin .lss (.tm 79) (.tm 78)) <|
.nil)) (.seq (.cond (.tm 80) .skip (.exit 2)) (.seq (.block 3 (.seq (.region (
.op (some 81) (.idxA (.list tI) (.tm 77) (.tm 79)) <|
.op (some 82) (.load (.list tI) (.tm 81)) <|
.op (some 6) (.mv (.tm 82)) <|
.nil)) (.seq (.region (
.op (some 83) (.mv (.tm 6)) <|
.op (some 84) (.len false (.tm 83)) <|
.op (some 85) (.fldA 0 (.list tI) (.tm 1)) <|
.op (some 86) (.load (.list tI) (.tm 85)) <|
.op (some 87) (.len false (.tm 86)) <|
.op (some 88) (.bin .neq (.tm 84) (.tm 87)) <|
.nil)) (.cond (.tm 88) (.seq (.region (
.op (some 2) (.mv (.k tI (14 : Int))) <|
.nil)) .ret) .skip)))) (.region (
.op (some 89) (.bin .add (.tm 79) (.k tI (1 : Int))) <|
.op (some 79) (.mv (.tm 89)) <|
.nil)))))))) (.seq (.seq (.region (
.op (some 90) (.fldA 3 tI (.tm 1)) <|
.op (some 91) (.load tI (.tm 90)) <|
.op (some 92) (.bin .lss (.tm 91) (.k tI (0 : Int))) <|
.op (some 93) (.mv (.tm 92)) <|
.gb 93 false (
.op (some 94) (.fldA 3 tI (.tm 1)) <|
.op (some 95) (.load tI (.tm 94)) <|
.op (some 96) (.fldA 1 (.list (.list tI)) (.tm 1)) <|
.op (some 97) (.load (.list (.list tI)) (.tm 96)) <|
.op (some 98) (.len false (.tm 97)) <|
.op (some 99) (.bin .geq (.tm 95) (.tm 98)) <|
.nil) tB (.tm 99) (.k tB true) 100 <|
.nil)) (.cond (.tm 100) (.seq (.region (
.op (some 2) (.mv (.k tI (5 : Int))) <|
.nil)) .ret) .skip)) (.seq (.seq (.region (
.op (some 101) (.fldA 1 (.list (.list tI)) (.tm 1)) <|
.op (some 102) (.load (.list (.list tI)) (.tm 101)) <|
.op (some 103) (.len false (.tm 102)) <|
.op (some 104) (.mv (.k tI (0 : Int))) <|
.nil)) (.block 4 (.loop ⟨[1, 102, 103], ⟨[], []⟩, [.tm 104 tI]⟩ [(1, ⟨[], ⟨[], []⟩, [.tm 2 tI]⟩), (7, ⟨[], ⟨[], []⟩, []⟩)] (.seq (.region (
.op (some 105) (.bin .lss (.tm 104) (.tm 103)) <|
.nil)) (.seq (.cond (.tm 105) .skip (.exit 4)) (.seq (.block 5 (.seq (.region (
.op (some 106) (.idxA (.list tI) (.tm 102) (.tm 104)) <|
.op (some 107) (.load (.list tI) (.tm 106)) <|
.op (some 8) (.mv (.tm 107)) <|
.nil)) (.seq (.region (
.op (some 108) (.mv (.tm 8)) <|
.op (some 109) (.len false (.tm 108)) <|
.op (some 110) (.mv (.k tI (0 : Int))) <|
.nil)) (.block 6 (.loop ⟨[1, 102, 103, 104, 108, 109], ⟨[], []⟩, [.tm 110 tI]⟩ [(1, ⟨[], ⟨[], []⟩, [.tm 2 tI]⟩), (9, ⟨[1, 102, 103, 104], ⟨[], []⟩, []⟩)] (.seq (.region (
.op (some 111) (.bin .lss (.tm 110) (.tm 109)) <|
.nil)) (.seq (.cond (.tm 111) .skip (.exit 6)) (.seq (.block 7 (.seq (.region (
.op (some 112) (.idxA tI (.tm 108) (.tm 110)) <|
.op (some 113) (.load tI (.tm 112)) <|
.op (some 10) (.mv (.tm 113)) <|
.nil)) (.seq (.region (
.op (some 114) (.mv (.tm 10)) <|
.op (some 115) (.bin .lss (.tm 114) (.k tI (0 : Int))) <|
.op (some 116) (.mv (.tm 115)) <|
.gb 116 false (
.op (some 117) (.mv (.tm 10)) <|
.op (some 118) (.fldA 1 (.list (.list tI)) (.tm 1)) <|
.op (some 119) (.load (.list (.list tI)) (.tm 118)) <|
.op (some 120) (.len false (.tm 119)) <|
.op (some 121) (.bin .geq (.tm 117) (.tm 120)) <|
.nil) tB (.tm 121) (.k tB true) 122 <|
.nil)) (.cond (.tm 122) (.seq (.region (
.op (some 2) (.mv (.k tI (5 : Int))) <|
.nil)) .ret) .skip)))) (.region (
.op (some 123) (.bin .add (.tm 110) (.k tI (1 : Int))) <|
.op (some 110) (.mv (.tm 123)) <|
.nil)))))))))) (.region (
.op (some 124) (.bin .add (.tm 104) (.k tI (1 : Int))) <|
.op (some 104) (.mv (.tm 124)) <|
.nil)))))))) (.seq (.region (
.op (some 2) (.mv (.k tI (0 : Int))) <|
.nil)) .ret))))))))), [.tm 2], 125, q_ref16_Check, 0⟩
def L_ref16_Check_0 (O : Oracle) (n : Nat) (d : ((List Int) × ((List (List Int)) × ((List Bool) × (Int × Unit))))) (s : (Int × Unit)) : Option ((Int × Unit) ⊕ (Int × Unit) ⊕ Unit) :=
 bif decide (s.1 < (d.1.length : Int)) then
 Option.bind (getI d.1 s.1) fun v5 =>
 Option.bind (bif decide (v5 > (4294967295 : Int)) then some (true) else
 Option.bind (bif decide (s.1 > (0 : Int)) then
 Option.bind (getI d.1 (IntKind.wrap .i64 (s.1 - (1 : Int)))) fun v6 =>
 some (decide (v5 ≤ v6))
else some (false)) fun v7 =>
 some (v7)) fun v8 =>
 bif v8 then
 some (.inr (.inl (((16 : Int), ()))))
else
 some (.inl (IntKind.wrap .i64 (s.1 + (1 : Int)), ()))
else
 some (.inr (.inr (())))
def L_ref16_Check_1 (O : Oracle) (n : Nat) (d : ((List Int) × ((List (List Int)) × ((List Bool) × (Int × Unit))))) (v13 : (Int × Unit)) : Option ((Int × Unit) ⊕ (Int × Unit) ⊕ Unit) :=
 bif decide (v13.1 < (d.2.1.length : Int)) then
 Option.bind (getI d.2.1 v13.1) fun v14 =>
 bif ((v14.length : Int) != (d.1.length : Int)) then
 some (.inr (.inl (((14 : Int), ()))))
else
 some (.inl (IntKind.wrap .i64 (v13.1 + (1 : Int)), ()))
else
 some (.inr (.inr (())))
def L_ref16_Check_2 (O : Oracle) (n : Nat) (d : ((List Int) × ((List (List Int)) × ((List Bool) × (Int × Unit))))) (v20 : (List Int)) (v21 : (Int × Unit)) : Option ((Int × Unit) ⊕ (Int × Unit) ⊕ Unit) :=
 bif decide (v21.1 < (v20.length : Int)) then
 Option.bind (getI v20 v21.1) fun v22 =>
 Option.bind (bif decide (v22 < (0 : Int)) then some (true) else
 some (decide (v22 ≥ (d.2.1.length : Int)))) fun v23 =>
 bif v23 then
 some (.inr (.inl (((5 : Int), ()))))
else
 some (.inl (IntKind.wrap .i64 (v21.1 + (1 : Int)), ()))
else
 some (.inr (.inr (())))
def L_ref16_Check_3 (O : Oracle) (n : Nat) (d : ((List Int) × ((List (List Int)) × ((List Bool) × (Int × Unit))))) (v19 : (Int × Unit)) : Option ((Int × Unit) ⊕ (Int × Unit) ⊕ Unit) :=
 bif decide (v19.1 < (d.2.1.length : Int)) then
 Option.bind (getI d.2.1 v19.1) fun v20 =>
 Option.bind (loopN n (L_ref16_Check_2 O n d v20) ((0 : Int), ())) fun (v24 : (Int × Unit) ⊕ Unit) =>
 Sum.elim (fun v25 =>
 some (.inr (.inl ((v25.1, ()))))) (fun v26 =>
 some (.inl (IntKind.wrap .i64 (v19.1 + (1 : Int)), ()))) v24
else
 some (.inr (.inr (())))
def G_ref16_Check (O : Oracle) (n : Nat) (d : ((List Int) × ((List (List Int)) × ((List Bool) × (Int × Unit))))) : Option (Option S) :=
 Option.bind (bif decide ((d.2.2.1.length : Int) > (4096 : Int)) then some (true) else
 some (decide ((d.2.1.length : Int) > (4096 : Int)))) fun v =>
 Option.bind (bif v then some (true) else
 some (decide ((d.1.length : Int) > (2000 : Int)))) fun v1 =>
 bif v1 then
 retQ q_ref16_Check ((4 : Int), ())
else
 Option.bind (bif ((d.1.length : Int) == (0 : Int)) then some (true) else
 Option.bind (getI d.1 (0 : Int)) fun v2 =>
 some ((v2 != (0 : Int)))) fun v3 =>
 bif v3 then
 retQ q_ref16_Check ((16 : Int), ())
else
 Option.bind (loopN n (L_ref16_Check_0 O n d) ((0 : Int), ())) fun (v9 : (Int × Unit) ⊕ Unit) =>
 Sum.elim (fun v10 =>
 retQ q_ref16_Check (v10.1, ())) (fun v11 =>
 Option.bind (bif ((d.2.1.length : Int) == (0 : Int)) then some (true) else
 some (((d.2.1.length : Int) != (d.2.2.1.length : Int)))) fun v12 =>
 bif v12 then
 retQ q_ref16_Check ((14 : Int), ())
else
 Option.bind (loopN n (L_ref16_Check_1 O n d) ((0 : Int), ())) fun (v15 : (Int × Unit) ⊕ Unit) =>
 Sum.elim (fun v16 =>
 retQ q_ref16_Check (v16.1, ())) (fun v17 =>
 Option.bind (bif decide (d.2.2.2.1 < (0 : Int)) then some (true) else
 some (decide (d.2.2.2.1 ≥ (d.2.1.length : Int)))) fun v18 =>
 bif v18 then
 retQ q_ref16_Check ((5 : Int), ())
else
 Option.bind (loopN n (L_ref16_Check_3 O n d) ((0 : Int), ())) fun (v27 : (Int × Unit) ⊕ Unit) =>
 Sum.elim (fun v28 =>
 retQ q_ref16_Check (v28.1, ())) (fun v29 =>
 retQ q_ref16_Check ((0 : Int), ())) v27) v15) v9
theorem x_ref16_Check (O : Oracle) (n : Nat) (d : ((List Int) × ((List (List Int)) × ((List Bool) × (Int × Unit))))) : evF1 O n f_ref16_Check [.d (pr [(.list tI), (.list (.list tI)), (.list tB), tI]) d] [] = G_ref16_Check O n d := by kernel_rfl
def q_law16_first : Sh := ⟨[], ⟨[], []⟩, [.tm 0 .rx]⟩
def f_law16_first : TF := ⟨(.seq (.region (
.op (some 0) (.alloc 33 [.d tI (0 : Int), .d tI (0 : Int), .d tI (0 : Int), .nil .rx]) <|
.nil)) (.seq (.region (
.op (some 1) (.build [.d tI (0 : Int), .d tI (0 : Int), .d tI (0 : Int), .nil .rx] [(0, 1, .k tI (1 : Int)), (1, 1, .k tI (65001 : Int)), (2, 1, .k tI (65001 : Int))]) <|
.op (some 2) (.build [.d tI (0 : Int), .d tI (0 : Int), .d tI (0 : Int), .nil .rx] [(0, 1, .k tI (2 : Int))]) <|
.op (some 3) (.bslice false 33 .rx 1 [.tm 2]) <|
.op (some 4) (.build [.d tI (0 : Int), .d tI (0 : Int), .d tI (0 : Int), .nil .rx] [(0, 1, .k tI (5 : Int)), (3, 1, .tm 3)]) <|
.op (some 5) (.bslice false 33 .rx 2 [.tm 1, .tm 4]) <|
.op (some 6) (.build [.d tI (0 : Int), .d tI (0 : Int), .d tI (0 : Int), .nil .rx] [(0, 1, .k tI (3 : Int)), (3, 1, .tm 5)]) <|
.op none (.store .rx (.tm 0) (.tm 6)) <|
.nil)) .ret)), [.cell 0 .rx], 7, q_law16_first, 0⟩
def q_regex_kids : Sh := ⟨[], ⟨[], []⟩, [.tm 0 tB, .tm 1 tB]⟩
def f_regex_kids : TF := ⟨(.seq (.region (
.op (some 4) (.mv (.k tB false)) <|
.op (some 5) (.mv (.k tB false)) <|
.nil)) (.seq (.seq (.region (
.op (some 6) (.mv (.tm 0)) <|
.nil)) (.block 0 (.seq (.cut [(0, ⟨[1, 6], ⟨[], []⟩, [.tm 7 tB]⟩)] (.seq (.region (
.op (some 8) (.bin .eql (.tm 6) (.k tI (0 : Int))) <|
.op (some 7) (.mv (.tm 8)) <|
.nil)) (.cond (.tm 7) .skip (.seq (.region (
.op (some 9) (.bin .eql (.tm 6) (.k tI (1 : Int))) <|
.op (some 7) (.mv (.tm 9)) <|
.nil)) (.cond (.tm 7) .skip (.region (
.op (some 10) (.bin .eql (.tm 6) (.k tI (2 : Int))) <|
.op (some 7) (.mv (.tm 10)) <|
.nil))))))) (.cond (.tm 7) (.seq (.region (
.op (some 11) (.mv (.tm 1)) <|
.op (some 12) (.bin .eql (.tm 11) (.k tI (0 : Int))) <|
.op (some 4) (.mv (.k tB true)) <|
.op (some 5) (.mv (.tm 12)) <|
.nil)) .ret) (.seq (.region (
.op (some 14) (.bin .eql (.tm 6) (.k tI (3 : Int))) <|
.op (some 13) (.mv (.tm 14)) <|
.nil)) (.cond (.tm 13) (.seq (.region (
.op (some 15) (.mv (.tm 1)) <|
.op (some 16) (.bin .geq (.tm 15) (.k tI (2 : Int))) <|
.op (some 4) (.mv (.k tB true)) <|
.op (some 5) (.mv (.tm 16)) <|
.nil)) .ret) (.seq (.region (
.op (some 18) (.bin .eql (.tm 6) (.k tI (4 : Int))) <|
.op (some 17) (.mv (.tm 18)) <|
.nil)) (.cond (.tm 17) (.seq (.region (
.op (some 19) (.mv (.tm 1)) <|
.op (some 20) (.bin .neq (.tm 19) (.k tI (1 : Int))) <|
.op (some 4) (.mv (.k tB true)) <|
.op (some 5) (.mv (.tm 20)) <|
.nil)) .ret) (.seq (.cut [(0, ⟨[1], ⟨[], []⟩, [.tm 21 tB]⟩)] (.seq (.region (
.op (some 22) (.bin .eql (.tm 6) (.k tI (5 : Int))) <|
.op (some 21) (.mv (.tm 22)) <|
.nil)) (.cond (.tm 21) .skip (.seq (.region (
.op (some 23) (.bin .eql (.tm 6) (.k tI (6 : Int))) <|
.op (some 21) (.mv (.tm 23)) <|
.nil)) (.cond (.tm 21) .skip (.region (
.op (some 24) (.bin .eql (.tm 6) (.k tI (7 : Int))) <|
.op (some 21) (.mv (.tm 24)) <|
.nil))))))) (.cond (.tm 21) (.seq (.region (
.op (some 25) (.mv (.tm 1)) <|
.op (some 26) (.bin .eql (.tm 25) (.k tI (1 : Int))) <|
.op (some 4) (.mv (.k tB true)) <|
.op (some 5) (.mv (.tm 26)) <|
.nil)) .ret) .skip)))))))))) (.seq (.region (
.op (some 4) (.mv (.k tB false)) <|
.op (some 5) (.mv (.k tB false)) <|
.nil)) .ret))), [.tm 4, .tm 5], 27, q_regex_kids, 0⟩
def q_regex_node : Sh := ⟨[], ⟨[], []⟩, [.tm 0 tI]⟩
def f_regex_node : TF := ⟨(.seq (.region (
.op (some 1) (.boxD 33 .rx (.tm 0)) <|
.op (some 2) (.mv (.k tI (0 : Int))) <|
.nil)) (.seq (.region (
.op (some 6) (.fldA 0 tI (.tm 1)) <|
.op (some 7) (.load tI (.tm 6)) <|
.op (some 8) (.fldA 3 (.list .rx) (.tm 1)) <|
.op (some 9) (.load (.list .rx) (.tm 8)) <|
.op (some 10) (.len false (.tm 9)) <|
.op (some 11) (.call false N_regex_kids [(.d tI, .tm 7), (.d tI, .tm 10)] q_regex_kids) <|
.op (some 5) (.mv (.tm 11)) <|
.op (some 12) (.ext (.tm 5) 0) <|
.op (some 13) (.ext (.tm 5) 1) <|
.op (some 3) (.mv (.tm 12)) <|
.op (some 4) (.mv (.tm 13)) <|
.nil)) (.seq (.block 0 (.seq (.region (
.op (some 15) (.mv (.tm 3)) <|
.op (some 16) (.un .not (.tm 15)) <|
.op (some 14) (.mv (.tm 16)) <|
.nil)) (.cond (.tm 14) (.seq (.region (
.op (some 2) (.mv (.k tI (15 : Int))) <|
.nil)) .ret) (.seq (.region (
.op (some 18) (.fldA 0 tI (.tm 1)) <|
.op (some 19) (.load tI (.tm 18)) <|
.op (some 20) (.bin .eql (.tm 19) (.k tI (1 : Int))) <|
.op (some 21) (.mv (.tm 20)) <|
.gb 21 true (
.op (some 22) (.fldA 1 tI (.tm 1)) <|
.op (some 23) (.load tI (.tm 22)) <|
.op (some 24) (.bin .lss (.tm 23) (.k tI (0 : Int))) <|
.op (some 25) (.mv (.tm 24)) <|
.gb 25 false (
.op (some 26) (.fldA 1 tI (.tm 1)) <|
.op (some 27) (.load tI (.tm 26)) <|
.op (some 28) (.fldA 2 tI (.tm 1)) <|
.op (some 29) (.load tI (.tm 28)) <|
.op (some 30) (.bin .gtr (.tm 27) (.tm 29)) <|
.nil) tB (.tm 30) (.k tB true) 31 <|
.op (some 32) (.mv (.tm 31)) <|
.gb 32 false (
.op (some 33) (.fldA 2 tI (.tm 1)) <|
.op (some 34) (.load tI (.tm 33)) <|
.op (some 35) (.bin .gtr (.tm 34) (.k tI (4294967295 : Int))) <|
.nil) tB (.tm 35) (.k tB true) 36 <|
.nil) tB (.tm 36) (.k tB false) 37 <|
.op (some 17) (.mv (.tm 37)) <|
.nil)) (.cond (.tm 17) (.seq (.region (
.op (some 2) (.mv (.k tI (5 : Int))) <|
.nil)) .ret) (.seq (.cut [(0, ⟨[], ⟨[], []⟩, [.tm 38 tB]⟩)] (.seq (.region (
.op (some 39) (.fldA 0 tI (.tm 1)) <|
.op (some 40) (.load tI (.tm 39)) <|
.op (some 41) (.bin .neq (.tm 40) (.k tI (1 : Int))) <|
.op (some 42) (.mv (.tm 41)) <|
.gb 42 true (
.op (some 43) (.fldA 1 tI (.tm 1)) <|
.op (some 44) (.load tI (.tm 43)) <|
.op (some 45) (.bin .neq (.tm 44) (.k tI (0 : Int))) <|
.op (some 46) (.mv (.tm 45)) <|
.gb 46 false (
.op (some 47) (.fldA 2 tI (.tm 1)) <|
.op (some 48) (.load tI (.tm 47)) <|
.op (some 49) (.bin .neq (.tm 48) (.k tI (0 : Int))) <|
.nil) tB (.tm 49) (.k tB true) 50 <|
.nil) tB (.tm 50) (.k tB false) 51 <|
.op (some 38) (.mv (.tm 51)) <|
.nil)) (.cond (.tm 38) .skip (.region (
.op (some 52) (.mv (.tm 4)) <|
.op (some 53) (.un .not (.tm 52)) <|
.op (some 38) (.mv (.tm 53)) <|
.nil))))) (.cond (.tm 38) (.seq (.region (
.op (some 2) (.mv (.k tI (1 : Int))) <|
.nil)) .ret) .skip))))))) (.seq (.region (
.op (some 2) (.mv (.k tI (0 : Int))) <|
.nil)) .ret)))), [.tm 2], 54, q_regex_node, 0⟩
def q_regex_check_ddr : Sh := ⟨[], ⟨[], [.box T_i64 [.any]]⟩, [.tm 0 tI, .cell 0 0 tI]⟩
def f_regex_check_ddr : TF := ⟨(.seq (.region (
.op (some 3) (.boxD 33 .rx (.tm 0)) <|
.op (some 6) (.mv (.k tI (0 : Int))) <|
.nil)) (.seq (.seq (.region (
.op (some 11) (.mv (.tm 1)) <|
.op (some 12) (.bin .gtr (.tm 11) (.k tI (16 : Int))) <|
.nil)) (.cond (.tm 12) (.seq (.region (
.op (some 6) (.mv (.k tI (24 : Int))) <|
.nil)) .ret) .skip)) (.seq (.seq (.region (
.op (some 13) (.mv (.tm 2)) <|
.op (some 14) (.nilc (.tm 13)) <|
.op (some 15) (.load tI (.tm 14)) <|
.op (some 16) (.bin .geq (.tm 15) (.k tI (64 : Int))) <|
.nil)) (.cond (.tm 16) (.seq (.region (
.op (some 6) (.mv (.k tI (4 : Int))) <|
.nil)) .ret) .skip)) (.seq (.region (
.op (some 17) (.mv (.tm 2)) <|
.op (some 18) (.nilc (.tm 17)) <|
.op (some 19) (.load tI (.tm 18)) <|
.op (some 20) (.bin .add (.tm 19) (.k tI (1 : Int))) <|
.op (some 21) (.nilc (.tm 17)) <|
.op none (.store tI (.tm 21) (.tm 20)) <|
.nil)) (.seq (.seq (.region (
.op (some 22) (.load .rx (.tm 3)) <|
.op (some 23) (.call false N_regex_node [(.d .rx, .tm 22)] q_regex_node) <|
.op (some 7) (.mv (.tm 23)) <|
.nil)) (.seq (.region (
.op (some 24) (.mv (.tm 7)) <|
.op (some 25) (.bin .neq (.tm 24) (.k tI (0 : Int))) <|
.nil)) (.cond (.tm 25) (.seq (.region (
.op (some 26) (.mv (.tm 7)) <|
.op (some 6) (.mv (.tm 26)) <|
.nil)) .ret) .skip))) (.seq (.seq (.region (
.op (some 27) (.fldA 3 (.list .rx) (.tm 3)) <|
.op (some 28) (.load (.list .rx) (.tm 27)) <|
.op (some 29) (.len false (.tm 28)) <|
.op (some 30) (.mv (.k tI (0 : Int))) <|
.nil)) (.block 0 (.loop ⟨[1, 28, 29], ⟨[(2, .ptr 0 0)], [.box T_i64 [.any]]⟩, [.tm 30 tI, .cell 0 0 tI]⟩ [(1, ⟨[], ⟨[(2, .ptr 0 0)], [.box T_i64 [.any]]⟩, [.tm 6 tI, .cell 0 0 tI]⟩), (3, ⟨[], ⟨[(2, .ptr 0 0)], [.box T_i64 [.any]]⟩, [.cell 0 0 tI]⟩)] (.seq (.region (
.op (some 31) (.bin .lss (.tm 30) (.tm 29)) <|
.nil)) (.seq (.cond (.tm 31) .skip (.exit 0)) (.seq (.block 1 (.seq (.region (
.op (some 32) (.idxA .rx (.tm 28) (.tm 30)) <|
.op (some 33) (.load .rx (.tm 32)) <|
.op (some 9) (.alloc 33 [.d tI (0 : Int), .d tI (0 : Int), .d tI (0 : Int), .nil .rx]) <|
.op none (.store .rx (.tm 9) (.tm 33)) <|
.nil)) (.seq (.region (
.op (some 34) (.load .rx (.tm 9)) <|
.op (some 35) (.mv (.tm 1)) <|
.op (some 36) (.bin .add (.tm 35) (.k tI (1 : Int))) <|
.op (some 37) (.mv (.tm 2)) <|
.op (some 38) (.callA false false [0] N_regex_check_ddr [(.d .rx, .tm 34), (.d tI, .tm 36), (.x, .tm 37)] q_regex_check_ddr) <|
.op (some 10) (.mv (.tm 38)) <|
.nil)) (.seq (.region (
.op (some 39) (.mv (.tm 10)) <|
.op (some 40) (.bin .neq (.tm 39) (.k tI (0 : Int))) <|
.nil)) (.cond (.tm 40) (.seq (.region (
.op (some 41) (.mv (.tm 10)) <|
.op (some 6) (.mv (.tm 41)) <|
.nil)) (.adj [.sel [0] [2, 6]] .ret)) .skip))))) (.after (.region (
.op (some 42) (.bin .add (.tm 30) (.k tI (1 : Int))) <|
.op (some 30) (.mv (.tm 42)) <|
.nil)) [.sel [0] [1, 2, 28, 29, 30]]))))))) (.seq (.region (
.op (some 6) (.mv (.k tI (0 : Int))) <|
.nil)) .ret))))))), [.tm 6], 43, q_regex_check_ddr, 1⟩
def q_regex_Check : Sh := ⟨[], ⟨[], []⟩, [.tm 0 tI]⟩
def f_regex_Check : TF := ⟨(.seq (.region (
.op (some 1) (.boxD 33 .rx (.tm 0)) <|
.op (some 2) (.mv (.k tI (0 : Int))) <|
.nil)) (.seq (.region (
.op (some 3) (.alloc 3 [.d tI (0 : Int)]) <|
.op none (.store tI (.tm 3) (.k tI (0 : Int))) <|
.nil)) (.seq (.region (
.op (some 4) (.load .rx (.tm 1)) <|
.op (some 5) (.callA false false [0] N_regex_check_ddr [(.d .rx, .tm 4), (.d tI, .k tI (1 : Int)), (.x, .tm 3)] q_regex_check_ddr) <|
.op (some 2) (.mv (.tm 5)) <|
.nil)) .ret))), [.tm 2], 6, q_regex_Check, 0⟩
def q_dfa_positions_add_rdd : Sh := ⟨[], ⟨[], [.box T_str_dfa_positions [.sl 1, .sl 2, .sl 3], .vec T_i64 tI [], .vec T_i64 tI [], .vec T_u64 tQ []]⟩, [.tm 0 (pr [tQ, tQ, tB]), .vec 1 3 tI, .vec 2 3 tI, .vec 3 53 tQ]⟩
def f_dfa_positions_add_rdd : TF := ⟨(.seq (.region (
.op (some 6) (.alloc 55 [.d tQ (0 : Int), .d tQ (0 : Int), .d tB false]) <|
.nil)) (.seq (.region (
.op (some 8) (.mv (.tm 0)) <|
.op (some 9) (.nilc (.tm 8)) <|
.op (some 10) (.fldA 0 (.list tI) (.tm 9)) <|
.op (some 11) (.load (.list tI) (.tm 10)) <|
.op (some 12) (.len false (.tm 11)) <|
.op (some 13) (.cvtI .u64 (.tm 12)) <|
.op (some 14) (.bin .shl (.k tQ (1 : Int)) (.tm 13)) <|
.op (some 7) (.mv (.tm 14)) <|
.nil)) (.seq (.region (
.op (some 15) (.mv (.tm 0)) <|
.op (some 16) (.mv (.tm 0)) <|
.op (some 17) (.nilc (.tm 16)) <|
.op (some 18) (.fldA 0 (.list tI) (.tm 17)) <|
.op (some 19) (.load (.list tI) (.tm 18)) <|
.op (some 20) (.mv (.tm 1)) <|
.op (some 21) (.bslice false 3 tI 1 [.tm 20]) <|
.op (some 22) (.append 3 tI 8 (.tm 19) (.tm 21)) <|
.op (some 23) (.nilc (.tm 15)) <|
.op (some 24) (.fldA 0 (.list tI) (.tm 23)) <|
.op none (.store (.list tI) (.tm 24) (.tm 22)) <|
.nil)) (.seq (.region (
.op (some 25) (.mv (.tm 0)) <|
.op (some 26) (.mv (.tm 0)) <|
.op (some 27) (.nilc (.tm 26)) <|
.op (some 28) (.fldA 1 (.list tI) (.tm 27)) <|
.op (some 29) (.load (.list tI) (.tm 28)) <|
.op (some 30) (.mv (.tm 2)) <|
.op (some 31) (.bslice false 3 tI 1 [.tm 30]) <|
.op (some 32) (.append 3 tI 8 (.tm 29) (.tm 31)) <|
.op (some 33) (.nilc (.tm 25)) <|
.op (some 34) (.fldA 1 (.list tI) (.tm 33)) <|
.op none (.store (.list tI) (.tm 34) (.tm 32)) <|
.nil)) (.seq (.region (
.op (some 35) (.mv (.tm 0)) <|
.op (some 36) (.mv (.tm 0)) <|
.op (some 37) (.nilc (.tm 36)) <|
.op (some 38) (.fldA 2 (.list tQ) (.tm 37)) <|
.op (some 39) (.load (.list tQ) (.tm 38)) <|
.op (some 40) (.bslice false 53 tQ 1 [.k tQ (0 : Int)]) <|
.op (some 41) (.append 53 tQ 8 (.tm 39) (.tm 40)) <|
.op (some 42) (.nilc (.tm 35)) <|
.op (some 43) (.fldA 2 (.list tQ) (.tm 42)) <|
.op none (.store (.list tQ) (.tm 43) (.tm 41)) <|
.nil)) (.seq (.region (
.op (some 44) (.mv (.tm 7)) <|
.op (some 45) (.mv (.tm 7)) <|
.op (some 46) (.build [.d tQ (0 : Int), .d tQ (0 : Int), .d tB false] [(0, 1, .tm 44), (1, 1, .tm 45)]) <|
.op none (.store (pr [tQ, tQ, tB]) (.tm 6) (.tm 46)) <|
.nil)) .ret)))))), [.cell 6 (pr [tQ, tQ, tB])], 47, q_dfa_positions_add_rdd, 4⟩
def q_dfa_positions_link_rdd : Sh := ⟨[], ⟨[], [.box T_str_dfa_positions [.sl 1, .sl 2, .sl 3], .vec T_i64 tI [], .vec T_i64 tI [], .vec T_u64 tQ []]⟩, [.vec 1 3 tI, .vec 2 3 tI, .vec 3 53 tQ]⟩
def f_dfa_positions_link_rdd : TF := ⟨(.seq (.region (
.op (some 7) (.mv (.tm 0)) <|
.op (some 8) (.nilc (.tm 7)) <|
.op (some 9) (.fldA 2 (.list tQ) (.tm 8)) <|
.op (some 10) (.load (.list tQ) (.tm 9)) <|
.op (some 11) (.len false (.tm 10)) <|
.op (some 12) (.mv (.k tI (0 : Int))) <|
.nil)) (.block 0 (.loop ⟨[1, 2, 11], ⟨[(0, .ptr 0 0)], [.box T_str_dfa_positions [.sl 1, .sl 2, .sl 3], .vec T_i64 tI [], .vec T_i64 tI [], .vec T_u64 tQ []]⟩, [.tm 12 tI, .vec 1 3 tI, .vec 2 3 tI, .vec 3 53 tQ]⟩ [(3, ⟨[], ⟨[(0, .ptr 0 0)], [.box T_str_dfa_positions [.sl 1, .sl 2, .sl 3], .vec T_i64 tI [], .vec T_i64 tI [], .vec T_u64 tQ []]⟩, [.vec 1 3 tI, .vec 2 3 tI, .vec 3 53 tQ]⟩)] (.seq (.region (
.op (some 13) (.bin .lss (.tm 12) (.tm 11)) <|
.nil)) (.seq (.cond (.tm 13) .skip (.exit 0)) (.seq (.cut [(0, ⟨[1, 2, 11, 12], ⟨[(0, .ptr 0 0)], [.box T_str_dfa_positions [.sl 1, .sl 2, .sl 3], .vec T_i64 tI [], .vec T_i64 tI [], .vec T_u64 tQ []]⟩, [.vec 1 3 tI, .vec 2 3 tI, .vec 3 53 tQ]⟩)] (.block 1 (.seq (.region (
.op (some 14) (.mv (.tm 12)) <|
.op (some 6) (.mv (.tm 14)) <|
.nil)) (.seq (.region (
.op (some 15) (.mv (.tm 1)) <|
.op (some 16) (.mv (.tm 6)) <|
.op (some 17) (.cvtI .u64 (.tm 16)) <|
.op (some 18) (.bin .shr (.tm 15) (.tm 17)) <|
.op (some 19) (.bin .and (.tm 18) (.k tQ (1 : Int))) <|
.op (some 20) (.bin .eql (.tm 19) (.k tQ (1 : Int))) <|
.nil)) (.cond (.tm 20) (.region (
.op (some 21) (.mv (.tm 0)) <|
.op (some 22) (.nilc (.tm 21)) <|
.op (some 23) (.fldA 2 (.list tQ) (.tm 22)) <|
.op (some 24) (.load (.list tQ) (.tm 23)) <|
.op (some 25) (.mv (.tm 6)) <|
.op (some 26) (.idxA tQ (.tm 24) (.tm 25)) <|
.op (some 27) (.load tQ (.tm 26)) <|
.op (some 28) (.mv (.tm 2)) <|
.op (some 29) (.bin .or (.tm 27) (.tm 28)) <|
.op (some 30) (.idxA tQ (.tm 24) (.tm 25)) <|
.op none (.store tQ (.tm 30) (.tm 29)) <|
.nil)) .skip))))) (.region (
.op (some 31) (.bin .add (.tm 12) (.k tI (1 : Int))) <|
.op (some 12) (.mv (.tm 31)) <|
.nil)))))))), [], 32, q_dfa_positions_link_rdd, 4⟩
def q_dfa_positions_walk_rd : Sh := ⟨[], ⟨[], [.box T_str_dfa_positions [.sl 1, .sl 2, .sl 3], .vec T_i64 tI [], .vec T_i64 tI [], .vec T_u64 tQ []]⟩, [.tm 0 (pr [tQ, tQ, tB]), .vec 1 3 tI, .vec 2 3 tI, .vec 3 53 tQ]⟩
def f_dfa_positions_walk_rd : TF := ⟨(.seq (.region (
.op (some 3) (.boxD 33 .rx (.tm 1)) <|
.op (some 4) (.alloc 55 [.d tQ (0 : Int), .d tQ (0 : Int), .d tB false]) <|
.nil)) (.seq (.seq (.region (
.op (some 15) (.fldA 0 tI (.tm 3)) <|
.op (some 16) (.load tI (.tm 15)) <|
.nil)) (.block 0 (.seq (.region (
.op (some 18) (.bin .eql (.tm 16) (.k tI (1 : Int))) <|
.op (some 17) (.mv (.tm 18)) <|
.nil)) (.cond (.tm 17) (.seq (.region (
.op (some 19) (.mv (.tm 0)) <|
.op (some 20) (.fldA 1 tI (.tm 3)) <|
.op (some 21) (.load tI (.tm 20)) <|
.op (some 22) (.fldA 2 tI (.tm 3)) <|
.op (some 23) (.load tI (.tm 22)) <|
.op (some 24) (.callA false false [0, 1, 2, 3] N_dfa_positions_add_rdd [(.x, .tm 19), (.d tI, .tm 21), (.d tI, .tm 23)] q_dfa_positions_add_rdd) <|
.op none (.store (pr [tQ, tQ, tB]) (.tm 4) (.tm 24)) <|
.nil)) .ret) (.seq (.region (
.op (some 26) (.bin .eql (.tm 16) (.k tI (2 : Int))) <|
.op (some 25) (.mv (.tm 26)) <|
.nil)) (.cond (.tm 25) (.seq (.region (
.op (some 27) (.mv (.tm 0)) <|
.op (some 28) (.callA false false [0, 1, 2, 3] N_dfa_positions_add_rdd [(.x, .tm 27), (.d tI, .k tI (0 : Int)), (.d tI, .k tI (4294967295 : Int))] q_dfa_positions_add_rdd) <|
.op none (.store (pr [tQ, tQ, tB]) (.tm 4) (.tm 28)) <|
.nil)) .ret) (.seq (.region (
.op (some 30) (.bin .eql (.tm 16) (.k tI (3 : Int))) <|
.op (some 29) (.mv (.tm 30)) <|
.nil)) (.cond (.tm 29) (.seq (.region (
.op (some 31) (.build [.d tQ (0 : Int), .d tQ (0 : Int), .d tB false] [(2, 1, .k tB true)]) <|
.op (some 5) (.alloc 55 [.d tQ (0 : Int), .d tQ (0 : Int), .d tB false]) <|
.op none (.store (pr [tQ, tQ, tB]) (.tm 5) (.tm 31)) <|
.nil)) (.seq (.seq (.region (
.op (some 32) (.fldA 3 (.list .rx) (.tm 3)) <|
.op (some 33) (.load (.list .rx) (.tm 32)) <|
.op (some 34) (.len false (.tm 33)) <|
.op (some 35) (.mv (.k tI (0 : Int))) <|
.nil)) (.block 1 (.loop ⟨[33, 34], ⟨[(0, .ptr 0 0), (4, .ptr 4 0), (5, .ptr 5 0)], [.box T_str_dfa_positions [.sl 1, .sl 2, .sl 3], .vec T_i64 tI [], .vec T_i64 tI [], .vec T_u64 tQ [], .box T_str_dfa_sets [.any, .any, .any], .box T_str_dfa_sets [.any, .any, .any]]⟩, [.tm 35 tI, .vec 1 3 tI, .vec 2 3 tI, .vec 3 53 tQ, .cell 4 0 tQ, .cell 4 1 tQ, .cell 4 2 tB, .cell 5 0 tQ, .cell 5 1 tQ, .cell 5 2 tB]⟩ [(4, ⟨[], ⟨[(0, .ptr 0 0), (4, .ptr 4 0), (5, .ptr 5 0)], [.box T_str_dfa_positions [.sl 1, .sl 2, .sl 3], .vec T_i64 tI [], .vec T_i64 tI [], .vec T_u64 tQ [], .box T_str_dfa_sets [.any, .any, .any], .box T_str_dfa_sets [.any, .any, .any]]⟩, [.vec 1 3 tI, .vec 2 3 tI, .vec 3 53 tQ, .cell 4 0 tQ, .cell 4 1 tQ, .cell 4 2 tB, .cell 5 0 tQ, .cell 5 1 tQ, .cell 5 2 tB]⟩)] (.seq (.region (
.op (some 36) (.bin .lss (.tm 35) (.tm 34)) <|
.nil)) (.seq (.cond (.tm 36) .skip (.exit 1)) (.seq (.block 2 (.seq (.region (
.op (some 37) (.idxA .rx (.tm 33) (.tm 35)) <|
.op (some 38) (.load .rx (.tm 37)) <|
.op (some 7) (.alloc 33 [.d tI (0 : Int), .d tI (0 : Int), .d tI (0 : Int), .nil .rx]) <|
.op none (.store .rx (.tm 7) (.tm 38)) <|
.nil)) (.seq (.region (
.op (some 39) (.mv (.tm 0)) <|
.op (some 40) (.load .rx (.tm 7)) <|
.op (some 41) (.callA false false [0, 1, 2, 3] N_dfa_positions_walk_rd [(.x, .tm 39), (.d .rx, .tm 40)] q_dfa_positions_walk_rd) <|
.op (some 8) (.alloc 55 [.d tQ (0 : Int), .d tQ (0 : Int), .d tB false]) <|
.op none (.store (pr [tQ, tQ, tB]) (.tm 8) (.tm 41)) <|
.nil)) (.seq (.region (
.op (some 42) (.mv (.tm 0)) <|
.op (some 43) (.fldA 1 tQ (.tm 5)) <|
.op (some 44) (.load tQ (.tm 43)) <|
.op (some 45) (.fldA 0 tQ (.tm 8)) <|
.op (some 46) (.load tQ (.tm 45)) <|
.op (some 47) (.callA false false [0, 1, 2, 3] N_dfa_positions_link_rdd [(.x, .tm 42), (.d tQ, .tm 44), (.d tQ, .tm 46)] q_dfa_positions_link_rdd) <|
.nil)) (.seq (.cut [(0, ⟨[33, 34, 35], ⟨[(0, .ptr 0 0), (4, .ptr 4 0), (5, .ptr 5 0), (8, .ptr 6 0)], [.box T_str_dfa_positions [.sl 1, .sl 2, .sl 3], .vec T_i64 tI [], .vec T_i64 tI [], .vec T_u64 tQ [], .box T_str_dfa_sets [.any, .any, .any], .box T_str_dfa_sets [.any, .any, .any], .box T_str_dfa_sets [.any, .any, .any]]⟩, [.vec 1 3 tI, .vec 2 3 tI, .vec 3 53 tQ, .cell 4 0 tQ, .cell 4 1 tQ, .cell 4 2 tB, .cell 5 0 tQ, .cell 5 1 tQ, .cell 5 2 tB, .cell 6 0 tQ, .cell 6 1 tQ, .cell 6 2 tB]⟩)] (.seq (.region (
.op (some 48) (.fldA 2 tB (.tm 5)) <|
.op (some 49) (.load tB (.tm 48)) <|
.nil)) (.cond (.tm 49) (.after (.region (
.op (some 50) (.fldA 0 tQ (.tm 5)) <|
.op (some 51) (.load tQ (.tm 50)) <|
.op (some 52) (.fldA 0 tQ (.tm 8)) <|
.op (some 53) (.load tQ (.tm 52)) <|
.op (some 54) (.bin .or (.tm 51) (.tm 53)) <|
.op (some 55) (.fldA 0 tQ (.tm 5)) <|
.op none (.store tQ (.tm 55) (.tm 54)) <|
.nil)) [.sel [0, 1, 2, 3, 4, 5, 7] [0, 4, 5, 8, 33, 34, 35]]) (.after .skip [.sel [0, 1, 2, 3, 4, 5, 7] [0, 4, 5, 8, 33, 34, 35]])))) (.seq (.cut [(0, ⟨[33, 34, 35], ⟨[(0, .ptr 0 0), (4, .ptr 4 0), (5, .ptr 5 0), (8, .ptr 6 0)], [.box T_str_dfa_positions [.sl 1, .sl 2, .sl 3], .vec T_i64 tI [], .vec T_i64 tI [], .vec T_u64 tQ [], .box T_str_dfa_sets [.any, .any, .any], .box T_str_dfa_sets [.any, .any, .any], .box T_str_dfa_sets [.any, .any, .any]]⟩, [.vec 1 3 tI, .vec 2 3 tI, .vec 3 53 tQ, .cell 4 0 tQ, .cell 4 1 tQ, .cell 4 2 tB, .cell 5 0 tQ, .cell 5 1 tQ, .cell 5 2 tB, .cell 6 0 tQ, .cell 6 1 tQ, .cell 6 2 tB]⟩)] (.seq (.region (
.op (some 56) (.fldA 2 tB (.tm 8)) <|
.op (some 57) (.load tB (.tm 56)) <|
.nil)) (.cond (.tm 57) (.region (
.op (some 58) (.fldA 1 tQ (.tm 5)) <|
.op (some 59) (.load tQ (.tm 58)) <|
.op (some 60) (.fldA 1 tQ (.tm 8)) <|
.op (some 61) (.load tQ (.tm 60)) <|
.op (some 62) (.bin .or (.tm 59) (.tm 61)) <|
.op (some 63) (.fldA 1 tQ (.tm 5)) <|
.op none (.store tQ (.tm 63) (.tm 62)) <|
.nil)) (.region (
.op (some 64) (.fldA 1 tQ (.tm 8)) <|
.op (some 65) (.load tQ (.tm 64)) <|
.op (some 66) (.fldA 1 tQ (.tm 5)) <|
.op none (.store tQ (.tm 66) (.tm 65)) <|
.nil))))) (.region (
.op (some 67) (.fldA 2 tB (.tm 5)) <|
.op (some 68) (.load tB (.tm 67)) <|
.op (some 69) (.mv (.tm 68)) <|
.gb 69 true (
.op (some 70) (.fldA 2 tB (.tm 8)) <|
.op (some 71) (.load tB (.tm 70)) <|
.nil) tB (.tm 71) (.k tB false) 72 <|
.op (some 73) (.fldA 2 tB (.tm 5)) <|
.op none (.store tB (.tm 73) (.tm 72)) <|
.nil)))))))) (.after (.region (
.op (some 74) (.bin .add (.tm 35) (.k tI (1 : Int))) <|
.op (some 35) (.mv (.tm 74)) <|
.nil)) [.sel [0, 1, 2, 3, 4, 5] [0, 4, 5, 33, 34, 35]]))))))) (.seq (.region (
.op (some 75) (.load (pr [tQ, tQ, tB]) (.tm 5)) <|
.op none (.store (pr [tQ, tQ, tB]) (.tm 4) (.tm 75)) <|
.nil)) .ret))) (.seq (.region (
.op (some 77) (.bin .eql (.tm 16) (.k tI (4 : Int))) <|
.op (some 76) (.mv (.tm 77)) <|
.nil)) (.cond (.tm 76) (.seq (.region (
.op (some 78) (.build [.d tQ (0 : Int), .d tQ (0 : Int), .d tB false] []) <|
.op (some 9) (.alloc 55 [.d tQ (0 : Int), .d tQ (0 : Int), .d tB false]) <|
.op none (.store (pr [tQ, tQ, tB]) (.tm 9) (.tm 78)) <|
.nil)) (.seq (.seq (.region (
.op (some 79) (.fldA 3 (.list .rx) (.tm 3)) <|
.op (some 80) (.load (.list .rx) (.tm 79)) <|
.op (some 81) (.len false (.tm 80)) <|
.op (some 82) (.mv (.k tI (0 : Int))) <|
.nil)) (.block 3 (.loop ⟨[80, 81], ⟨[(0, .ptr 0 0), (4, .ptr 4 0), (9, .ptr 5 0)], [.box T_str_dfa_positions [.sl 1, .sl 2, .sl 3], .vec T_i64 tI [], .vec T_i64 tI [], .vec T_u64 tQ [], .box T_str_dfa_sets [.any, .any, .any], .box T_str_dfa_sets [.any, .any, .any]]⟩, [.tm 82 tI, .vec 1 3 tI, .vec 2 3 tI, .vec 3 53 tQ, .cell 4 0 tQ, .cell 4 1 tQ, .cell 4 2 tB, .cell 5 0 tQ, .cell 5 1 tQ, .cell 5 2 tB]⟩ [(6, ⟨[], ⟨[(0, .ptr 0 0), (4, .ptr 4 0), (9, .ptr 5 0)], [.box T_str_dfa_positions [.sl 1, .sl 2, .sl 3], .vec T_i64 tI [], .vec T_i64 tI [], .vec T_u64 tQ [], .box T_str_dfa_sets [.any, .any, .any], .box T_str_dfa_sets [.any, .any, .any]]⟩, [.vec 1 3 tI, .vec 2 3 tI, .vec 3 53 tQ, .cell 4 0 tQ, .cell 4 1 tQ, .cell 4 2 tB, .cell 5 0 tQ, .cell 5 1 tQ, .cell 5 2 tB]⟩)] (.seq (.region (
.op (some 83) (.bin .lss (.tm 82) (.tm 81)) <|
.nil)) (.seq (.cond (.tm 83) .skip (.exit 3)) (.seq (.block 4 (.seq (.region (
.op (some 84) (.idxA .rx (.tm 80) (.tm 82)) <|
.op (some 85) (.load .rx (.tm 84)) <|
.op (some 11) (.alloc 33 [.d tI (0 : Int), .d tI (0 : Int), .d tI (0 : Int), .nil .rx]) <|
.op none (.store .rx (.tm 11) (.tm 85)) <|
.nil)) (.seq (.region (
.op (some 86) (.mv (.tm 0)) <|
.op (some 87) (.load .rx (.tm 11)) <|
.op (some 88) (.callA false false [0, 1, 2, 3] N_dfa_positions_walk_rd [(.x, .tm 86), (.d .rx, .tm 87)] q_dfa_positions_walk_rd) <|
.op (some 12) (.alloc 55 [.d tQ (0 : Int), .d tQ (0 : Int), .d tB false]) <|
.op none (.store (pr [tQ, tQ, tB]) (.tm 12) (.tm 88)) <|
.nil)) (.region (
.op (some 89) (.fldA 0 tQ (.tm 9)) <|
.op (some 90) (.load tQ (.tm 89)) <|
.op (some 91) (.fldA 0 tQ (.tm 12)) <|
.op (some 92) (.load tQ (.tm 91)) <|
.op (some 93) (.bin .or (.tm 90) (.tm 92)) <|
.op (some 94) (.fldA 1 tQ (.tm 9)) <|
.op (some 95) (.load tQ (.tm 94)) <|
.op (some 96) (.fldA 1 tQ (.tm 12)) <|
.op (some 97) (.load tQ (.tm 96)) <|
.op (some 98) (.bin .or (.tm 95) (.tm 97)) <|
.op (some 99) (.fldA 2 tB (.tm 9)) <|
.op (some 100) (.load tB (.tm 99)) <|
.op (some 101) (.mv (.tm 100)) <|
.gb 101 false (
.op (some 102) (.fldA 2 tB (.tm 12)) <|
.op (some 103) (.load tB (.tm 102)) <|
.nil) tB (.tm 103) (.k tB true) 104 <|
.op (some 105) (.build [.d tQ (0 : Int), .d tQ (0 : Int), .d tB false] [(0, 1, .tm 93), (1, 1, .tm 98), (2, 1, .tm 104)]) <|
.op none (.store (pr [tQ, tQ, tB]) (.tm 9) (.tm 105)) <|
.nil))))) (.after (.region (
.op (some 106) (.bin .add (.tm 82) (.k tI (1 : Int))) <|
.op (some 82) (.mv (.tm 106)) <|
.nil)) [.sel [0, 1, 2, 3, 4, 5] [0, 4, 9, 80, 81, 82]]))))))) (.seq (.region (
.op (some 107) (.load (pr [tQ, tQ, tB]) (.tm 9)) <|
.op none (.store (pr [tQ, tQ, tB]) (.tm 4) (.tm 107)) <|
.nil)) .ret))) (.seq (.cut [(0, ⟨[3, 16], ⟨[(0, .ptr 0 0), (4, .ptr 4 0)], [.box T_str_dfa_positions [.sl 1, .sl 2, .sl 3], .vec T_i64 tI [], .vec T_i64 tI [], .vec T_u64 tQ [], .box T_str_dfa_sets [.any, .any, .any]]⟩, [.tm 108 tB, .vec 1 3 tI, .vec 2 3 tI, .vec 3 53 tQ, .cell 4 0 tQ, .cell 4 1 tQ, .cell 4 2 tB]⟩)] (.seq (.region (
.op (some 109) (.bin .eql (.tm 16) (.k tI (5 : Int))) <|
.op (some 108) (.mv (.tm 109)) <|
.nil)) (.cond (.tm 108) .skip (.region (
.op (some 110) (.bin .eql (.tm 16) (.k tI (6 : Int))) <|
.op (some 108) (.mv (.tm 110)) <|
.nil))))) (.cond (.tm 108) (.seq (.region (
.op (some 111) (.mv (.tm 0)) <|
.op (some 112) (.fldA 3 (.list .rx) (.tm 3)) <|
.op (some 113) (.load (.list .rx) (.tm 112)) <|
.op (some 114) (.idxA .rx (.tm 113) (.k tI (0 : Int))) <|
.op (some 115) (.load .rx (.tm 114)) <|
.op (some 116) (.callA false false [0, 1, 2, 3] N_dfa_positions_walk_rd [(.x, .tm 111), (.d .rx, .tm 115)] q_dfa_positions_walk_rd) <|
.op (some 13) (.alloc 55 [.d tQ (0 : Int), .d tQ (0 : Int), .d tB false]) <|
.op none (.store (pr [tQ, tQ, tB]) (.tm 13) (.tm 116)) <|
.nil)) (.seq (.region (
.op (some 117) (.mv (.tm 0)) <|
.op (some 118) (.fldA 1 tQ (.tm 13)) <|
.op (some 119) (.load tQ (.tm 118)) <|
.op (some 120) (.fldA 0 tQ (.tm 13)) <|
.op (some 121) (.load tQ (.tm 120)) <|
.op (some 122) (.callA false false [0, 1, 2, 3] N_dfa_positions_link_rdd [(.x, .tm 117), (.d tQ, .tm 119), (.d tQ, .tm 121)] q_dfa_positions_link_rdd) <|
.nil)) (.seq (.region (
.op (some 123) (.fldA 2 tB (.tm 13)) <|
.op (some 124) (.load tB (.tm 123)) <|
.op (some 125) (.mv (.tm 124)) <|
.gb 125 false (
.op (some 126) (.fldA 0 tI (.tm 3)) <|
.op (some 127) (.load tI (.tm 126)) <|
.op (some 128) (.bin .eql (.tm 127) (.k tI (5 : Int))) <|
.nil) tB (.tm 128) (.k tB true) 129 <|
.op (some 130) (.fldA 2 tB (.tm 13)) <|
.op none (.store tB (.tm 130) (.tm 129)) <|
.nil)) (.seq (.region (
.op (some 131) (.load (pr [tQ, tQ, tB]) (.tm 13)) <|
.op none (.store (pr [tQ, tQ, tB]) (.tm 4) (.tm 131)) <|
.nil)) .ret)))) (.seq (.region (
.op (some 133) (.bin .eql (.tm 16) (.k tI (7 : Int))) <|
.op (some 132) (.mv (.tm 133)) <|
.nil)) (.cond (.tm 132) (.seq (.region (
.op (some 134) (.mv (.tm 0)) <|
.op (some 135) (.fldA 3 (.list .rx) (.tm 3)) <|
.op (some 136) (.load (.list .rx) (.tm 135)) <|
.op (some 137) (.idxA .rx (.tm 136) (.k tI (0 : Int))) <|
.op (some 138) (.load .rx (.tm 137)) <|
.op (some 139) (.callA false false [0, 1, 2, 3] N_dfa_positions_walk_rd [(.x, .tm 134), (.d .rx, .tm 138)] q_dfa_positions_walk_rd) <|
.op (some 14) (.alloc 55 [.d tQ (0 : Int), .d tQ (0 : Int), .d tB false]) <|
.op none (.store (pr [tQ, tQ, tB]) (.tm 14) (.tm 139)) <|
.nil)) (.seq (.region (
.op (some 140) (.fldA 2 tB (.tm 14)) <|
.op none (.store tB (.tm 140) (.k tB true)) <|
.nil)) (.seq (.region (
.op (some 141) (.load (pr [tQ, tQ, tB]) (.tm 14)) <|
.op none (.store (pr [tQ, tQ, tB]) (.tm 4) (.tm 141)) <|
.nil)) .ret))) .skip)))))))))))))) (.seq (.region (
.op (some 142) (.build [.d tQ (0 : Int), .d tQ (0 : Int), .d tB false] [(2, 1, .k tB true)]) <|
.op none (.store (pr [tQ, tQ, tB]) (.tm 4) (.tm 142)) <|
.nil)) .ret))), [.cell 4 (pr [tQ, tQ, tB])], 143, q_dfa_positions_walk_rd, 4⟩
def q_dfa_merge : Sh := ⟨[], ⟨[], []⟩, [.tm 0 (.list tI)]⟩
def f_dfa_merge : TF := ⟨(.seq (.region (
.op (some 4) (.mv (.nil tI)) <|
.nil)) (.seq (.region (
.op (some 5) (.mv (.nil tI)) <|
.nil)) (.seq (.block 0 (.adj [.adopt 5 3 tI] (.loop ⟨[], ⟨[(5, .sl 0)], [.vec T_i64 tI []]⟩, [.tm 0 (.list tI), .tm 1 (.list tI), .vec 0 3 tI]⟩ [(3, ⟨[], ⟨[(5, .sl 0)], [.vec T_i64 tI []]⟩, [.vec 0 3 tI]⟩)] (.seq (.seq (.region (
.op (some 6) (.mv (.tm 0)) <|
.op (some 7) (.len false (.tm 6)) <|
.op (some 8) (.bin .gtr (.tm 7) (.k tI (0 : Int))) <|
.op (some 9) (.mv (.tm 8)) <|
.gb 9 false (
.op (some 10) (.mv (.tm 1)) <|
.op (some 11) (.len false (.tm 10)) <|
.op (some 12) (.bin .gtr (.tm 11) (.k tI (0 : Int))) <|
.nil) tB (.tm 12) (.k tB true) 13 <|
.nil)) (.cond (.tm 13) .skip (.exit 0))) (.block 1 (.block 2 (.seq (.draw 18 (
.op (some 25) (.mv (.tm 1)) <|
.op (some 26) (.len false (.tm 25)) <|
.op (some 27) (.bin .eql (.tm 26) (.k tI (0 : Int))) <|
.op (some 28) (.mv (.tm 27)) <|
.gb 28 false (
.op (some 29) (.mv (.tm 0)) <|
.op (some 30) (.len false (.tm 29)) <|
.op (some 31) (.bin .gtr (.tm 30) (.k tI (0 : Int))) <|
.op (some 32) (.mv (.tm 31)) <|
.gb 32 true (
.op (some 33) (.mv (.tm 0)) <|
.op (some 34) (.idxA tI (.tm 33) (.k tI (0 : Int))) <|
.op (some 35) (.load tI (.tm 34)) <|
.op (some 36) (.mv (.tm 1)) <|
.op (some 37) (.idxA tI (.tm 36) (.k tI (0 : Int))) <|
.op (some 38) (.load tI (.tm 37)) <|
.op (some 39) (.bin .lss (.tm 35) (.tm 38)) <|
.nil) tB (.tm 39) (.k tB false) 40 <|
.nil) tB (.tm 40) (.k tB true) 41 <|
.op (some 24) (.mv (.tm 41)) <|
.nil) [[], [0], [1], [2], [3], [4, 3], [5, 3], [6, 3, 3], [7], [8, 7], [9, 7], [7], [11, 7], [12, 7], [10, 13, 7], [7, 14, 3], [3, 15], [16, 7]]) (.cond (.tm 24) (.seq (.region (
.op (some 42) (.mv (.tm 5)) <|
.op (some 43) (.mv (.tm 0)) <|
.op (some 44) (.idxA tI (.tm 43) (.k tI (0 : Int))) <|
.op (some 45) (.load tI (.tm 44)) <|
.op (some 46) (.bslice false 3 tI 1 [.tm 45]) <|
.op (some 47) (.append 3 tI 8 (.tm 42) (.tm 46)) <|
.op (some 5) (.mv (.tm 47)) <|
.nil)) (.region (
.op (some 48) (.mv (.tm 0)) <|
.op (some 49) (.slc false tI (.tm 48) (some (.k tI (1 : Int))) none none) <|
.op (some 0) (.mv (.tm 49)) <|
.nil))) (.seq (.draw 13 (
.op (some 51) (.mv (.tm 0)) <|
.op (some 52) (.len false (.tm 51)) <|
.op (some 53) (.bin .eql (.tm 52) (.k tI (0 : Int))) <|
.op (some 54) (.mv (.tm 53)) <|
.gb 54 false (
.op (some 55) (.mv (.tm 1)) <|
.op (some 56) (.idxA tI (.tm 55) (.k tI (0 : Int))) <|
.op (some 57) (.load tI (.tm 56)) <|
.op (some 58) (.mv (.tm 0)) <|
.op (some 59) (.idxA tI (.tm 58) (.k tI (0 : Int))) <|
.op (some 60) (.load tI (.tm 59)) <|
.op (some 61) (.bin .lss (.tm 57) (.tm 60)) <|
.nil) tB (.tm 61) (.k tB true) 62 <|
.op (some 50) (.mv (.tm 62)) <|
.nil) [[], [0], [1], [2], [3], [4, 3], [5, 3], [3], [7, 3], [8, 3], [6, 9, 3], [3, 10], [11, 3]]) (.cond (.tm 50) (.seq (.region (
.op (some 63) (.mv (.tm 5)) <|
.op (some 64) (.mv (.tm 1)) <|
.op (some 65) (.idxA tI (.tm 64) (.k tI (0 : Int))) <|
.op (some 66) (.load tI (.tm 65)) <|
.op (some 67) (.bslice false 3 tI 1 [.tm 66]) <|
.op (some 68) (.append 3 tI 8 (.tm 63) (.tm 67)) <|
.op (some 5) (.mv (.tm 68)) <|
.nil)) (.region (
.op (some 69) (.mv (.tm 1)) <|
.op (some 70) (.slc false tI (.tm 69) (some (.k tI (1 : Int))) none none) <|
.op (some 1) (.mv (.tm 70)) <|
.nil))) (.seq (.region (
.op (some 14) (.mv (.tm 5)) <|
.op (some 15) (.mv (.tm 0)) <|
.op (some 16) (.idxA tI (.tm 15) (.k tI (0 : Int))) <|
.op (some 17) (.load tI (.tm 16)) <|
.op (some 18) (.bslice false 3 tI 1 [.tm 17]) <|
.op (some 19) (.append 3 tI 8 (.tm 14) (.tm 18)) <|
.op (some 5) (.mv (.tm 19)) <|
.nil)) (.draw 6 (
.op (some 20) (.mv (.tm 0)) <|
.op (some 21) (.slc false tI (.tm 20) (some (.k tI (1 : Int))) none none) <|
.op (some 22) (.mv (.tm 1)) <|
.op (some 23) (.slc false tI (.tm 22) (some (.k tI (1 : Int))) none none) <|
.op (some 0) (.mv (.tm 21)) <|
.op (some 1) (.mv (.tm 23)) <|
.nil) [[], [0], [], [2], [1, 0, 1], [3, 4, 0, 1, 2, 3, 4]])))))))))))) (.seq (.region (
.op (some 71) (.mv (.tm 5)) <|
.op (some 4) (.mv (.tm 71)) <|
.nil)) (.adj [.freeze 0] .ret))))), [.tm 4], 72, q_dfa_merge, 0⟩
def L_dfa_merge_0 (O : Oracle) (n : Nat) (s : ((List Int) × (List Int) × (List Int) × Unit)) : Option (((List Int) × (List Int) × (List Int) × Unit) ⊕ ((List Int) × Unit)) :=
 Option.bind (bif decide ((s.1.length : Int) > (0 : Int)) then some (true) else
 some (decide ((s.2.1.length : Int) > (0 : Int)))) fun v1 =>
 bif v1 then
 Option.bind (bif ((s.2.1.length : Int) == (0 : Int)) then some (true) else
 Option.bind (bif decide ((s.1.length : Int) > (0 : Int)) then
 Option.bind (getI s.1 (0 : Int)) fun v2 =>
 Option.bind (getI s.2.1 (0 : Int)) fun v3 =>
 some (decide (v2 < v3))
else some (false)) fun v4 =>
 some (v4)) fun v5 =>
 bif v5 then
 Option.bind (getI s.1 (0 : Int)) fun v6 =>
 guardB (decide ((s.2.2.1.length + ([v6] : List Int).length) * 8 ≤ 140737488355328)) (
 guardB (decide (0 ≤ (1 : Int))) (
 guardB (decide (Int.toNat (1 : Int) ≤ s.1.length) && decide (s.1.length ≤ s.1.length) && decide (s.1.length ≤ s.1.length)) (
 some (.inl ((s.1.take (s.1.length)).drop (Int.toNat (1 : Int)), s.2.1, s.2.2.1 ++ ([v6] : List Int), ())))))
else
 Option.bind (bif ((s.1.length : Int) == (0 : Int)) then some (true) else
 Option.bind (getI s.2.1 (0 : Int)) fun v7 =>
 Option.bind (getI s.1 (0 : Int)) fun v8 =>
 some (decide (v7 < v8))) fun v9 =>
 bif v9 then
 Option.bind (getI s.2.1 (0 : Int)) fun v10 =>
 guardB (decide ((s.2.2.1.length + ([v10] : List Int).length) * 8 ≤ 140737488355328)) (
 guardB (decide (0 ≤ (1 : Int))) (
 guardB (decide (Int.toNat (1 : Int) ≤ s.2.1.length) && decide (s.2.1.length ≤ s.2.1.length) && decide (s.2.1.length ≤ s.2.1.length)) (
 some (.inl (s.1, (s.2.1.take (s.2.1.length)).drop (Int.toNat (1 : Int)), s.2.2.1 ++ ([v10] : List Int), ())))))
else
 Option.bind (getI s.1 (0 : Int)) fun v11 =>
 guardB (decide ((s.2.2.1.length + ([v11] : List Int).length) * 8 ≤ 140737488355328)) (
 guardB (decide (0 ≤ (1 : Int))) (
 guardB (decide (Int.toNat (1 : Int) ≤ s.1.length) && decide (s.1.length ≤ s.1.length) && decide (s.1.length ≤ s.1.length)) (
 guardB (decide (0 ≤ (1 : Int))) (
 guardB (decide (Int.toNat (1 : Int) ≤ s.2.1.length) && decide (s.2.1.length ≤ s.2.1.length) && decide (s.2.1.length ≤ s.2.1.length)) (
 some (.inl ((s.1.take (s.1.length)).drop (Int.toNat (1 : Int)), (s.2.1.take (s.2.1.length)).drop (Int.toNat (1 : Int)), s.2.2.1 ++ ([v11] : List Int), ())))))))
else
 some (.inr ((s.2.2.1, ())))
def G_dfa_merge (O : Oracle) (n : Nat) (a : (List Int)) (b : (List Int)) : Option (Option S) :=
 Option.bind (loopN n (L_dfa_merge_0 O n) (a, b, ([] : List Int), ())) fun (v12 : ((List Int) × Unit)) =>
 retQ q_dfa_merge (v12.1, ())
theorem x_dfa_merge (O : Oracle) (n : Nat) (a : (List Int)) (b : (List Int)) : evF1 O n f_dfa_merge [.d (.list tI) a, .d (.list tI) b] [] = G_dfa_merge O n a b := by kernel_rfl
def q_dfa_positions_starts_r : Sh := ⟨[], ⟨[], [.box T_str_dfa_positions [.sl 1, .sl 2, .sl 3], .vec T_i64 tI [], .vec T_i64 tI [], .vec T_u64 tQ []]⟩, [.tm 0 (.list tI), .vec 1 3 tI, .vec 2 3 tI, .vec 3 53 tQ]⟩
def f_dfa_positions_starts_r : TF := ⟨(.seq (.region (
.op (some 2) (.mv (.nil tI)) <|
.nil)) (.seq (.region (
.op (some 5) (.bslice false 3 tI 1 [.k tI (0 : Int)]) <|
.op (some 3) (.mv (.tm 5)) <|
.nil)) (.seq (.seq (.region (
.op (some 6) (.mv (.tm 0)) <|
.op (some 7) (.nilc (.tm 6)) <|
.op (some 8) (.fldA 0 (.list tI) (.tm 7)) <|
.op (some 9) (.load (.list tI) (.tm 8)) <|
.op (some 10) (.len false (.tm 9)) <|
.op (some 11) (.mv (.k tI (0 : Int))) <|
.nil)) (.block 0 (.loop ⟨[10], ⟨[(0, .ptr 0 0)], [.box T_str_dfa_positions [.sl 1, .sl 2, .sl 3], .vec T_i64 tI [], .vec T_i64 tI [], .vec T_u64 tQ []]⟩, [.tm 3 (.list tI), .tm 11 tI, .vec 1 3 tI, .vec 2 3 tI, .vec 3 53 tQ]⟩ [(3, ⟨[], ⟨[(0, .ptr 0 0)], [.box T_str_dfa_positions [.sl 1, .sl 2, .sl 3], .vec T_i64 tI [], .vec T_i64 tI [], .vec T_u64 tQ []]⟩, [.tm 3 (.list tI), .vec 1 3 tI, .vec 2 3 tI, .vec 3 53 tQ]⟩)] (.seq (.region (
.op (some 12) (.bin .lss (.tm 11) (.tm 10)) <|
.nil)) (.seq (.cond (.tm 12) .skip (.exit 0)) (.seq (.cut [(0, ⟨[10, 11], ⟨[(0, .ptr 0 0)], [.box T_str_dfa_positions [.sl 1, .sl 2, .sl 3], .vec T_i64 tI [], .vec T_i64 tI [], .vec T_u64 tQ []]⟩, [.tm 3 (.list tI), .vec 1 3 tI, .vec 2 3 tI, .vec 3 53 tQ]⟩)] (.block 1 (.seq (.region (
.op (some 13) (.mv (.tm 11)) <|
.op (some 4) (.mv (.tm 13)) <|
.nil)) (.seq (.region (
.op (some 14) (.mv (.tm 3)) <|
.op (some 15) (.mv (.tm 0)) <|
.op (some 16) (.nilc (.tm 15)) <|
.op (some 17) (.fldA 0 (.list tI) (.tm 16)) <|
.op (some 18) (.load (.list tI) (.tm 17)) <|
.op (some 19) (.mv (.tm 4)) <|
.op (some 20) (.idxA tI (.tm 18) (.tm 19)) <|
.op (some 21) (.load tI (.tm 20)) <|
.op (some 22) (.bslice false 3 tI 1 [.tm 21]) <|
.op (some 23) (.call false N_dfa_merge [(.d (.list tI), .tm 14), (.d (.list tI), .tm 22)] q_dfa_merge) <|
.op (some 3) (.mv (.tm 23)) <|
.nil)) (.seq (.region (
.op (some 24) (.mv (.tm 0)) <|
.op (some 25) (.nilc (.tm 24)) <|
.op (some 26) (.fldA 1 (.list tI) (.tm 25)) <|
.op (some 27) (.load (.list tI) (.tm 26)) <|
.op (some 28) (.mv (.tm 4)) <|
.op (some 29) (.idxA tI (.tm 27) (.tm 28)) <|
.op (some 30) (.load tI (.tm 29)) <|
.op (some 31) (.bin .lss (.tm 30) (.k tI (4294967295 : Int))) <|
.nil)) (.cond (.tm 31) (.region (
.op (some 32) (.mv (.tm 3)) <|
.op (some 33) (.mv (.tm 0)) <|
.op (some 34) (.nilc (.tm 33)) <|
.op (some 35) (.fldA 1 (.list tI) (.tm 34)) <|
.op (some 36) (.load (.list tI) (.tm 35)) <|
.op (some 37) (.mv (.tm 4)) <|
.op (some 38) (.idxA tI (.tm 36) (.tm 37)) <|
.op (some 39) (.load tI (.tm 38)) <|
.op (some 40) (.bin .add (.tm 39) (.k tI (1 : Int))) <|
.op (some 41) (.bslice false 3 tI 1 [.tm 40]) <|
.op (some 42) (.call false N_dfa_merge [(.d (.list tI), .tm 32), (.d (.list tI), .tm 41)] q_dfa_merge) <|
.op (some 3) (.mv (.tm 42)) <|
.nil)) .skip)))))) (.region (
.op (some 43) (.bin .add (.tm 11) (.k tI (1 : Int))) <|
.op (some 11) (.mv (.tm 43)) <|
.nil)))))))) (.seq (.region (
.op (some 44) (.mv (.tm 3)) <|
.op (some 2) (.mv (.tm 44)) <|
.nil)) .ret)))), [.tm 2], 45, q_dfa_positions_starts_r, 4⟩
def q_dfa_positions_matching_rd : Sh := ⟨[], ⟨[], [.box T_str_dfa_positions [.sl 1, .sl 2, .sl 3], .vec T_i64 tI [], .vec T_i64 tI [], .vec T_u64 tQ []]⟩, [.tm 0 tQ, .vec 1 3 tI, .vec 2 3 tI, .vec 3 53 tQ]⟩
def f_dfa_positions_matching_rd : TF := ⟨(.seq (.region (
.op (some 4) (.mv (.k tQ (0 : Int))) <|
.nil)) (.seq (.region (
.op (some 5) (.mv (.k tQ (0 : Int))) <|
.nil)) (.seq (.seq (.region (
.op (some 7) (.mv (.tm 0)) <|
.op (some 8) (.nilc (.tm 7)) <|
.op (some 9) (.fldA 0 (.list tI) (.tm 8)) <|
.op (some 10) (.load (.list tI) (.tm 9)) <|
.op (some 11) (.len false (.tm 10)) <|
.op (some 12) (.mv (.k tI (0 : Int))) <|
.nil)) (.block 0 (.loop ⟨[1, 11], ⟨[(0, .ptr 0 0)], [.box T_str_dfa_positions [.sl 1, .sl 2, .sl 3], .vec T_i64 tI [], .vec T_i64 tI [], .vec T_u64 tQ []]⟩, [.tm 5 tQ, .tm 12 tI, .vec 1 3 tI, .vec 2 3 tI, .vec 3 53 tQ]⟩ [(3, ⟨[], ⟨[(0, .ptr 0 0)], [.box T_str_dfa_positions [.sl 1, .sl 2, .sl 3], .vec T_i64 tI [], .vec T_i64 tI [], .vec T_u64 tQ []]⟩, [.tm 5 tQ, .vec 1 3 tI, .vec 2 3 tI, .vec 3 53 tQ]⟩)] (.seq (.region (
.op (some 13) (.bin .lss (.tm 12) (.tm 11)) <|
.nil)) (.seq (.cond (.tm 13) .skip (.exit 0)) (.seq (.cut [(0, ⟨[1, 11, 12], ⟨[(0, .ptr 0 0)], [.box T_str_dfa_positions [.sl 1, .sl 2, .sl 3], .vec T_i64 tI [], .vec T_i64 tI [], .vec T_u64 tQ []]⟩, [.tm 5 tQ, .vec 1 3 tI, .vec 2 3 tI, .vec 3 53 tQ]⟩)] (.block 1 (.seq (.region (
.op (some 14) (.mv (.tm 12)) <|
.op (some 6) (.mv (.tm 14)) <|
.nil)) (.seq (.region (
.op (some 15) (.mv (.tm 0)) <|
.op (some 16) (.nilc (.tm 15)) <|
.op (some 17) (.fldA 0 (.list tI) (.tm 16)) <|
.op (some 18) (.load (.list tI) (.tm 17)) <|
.op (some 19) (.mv (.tm 6)) <|
.op (some 20) (.idxA tI (.tm 18) (.tm 19)) <|
.op (some 21) (.load tI (.tm 20)) <|
.op (some 22) (.mv (.tm 1)) <|
.op (some 23) (.bin .leq (.tm 21) (.tm 22)) <|
.op (some 24) (.mv (.tm 23)) <|
.gb 24 true (
.op (some 25) (.mv (.tm 1)) <|
.op (some 26) (.mv (.tm 0)) <|
.op (some 27) (.nilc (.tm 26)) <|
.op (some 28) (.fldA 1 (.list tI) (.tm 27)) <|
.op (some 29) (.load (.list tI) (.tm 28)) <|
.op (some 30) (.mv (.tm 6)) <|
.op (some 31) (.idxA tI (.tm 29) (.tm 30)) <|
.op (some 32) (.load tI (.tm 31)) <|
.op (some 33) (.bin .leq (.tm 25) (.tm 32)) <|
.nil) tB (.tm 33) (.k tB false) 34 <|
.nil)) (.cond (.tm 34) (.region (
.op (some 35) (.mv (.tm 5)) <|
.op (some 36) (.mv (.tm 6)) <|
.op (some 37) (.cvtI .u64 (.tm 36)) <|
.op (some 38) (.bin .shl (.k tQ (1 : Int)) (.tm 37)) <|
.op (some 39) (.bin .or (.tm 35) (.tm 38)) <|
.op (some 5) (.mv (.tm 39)) <|
.nil)) .skip))))) (.region (
.op (some 40) (.bin .add (.tm 12) (.k tI (1 : Int))) <|
.op (some 12) (.mv (.tm 40)) <|
.nil)))))))) (.seq (.region (
.op (some 41) (.mv (.tm 5)) <|
.op (some 4) (.mv (.tm 41)) <|
.nil)) .ret)))), [.tm 4], 42, q_dfa_positions_matching_rd, 4⟩
def q_dfa_reachable : Sh := ⟨[], ⟨[], []⟩, [.tm 0 (.list tI)]⟩
def f_dfa_reachable : TF := ⟨(.seq (.region (
.op (some 1) (.boxD 26 (pr [(.list tI), (.list (.list tI)), (.list tB), tI]) (.tm 0)) <|
.op (some 2) (.mv (.nil tI)) <|
.nil)) (.seq (.region (
.op (some 8) (.fldA 1 (.list (.list tI)) (.tm 1)) <|
.op (some 9) (.load (.list (.list tI)) (.tm 8)) <|
.op (some 10) (.len false (.tm 9)) <|
.op (some 11) (.mslice 4 tB 1 (.tm 10) (.tm 10)) <|
.op (some 3) (.mv (.tm 11)) <|
.nil)) (.seq (.region (
.op (some 12) (.mv (.tm 3)) <|
.op (some 13) (.fldA 3 tI (.tm 1)) <|
.op (some 14) (.load tI (.tm 13)) <|
.op (some 15) (.idxA tB (.tm 12) (.tm 14)) <|
.op none (.store tB (.tm 15) (.k tB true)) <|
.nil)) (.seq (.region (
.op (some 16) (.fldA 3 tI (.tm 1)) <|
.op (some 17) (.load tI (.tm 16)) <|
.op (some 18) (.bslice true 3 tI 1 [.tm 17]) <|
.op (some 4) (.mv (.tm 18)) <|
.nil)) (.seq (.seq (.region (
.op (some 5) (.mv (.k tI (0 : Int))) <|
.nil)) (.block 0 (.loop ⟨[1], ⟨[(3, .sl 0), (4, .sl 1)], [.vec T_bool tB [], .vec T_i64 tI []]⟩, [.tm 5 tI, .vec 0 4 tB, .vec 1 3 tI]⟩ [(3, ⟨[], ⟨[(4, .sl 0)], [.vec T_i64 tI []]⟩, [.vec 0 3 tI]⟩)] (.seq (.seq (.region (
.op (some 19) (.mv (.tm 5)) <|
.op (some 20) (.mv (.tm 4)) <|
.op (some 21) (.len false (.tm 20)) <|
.op (some 22) (.bin .lss (.tm 19) (.tm 21)) <|
.nil)) (.cond (.tm 22) .skip (.adj [.sel [1] [4]] (.exit 0)))) (.seq (.block 1 (.seq (.draw 10 (
.op (some 25) (.fldA 1 (.list (.list tI)) (.tm 1)) <|
.op (some 26) (.load (.list (.list tI)) (.tm 25)) <|
.op (some 27) (.mv (.tm 4)) <|
.op (some 28) (.mv (.tm 5)) <|
.op (some 29) (.idxA tI (.tm 27) (.tm 28)) <|
.op (some 30) (.load tI (.tm 29)) <|
.op (some 31) (.idxA (.list tI) (.tm 26) (.tm 30)) <|
.op (some 32) (.load (.list tI) (.tm 31)) <|
.op (some 33) (.len false (.tm 32)) <|
.op (some 34) (.mv (.k tI (0 : Int))) <|
.nil) [[], [0], [], [], [2, 3], [4], [1, 5], [6], [7], []]) (.block 2 (.loop ⟨[1, 5, 32, 33], ⟨[(3, .sl 0), (4, .sl 1)], [.vec T_bool tB [], .vec T_i64 tI []]⟩, [.tm 34 tI, .vec 0 4 tB, .vec 1 3 tI]⟩ [(5, ⟨[1, 5], ⟨[(3, .sl 0), (4, .sl 1)], [.vec T_bool tB [], .vec T_i64 tI []]⟩, [.vec 0 4 tB, .vec 1 3 tI]⟩)] (.seq (.region (
.op (some 35) (.bin .lss (.tm 34) (.tm 33)) <|
.nil)) (.seq (.cond (.tm 35) .skip (.exit 2)) (.seq (.cut [(0, ⟨[1, 5, 32, 33, 34], ⟨[(3, .sl 0), (4, .sl 1)], [.vec T_bool tB [], .vec T_i64 tI []]⟩, [.vec 0 4 tB, .vec 1 3 tI]⟩)] (.block 3 (.seq (.region (
.op (some 36) (.idxA tI (.tm 32) (.tm 34)) <|
.op (some 37) (.load tI (.tm 36)) <|
.op (some 7) (.mv (.tm 37)) <|
.nil)) (.seq (.region (
.op (some 38) (.mv (.tm 3)) <|
.op (some 39) (.mv (.tm 7)) <|
.op (some 40) (.idxA tB (.tm 38) (.tm 39)) <|
.op (some 41) (.load tB (.tm 40)) <|
.op (some 42) (.un .not (.tm 41)) <|
.nil)) (.cond (.tm 42) (.seq (.region (
.op (some 43) (.mv (.tm 3)) <|
.op (some 44) (.mv (.tm 7)) <|
.op (some 45) (.idxA tB (.tm 43) (.tm 44)) <|
.op none (.store tB (.tm 45) (.k tB true)) <|
.nil)) (.region (
.op (some 46) (.mv (.tm 4)) <|
.op (some 47) (.mv (.tm 7)) <|
.op (some 48) (.bslice false 3 tI 1 [.tm 47]) <|
.op (some 49) (.append 3 tI 8 (.tm 46) (.tm 48)) <|
.op (some 4) (.mv (.tm 49)) <|
.nil))) .skip))))) (.region (
.op (some 50) (.bin .add (.tm 34) (.k tI (1 : Int))) <|
.op (some 34) (.mv (.tm 50)) <|
.nil))))))))) (.region (
.op (some 23) (.mv (.tm 5)) <|
.op (some 24) (.bin .add (.tm 23) (.k tI (1 : Int))) <|
.op (some 5) (.mv (.tm 24)) <|
.nil))))))) (.seq (.region (
.op (some 51) (.mv (.tm 4)) <|
.op (some 2) (.mv (.tm 51)) <|
.nil)) (.adj [.freeze 0] .ret))))))), [.tm 2], 52, q_dfa_reachable, 0⟩
def q_dfa_signature : Sh := ⟨[], ⟨[], []⟩, [.tm 0 tS]⟩
def f_dfa_signature : TF := ⟨(.seq (.region (
.op (some 3) (.boxD 26 (pr [(.list tI), (.list (.list tI)), (.list tB), tI]) (.tm 0)) <|
.op (some 6) (.mv (.k tS ([] : List UInt8))) <|
.nil)) (.seq (.region (
.op (some 10) (.fldA 0 (.list tI) (.tm 3)) <|
.op (some 11) (.load (.list tI) (.tm 10)) <|
.op (some 12) (.len false (.tm 11)) <|
.op (some 13) (.bin .mul (.k tI (2 : Int)) (.tm 12)) <|
.op (some 14) (.bin .add (.tm 13) (.k tI (2 : Int))) <|
.op (some 15) (.mslice 5 tY 1 (.k tI (0 : Int)) (.tm 14)) <|
.op (some 7) (.mv (.tm 15)) <|
.nil)) (.seq (.draw 13 (
.op (some 16) (.mv (.tm 7)) <|
.op (some 17) (.mv (.tm 1)) <|
.op (some 18) (.mv (.tm 2)) <|
.op (some 19) (.idxA tI (.tm 17) (.tm 18)) <|
.op (some 20) (.load tI (.tm 19)) <|
.op (some 21) (.bin .shr (.tm 20) (.k tQ (8 : Int))) <|
.op (some 22) (.cvtI .u8 (.tm 21)) <|
.op (some 23) (.mv (.tm 1)) <|
.op (some 24) (.mv (.tm 2)) <|
.op (some 25) (.idxA tI (.tm 23) (.tm 24)) <|
.op (some 26) (.load tI (.tm 25)) <|
.op (some 27) (.cvtI .u8 (.tm 26)) <|
.op (some 28) (.bslice false 5 tY 2 [.tm 22, .tm 27]) <|
.op (some 29) (.append 5 tY 1 (.tm 16) (.tm 28)) <|
.op (some 7) (.mv (.tm 29)) <|
.nil) [[], [], [], [1, 2], [3], [4], [5], [], [], [7, 8], [9], [10], [6, 11], [0, 12], [13, 13, 0, 1, 2, 3, 4, 5, 6, 7, 8, 9, 10, 11, 12, 13]]) (.seq (.seq (.region (
.op (some 30) (.fldA 1 (.list (.list tI)) (.tm 3)) <|
.op (some 31) (.load (.list (.list tI)) (.tm 30)) <|
.op (some 32) (.mv (.tm 2)) <|
.op (some 33) (.idxA (.list tI) (.tm 31) (.tm 32)) <|
.op (some 34) (.load (.list tI) (.tm 33)) <|
.op (some 35) (.len false (.tm 34)) <|
.op (some 36) (.mv (.k tI (0 : Int))) <|
.nil)) (.block 0 (.loop ⟨[1, 34, 35], ⟨[(7, .sl 0)], [.vec T_u8 tY []]⟩, [.tm 36 tI, .vec 0 5 tY]⟩ [(3, ⟨[], ⟨[(7, .sl 0)], [.vec T_u8 tY []]⟩, [.vec 0 5 tY]⟩)] (.seq (.region (
.op (some 37) (.bin .lss (.tm 36) (.tm 35)) <|
.nil)) (.seq (.cond (.tm 37) .skip (.exit 0)) (.seq (.block 1 (.seq (.region (
.op (some 38) (.idxA tI (.tm 34) (.tm 36)) <|
.op (some 39) (.load tI (.tm 38)) <|
.op (some 9) (.mv (.tm 39)) <|
.nil)) (.draw 13 (
.op (some 40) (.mv (.tm 7)) <|
.op (some 41) (.mv (.tm 1)) <|
.op (some 42) (.mv (.tm 9)) <|
.op (some 43) (.idxA tI (.tm 41) (.tm 42)) <|
.op (some 44) (.load tI (.tm 43)) <|
.op (some 45) (.bin .shr (.tm 44) (.k tQ (8 : Int))) <|
.op (some 46) (.cvtI .u8 (.tm 45)) <|
.op (some 47) (.mv (.tm 1)) <|
.op (some 48) (.mv (.tm 9)) <|
.op (some 49) (.idxA tI (.tm 47) (.tm 48)) <|
.op (some 50) (.load tI (.tm 49)) <|
.op (some 51) (.cvtI .u8 (.tm 50)) <|
.op (some 52) (.bslice false 5 tY 2 [.tm 46, .tm 51]) <|
.op (some 53) (.append 5 tY 1 (.tm 40) (.tm 52)) <|
.op (some 7) (.mv (.tm 53)) <|
.nil) [[], [], [], [1, 2], [3], [4], [5], [], [], [7, 8], [9], [10], [6, 11], [0, 12], [13, 13, 0, 1, 2, 3, 4, 5, 6, 7, 8, 9, 10, 11, 12, 13]]))) (.region (
.op (some 54) (.bin .add (.tm 36) (.k tI (1 : Int))) <|
.op (some 36) (.mv (.tm 54)) <|
.nil)))))))) (.seq (.region (
.op (some 55) (.mv (.tm 7)) <|
.op (some 56) (.b2s (.tm 55)) <|
.op (some 6) (.mv (.tm 56)) <|
.nil)) .ret))))), [.tm 6], 57, q_dfa_signature, 0⟩
def q_dfa_blocks : Sh := ⟨[], ⟨[], []⟩, [.tm 0 (.list tI), .tm 1 tI]⟩
def f_dfa_blocks : TF := ⟨(.seq (.region (
.op (some 2) (.boxD 26 (pr [(.list tI), (.list (.list tI)), (.list tB), tI]) (.tm 0)) <|
.op (some 4) (.mv (.nil tI)) <|
.op (some 5) (.mv (.k tI (0 : Int))) <|
.nil)) (.seq (.region (
.op (some 17) (.fldA 1 (.list (.list tI)) (.tm 2)) <|
.op (some 18) (.load (.list (.list tI)) (.tm 17)) <|
.op (some 19) (.len false (.tm 18)) <|
.op (some 20) (.mslice 3 tI 8 (.tm 19) (.tm 19)) <|
.op (some 6) (.mv (.tm 20)) <|
.nil)) (.seq (.region (
.op (some 7) (.mv (.k tI (1 : Int))) <|
.nil)) (.seq (.seq (.region (
.op (some 21) (.mv (.tm 1)) <|
.op (some 22) (.len false (.tm 21)) <|
.op (some 23) (.mv (.k tI (0 : Int))) <|
.nil)) (.block 0 (.loop ⟨[1, 2, 21, 22], ⟨[(6, .sl 0)], [.vec T_i64 tI []]⟩, [.tm 7 tI, .tm 23 tI, .vec 0 3 tI]⟩ [(3, ⟨[1, 2], ⟨[(6, .sl 0)], [.vec T_i64 tI []]⟩, [.tm 7 tI, .vec 0 3 tI]⟩)] (.seq (.region (
.op (some 24) (.bin .lss (.tm 23) (.tm 22)) <|
.nil)) (.seq (.cond (.tm 24) .skip (.exit 0)) (.seq (.cut [(0, ⟨[1, 2, 21, 22, 23], ⟨[(6, .sl 0)], [.vec T_i64 tI []]⟩, [.tm 7 tI, .vec 0 3 tI]⟩)] (.block 1 (.seq (.region (
.op (some 25) (.idxA tI (.tm 21) (.tm 23)) <|
.op (some 26) (.load tI (.tm 25)) <|
.op (some 9) (.mv (.tm 26)) <|
.nil)) (.seq (.draw 13 (
.op (some 27) (.fldA 2 (.list tB) (.tm 2)) <|
.op (some 28) (.load (.list tB) (.tm 27)) <|
.op (some 29) (.mv (.tm 9)) <|
.op (some 30) (.idxA tB (.tm 28) (.tm 29)) <|
.op (some 31) (.load tB (.tm 30)) <|
.op (some 32) (.fldA 2 (.list tB) (.tm 2)) <|
.op (some 33) (.load (.list tB) (.tm 32)) <|
.op (some 34) (.mv (.tm 1)) <|
.op (some 35) (.idxA tI (.tm 34) (.k tI (0 : Int))) <|
.op (some 36) (.load tI (.tm 35)) <|
.op (some 37) (.idxA tB (.tm 33) (.tm 36)) <|
.op (some 38) (.load tB (.tm 37)) <|
.op (some 39) (.eqB true (.tm 31) (.tm 38)) <|
.nil) [[], [0], [], [1, 2], [3], [], [5], [], [7], [8], [6, 9], [10], [4, 11]]) (.cond (.tm 39) (.seq (.region (
.op (some 40) (.mv (.tm 6)) <|
.op (some 41) (.mv (.tm 9)) <|
.op (some 42) (.idxA tI (.tm 40) (.tm 41)) <|
.op none (.store tI (.tm 42) (.k tI (1 : Int))) <|
.nil)) (.region (
.op (some 7) (.mv (.k tI (2 : Int))) <|
.nil))) .skip))))) (.region (
.op (some 43) (.bin .add (.tm 23) (.k tI (1 : Int))) <|
.op (some 23) (.mv (.tm 43)) <|
.nil)))))))) (.block 2 (.loop ⟨[1, 2], ⟨[(6, .sl 0)], [.vec T_i64 tI []]⟩, [.tm 7 tI, .vec 0 3 tI]⟩ [(1, ⟨[], ⟨[], []⟩, [.tm 4 (.list tI), .tm 5 tI]⟩)] (.after (.block 3 (.seq (.region (
.op (some 44) (.mkmap 9 3 tS tI) <|
.op (some 10) (.mv (.tm 44)) <|
.nil)) (.seq (.region (
.op (some 45) (.fldA 1 (.list (.list tI)) (.tm 2)) <|
.op (some 46) (.load (.list (.list tI)) (.tm 45)) <|
.op (some 47) (.len false (.tm 46)) <|
.op (some 48) (.mslice 3 tI 8 (.tm 47) (.tm 47)) <|
.op (some 11) (.mv (.tm 48)) <|
.nil)) (.seq (.seq (.region (
.op (some 49) (.mv (.tm 1)) <|
.op (some 50) (.len false (.tm 49)) <|
.op (some 51) (.mv (.k tI (0 : Int))) <|
.nil)) (.block 4 (.loop ⟨[1, 2, 7, 49, 50], ⟨[(6, .sl 0), (10, .mp 1), (11, .sl 2)], [.vec T_i64 tI [], .map T_string T_i64 tS tI [], .vec T_i64 tI []]⟩, [.tm 51 tI, .vec 0 3 tI, .map 1 9 3 tS tI, .vec 2 3 tI]⟩ [(7, ⟨[1, 2, 7], ⟨[(10, .mp 0), (11, .sl 1)], [.map T_string T_i64 tS tI [], .vec T_i64 tI []]⟩, [.map 0 9 3 tS tI, .vec 1 3 tI]⟩)] (.seq (.region (
.op (some 52) (.bin .lss (.tm 51) (.tm 50)) <|
.nil)) (.seq (.cond (.tm 52) .skip (.adj [.sel [1, 2] [1, 2, 7, 10, 11]] (.exit 4))) (.seq (.block 5 (.seq (.region (
.op (some 53) (.idxA tI (.tm 49) (.tm 51)) <|
.op (some 54) (.load tI (.tm 53)) <|
.op (some 13) (.mv (.tm 54)) <|
.nil)) (.seq (.region (
.op (some 55) (.load (pr [(.list tI), (.list (.list tI)), (.list tB), tI]) (.tm 2)) <|
.op (some 56) (.mv (.tm 6)) <|
.op (some 57) (.mv (.tm 13)) <|
.op (some 58) (.call true N_dfa_signature [(.d (pr [(.list tI), (.list (.list tI)), (.list tB), tI]), .tm 55), (.d (.list tI), .tm 56), (.d tI, .tm 57)] q_dfa_signature) <|
.op (some 14) (.mv (.tm 58)) <|
.nil)) (.seq (.region (
.op (some 60) (.mv (.tm 10)) <|
.op (some 61) (.mv (.tm 14)) <|
.op (some 62) (.lookup 9 3 true tS tI (.tm 60) (.tm 61)) <|
.op (some 59) (.mv (.tm 62)) <|
.op (some 63) (.ext (.tm 59) 0) <|
.op (some 64) (.ext (.tm 59) 1) <|
.op (some 15) (.mv (.tm 63)) <|
.op (some 16) (.mv (.tm 64)) <|
.nil)) (.seq (.cut [(0, ⟨[1, 2, 7, 13, 49, 50, 51], ⟨[(6, .sl 0), (10, .mp 1), (11, .sl 2)], [.vec T_i64 tI [], .map T_string T_i64 tS tI [], .vec T_i64 tI []]⟩, [.tm 15 tI, .vec 0 3 tI, .map 1 9 3 tS tI, .vec 2 3 tI]⟩)] (.seq (.region (
.op (some 65) (.mv (.tm 16)) <|
.op (some 66) (.un .not (.tm 65)) <|
.nil)) (.cond (.tm 66) (.seq (.region (
.op (some 67) (.mv (.tm 10)) <|
.op (some 68) (.lenM 9 3 (.tm 67)) <|
.op (some 15) (.mv (.tm 68)) <|
.nil)) (.region (
.op (some 69) (.mv (.tm 10)) <|
.op (some 70) (.mv (.tm 14)) <|
.op (some 71) (.mv (.tm 15)) <|
.op none (.mapset 9 3 tS tI (.tm 69) (.tm 70) (.tm 71)) <|
.nil))) .skip))) (.region (
.op (some 72) (.mv (.tm 11)) <|
.op (some 73) (.mv (.tm 13)) <|
.op (some 74) (.mv (.tm 15)) <|
.op (some 75) (.idxA tI (.tm 72) (.tm 73)) <|
.op none (.store tI (.tm 75) (.tm 74)) <|
.nil))))))) (.region (
.op (some 76) (.bin .add (.tm 51) (.k tI (1 : Int))) <|
.op (some 51) (.mv (.tm 76)) <|
.nil)))))))) (.seq (.seq (.region (
.op (some 77) (.mv (.tm 10)) <|
.op (some 78) (.lenM 9 3 (.tm 77)) <|
.op (some 79) (.mv (.tm 7)) <|
.op (some 80) (.bin .eql (.tm 78) (.tm 79)) <|
.nil)) (.cond (.tm 80) (.seq (.region (
.op (some 81) (.mv (.tm 11)) <|
.op (some 82) (.mv (.tm 7)) <|
.op (some 4) (.mv (.tm 81)) <|
.op (some 5) (.mv (.tm 82)) <|
.nil)) (.adj [.freeze 1, .sel [] [4, 5]] .ret)) .skip)) (.seq (.region (
.op (some 83) (.mv (.tm 11)) <|
.op (some 6) (.mv (.tm 83)) <|
.nil)) (.region (
.op (some 84) (.mv (.tm 10)) <|
.op (some 85) (.lenM 9 3 (.tm 84)) <|
.op (some 7) (.mv (.tm 85)) <|
.nil)))))))) [.sel [1] [1, 2, 6, 7]]))))))), [.tm 4, .tm 5], 86, q_dfa_blocks, 0⟩
def q_dfa_numbered : Sh := ⟨[], ⟨[], []⟩, [.tm 0 (pr [(.list tI), (.list (.list tI)), (.list tB), tI])]⟩
def f_dfa_numbered : TF := ⟨(.seq (.region (
.op (some 1) (.boxD 26 (pr [(.list tI), (.list (.list tI)), (.list tB), tI]) (.tm 0)) <|
.op (some 2) (.alloc 26 [.nil tI, .nil (.list tI), .nil tB, .d tI (0 : Int)]) <|
.nil)) (.seq (.region (
.op (some 13) (.load (pr [(.list tI), (.list (.list tI)), (.list tB), tI]) (.tm 1)) <|
.op (some 14) (.call false N_dfa_reachable [(.d (pr [(.list tI), (.list (.list tI)), (.list tB), tI]), .tm 13)] q_dfa_reachable) <|
.op (some 3) (.mv (.tm 14)) <|
.nil)) (.seq (.region (
.op (some 15) (.fldA 1 (.list (.list tI)) (.tm 1)) <|
.op (some 16) (.load (.list (.list tI)) (.tm 15)) <|
.op (some 17) (.len false (.tm 16)) <|
.op (some 18) (.mslice 3 tI 8 (.tm 17) (.tm 17)) <|
.op (some 4) (.mv (.tm 18)) <|
.nil)) (.seq (.seq (.region (
.op (some 19) (.mv (.tm 3)) <|
.op (some 20) (.len false (.tm 19)) <|
.op (some 21) (.mv (.k tI (0 : Int))) <|
.nil)) (.block 0 (.loop ⟨[1, 3, 19, 20], ⟨[(2, .ptr 0 0), (4, .sl 1)], [.box T_str_api_DFA [.nil tI, .nil (.list tI), .nil tB, .any], .vec T_i64 tI []]⟩, [.tm 21 tI, .cell 0 3 tI, .vec 1 3 tI]⟩ [(3, ⟨[1, 3], ⟨[(2, .ptr 0 0), (4, .sl 1)], [.box T_str_api_DFA [.nil tI, .nil (.list tI), .nil tB, .any], .vec T_i64 tI []]⟩, [.cell 0 3 tI, .vec 1 3 tI]⟩)] (.seq (.region (
.op (some 22) (.bin .lss (.tm 21) (.tm 20)) <|
.nil)) (.seq (.cond (.tm 22) .skip (.exit 0)) (.seq (.block 1 (.seq (.region (
.op (some 23) (.mv (.tm 21)) <|
.op (some 24) (.idxA tI (.tm 19) (.tm 21)) <|
.op (some 25) (.load tI (.tm 24)) <|
.op (some 5) (.mv (.tm 23)) <|
.op (some 6) (.mv (.tm 25)) <|
.nil)) (.region (
.op (some 26) (.mv (.tm 4)) <|
.op (some 27) (.mv (.tm 6)) <|
.op (some 28) (.mv (.tm 5)) <|
.op (some 29) (.idxA tI (.tm 26) (.tm 27)) <|
.op none (.store tI (.tm 29) (.tm 28)) <|
.nil)))) (.region (
.op (some 30) (.bin .add (.tm 21) (.k tI (1 : Int))) <|
.op (some 21) (.mv (.tm 30)) <|
.nil)))))))) (.seq (.region (
.op (some 31) (.fldA 0 (.list tI) (.tm 1)) <|
.op (some 32) (.load (.list tI) (.tm 31)) <|
.op (some 33) (.build [.nil tI, .nil (.list tI), .nil tB, .d tI (0 : Int)] [(0, 1, .tm 32)]) <|
.op (some 7) (.alloc 26 [.nil tI, .nil (.list tI), .nil tB, .d tI (0 : Int)]) <|
.op none (.store (pr [(.list tI), (.list (.list tI)), (.list tB), tI]) (.tm 7) (.tm 33)) <|
.nil)) (.seq (.seq (.region (
.op (some 34) (.mv (.tm 3)) <|
.op (some 35) (.len false (.tm 34)) <|
.op (some 36) (.mv (.k tI (0 : Int))) <|
.nil)) (.block 2 (.adj [.adoptC 2 1 22 (.list tI), .adoptC 2 2 4 tB] (.loop ⟨[1, 34, 35], ⟨[(2, .ptr 0 0), (4, .sl 1), (7, .ptr 2 0)], [.box T_str_api_DFA [.nil tI, .nil (.list tI), .nil tB, .any], .vec T_i64 tI [], .box T_str_api_DFA [.any, .sl 3, .sl 4, .any], .vec T_sl_i64 (.list tI) [], .vec T_bool tB []]⟩, [.tm 36 tI, .cell 0 3 tI, .vec 1 3 tI, .cell 2 0 (.list tI), .cell 2 3 tI, .vec 3 22 (.list tI), .vec 4 4 tB]⟩ [(5, ⟨[], ⟨[(2, .ptr 0 0), (7, .ptr 1 0)], [.box T_str_api_DFA [.nil tI, .nil (.list tI), .nil tB, .any], .box T_str_api_DFA [.any, .sl 2, .sl 3, .any], .vec T_sl_i64 (.list tI) [], .vec T_bool tB []]⟩, [.cell 0 3 tI, .cell 1 0 (.list tI), .cell 1 3 tI, .vec 2 22 (.list tI), .vec 3 4 tB]⟩)] (.seq (.region (
.op (some 37) (.bin .lss (.tm 36) (.tm 35)) <|
.nil)) (.seq (.cond (.tm 37) .skip (.adj [.sel [0, 2, 3, 4] [2, 7]] (.exit 2))) (.seq (.block 3 (.seq (.region (
.op (some 38) (.idxA tI (.tm 34) (.tm 36)) <|
.op (some 39) (.load tI (.tm 38)) <|
.op (some 9) (.mv (.tm 39)) <|
.nil)) (.seq (.region (
.op (some 40) (.fldA 0 (.list tI) (.tm 1)) <|
.op (some 41) (.load (.list tI) (.tm 40)) <|
.op (some 42) (.len false (.tm 41)) <|
.op (some 43) (.mslice 3 tI 8 (.tm 42) (.tm 42)) <|
.op (some 10) (.mv (.tm 43)) <|
.nil)) (.seq (.seq (.region (
.op (some 44) (.fldA 1 (.list (.list tI)) (.tm 1)) <|
.op (some 45) (.load (.list (.list tI)) (.tm 44)) <|
.op (some 46) (.mv (.tm 9)) <|
.op (some 47) (.idxA (.list tI) (.tm 45) (.tm 46)) <|
.op (some 48) (.load (.list tI) (.tm 47)) <|
.op (some 49) (.len false (.tm 48)) <|
.op (some 50) (.mv (.k tI (0 : Int))) <|
.nil)) (.block 4 (.loop ⟨[1, 9, 34, 35, 36, 48, 49], ⟨[(2, .ptr 0 0), (4, .sl 1), (7, .ptr 2 0), (10, .sl 5)], [.box T_str_api_DFA [.nil tI, .nil (.list tI), .nil tB, .any], .vec T_i64 tI [], .box T_str_api_DFA [.any, .sl 3, .sl 4, .any], .vec T_sl_i64 (.list tI) [], .vec T_bool tB [], .vec T_i64 tI []]⟩, [.tm 50 tI, .cell 0 3 tI, .vec 1 3 tI, .cell 2 0 (.list tI), .cell 2 3 tI, .vec 3 22 (.list tI), .vec 4 4 tB, .vec 5 3 tI]⟩ [(7, ⟨[1, 9, 34, 35, 36], ⟨[(2, .ptr 0 0), (4, .sl 1), (7, .ptr 2 0), (10, .sl 5)], [.box T_str_api_DFA [.nil tI, .nil (.list tI), .nil tB, .any], .vec T_i64 tI [], .box T_str_api_DFA [.any, .sl 3, .sl 4, .any], .vec T_sl_i64 (.list tI) [], .vec T_bool tB [], .vec T_i64 tI []]⟩, [.cell 0 3 tI, .vec 1 3 tI, .cell 2 0 (.list tI), .cell 2 3 tI, .vec 3 22 (.list tI), .vec 4 4 tB, .vec 5 3 tI]⟩)] (.seq (.region (
.op (some 51) (.bin .lss (.tm 50) (.tm 49)) <|
.nil)) (.seq (.cond (.tm 51) .skip (.exit 4)) (.seq (.block 5 (.seq (.region (
.op (some 52) (.mv (.tm 50)) <|
.op (some 53) (.idxA tI (.tm 48) (.tm 50)) <|
.op (some 54) (.load tI (.tm 53)) <|
.op (some 11) (.mv (.tm 52)) <|
.op (some 12) (.mv (.tm 54)) <|
.nil)) (.region (
.op (some 55) (.mv (.tm 10)) <|
.op (some 56) (.mv (.tm 11)) <|
.op (some 57) (.mv (.tm 4)) <|
.op (some 58) (.mv (.tm 12)) <|
.op (some 59) (.idxA tI (.tm 57) (.tm 58)) <|
.op (some 60) (.load tI (.tm 59)) <|
.op (some 61) (.idxA tI (.tm 55) (.tm 56)) <|
.op none (.store tI (.tm 61) (.tm 60)) <|
.nil)))) (.region (
.op (some 62) (.bin .add (.tm 50) (.k tI (1 : Int))) <|
.op (some 50) (.mv (.tm 62)) <|
.nil)))))))) (.seq (.region (
.op (some 63) (.fldA 1 (.list (.list tI)) (.tm 7)) <|
.op (some 64) (.load (.list (.list tI)) (.tm 63)) <|
.op (some 65) (.mv (.tm 10)) <|
.adj [.freeze 5] <|
.op (some 66) (.bslice false 22 (.list tI) 1 [.tm 65]) <|
.op (some 67) (.append 22 (.list tI) 24 (.tm 64) (.tm 66)) <|
.op (some 68) (.fldA 1 (.list (.list tI)) (.tm 7)) <|
.op none (.store (.list (.list tI)) (.tm 68) (.tm 67)) <|
.nil)) (.draw 8 (
.op (some 69) (.fldA 2 (.list tB) (.tm 7)) <|
.op (some 70) (.load (.list tB) (.tm 69)) <|
.op (some 71) (.fldA 2 (.list tB) (.tm 1)) <|
.op (some 72) (.load (.list tB) (.tm 71)) <|
.op (some 73) (.mv (.tm 9)) <|
.op (some 74) (.idxA tB (.tm 72) (.tm 73)) <|
.op (some 75) (.load tB (.tm 74)) <|
.op (some 76) (.bslice false 4 tB 1 [.tm 75]) <|
.op (some 77) (.append 4 tB 1 (.tm 70) (.tm 76)) <|
.op (some 78) (.fldA 2 (.list tB) (.tm 7)) <|
.op none (.store (.list tB) (.tm 78) (.tm 77)) <|
.nil) [[], [0], [], [2], [], [3, 4], [5], [6], [1, 7], [0, 1, 2, 3, 4, 5, 6, 7, 8], [9, 8, 8, 0, 1, 2, 3, 4, 5, 6, 7, 8]])))))) (.after (.region (
.op (some 79) (.bin .add (.tm 36) (.k tI (1 : Int))) <|
.op (some 36) (.mv (.tm 79)) <|
.nil)) [.sel [0, 1, 2, 3, 4] [1, 2, 4, 7, 34, 35, 36]])))))))) (.seq (.region (
.op (some 80) (.load (pr [(.list tI), (.list (.list tI)), (.list tB), tI]) (.tm 7)) <|
.op none (.store (pr [(.list tI), (.list (.list tI)), (.list tB), tI]) (.tm 2) (.tm 80)) <|
.nil)) (.adj [.freeze 2, .freeze 3] .ret)))))))), [.cell 2 (pr [(.list tI), (.list (.list tI)), (.list tB), tI])], 81, q_dfa_numbered, 0⟩
def q_dfa_minimal : Sh := ⟨[], ⟨[], []⟩, [.tm 0 (pr [(.list tI), (.list (.list tI)), (.list tB), tI])]⟩
def f_dfa_minimal : TF := ⟨(.seq (.region (
.op (some 1) (.boxD 26 (pr [(.list tI), (.list (.list tI)), (.list tB), tI]) (.tm 0)) <|
.op (some 2) (.alloc 26 [.nil tI, .nil (.list tI), .nil tB, .d tI (0 : Int)]) <|
.nil)) (.seq (.region (
.op (some 20) (.load (pr [(.list tI), (.list (.list tI)), (.list tB), tI]) (.tm 1)) <|
.op (some 21) (.call false N_dfa_reachable [(.d (pr [(.list tI), (.list (.list tI)), (.list tB), tI]), .tm 20)] q_dfa_reachable) <|
.op (some 3) (.mv (.tm 21)) <|
.nil)) (.seq (.region (
.op (some 23) (.load (pr [(.list tI), (.list (.list tI)), (.list tB), tI]) (.tm 1)) <|
.op (some 24) (.mv (.tm 3)) <|
.op (some 25) (.call false N_dfa_blocks [(.d (pr [(.list tI), (.list (.list tI)), (.list tB), tI]), .tm 23), (.d (.list tI), .tm 24)] q_dfa_blocks) <|
.op (some 22) (.mv (.tm 25)) <|
.op (some 26) (.ext (.tm 22) 0) <|
.op (some 27) (.ext (.tm 22) 1) <|
.op (some 4) (.mv (.tm 26)) <|
.op (some 5) (.mv (.tm 27)) <|
.nil)) (.seq (.draw2 3 [
 mkPO 0 true [] (some 28) (.mv (.tm 5)),
 mkPO 1 true [] (some 29) (.atq 1 (.mslice 22 (.list tI) 24 (.tm 28) (.tm 28))),
 mkPO 2 true [0, 1] (some 30) (.mv (.tm 5)),
 mkPO 3 true [0, 1] (some 31) (.atq 2 (.mslice 4 tB 1 (.tm 30) (.tm 30))),
 mkPO 4 true [0, 1, 2, 3] (some 32) (.mv (.tm 4)),
 mkPO 5 true [0, 1, 2, 3, 4] (some 33) (.fldA 3 tI (.tm 1)),
 mkPO 6 true [0, 1, 2, 3, 4] (some 34) (.load tI (.tm 33)),
 mkPO 7 true [0, 1, 2, 3] (some 35) (.idxA tI (.tm 32) (.tm 34)),
 mkPO 8 true [0, 1, 2, 3] (some 36) (.load tI (.tm 35)),
 mkPO 9 true [] (some 37) (.build [.nil tI, .nil (.list tI), .nil tB, .d tI (0 : Int)] [(1, 1, .tm 29), (2, 1, .tm 31), (3, 1, .tm 36)]),
 mkPO 10 true [0, 1, 2, 3, 4, 5, 6, 7, 8, 9] (some 6) (.atq 3 (.alloc 26 [.nil tI, .nil (.list tI), .nil tB, .d tI (0 : Int)]))] (
.op none (.store (pr [(.list tI), (.list (.list tI)), (.list tB), tI]) (.tm 6) (.tm 37)) <|
.nil) [[], [0, 0], [], [2, 2], [], [], [5], [4, 6], [7], [1, 3, 8], [], [10, 9, 0, 1, 2, 3, 4, 5, 6, 7, 8, 9, 10]]) (.seq (.seq (.region (
.op (some 38) (.mv (.tm 3)) <|
.op (some 39) (.len false (.tm 38)) <|
.op (some 40) (.mv (.k tI (0 : Int))) <|
.nil)) (.block 0 (.adj [.sel [0, 3, 1, 2] [1, 2, 4, 5, 6, 38, 39, 40]] (.loop ⟨[1, 4, 5, 38, 39], ⟨[(2, .ptr 0 0), (6, .ptr 1 0)], [.box T_str_api_DFA [.nil tI, .nil (.list tI), .nil tB, .any], .box T_str_api_DFA [.nil tI, .sl 2, .sl 3, .any], .vec T_sl_i64 (.list tI) [], .vec T_bool tB []]⟩, [.tm 40 tI, .cell 0 3 tI, .cell 1 3 tI, .vec 2 22 (.list tI), .vec 3 4 tB]⟩ [(3, ⟨[1, 5], ⟨[(2, .ptr 0 0), (6, .ptr 1 0)], [.box T_str_api_DFA [.nil tI, .nil (.list tI), .nil tB, .any], .box T_str_api_DFA [.nil tI, .sl 2, .sl 3, .any], .vec T_sl_i64 (.list tI) [], .vec T_bool tB []]⟩, [.cell 0 3 tI, .cell 1 3 tI, .vec 2 22 (.list tI), .vec 3 4 tB]⟩)] (.seq (.region (
.op (some 41) (.bin .lss (.tm 40) (.tm 39)) <|
.nil)) (.seq (.cond (.tm 41) .skip (.exit 0)) (.seq (.block 1 (.seq (.region (
.op (some 42) (.idxA tI (.tm 38) (.tm 40)) <|
.op (some 43) (.load tI (.tm 42)) <|
.op (some 8) (.mv (.tm 43)) <|
.nil)) (.seq (.region (
.op (some 44) (.fldA 0 (.list tI) (.tm 1)) <|
.op (some 45) (.load (.list tI) (.tm 44)) <|
.op (some 46) (.len false (.tm 45)) <|
.op (some 47) (.mslice 3 tI 8 (.tm 46) (.tm 46)) <|
.op (some 9) (.mv (.tm 47)) <|
.nil)) (.seq (.seq (.region (
.op (some 48) (.fldA 1 (.list (.list tI)) (.tm 1)) <|
.op (some 49) (.load (.list (.list tI)) (.tm 48)) <|
.op (some 50) (.mv (.tm 8)) <|
.op (some 51) (.idxA (.list tI) (.tm 49) (.tm 50)) <|
.op (some 52) (.load (.list tI) (.tm 51)) <|
.op (some 53) (.len false (.tm 52)) <|
.op (some 54) (.mv (.k tI (0 : Int))) <|
.nil)) (.block 2 (.loop ⟨[1, 4, 5, 8, 38, 39, 40, 52, 53], ⟨[(2, .ptr 0 0), (6, .ptr 1 0), (9, .sl 4)], [.box T_str_api_DFA [.nil tI, .nil (.list tI), .nil tB, .any], .box T_str_api_DFA [.nil tI, .sl 2, .sl 3, .any], .vec T_sl_i64 (.list tI) [], .vec T_bool tB [], .vec T_i64 tI []]⟩, [.tm 54 tI, .cell 0 3 tI, .cell 1 3 tI, .vec 2 22 (.list tI), .vec 3 4 tB, .vec 4 3 tI]⟩ [(5, ⟨[1, 4, 5, 8, 38, 39, 40], ⟨[(2, .ptr 0 0), (6, .ptr 1 0), (9, .sl 4)], [.box T_str_api_DFA [.nil tI, .nil (.list tI), .nil tB, .any], .box T_str_api_DFA [.nil tI, .sl 2, .sl 3, .any], .vec T_sl_i64 (.list tI) [], .vec T_bool tB [], .vec T_i64 tI []]⟩, [.cell 0 3 tI, .cell 1 3 tI, .vec 2 22 (.list tI), .vec 3 4 tB, .vec 4 3 tI]⟩)] (.seq (.region (
.op (some 55) (.bin .lss (.tm 54) (.tm 53)) <|
.nil)) (.seq (.cond (.tm 55) .skip (.exit 2)) (.seq (.block 3 (.seq (.region (
.op (some 56) (.mv (.tm 54)) <|
.op (some 57) (.idxA tI (.tm 52) (.tm 54)) <|
.op (some 58) (.load tI (.tm 57)) <|
.op (some 10) (.mv (.tm 56)) <|
.op (some 11) (.mv (.tm 58)) <|
.nil)) (.region (
.op (some 59) (.mv (.tm 9)) <|
.op (some 60) (.mv (.tm 10)) <|
.op (some 61) (.mv (.tm 4)) <|
.op (some 62) (.mv (.tm 11)) <|
.op (some 63) (.idxA tI (.tm 61) (.tm 62)) <|
.op (some 64) (.load tI (.tm 63)) <|
.op (some 65) (.idxA tI (.tm 59) (.tm 60)) <|
.op none (.store tI (.tm 65) (.tm 64)) <|
.nil)))) (.region (
.op (some 66) (.bin .add (.tm 54) (.k tI (1 : Int))) <|
.op (some 54) (.mv (.tm 66)) <|
.nil)))))))) (.seq (.draw 8 (
.op (some 67) (.fldA 1 (.list (.list tI)) (.tm 6)) <|
.op (some 68) (.load (.list (.list tI)) (.tm 67)) <|
.op (some 69) (.mv (.tm 4)) <|
.op (some 70) (.mv (.tm 8)) <|
.op (some 71) (.idxA tI (.tm 69) (.tm 70)) <|
.op (some 72) (.load tI (.tm 71)) <|
.op (some 73) (.mv (.tm 9)) <|
.op (some 74) (.idxA (.list tI) (.tm 68) (.tm 72)) <|
.adj [.freeze 4] <|
.op none (.store (.list tI) (.tm 74) (.tm 73)) <|
.nil) [[], [0], [], [], [2, 3], [4], [], [1, 5, 0, 1, 2, 3, 4, 5, 6], [7, 6, 0, 1, 2, 3, 4, 5, 6]]) (.draw 12 (
.op (some 75) (.fldA 2 (.list tB) (.tm 6)) <|
.op (some 76) (.load (.list tB) (.tm 75)) <|
.op (some 77) (.mv (.tm 4)) <|
.op (some 78) (.mv (.tm 8)) <|
.op (some 79) (.idxA tI (.tm 77) (.tm 78)) <|
.op (some 80) (.load tI (.tm 79)) <|
.op (some 81) (.fldA 2 (.list tB) (.tm 1)) <|
.op (some 82) (.load (.list tB) (.tm 81)) <|
.op (some 83) (.mv (.tm 8)) <|
.op (some 84) (.idxA tB (.tm 82) (.tm 83)) <|
.op (some 85) (.load tB (.tm 84)) <|
.op (some 86) (.idxA tB (.tm 76) (.tm 80)) <|
.op none (.store tB (.tm 86) (.tm 85)) <|
.nil) [[], [0], [], [], [2, 3], [4], [], [6], [], [7, 8], [9], [1, 5, 0, 1, 2, 3, 4, 5, 6, 7, 8, 9, 10], [11, 10, 0, 1, 2, 3, 4, 5, 6, 7, 8, 9, 10]])))))) (.after (.region (
.op (some 87) (.bin .add (.tm 40) (.k tI (1 : Int))) <|
.op (some 40) (.mv (.tm 87)) <|
.nil)) [.sel [0, 1, 2, 3] [1, 2, 4, 5, 6, 38, 39, 40]])))))))) (.seq (.region (
.op (some 88) (.mv (.tm 5)) <|
.op (some 89) (.msliceT 22 (.s 3 1 .e .e) tI 24 (.tm 88) (.tm 88)) <|
.op (some 12) (.mv (.tm 89)) <|
.nil)) (.seq (.seq (.region (
.op (some 90) (.fldA 0 (.list tI) (.tm 1)) <|
.op (some 91) (.load (.list tI) (.tm 90)) <|
.op (some 92) (.len false (.tm 91)) <|
.op (some 93) (.mv (.k tI (0 : Int))) <|
.nil)) (.block 4 (.adj [.adoptC 1 0 3 tI, .sel [0, 1, 5, 2, 3, 4] [2, 6, 12, 91, 92, 93]] (.loop ⟨[91, 92], ⟨[(2, .ptr 0 0), (6, .ptr 1 0), (12, .sl 5)], [.box T_str_api_DFA [.nil tI, .nil (.list tI), .nil tB, .any], .box T_str_api_DFA [.sl 2, .sl 3, .sl 4, .any], .vec T_i64 tI [], .vec T_sl_i64 (.list tI) [], .vec T_bool tB [], .tree T_sl_i64 (.s 3 1 .e .e) (.list tI) [] none]⟩, [.tm 93 tI, .cell 0 3 tI, .cell 1 3 tI, .vec 2 3 tI, .vec 3 22 (.list tI), .vec 4 4 tB, .tree 5 22 (.s 3 1 .e .e) (.list tI)]⟩ [(7, ⟨[], ⟨[(2, .ptr 0 0), (6, .ptr 1 0), (12, .sl 5)], [.box T_str_api_DFA [.nil tI, .nil (.list tI), .nil tB, .any], .box T_str_api_DFA [.sl 2, .sl 3, .sl 4, .any], .vec T_i64 tI [], .vec T_sl_i64 (.list tI) [], .vec T_bool tB [], .tree T_sl_i64 (.s 3 1 .e .e) (.list tI) [] none]⟩, [.cell 0 3 tI, .cell 1 3 tI, .vec 2 3 tI, .vec 3 22 (.list tI), .vec 4 4 tB, .tree 5 22 (.s 3 1 .e .e) (.list tI)]⟩)] (.seq (.region (
.op (some 94) (.bin .lss (.tm 93) (.tm 92)) <|
.nil)) (.seq (.cond (.tm 94) .skip (.exit 4)) (.seq (.cut [(0, ⟨[91, 92, 93], ⟨[(2, .ptr 0 0), (6, .ptr 1 0), (12, .sl 5)], [.box T_str_api_DFA [.nil tI, .nil (.list tI), .nil tB, .any], .box T_str_api_DFA [.sl 2, .sl 3, .sl 4, .any], .vec T_i64 tI [], .vec T_sl_i64 (.list tI) [], .vec T_bool tB [], .tree T_sl_i64 (.s 3 1 .e .e) (.list tI) [] none]⟩, [.cell 0 3 tI, .cell 1 3 tI, .vec 2 3 tI, .vec 3 22 (.list tI), .vec 4 4 tB, .tree 5 22 (.s 3 1 .e .e) (.list tI)]⟩)] (.block 5 (.seq (.region (
.op (some 95) (.mv (.tm 93)) <|
.op (some 96) (.idxA tI (.tm 91) (.tm 93)) <|
.op (some 97) (.load tI (.tm 96)) <|
.op (some 13) (.mv (.tm 95)) <|
.op (some 14) (.mv (.tm 97)) <|
.nil)) (.seq (.region (
.op (some 98) (.mv (.tm 13)) <|
.op (some 99) (.bin .eql (.tm 98) (.k tI (0 : Int))) <|
.op (some 15) (.mv (.tm 99)) <|
.nil)) (.seq (.seq (.region (
.op (some 100) (.fldA 1 (.list (.list tI)) (.tm 6)) <|
.op (some 101) (.load (.list (.list tI)) (.tm 100)) <|
.op (some 102) (.len false (.tm 101)) <|
.op (some 103) (.mv (.k tI (0 : Int))) <|
.nil)) (.block 6 (.loop ⟨[13, 14, 91, 92, 93, 102], ⟨[(2, .ptr 0 0), (6, .ptr 1 0), (12, .sl 5), (101, .sl 3)], [.box T_str_api_DFA [.nil tI, .nil (.list tI), .nil tB, .any], .box T_str_api_DFA [.sl 2, .sl 3, .sl 4, .any], .vec T_i64 tI [], .vec T_sl_i64 (.list tI) [], .vec T_bool tB [], .tree T_sl_i64 (.s 3 1 .e .e) (.list tI) [] none]⟩, [.tm 15 tB, .tm 103 tI, .cell 0 3 tI, .cell 1 3 tI, .vec 2 3 tI, .vec 3 22 (.list tI), .vec 4 4 tB, .tree 5 22 (.s 3 1 .e .e) (.list tI)]⟩ [(9, ⟨[13, 14, 91, 92, 93], ⟨[(2, .ptr 0 0), (6, .ptr 1 0), (12, .sl 5)], [.box T_str_api_DFA [.nil tI, .nil (.list tI), .nil tB, .any], .box T_str_api_DFA [.sl 2, .sl 3, .sl 4, .any], .vec T_i64 tI [], .vec T_sl_i64 (.list tI) [], .vec T_bool tB [], .tree T_sl_i64 (.s 3 1 .e .e) (.list tI) [] none]⟩, [.tm 15 tB, .cell 0 3 tI, .cell 1 3 tI, .vec 2 3 tI, .vec 3 22 (.list tI), .vec 4 4 tB, .tree 5 22 (.s 3 1 .e .e) (.list tI)]⟩)] (.seq (.region (
.op (some 104) (.bin .lss (.tm 103) (.tm 102)) <|
.nil)) (.seq (.cond (.tm 104) .skip (.exit 6)) (.seq (.block 7 (.seq (.region (
.op (some 105) (.idxA (.list tI) (.tm 101) (.tm 103)) <|
.op (some 106) (.load (.list tI) (.tm 105)) <|
.op (some 17) (.mv (.tm 106)) <|
.nil)) (.draw 14 (
.op (some 107) (.mv (.tm 15)) <|
.op (some 108) (.mv (.tm 107)) <|
.gb 108 false (
.op (some 109) (.mv (.tm 17)) <|
.op (some 110) (.mv (.tm 13)) <|
.op (some 111) (.idxA tI (.tm 109) (.tm 110)) <|
.op (some 112) (.load tI (.tm 111)) <|
.op (some 113) (.mv (.tm 17)) <|
.op (some 114) (.mv (.tm 13)) <|
.op (some 115) (.bin .sub (.tm 114) (.k tI (1 : Int))) <|
.op (some 116) (.idxA tI (.tm 113) (.tm 115)) <|
.op (some 117) (.load tI (.tm 116)) <|
.op (some 118) (.bin .neq (.tm 112) (.tm 117)) <|
.nil) tB (.tm 118) (.k tB true) 119 <|
.op (some 15) (.mv (.tm 119)) <|
.nil) [[], [0], [1], [1], [2, 3, 1], [4, 1], [1], [1], [7, 1], [6, 8, 1], [9, 1], [5, 10, 1], [1, 11], [12, 1, 0, 1, 2, 3, 4, 5, 6, 7, 8, 9, 10, 11, 12]]))) (.region (
.op (some 120) (.bin .add (.tm 103) (.k tI (1 : Int))) <|
.op (some 103) (.mv (.tm 120)) <|
.nil)))))))) (.seq (.region (
.op (some 121) (.mv (.tm 15)) <|
.nil)) (.cond (.tm 121) (.seq (.region (
.op (some 122) (.fldA 0 (.list tI) (.tm 6)) <|
.op (some 123) (.load (.list tI) (.tm 122)) <|
.op (some 124) (.mv (.tm 14)) <|
.op (some 125) (.bslice false 3 tI 1 [.tm 124]) <|
.op (some 126) (.append 3 tI 8 (.tm 123) (.tm 125)) <|
.op (some 127) (.fldA 0 (.list tI) (.tm 6)) <|
.op none (.store (.list tI) (.tm 127) (.tm 126)) <|
.nil)) (.seq (.region (
.op (some 128) (.fldA 1 (.list (.list tI)) (.tm 6)) <|
.op (some 129) (.load (.list (.list tI)) (.tm 128)) <|
.op (some 130) (.len false (.tm 129)) <|
.op (some 131) (.mv (.k tI (0 : Int))) <|
.nil)) (.block 8 (.loop ⟨[13, 91, 92, 93, 130], ⟨[(2, .ptr 0 0), (6, .ptr 1 0), (12, .sl 5), (129, .sl 3)], [.box T_str_api_DFA [.nil tI, .nil (.list tI), .nil tB, .any], .box T_str_api_DFA [.sl 2, .sl 3, .sl 4, .any], .vec T_i64 tI [], .vec T_sl_i64 (.list tI) [], .vec T_bool tB [], .tree T_sl_i64 (.s 3 1 .e .e) (.list tI) [] none]⟩, [.tm 131 tI, .cell 0 3 tI, .cell 1 3 tI, .vec 2 3 tI, .vec 3 22 (.list tI), .vec 4 4 tB, .tree 5 22 (.s 3 1 .e .e) (.list tI)]⟩ [(11, ⟨[91, 92, 93], ⟨[(2, .ptr 0 0), (6, .ptr 1 0), (12, .sl 5)], [.box T_str_api_DFA [.nil tI, .nil (.list tI), .nil tB, .any], .box T_str_api_DFA [.sl 2, .sl 3, .sl 4, .any], .vec T_i64 tI [], .vec T_sl_i64 (.list tI) [], .vec T_bool tB [], .tree T_sl_i64 (.s 3 1 .e .e) (.list tI) [] none]⟩, [.cell 0 3 tI, .cell 1 3 tI, .vec 2 3 tI, .vec 3 22 (.list tI), .vec 4 4 tB, .tree 5 22 (.s 3 1 .e .e) (.list tI)]⟩)] (.seq (.region (
.op (some 132) (.bin .lss (.tm 131) (.tm 130)) <|
.nil)) (.seq (.cond (.tm 132) .skip (.exit 8)) (.seq (.block 9 (.seq (.region (
.op (some 133) (.mv (.tm 131)) <|
.op (some 134) (.idxA (.list tI) (.tm 129) (.tm 131)) <|
.op (some 135) (.load (.list tI) (.tm 134)) <|
.op (some 18) (.mv (.tm 133)) <|
.op (some 19) (.mv (.tm 135)) <|
.nil)) (.adj [.focus 5 18 0 tI] (.after (.draw2 0 [
 mkPO 0 true [] (some 136) (.mv (.tm 12)),
 mkPO 1 true [0] (some 137) (.mv (.tm 18)),
 mkPO 2 true [0, 1] (some 138) (.mv (.tm 12)),
 mkPO 3 true [0, 1, 2] (some 139) (.mv (.tm 18)),
 mkPO 4 true [0, 1] (some 140) (.idxA (.list tI) (.tm 138) (.tm 139)),
 mkPO 5 true [0, 1] (some 141) (.load (.list tI) (.tm 140)),
 mkPO 6 true [0, 1, 2, 3, 4, 5] (some 142) (.mv (.tm 19)),
 mkPO 7 true [0, 1, 2, 3, 4, 5, 6] (some 143) (.mv (.tm 13)),
 mkPO 8 true [0, 1, 2, 3, 4, 5] (some 144) (.idxA tI (.tm 142) (.tm 143)),
 mkPO 9 true [0, 1, 2, 3, 4, 5] (some 145) (.load tI (.tm 144)),
 mkPO 10 true [0, 1, 2, 3, 4, 5] (some 146) (.bslice false 3 tI 1 [.tm 145]),
 mkPO 11 false [0, 1] (some 147) (.append 3 tI 8 (.tm 141) (.tm 146))] (
.op (some 148) (.idxA (.list tI) (.tm 136) (.tm 137)) <|
.op none (.store (.list tI) (.tm 148) (.tm 147)) <|
.nil) [[], [], [], [], [2, 3], [4], [], [], [6, 7], [8], [9], [5, 10], [0, 1, 0, 1, 2, 3, 4, 5, 6, 7, 8, 9, 10, 11], [12, 11, 11, 0, 1, 2, 3, 4, 5, 6, 7, 8, 9, 10, 11]]) [.close 5])))) (.after (.region (
.op (some 149) (.bin .add (.tm 131) (.k tI (1 : Int))) <|
.op (some 131) (.mv (.tm 149)) <|
.nil)) [.sel [0, 1, 2, 3, 4, 5] [2, 6, 12, 13, 91, 92, 93, 129, 130, 131]])))))))) .skip))))))) (.region (
.op (some 150) (.bin .add (.tm 93) (.k tI (1 : Int))) <|
.op (some 93) (.mv (.tm 150)) <|
.nil))))))))) (.seq (.region (
.op (some 151) (.mv (.tm 12)) <|
.op (some 152) (.fldA 1 (.list (.list tI)) (.tm 6)) <|
.op none (.store (.list (.list tI)) (.tm 152) (.tm 151)) <|
.nil)) (.seq (.region (
.op (some 153) (.load (pr [(.list tI), (.list (.list tI)), (.list tB), tI]) (.tm 6)) <|
.adj [.freeze 2, .freeze 5, .freeze 4] <|
.op (some 154) (.call false N_dfa_numbered [(.d (pr [(.list tI), (.list (.list tI)), (.list tB), tI]), .tm 153)] q_dfa_numbered) <|
.op none (.store (pr [(.list tI), (.list (.list tI)), (.list tB), tI]) (.tm 2) (.tm 154)) <|
.nil)) .ret))))))))), [.cell 2 (pr [(.list tI), (.list (.list tI)), (.list tB), tI])], 155, q_dfa_minimal, 0⟩
def q_dfa_Build : Sh := ⟨[], ⟨[], []⟩, [.tm 0 (pr [(.list tI), (.list (.list tI)), (.list tB), tI]), .tm 1 tI]⟩
def f_dfa_Build : TF := ⟨(.seq (.region (
.op (some 1) (.boxD 33 .rx (.tm 0)) <|
.op (some 2) (.alloc 26 [.nil tI, .nil (.list tI), .nil tB, .d tI (0 : Int)]) <|
.op (some 3) (.mv (.k tI (0 : Int))) <|
.nil)) (.seq (.seq (.region (
.op (some 20) (.load .rx (.tm 1)) <|
.op (some 21) (.call false N_regex_Check [(.d .rx, .tm 20)] q_regex_Check) <|
.op (some 4) (.mv (.tm 21)) <|
.nil)) (.seq (.region (
.op (some 22) (.mv (.tm 4)) <|
.op (some 23) (.bin .neq (.tm 22) (.k tI (0 : Int))) <|
.nil)) (.cond (.tm 23) (.seq (.region (
.op (some 24) (.build [.nil tI, .nil (.list tI), .nil tB, .d tI (0 : Int)] []) <|
.op (some 25) (.mv (.tm 4)) <|
.op none (.store (pr [(.list tI), (.list (.list tI)), (.list tB), tI]) (.tm 2) (.tm 24)) <|
.op (some 3) (.mv (.tm 25)) <|
.nil)) .ret) .skip))) (.seq (.region (
.op (some 26) (.build [.nil tI, .nil tI, .nil tQ] []) <|
.op (some 27) (.box 52 (.tm 26)) <|
.op (some 5) (.mv (.tm 27)) <|
.nil)) (.seq (.region (
.op (some 28) (.mv (.tm 5)) <|
.op (some 29) (.load .rx (.tm 1)) <|
.adj [.adoptC 1 0 3 tI, .adoptC 1 1 3 tI, .adoptC 1 2 53 tQ] <|
.op (some 30) (.callA false false [1, 2, 3, 4] N_dfa_positions_walk_rd [(.x, .tm 28), (.d .rx, .tm 29)] q_dfa_positions_walk_rd) <|
.op (some 6) (.alloc 55 [.d tQ (0 : Int), .d tQ (0 : Int), .d tB false]) <|
.op none (.store (pr [tQ, tQ, tB]) (.tm 6) (.tm 30)) <|
.nil)) (.seq (.region (
.op (some 31) (.mv (.tm 5)) <|
.op (some 32) (.callA false false [1, 2, 3, 4] N_dfa_positions_starts_r [(.x, .tm 31)] q_dfa_positions_starts_r) <|
.op (some 33) (.build [.nil tI, .nil (.list tI), .nil tB, .d tI (0 : Int)] [(0, 1, .tm 32)]) <|
.op (some 7) (.alloc 26 [.nil tI, .nil (.list tI), .nil tB, .d tI (0 : Int)]) <|
.op none (.store (pr [(.list tI), (.list (.list tI)), (.list tB), tI]) (.tm 7) (.tm 33)) <|
.nil)) (.seq (.region (
.op (some 34) (.build [.d tB false, .d tQ (0 : Int)] [(0, 1, .k tB true)]) <|
.op (some 35) (.bslice true 59 (pr [tB, tQ]) 1 [.tm 34]) <|
.op (some 8) (.mv (.tm 35)) <|
.nil)) (.seq (.region (
.op (some 36) (.mkmap 59 3 (pr [tB, tQ]) tI) <|
.op (some 37) (.mv (.tm 8)) <|
.op (some 38) (.idxA (pr [tB, tQ]) (.tm 37) (.k tI (0 : Int))) <|
.op (some 39) (.load (pr [tB, tQ]) (.tm 38)) <|
.op none (.mapset 59 3 (pr [tB, tQ]) tI (.tm 36) (.tm 39) (.k tI (0 : Int))) <|
.op (some 40) (.mv (.tm 36)) <|
.op (some 9) (.mv (.tm 40)) <|
.nil)) (.seq (.seq (.region (
.op (some 10) (.mv (.k tI (0 : Int))) <|
.nil)) (.block 0 (.adj [.adoptC 6 1 22 (.list tI), .adoptC 6 2 4 tB, .sel [0, 1, 2, 3, 4, 5, 6, 9, 10, 7, 8] [2, 5, 6, 7, 8, 9, 10]] (.loop ⟨[], ⟨[(2, .ptr 0 0), (5, .ptr 1 0), (6, .ptr 5 0), (7, .ptr 6 0), (8, .sl 9), (9, .mp 10)], [.box T_str_api_DFA [.nil tI, .nil (.list tI), .nil tB, .any], .box T_str_dfa_positions [.sl 2, .sl 3, .sl 4], .vec T_i64 tI [], .vec T_i64 tI [], .vec T_u64 tQ [], .box T_str_dfa_sets [.any, .any, .any], .box T_str_api_DFA [.any, .sl 7, .sl 8, .any], .vec T_sl_i64 (.list tI) [], .vec T_bool tB [], .vec T_str_dfa_state (pr [tB, tQ]) [], .map T_str_dfa_state T_i64 (pr [tB, tQ]) tI []]⟩, [.tm 10 tI, .cell 0 3 tI, .vec 2 3 tI, .vec 3 3 tI, .vec 4 53 tQ, .cell 5 0 tQ, .cell 5 1 tQ, .cell 5 2 tB, .cell 6 0 (.list tI), .cell 6 3 tI, .vec 7 22 (.list tI), .vec 8 4 tB, .vec 9 59 (pr [tB, tQ]), .map 10 59 3 (pr [tB, tQ]) tI]⟩ [(1, ⟨[], ⟨[(2, .ptr 0 0)], [.box T_str_api_DFA [.nil tI, .nil (.list tI), .nil tB, .any]]⟩, [.tm 3 tI, .cell 0 3 tI]⟩), (3, ⟨[], ⟨[(2, .ptr 0 0), (7, .ptr 1 0)], [.box T_str_api_DFA [.nil tI, .nil (.list tI), .nil tB, .any], .box T_str_api_DFA [.any, .sl 2, .sl 3, .any], .vec T_sl_i64 (.list tI) [], .vec T_bool tB []]⟩, [.cell 0 3 tI, .cell 1 0 (.list tI), .cell 1 3 tI, .vec 2 22 (.list tI), .vec 3 4 tB]⟩)] (.seq (.seq (.region (
.op (some 41) (.mv (.tm 10)) <|
.op (some 42) (.mv (.tm 8)) <|
.op (some 43) (.len false (.tm 42)) <|
.op (some 44) (.bin .lss (.tm 41) (.tm 43)) <|
.nil)) (.cond (.tm 44) .skip (.adj [.sel [0, 6, 7, 8] [2, 7]] (.exit 0)))) (.seq (.block 1 (.seq (.region (
.op (some 47) (.mv (.tm 8)) <|
.op (some 48) (.mv (.tm 10)) <|
.op (some 49) (.idxA (pr [tB, tQ]) (.tm 47) (.tm 48)) <|
.op (some 50) (.load (pr [tB, tQ]) (.tm 49)) <|
.op (some 11) (.alloc 59 [.d tB false, .d tQ (0 : Int)]) <|
.op none (.store (pr [tB, tQ]) (.tm 11) (.tm 50)) <|
.nil)) (.seq (.region (
.op (some 51) (.fldA 0 tQ (.tm 6)) <|
.op (some 52) (.load tQ (.tm 51)) <|
.op (some 12) (.mv (.tm 52)) <|
.nil)) (.seq (.cut [(0, ⟨[10], ⟨[(2, .ptr 0 0), (5, .ptr 1 0), (6, .ptr 5 0), (7, .ptr 6 0), (8, .sl 9), (9, .mp 10), (11, .ptr 11 0)], [.box T_str_api_DFA [.nil tI, .nil (.list tI), .nil tB, .any], .box T_str_dfa_positions [.sl 2, .sl 3, .sl 4], .vec T_i64 tI [], .vec T_i64 tI [], .vec T_u64 tQ [], .box T_str_dfa_sets [.any, .any, .any], .box T_str_api_DFA [.any, .sl 7, .sl 8, .any], .vec T_sl_i64 (.list tI) [], .vec T_bool tB [], .vec T_str_dfa_state (pr [tB, tQ]) [], .map T_str_dfa_state T_i64 (pr [tB, tQ]) tI [], .box T_str_dfa_state [.any, .any]]⟩, [.tm 12 tQ, .cell 0 3 tI, .vec 2 3 tI, .vec 3 3 tI, .vec 4 53 tQ, .cell 5 0 tQ, .cell 5 1 tQ, .cell 5 2 tB, .cell 6 0 (.list tI), .cell 6 3 tI, .vec 7 22 (.list tI), .vec 8 4 tB, .vec 9 59 (pr [tB, tQ]), .map 10 59 3 (pr [tB, tQ]) tI, .cell 11 0 tB, .cell 11 1 tQ]⟩)] (.seq (.region (
.op (some 53) (.fldA 0 tB (.tm 11)) <|
.op (some 54) (.load tB (.tm 53)) <|
.op (some 55) (.un .not (.tm 54)) <|
.nil)) (.cond (.tm 55) (.seq (.region (
.op (some 12) (.mv (.k tQ (0 : Int))) <|
.nil)) (.seq (.region (
.op (some 56) (.mv (.tm 5)) <|
.op (some 57) (.nilc (.tm 56)) <|
.op (some 58) (.fldA 2 (.list tQ) (.tm 57)) <|
.op (some 59) (.load (.list tQ) (.tm 58)) <|
.op (some 60) (.len false (.tm 59)) <|
.op (some 61) (.mv (.k tI (0 : Int))) <|
.nil)) (.block 2 (.loop ⟨[10, 60], ⟨[(2, .ptr 0 0), (5, .ptr 1 0), (6, .ptr 5 0), (7, .ptr 6 0), (8, .sl 9), (9, .mp 10), (11, .ptr 11 0)], [.box T_str_api_DFA [.nil tI, .nil (.list tI), .nil tB, .any], .box T_str_dfa_positions [.sl 2, .sl 3, .sl 4], .vec T_i64 tI [], .vec T_i64 tI [], .vec T_u64 tQ [], .box T_str_dfa_sets [.any, .any, .any], .box T_str_api_DFA [.any, .sl 7, .sl 8, .any], .vec T_sl_i64 (.list tI) [], .vec T_bool tB [], .vec T_str_dfa_state (pr [tB, tQ]) [], .map T_str_dfa_state T_i64 (pr [tB, tQ]) tI [], .box T_str_dfa_state [.any, .any]]⟩, [.tm 12 tQ, .tm 61 tI, .cell 0 3 tI, .vec 2 3 tI, .vec 3 3 tI, .vec 4 53 tQ, .cell 5 0 tQ, .cell 5 1 tQ, .cell 5 2 tB, .cell 6 0 (.list tI), .cell 6 3 tI, .vec 7 22 (.list tI), .vec 8 4 tB, .vec 9 59 (pr [tB, tQ]), .map 10 59 3 (pr [tB, tQ]) tI, .cell 11 0 tB, .cell 11 1 tQ]⟩ [(5, ⟨[10], ⟨[(2, .ptr 0 0), (5, .ptr 1 0), (6, .ptr 5 0), (7, .ptr 6 0), (8, .sl 9), (9, .mp 10), (11, .ptr 11 0)], [.box T_str_api_DFA [.nil tI, .nil (.list tI), .nil tB, .any], .box T_str_dfa_positions [.sl 2, .sl 3, .sl 4], .vec T_i64 tI [], .vec T_i64 tI [], .vec T_u64 tQ [], .box T_str_dfa_sets [.any, .any, .any], .box T_str_api_DFA [.any, .sl 7, .sl 8, .any], .vec T_sl_i64 (.list tI) [], .vec T_bool tB [], .vec T_str_dfa_state (pr [tB, tQ]) [], .map T_str_dfa_state T_i64 (pr [tB, tQ]) tI [], .box T_str_dfa_state [.any, .any]]⟩, [.tm 12 tQ, .cell 0 3 tI, .vec 2 3 tI, .vec 3 3 tI, .vec 4 53 tQ, .cell 5 0 tQ, .cell 5 1 tQ, .cell 5 2 tB, .cell 6 0 (.list tI), .cell 6 3 tI, .vec 7 22 (.list tI), .vec 8 4 tB, .vec 9 59 (pr [tB, tQ]), .map 10 59 3 (pr [tB, tQ]) tI, .cell 11 0 tB, .cell 11 1 tQ]⟩)] (.seq (.region (
.op (some 62) (.bin .lss (.tm 61) (.tm 60)) <|
.nil)) (.seq (.cond (.tm 62) .skip (.exit 2)) (.seq (.cut [(0, ⟨[10, 60, 61], ⟨[(2, .ptr 0 0), (5, .ptr 1 0), (6, .ptr 5 0), (7, .ptr 6 0), (8, .sl 9), (9, .mp 10), (11, .ptr 11 0)], [.box T_str_api_DFA [.nil tI, .nil (.list tI), .nil tB, .any], .box T_str_dfa_positions [.sl 2, .sl 3, .sl 4], .vec T_i64 tI [], .vec T_i64 tI [], .vec T_u64 tQ [], .box T_str_dfa_sets [.any, .any, .any], .box T_str_api_DFA [.any, .sl 7, .sl 8, .any], .vec T_sl_i64 (.list tI) [], .vec T_bool tB [], .vec T_str_dfa_state (pr [tB, tQ]) [], .map T_str_dfa_state T_i64 (pr [tB, tQ]) tI [], .box T_str_dfa_state [.any, .any]]⟩, [.tm 12 tQ, .cell 0 3 tI, .vec 2 3 tI, .vec 3 3 tI, .vec 4 53 tQ, .cell 5 0 tQ, .cell 5 1 tQ, .cell 5 2 tB, .cell 6 0 (.list tI), .cell 6 3 tI, .vec 7 22 (.list tI), .vec 8 4 tB, .vec 9 59 (pr [tB, tQ]), .map 10 59 3 (pr [tB, tQ]) tI, .cell 11 0 tB, .cell 11 1 tQ]⟩)] (.block 3 (.seq (.region (
.op (some 63) (.mv (.tm 61)) <|
.op (some 13) (.mv (.tm 63)) <|
.nil)) (.seq (.region (
.op (some 64) (.fldA 1 tQ (.tm 11)) <|
.op (some 65) (.load tQ (.tm 64)) <|
.op (some 66) (.mv (.tm 13)) <|
.op (some 67) (.cvtI .u64 (.tm 66)) <|
.op (some 68) (.bin .shr (.tm 65) (.tm 67)) <|
.op (some 69) (.bin .and (.tm 68) (.k tQ (1 : Int))) <|
.op (some 70) (.bin .eql (.tm 69) (.k tQ (1 : Int))) <|
.nil)) (.cond (.tm 70) (.region (
.op (some 71) (.mv (.tm 12)) <|
.op (some 72) (.mv (.tm 5)) <|
.op (some 73) (.nilc (.tm 72)) <|
.op (some 74) (.fldA 2 (.list tQ) (.tm 73)) <|
.op (some 75) (.load (.list tQ) (.tm 74)) <|
.op (some 76) (.mv (.tm 13)) <|
.op (some 77) (.idxA tQ (.tm 75) (.tm 76)) <|
.op (some 78) (.load tQ (.tm 77)) <|
.op (some 79) (.bin .or (.tm 71) (.tm 78)) <|
.op (some 12) (.mv (.tm 79)) <|
.nil)) .skip))))) (.region (
.op (some 80) (.bin .add (.tm 61) (.k tI (1 : Int))) <|
.op (some 61) (.mv (.tm 80)) <|
.nil))))))))) .skip))) (.seq (.region (
.op (some 81) (.fldA 0 (.list tI) (.tm 7)) <|
.op (some 82) (.load (.list tI) (.tm 81)) <|
.op (some 83) (.len false (.tm 82)) <|
.op (some 84) (.mslice 3 tI 8 (.tm 83) (.tm 83)) <|
.op (some 14) (.mv (.tm 84)) <|
.nil)) (.seq (.seq (.region (
.op (some 85) (.fldA 0 (.list tI) (.tm 7)) <|
.op (some 86) (.load (.list tI) (.tm 85)) <|
.op (some 87) (.len false (.tm 86)) <|
.op (some 88) (.mv (.k tI (0 : Int))) <|
.nil)) (.block 4 (.loop ⟨[10, 12, 86, 87], ⟨[(2, .ptr 0 0), (5, .ptr 1 0), (6, .ptr 5 0), (7, .ptr 6 0), (8, .sl 9), (9, .mp 10), (11, .ptr 11 0), (14, .sl 12)], [.box T_str_api_DFA [.nil tI, .nil (.list tI), .nil tB, .any], .box T_str_dfa_positions [.sl 2, .sl 3, .sl 4], .vec T_i64 tI [], .vec T_i64 tI [], .vec T_u64 tQ [], .box T_str_dfa_sets [.any, .any, .any], .box T_str_api_DFA [.any, .sl 7, .sl 8, .any], .vec T_sl_i64 (.list tI) [], .vec T_bool tB [], .vec T_str_dfa_state (pr [tB, tQ]) [], .map T_str_dfa_state T_i64 (pr [tB, tQ]) tI [], .box T_str_dfa_state [.any, .any], .vec T_i64 tI []]⟩, [.tm 88 tI, .cell 0 3 tI, .vec 2 3 tI, .vec 3 3 tI, .vec 4 53 tQ, .cell 5 0 tQ, .cell 5 1 tQ, .cell 5 2 tB, .cell 6 0 (.list tI), .cell 6 3 tI, .vec 7 22 (.list tI), .vec 8 4 tB, .vec 9 59 (pr [tB, tQ]), .map 10 59 3 (pr [tB, tQ]) tI, .cell 11 0 tB, .cell 11 1 tQ, .vec 12 3 tI]⟩ [(1, ⟨[], ⟨[(2, .ptr 0 0)], [.box T_str_api_DFA [.nil tI, .nil (.list tI), .nil tB, .any]]⟩, [.tm 3 tI, .cell 0 3 tI]⟩), (7, ⟨[10], ⟨[(2, .ptr 0 0), (5, .ptr 1 0), (6, .ptr 5 0), (7, .ptr 6 0), (8, .sl 9), (9, .mp 10), (11, .ptr 11 0), (14, .sl 12)], [.box T_str_api_DFA [.nil tI, .nil (.list tI), .nil tB, .any], .box T_str_dfa_positions [.sl 2, .sl 3, .sl 4], .vec T_i64 tI [], .vec T_i64 tI [], .vec T_u64 tQ [], .box T_str_dfa_sets [.any, .any, .any], .box T_str_api_DFA [.any, .sl 7, .sl 8, .any], .vec T_sl_i64 (.list tI) [], .vec T_bool tB [], .vec T_str_dfa_state (pr [tB, tQ]) [], .map T_str_dfa_state T_i64 (pr [tB, tQ]) tI [], .box T_str_dfa_state [.any, .any], .vec T_i64 tI []]⟩, [.cell 0 3 tI, .vec 2 3 tI, .vec 3 3 tI, .vec 4 53 tQ, .cell 5 0 tQ, .cell 5 1 tQ, .cell 5 2 tB, .cell 6 0 (.list tI), .cell 6 3 tI, .vec 7 22 (.list tI), .vec 8 4 tB, .vec 9 59 (pr [tB, tQ]), .map 10 59 3 (pr [tB, tQ]) tI, .cell 11 0 tB, .cell 11 1 tQ, .vec 12 3 tI]⟩)] (.seq (.region (
.op (some 89) (.bin .lss (.tm 88) (.tm 87)) <|
.nil)) (.seq (.cond (.tm 89) .skip (.exit 4)) (.seq (.block 5 (.seq (.region (
.op (some 90) (.mv (.tm 88)) <|
.op (some 91) (.idxA tI (.tm 86) (.tm 88)) <|
.op (some 92) (.load tI (.tm 91)) <|
.op (some 15) (.mv (.tm 90)) <|
.op (some 16) (.mv (.tm 92)) <|
.nil)) (.seq (.region (
.op (some 93) (.mv (.tm 12)) <|
.op (some 94) (.mv (.tm 5)) <|
.op (some 95) (.mv (.tm 16)) <|
.op (some 96) (.callA false false [1, 2, 3, 4] N_dfa_positions_matching_rd [(.x, .tm 94), (.d tI, .tm 95)] q_dfa_positions_matching_rd) <|
.op (some 97) (.bin .and (.tm 93) (.tm 96)) <|
.op (some 98) (.build [.d tB false, .d tQ (0 : Int)] [(1, 1, .tm 97)]) <|
.op (some 17) (.alloc 59 [.d tB false, .d tQ (0 : Int)]) <|
.op none (.store (pr [tB, tQ]) (.tm 17) (.tm 98)) <|
.nil)) (.seq (.region (
.op (some 100) (.mv (.tm 9)) <|
.op (some 101) (.load (pr [tB, tQ]) (.tm 17)) <|
.op (some 102) (.lookup 59 3 true (pr [tB, tQ]) tI (.tm 100) (.tm 101)) <|
.op (some 99) (.mv (.tm 102)) <|
.op (some 103) (.ext (.tm 99) 0) <|
.op (some 104) (.ext (.tm 99) 1) <|
.op (some 18) (.mv (.tm 103)) <|
.op (some 19) (.mv (.tm 104)) <|
.nil)) (.seq (.cut [(0, ⟨[10, 12, 15, 86, 87, 88], ⟨[(2, .ptr 0 0), (5, .ptr 1 0), (6, .ptr 5 0), (7, .ptr 6 0), (8, .sl 9), (9, .mp 10), (11, .ptr 11 0), (14, .sl 12)], [.box T_str_api_DFA [.nil tI, .nil (.list tI), .nil tB, .any], .box T_str_dfa_positions [.sl 2, .sl 3, .sl 4], .vec T_i64 tI [], .vec T_i64 tI [], .vec T_u64 tQ [], .box T_str_dfa_sets [.any, .any, .any], .box T_str_api_DFA [.any, .sl 7, .sl 8, .any], .vec T_sl_i64 (.list tI) [], .vec T_bool tB [], .vec T_str_dfa_state (pr [tB, tQ]) [], .map T_str_dfa_state T_i64 (pr [tB, tQ]) tI [], .box T_str_dfa_state [.any, .any], .vec T_i64 tI []]⟩, [.tm 18 tI, .cell 0 3 tI, .vec 2 3 tI, .vec 3 3 tI, .vec 4 53 tQ, .cell 5 0 tQ, .cell 5 1 tQ, .cell 5 2 tB, .cell 6 0 (.list tI), .cell 6 3 tI, .vec 7 22 (.list tI), .vec 8 4 tB, .vec 9 59 (pr [tB, tQ]), .map 10 59 3 (pr [tB, tQ]) tI, .cell 11 0 tB, .cell 11 1 tQ, .vec 12 3 tI]⟩), (1, ⟨[], ⟨[(2, .ptr 0 0)], [.box T_str_api_DFA [.nil tI, .nil (.list tI), .nil tB, .any]]⟩, [.tm 3 tI, .cell 0 3 tI]⟩)] (.seq (.region (
.op (some 105) (.mv (.tm 19)) <|
.op (some 106) (.un .not (.tm 105)) <|
.nil)) (.cond (.tm 106) (.seq (.region (
.op (some 107) (.mv (.tm 8)) <|
.op (some 108) (.len false (.tm 107)) <|
.op (some 18) (.mv (.tm 108)) <|
.nil)) (.seq (.seq (.region (
.op (some 109) (.mv (.tm 18)) <|
.op (some 110) (.bin .geq (.tm 109) (.k tI (4096 : Int))) <|
.nil)) (.cond (.tm 110) (.seq (.region (
.op (some 111) (.build [.nil tI, .nil (.list tI), .nil tB, .d tI (0 : Int)] []) <|
.op none (.store (pr [(.list tI), (.list (.list tI)), (.list tB), tI]) (.tm 2) (.tm 111)) <|
.op (some 3) (.mv (.k tI (8 : Int))) <|
.nil)) (.adj [.sel [0] [2, 3]] .ret)) .skip)) (.seq (.region (
.op (some 112) (.mv (.tm 9)) <|
.op (some 113) (.load (pr [tB, tQ]) (.tm 17)) <|
.op (some 114) (.mv (.tm 18)) <|
.op none (.mapset 59 3 (pr [tB, tQ]) tI (.tm 112) (.tm 113) (.tm 114)) <|
.nil)) (.after (.region (
.op (some 115) (.mv (.tm 8)) <|
.op (some 116) (.load (pr [tB, tQ]) (.tm 17)) <|
.op (some 117) (.bslice false 59 (pr [tB, tQ]) 1 [.tm 116]) <|
.op (some 118) (.append 59 (pr [tB, tQ]) 16 (.tm 115) (.tm 117)) <|
.op (some 8) (.mv (.tm 118)) <|
.nil)) [.sel [0, 1, 2, 3, 4, 5, 6, 7, 8, 9, 10, 11, 12] [2, 5, 6, 7, 8, 9, 10, 11, 12, 14, 15, 18, 86, 87, 88]])))) (.after .skip [.sel [0, 1, 2, 3, 4, 5, 6, 7, 8, 9, 10, 11, 12] [2, 5, 6, 7, 8, 9, 10, 11, 12, 14, 15, 18, 86, 87, 88]])))) (.region (
.op (some 119) (.mv (.tm 14)) <|
.op (some 120) (.mv (.tm 15)) <|
.op (some 121) (.mv (.tm 18)) <|
.op (some 122) (.idxA tI (.tm 119) (.tm 120)) <|
.op none (.store tI (.tm 122) (.tm 121)) <|
.nil))))))) (.region (
.op (some 123) (.bin .add (.tm 88) (.k tI (1 : Int))) <|
.op (some 88) (.mv (.tm 123)) <|
.nil)))))))) (.seq (.region (
.op (some 124) (.fldA 1 (.list (.list tI)) (.tm 7)) <|
.op (some 125) (.load (.list (.list tI)) (.tm 124)) <|
.op (some 126) (.mv (.tm 14)) <|
.adj [.freeze 12] <|
.op (some 127) (.bslice false 22 (.list tI) 1 [.tm 126]) <|
.op (some 128) (.append 22 (.list tI) 24 (.tm 125) (.tm 127)) <|
.op (some 129) (.fldA 1 (.list (.list tI)) (.tm 7)) <|
.op none (.store (.list (.list tI)) (.tm 129) (.tm 128)) <|
.nil)) (.region (
.op (some 130) (.fldA 2 (.list tB) (.tm 7)) <|
.op (some 131) (.load (.list tB) (.tm 130)) <|
.op (some 132) (.fldA 0 tB (.tm 11)) <|
.op (some 133) (.load tB (.tm 132)) <|
.op (some 134) (.mv (.tm 133)) <|
.gb 134 true (
.op (some 135) (.fldA 2 tB (.tm 6)) <|
.op (some 136) (.load tB (.tm 135)) <|
.nil) tB (.tm 136) (.k tB false) 137 <|
.op (some 138) (.mv (.tm 137)) <|
.gb 138 false (
.op (some 139) (.fldA 0 tB (.tm 11)) <|
.op (some 140) (.load tB (.tm 139)) <|
.op (some 141) (.un .not (.tm 140)) <|
.op (some 142) (.mv (.tm 141)) <|
.gb 142 true (
.op (some 143) (.fldA 1 tQ (.tm 11)) <|
.op (some 144) (.load tQ (.tm 143)) <|
.op (some 145) (.fldA 1 tQ (.tm 6)) <|
.op (some 146) (.load tQ (.tm 145)) <|
.op (some 147) (.bin .and (.tm 144) (.tm 146)) <|
.op (some 148) (.bin .neq (.tm 147) (.k tQ (0 : Int))) <|
.nil) tB (.tm 148) (.k tB false) 149 <|
.nil) tB (.tm 149) (.k tB true) 150 <|
.op (some 151) (.bslice false 4 tB 1 [.tm 150]) <|
.op (some 152) (.append 4 tB 1 (.tm 131) (.tm 151)) <|
.op (some 153) (.fldA 2 (.list tB) (.tm 7)) <|
.op none (.store (.list tB) (.tm 153) (.tm 152)) <|
.nil))))))))) (.after (.region (
.op (some 45) (.mv (.tm 10)) <|
.op (some 46) (.bin .add (.tm 45) (.k tI (1 : Int))) <|
.op (some 10) (.mv (.tm 46)) <|
.nil)) [.sel [0, 1, 2, 3, 4, 5, 6, 7, 8, 9, 10] [2, 5, 6, 7, 8, 9, 10]]))))))) (.seq (.region (
.op (some 154) (.load (pr [(.list tI), (.list (.list tI)), (.list tB), tI]) (.tm 7)) <|
.adj [.freeze 2, .freeze 3] <|
.op (some 155) (.call false N_dfa_minimal [(.d (pr [(.list tI), (.list (.list tI)), (.list tB), tI]), .tm 154)] q_dfa_minimal) <|
.op none (.store (pr [(.list tI), (.list (.list tI)), (.list tB), tI]) (.tm 2) (.tm 155)) <|
.op (some 3) (.mv (.k tI (0 : Int))) <|
.nil)) .ret))))))))), [.cell 2 (pr [(.list tI), (.list (.list tI)), (.list tB), tI]), .tm 3], 156, q_dfa_Build, 0⟩
def q_dfa_Witness_1_dpp : Sh := ⟨[], ⟨[], []⟩, [.tm 0 tB]⟩
def f_dfa_Witness_1_dpp : TF := ⟨(.seq (.region (
.op (some 3) (.boxD 73 (pr [tI, tI]) (.tm 0)) <|
.op (some 4) (.mv (.k tB false)) <|
.nil)) (.seq (.draw 14 (
.op (some 5) (.fldA 2 (.list tB) (.tm 1)) <|
.op (some 6) (.load (.list tB) (.tm 5)) <|
.op (some 7) (.fldA 0 tI (.tm 3)) <|
.op (some 8) (.load tI (.tm 7)) <|
.op (some 9) (.idxA tB (.tm 6) (.tm 8)) <|
.op (some 10) (.load tB (.tm 9)) <|
.op (some 11) (.fldA 2 (.list tB) (.tm 2)) <|
.op (some 12) (.load (.list tB) (.tm 11)) <|
.op (some 13) (.fldA 1 tI (.tm 3)) <|
.op (some 14) (.load tI (.tm 13)) <|
.op (some 15) (.idxA tB (.tm 12) (.tm 14)) <|
.op (some 16) (.load tB (.tm 15)) <|
.op (some 17) (.eqB true (.tm 10) (.tm 16)) <|
.op (some 4) (.mv (.tm 17)) <|
.nil) [[], [0], [], [2], [1, 3], [4], [], [6], [], [8], [7, 9], [10], [5, 11], [12, 0, 1, 2, 3, 4, 5, 6, 7, 8, 9, 10, 11, 12]]) .ret)), [.tm 4], 18, q_dfa_Witness_1_dpp, 0⟩
def G_dfa_Witness_1_dpp (O : Oracle) (n : Nat) (x : (Int × (Int × Unit))) (v : ((List Int) × ((List (List Int)) × ((List Bool) × (Int × Unit))))) (v1 : ((List Int) × ((List (List Int)) × ((List Bool) × (Int × Unit))))) : Option (Option S) :=
 Option.bind (getI v.2.2.1 x.1) fun v2 =>
 Option.bind (getI v1.2.2.1 x.2.1) fun v3 =>
 retQ q_dfa_Witness_1_dpp ((true ^^ (v2 == v3)), ())
theorem x_dfa_Witness_1_dpp (O : Oracle) (n : Nat) (x : (Int × (Int × Unit))) (v : ((List Int) × ((List (List Int)) × ((List Bool) × (Int × Unit))))) (v1 : ((List Int) × ((List (List Int)) × ((List Bool) × (Int × Unit))))) : evF1 O n f_dfa_Witness_1_dpp [.d (pr [tI, tI]) x, .dp (pr [(.list tI), (.list (.list tI)), (.list tB), tI]) v, .dp (pr [(.list tI), (.list (.list tI)), (.list tB), tI]) v1] [] = G_dfa_Witness_1_dpp O n x v v1 := by kernel_rfl
def q_dfa_class : Sh := ⟨[], ⟨[], []⟩, [.tm 0 tI]⟩
def f_dfa_class : TF := ⟨(.seq (.region (
.op (some 4) (.mv (.k tI (0 : Int))) <|
.nil)) (.seq (.region (
.op (some 8) (.mv (.tm 0)) <|
.op (some 9) (.len false (.tm 8)) <|
.op (some 5) (.mv (.k tI (0 : Int))) <|
.op (some 6) (.mv (.tm 9)) <|
.nil)) (.seq (.block 0 (.loop ⟨[0, 1], ⟨[], []⟩, [.tm 5 tI, .tm 6 tI]⟩ [(3, ⟨[], ⟨[], []⟩, [.tm 5 tI]⟩)] (.seq (.seq (.region (
.op (some 10) (.mv (.tm 6)) <|
.op (some 11) (.mv (.tm 5)) <|
.op (some 12) (.bin .sub (.tm 10) (.tm 11)) <|
.op (some 13) (.bin .gtr (.tm 12) (.k tI (1 : Int))) <|
.nil)) (.cond (.tm 13) .skip (.exit 0))) (.block 1 (.seq (.region (
.op (some 14) (.mv (.tm 5)) <|
.op (some 15) (.mv (.tm 6)) <|
.op (some 16) (.bin .add (.tm 14) (.tm 15)) <|
.op (some 17) (.bin .quo (.tm 16) (.k tI (2 : Int))) <|
.op (some 7) (.mv (.tm 17)) <|
.nil)) (.seq (.region (
.op (some 18) (.mv (.tm 0)) <|
.op (some 19) (.mv (.tm 7)) <|
.op (some 20) (.idxA tI (.tm 18) (.tm 19)) <|
.op (some 21) (.load tI (.tm 20)) <|
.op (some 22) (.mv (.tm 1)) <|
.op (some 23) (.bin .leq (.tm 21) (.tm 22)) <|
.nil)) (.cond (.tm 23) (.region (
.op (some 24) (.mv (.tm 7)) <|
.op (some 5) (.mv (.tm 24)) <|
.nil)) (.region (
.op (some 25) (.mv (.tm 7)) <|
.op (some 6) (.mv (.tm 25)) <|
.nil))))))))) (.seq (.region (
.op (some 26) (.mv (.tm 5)) <|
.op (some 4) (.mv (.tm 26)) <|
.nil)) .ret)))), [.tm 4], 27, q_dfa_class, 0⟩
def L_dfa_class_0 (O : Oracle) (n : Nat) (starts : (List Int)) (as_ : Int) (s : (Int × Int × Unit)) : Option ((Int × Int × Unit) ⊕ (Int × Unit)) :=
 bif decide (IntKind.wrap .i64 (s.2.1 - s.1) > (1 : Int)) then
 guardB ((2 : Int) != 0) (
 let v1 := IntKind.wrap .i64 (Int.tdiv (IntKind.wrap .i64 (s.1 + s.2.1)) (2 : Int))
 Option.bind (getI starts v1) fun v2 =>
 bif decide (v2 ≤ as_) then
 some (.inl (v1, s.2.1, ()))
else
 some (.inl (s.1, v1, ())))
else
 some (.inr ((s.1, ())))
def G_dfa_class (O : Oracle) (n : Nat) (starts : (List Int)) (as_ : Int) : Option (Option S) :=
 Option.bind (loopN n (L_dfa_class_0 O n starts as_) ((0 : Int), (starts.length : Int), ())) fun (v3 : (Int × Unit)) =>
 retQ q_dfa_class (v3.1, ())
theorem x_dfa_class (O : Oracle) (n : Nat) (starts : (List Int)) (as_ : Int) : evF1 O n f_dfa_class [.d (.list tI) starts, .d tI as_] [] = G_dfa_class O n starts as_ := by kernel_rfl
def q_dfa_multiply_dddf : Sh := ⟨[], ⟨[(0, .ptr 0 0)], [.box T_str_dfa_product [.any, .sl 1, .sl 2, .sl 3, .sl 4], .vec T_str_dfa_pair (pr [tI, tI]) [], .vec T_i64 tI [], .vec T_i64 tI [], .vec T_sl_i64 (.list tI) []]⟩, [.tm 1 tB, .cell 0 0 (.list tI), .vec 1 73 (pr [tI, tI]), .vec 2 3 tI, .vec 3 3 tI, .vec 4 22 (.list tI)]⟩
def f_dfa_multiply_dddf : TF := ⟨(.seq (.region (
.op (some 4) (.boxD 26 (pr [(.list tI), (.list (.list tI)), (.list tB), tI]) (.tm 0)) <|
.op (some 5) (.boxD 26 (pr [(.list tI), (.list (.list tI)), (.list tB), tI]) (.tm 1)) <|
.op (some 8) (.mv (.raw (.pointer none))) <|
.op (some 9) (.mv (.k tB false)) <|
.nil)) (.seq (.draw2 3 [
 mkPO 0 true [] (some 19) (.fldA 0 (.list tI) (.tm 4)),
 mkPO 1 true [] (some 20) (.load (.list tI) (.tm 19)),
 mkPO 2 true [0, 1] (some 21) (.fldA 0 (.list tI) (.tm 5)),
 mkPO 3 true [0, 1] (some 22) (.load (.list tI) (.tm 21)),
 mkPO 4 true [] (some 23) (.call false N_dfa_merge [(.d (.list tI), .tm 20), (.d (.list tI), .tm 22)] q_dfa_merge),
 mkPO 5 true [0, 1, 2, 3, 4] (some 24) (.fldA 3 tI (.tm 4)),
 mkPO 6 true [0, 1, 2, 3, 4] (some 25) (.load tI (.tm 24)),
 mkPO 7 true [0, 1, 2, 3, 4, 5, 6] (some 26) (.fldA 3 tI (.tm 5)),
 mkPO 8 true [0, 1, 2, 3, 4, 5, 6] (some 27) (.load tI (.tm 26)),
 mkPO 9 true [0, 1, 2, 3, 4] (some 28) (.build [.d tI (0 : Int), .d tI (0 : Int)] [(0, 1, .tm 25), (1, 1, .tm 27)]),
 mkPO 10 true [0, 1, 2, 3, 4] (some 29) (.atq 0 (.bslice true 73 (pr [tI, tI]) 1 [.tm 28])),
 mkPO 11 true [0, 1, 2, 3, 4, 5, 6, 7, 8, 9, 10] (some 30) (.atq 1 (.bslice true 3 tI 1 [.k tI (-1 : Int)])),
 mkPO 12 true [0, 1, 2, 3, 4, 5, 6, 7, 8, 9, 10, 11] (some 31) (.atq 2 (.bslice true 3 tI 1 [.k tI (0 : Int)]))] (
.op (some 32) (.build [.nil tI, .nil (pr [tI, tI]), .nil tI, .nil tI, .nil (.list tI)] [(0, 1, .tm 23), (1, 1, .tm 29), (2, 1, .tm 30), (3, 1, .tm 31)]) <|
.op (some 33) (.box 77 (.tm 32)) <|
.op (some 10) (.mv (.tm 33)) <|
.nil) [[], [0], [], [2], [1, 3], [], [5], [], [7], [6, 8], [9], [], [], [4, 10, 11, 12], [13], [14, 4, 0, 1, 2, 3, 4, 5, 6, 7, 8, 9, 10, 11, 12, 13, 14]]) (.seq (.region (
.op (some 34) (.mkmap 73 3 (pr [tI, tI]) tI) <|
.op (some 35) (.mv (.tm 10)) <|
.op (some 36) (.nilc (.tm 35)) <|
.op (some 37) (.fldA 1 (.list (pr [tI, tI])) (.tm 36)) <|
.op (some 38) (.load (.list (pr [tI, tI])) (.tm 37)) <|
.op (some 39) (.idxA (pr [tI, tI]) (.tm 38) (.k tI (0 : Int))) <|
.op (some 40) (.load (pr [tI, tI]) (.tm 39)) <|
.op none (.mapset 73 3 (pr [tI, tI]) tI (.tm 34) (.tm 40) (.k tI (0 : Int))) <|
.op (some 41) (.mv (.tm 34)) <|
.op (some 11) (.mv (.tm 41)) <|
.nil)) (.seq (.seq (.region (
.op (some 42) (.mv (.tm 3)) <|
.op (some 43) (.mv (.tm 10)) <|
.op (some 44) (.nilc (.tm 43)) <|
.op (some 45) (.fldA 1 (.list (pr [tI, tI])) (.tm 44)) <|
.op (some 46) (.load (.list (pr [tI, tI])) (.tm 45)) <|
.op (some 47) (.idxA (pr [tI, tI]) (.tm 46) (.k tI (0 : Int))) <|
.op (some 48) (.load (pr [tI, tI]) (.tm 47)) <|
.op (some 49) (.callp false N_dfa_Witness_1_dpp (.tm 42) [(.d (pr [tI, tI]), .tm 48)] q_dfa_Witness_1_dpp) <|
.nil)) (.cond (.tm 49) (.seq (.region (
.op (some 50) (.mv (.tm 10)) <|
.op (some 8) (.mv (.tm 50)) <|
.op (some 9) (.mv (.k tB true)) <|
.nil)) (.adj [.adoptC 3 4 22 (.list tI), .sel [3, 0, 1, 2, 5] [8, 9]] .ret)) .skip)) (.seq (.seq (.region (
.op (some 12) (.mv (.k tI (0 : Int))) <|
.nil)) (.block 0 (.adj [.adoptC 3 4 22 (.list tI), .sel [3, 0, 1, 2, 5, 4] [2, 3, 4, 5, 10, 11, 12]] (.loop ⟨[2, 3, 4, 5], ⟨[(10, .ptr 0 0), (11, .mp 5)], [.box T_str_dfa_product [.any, .sl 1, .sl 2, .sl 3, .sl 4], .vec T_str_dfa_pair (pr [tI, tI]) [], .vec T_i64 tI [], .vec T_i64 tI [], .vec T_sl_i64 (.list tI) [], .map T_str_dfa_pair T_i64 (pr [tI, tI]) tI []]⟩, [.tm 12 tI, .cell 0 0 (.list tI), .vec 1 73 (pr [tI, tI]), .vec 2 3 tI, .vec 3 3 tI, .vec 4 22 (.list tI), .map 5 73 3 (pr [tI, tI]) tI]⟩ [(1, ⟨[], ⟨[(8, .ptr 0 0)], [.box T_str_dfa_product [.any, .sl 1, .sl 2, .sl 3, .sl 4], .vec T_str_dfa_pair (pr [tI, tI]) [], .vec T_i64 tI [], .vec T_i64 tI [], .vec T_sl_i64 (.list tI) []]⟩, [.tm 9 tB, .cell 0 0 (.list tI), .vec 1 73 (pr [tI, tI]), .vec 2 3 tI, .vec 3 3 tI, .vec 4 22 (.list tI)]⟩), (3, ⟨[], ⟨[(10, .ptr 0 0)], [.box T_str_dfa_product [.any, .sl 1, .sl 2, .sl 3, .sl 4], .vec T_str_dfa_pair (pr [tI, tI]) [], .vec T_i64 tI [], .vec T_i64 tI [], .vec T_sl_i64 (.list tI) []]⟩, [.cell 0 0 (.list tI), .vec 1 73 (pr [tI, tI]), .vec 2 3 tI, .vec 3 3 tI, .vec 4 22 (.list tI)]⟩)] (.seq (.seq (.region (
.op (some 51) (.mv (.tm 12)) <|
.op (some 52) (.mv (.tm 10)) <|
.op (some 53) (.nilc (.tm 52)) <|
.op (some 54) (.fldA 1 (.list (pr [tI, tI])) (.tm 53)) <|
.op (some 55) (.load (.list (pr [tI, tI])) (.tm 54)) <|
.op (some 56) (.len false (.tm 55)) <|
.op (some 57) (.bin .lss (.tm 51) (.tm 56)) <|
.nil)) (.cond (.tm 57) .skip (.adj [.sel [0, 1, 2, 3, 4] [10]] (.exit 0)))) (.seq (.block 1 (.seq (.region (
.op (some 60) (.mv (.tm 10)) <|
.op (some 61) (.nilc (.tm 60)) <|
.op (some 62) (.fldA 0 (.list tI) (.tm 61)) <|
.op (some 63) (.load (.list tI) (.tm 62)) <|
.op (some 64) (.len false (.tm 63)) <|
.op (some 65) (.mslice 3 tI 8 (.tm 64) (.tm 64)) <|
.op (some 13) (.mv (.tm 65)) <|
.nil)) (.seq (.seq (.region (
.op (some 66) (.mv (.tm 10)) <|
.op (some 67) (.nilc (.tm 66)) <|
.op (some 68) (.fldA 0 (.list tI) (.tm 67)) <|
.op (some 69) (.load (.list tI) (.tm 68)) <|
.op (some 70) (.len false (.tm 69)) <|
.op (some 71) (.mv (.k tI (0 : Int))) <|
.nil)) (.block 2 (.loop ⟨[2, 3, 4, 5, 12, 69, 70], ⟨[(10, .ptr 0 0), (11, .mp 5), (13, .sl 6)], [.box T_str_dfa_product [.any, .sl 1, .sl 2, .sl 3, .sl 4], .vec T_str_dfa_pair (pr [tI, tI]) [], .vec T_i64 tI [], .vec T_i64 tI [], .vec T_sl_i64 (.list tI) [], .map T_str_dfa_pair T_i64 (pr [tI, tI]) tI [], .vec T_i64 tI []]⟩, [.tm 71 tI, .cell 0 0 (.list tI), .vec 1 73 (pr [tI, tI]), .vec 2 3 tI, .vec 3 3 tI, .vec 4 22 (.list tI), .map 5 73 3 (pr [tI, tI]) tI, .vec 6 3 tI]⟩ [(1, ⟨[], ⟨[(8, .ptr 0 0)], [.box T_str_dfa_product [.any, .sl 1, .sl 2, .sl 3, .sl 4], .vec T_str_dfa_pair (pr [tI, tI]) [], .vec T_i64 tI [], .vec T_i64 tI [], .vec T_sl_i64 (.list tI) []]⟩, [.tm 9 tB, .cell 0 0 (.list tI), .vec 1 73 (pr [tI, tI]), .vec 2 3 tI, .vec 3 3 tI, .vec 4 22 (.list tI)]⟩), (5, ⟨[2, 3, 4, 5, 12], ⟨[(10, .ptr 0 0), (11, .mp 5), (13, .sl 6)], [.box T_str_dfa_product [.any, .sl 1, .sl 2, .sl 3, .sl 4], .vec T_str_dfa_pair (pr [tI, tI]) [], .vec T_i64 tI [], .vec T_i64 tI [], .vec T_sl_i64 (.list tI) [], .map T_str_dfa_pair T_i64 (pr [tI, tI]) tI [], .vec T_i64 tI []]⟩, [.cell 0 0 (.list tI), .vec 1 73 (pr [tI, tI]), .vec 2 3 tI, .vec 3 3 tI, .vec 4 22 (.list tI), .map 5 73 3 (pr [tI, tI]) tI, .vec 6 3 tI]⟩)] (.seq (.region (
.op (some 72) (.bin .lss (.tm 71) (.tm 70)) <|
.nil)) (.seq (.cond (.tm 72) .skip (.exit 2)) (.seq (.block 3 (.seq (.region (
.op (some 73) (.mv (.tm 71)) <|
.op (some 74) (.idxA tI (.tm 69) (.tm 71)) <|
.op (some 75) (.load tI (.tm 74)) <|
.op (some 14) (.mv (.tm 73)) <|
.op (some 15) (.mv (.tm 75)) <|
.nil)) (.seq (.draw2 1 [
 mkPO 0 true [] (some 76) (.fldA 1 (.list (.list tI)) (.tm 4)),
 mkPO 1 true [] (some 77) (.load (.list (.list tI)) (.tm 76)),
 mkPO 2 true [0, 1] (some 78) (.mv (.tm 10)),
 mkPO 3 true [0, 1] (some 79) (.nilc (.tm 78)),
 mkPO 4 true [0, 1] (some 80) (.fldA 1 (.list (pr [tI, tI])) (.tm 79)),
 mkPO 5 true [0, 1] (some 81) (.load (.list (pr [tI, tI])) (.tm 80)),
 mkPO 6 true [0, 1, 2, 3, 4, 5] (some 82) (.mv (.tm 12)),
 mkPO 7 true [0, 1] (some 83) (.idxA (pr [tI, tI]) (.tm 81) (.tm 82)),
 mkPO 8 true [0, 1] (some 84) (.fldA 0 tI (.tm 83)),
 mkPO 9 true [0, 1] (some 85) (.load tI (.tm 84)),
 mkPO 10 true [] (some 86) (.idxA (.list tI) (.tm 77) (.tm 85)),
 mkPO 11 true [] (some 87) (.load (.list tI) (.tm 86)),
 mkPO 12 true [0, 1, 2, 3, 4, 5, 6, 7, 8, 9, 10, 11] (some 88) (.fldA 0 (.list tI) (.tm 4)),
 mkPO 13 true [0, 1, 2, 3, 4, 5, 6, 7, 8, 9, 10, 11] (some 89) (.load (.list tI) (.tm 88)),
 mkPO 14 true [0, 1, 2, 3, 4, 5, 6, 7, 8, 9, 10, 11, 12, 13] (some 90) (.mv (.tm 15)),
 mkPO 15 true [0, 1, 2, 3, 4, 5, 6, 7, 8, 9, 10, 11] (some 91) (.call false N_dfa_class [(.d (.list tI), .tm 89), (.d tI, .tm 90)] q_dfa_class),
 mkPO 16 true [] (some 92) (.idxA tI (.tm 87) (.tm 91)),
 mkPO 17 true [] (some 93) (.load tI (.tm 92)),
 mkPO 18 true [0, 1, 2, 3, 4, 5, 6, 7, 8, 9, 10, 11, 12, 13, 14, 15, 16, 17] (some 94) (.fldA 1 (.list (.list tI)) (.tm 5)),
 mkPO 19 true [0, 1, 2, 3, 4, 5, 6, 7, 8, 9, 10, 11, 12, 13, 14, 15, 16, 17] (some 95) (.load (.list (.list tI)) (.tm 94)),
 mkPO 20 true [0, 1, 2, 3, 4, 5, 6, 7, 8, 9, 10, 11, 12, 13, 14, 15, 16, 17, 18, 19] (some 96) (.mv (.tm 10)),
 mkPO 21 true [0, 1, 2, 3, 4, 5, 6, 7, 8, 9, 10, 11, 12, 13, 14, 15, 16, 17, 18, 19] (some 97) (.nilc (.tm 96)),
 mkPO 22 true [0, 1, 2, 3, 4, 5, 6, 7, 8, 9, 10, 11, 12, 13, 14, 15, 16, 17, 18, 19] (some 98) (.fldA 1 (.list (pr [tI, tI])) (.tm 97)),
 mkPO 23 true [0, 1, 2, 3, 4, 5, 6, 7, 8, 9, 10, 11, 12, 13, 14, 15, 16, 17, 18, 19] (some 99) (.load (.list (pr [tI, tI])) (.tm 98)),
 mkPO 24 true [0, 1, 2, 3, 4, 5, 6, 7, 8, 9, 10, 11, 12, 13, 14, 15, 16, 17, 18, 19, 20, 21, 22, 23] (some 100) (.mv (.tm 12)),
 mkPO 25 true [0, 1, 2, 3, 4, 5, 6, 7, 8, 9, 10, 11, 12, 13, 14, 15, 16, 17, 18, 19] (some 101) (.idxA (pr [tI, tI]) (.tm 99) (.tm 100)),
 mkPO 26 true [0, 1, 2, 3, 4, 5, 6, 7, 8, 9, 10, 11, 12, 13, 14, 15, 16, 17, 18, 19] (some 102) (.fldA 1 tI (.tm 101)),
 mkPO 27 true [0, 1, 2, 3, 4, 5, 6, 7, 8, 9, 10, 11, 12, 13, 14, 15, 16, 17, 18, 19] (some 103) (.load tI (.tm 102)),
 mkPO 28 true [0, 1, 2, 3, 4, 5, 6, 7, 8, 9, 10, 11, 12, 13, 14, 15, 16, 17] (some 104) (.idxA (.list tI) (.tm 95) (.tm 103)),
 mkPO 29 true [0, 1, 2, 3, 4, 5, 6, 7, 8, 9, 10, 11, 12, 13, 14, 15, 16, 17] (some 105) (.load (.list tI) (.tm 104)),
 mkPO 30 true [0, 1, 2, 3, 4, 5, 6, 7, 8, 9, 10, 11, 12, 13, 14, 15, 16, 17, 18, 19, 20, 21, 22, 23, 24, 25, 26, 27, 28, 29] (some 106) (.fldA 0 (.list tI) (.tm 5)),
 mkPO 31 true [0, 1, 2, 3, 4, 5, 6, 7, 8, 9, 10, 11, 12, 13, 14, 15, 16, 17, 18, 19, 20, 21, 22, 23, 24, 25, 26, 27, 28, 29] (some 107) (.load (.list tI) (.tm 106)),
 mkPO 32 true [0, 1, 2, 3, 4, 5, 6, 7, 8, 9, 10, 11, 12, 13, 14, 15, 16, 17, 18, 19, 20, 21, 22, 23, 24, 25, 26, 27, 28, 29, 30, 31] (some 108) (.mv (.tm 15)),
 mkPO 33 true [0, 1, 2, 3, 4, 5, 6, 7, 8, 9, 10, 11, 16, 17, 18, 19, 20, 21, 22, 23, 24, 25, 26, 27, 28, 29] (some 109) (.call false N_dfa_class [(.d (.list tI), .tm 107), (.d tI, .tm 108)] q_dfa_class),
 mkPO 34 true [0, 1, 2, 3, 4, 5, 6, 7, 8, 9, 10, 11, 16, 17] (some 110) (.idxA tI (.tm 105) (.tm 109)),
 mkPO 35 true [0, 1, 2, 3, 4, 5, 6, 7, 8, 9, 10, 11, 16, 17] (some 111) (.load tI (.tm 110)),
 mkPO 36 true [] (some 112) (.build [.d tI (0 : Int), .d tI (0 : Int)] [(0, 1, .tm 93), (1, 1, .tm 111)]),
 mkPO 37 true [0, 1, 2, 3, 4, 5, 6, 7, 8, 9, 10, 11, 12, 13, 14, 15, 16, 17, 18, 19, 20, 21, 22, 23, 24, 25, 26, 27, 28, 29, 30, 31, 32, 33, 34, 35, 36] (some 16) (.atq 7 (.alloc 73 [.d tI (0 : Int), .d tI (0 : Int)]))] (
.op none (.store (pr [tI, tI]) (.tm 16) (.tm 112)) <|
.nil) [[], [0], [], [2], [3], [4], [], [5, 6], [7], [8], [1, 9], [10], [], [12], [], [13, 14], [11, 15], [16], [], [18], [], [20], [21], [22], [], [23, 24], [25], [26], [19, 27], [28], [], [30], [], [31, 32, 15], [29, 33], [34], [17, 35], [], [37, 36, 33, 0, 1, 2, 3, 4, 5, 6, 7, 8, 9, 10, 11, 12, 13, 14, 15, 16, 17, 18, 19, 20, 21, 22, 23, 24, 25, 26, 27, 28, 29, 30, 31, 32, 33, 34, 35, 36, 37]]) (.seq (.region (
.op (some 114) (.mv (.tm 11)) <|
.op (some 115) (.load (pr [tI, tI]) (.tm 16)) <|
.op (some 116) (.lookup 73 3 true (pr [tI, tI]) tI (.tm 114) (.tm 115)) <|
.op (some 113) (.mv (.tm 116)) <|
.op (some 117) (.ext (.tm 113) 0) <|
.op (some 118) (.ext (.tm 113) 1) <|
.op (some 17) (.mv (.tm 117)) <|
.op (some 18) (.mv (.tm 118)) <|
.nil)) (.seq (.cut [(0, ⟨[2, 3, 4, 5, 12, 14, 69, 70, 71], ⟨[(10, .ptr 0 0), (11, .mp 5), (13, .sl 6)], [.box T_str_dfa_product [.any, .sl 1, .sl 2, .sl 3, .sl 4], .vec T_str_dfa_pair (pr [tI, tI]) [], .vec T_i64 tI [], .vec T_i64 tI [], .vec T_sl_i64 (.list tI) [], .map T_str_dfa_pair T_i64 (pr [tI, tI]) tI [], .vec T_i64 tI []]⟩, [.tm 17 tI, .cell 0 0 (.list tI), .vec 1 73 (pr [tI, tI]), .vec 2 3 tI, .vec 3 3 tI, .vec 4 22 (.list tI), .map 5 73 3 (pr [tI, tI]) tI, .vec 6 3 tI]⟩), (1, ⟨[], ⟨[(8, .ptr 0 0)], [.box T_str_dfa_product [.any, .sl 1, .sl 2, .sl 3, .sl 4], .vec T_str_dfa_pair (pr [tI, tI]) [], .vec T_i64 tI [], .vec T_i64 tI [], .vec T_sl_i64 (.list tI) []]⟩, [.tm 9 tB, .cell 0 0 (.list tI), .vec 1 73 (pr [tI, tI]), .vec 2 3 tI, .vec 3 3 tI, .vec 4 22 (.list tI)]⟩)] (.seq (.region (
.op (some 119) (.mv (.tm 18)) <|
.op (some 120) (.un .not (.tm 119)) <|
.nil)) (.cond (.tm 120) (.seq (.region (
.op (some 121) (.mv (.tm 10)) <|
.op (some 122) (.nilc (.tm 121)) <|
.op (some 123) (.fldA 1 (.list (pr [tI, tI])) (.tm 122)) <|
.op (some 124) (.load (.list (pr [tI, tI])) (.tm 123)) <|
.op (some 125) (.len false (.tm 124)) <|
.op (some 17) (.mv (.tm 125)) <|
.nil)) (.seq (.region (
.op (some 126) (.mv (.tm 11)) <|
.op (some 127) (.load (pr [tI, tI]) (.tm 16)) <|
.op (some 128) (.mv (.tm 17)) <|
.op none (.mapset 73 3 (pr [tI, tI]) tI (.tm 126) (.tm 127) (.tm 128)) <|
.nil)) (.seq (.draw2 0 [
 mkPO 0 true [] (some 129) (.mv (.tm 10)),
 mkPO 1 true [0] (some 130) (.mv (.tm 10)),
 mkPO 2 true [0] (some 131) (.nilc (.tm 130)),
 mkPO 3 true [0] (some 132) (.fldA 1 (.list (pr [tI, tI])) (.tm 131)),
 mkPO 4 true [0] (some 133) (.load (.list (pr [tI, tI])) (.tm 132)),
 mkPO 5 true [0, 1, 2, 3, 4] (some 134) (.load (pr [tI, tI]) (.tm 16)),
 mkPO 6 true [0, 1, 2, 3, 4] (some 135) (.bslice false 73 (pr [tI, tI]) 1 [.tm 134]),
 mkPO 7 false [0] (some 136) (.append 73 (pr [tI, tI]) 16 (.tm 133) (.tm 135))] (
.op (some 137) (.nilc (.tm 129)) <|
.op (some 138) (.fldA 1 (.list (pr [tI, tI])) (.tm 137)) <|
.op none (.store (.list (pr [tI, tI])) (.tm 138) (.tm 136)) <|
.nil) [[], [], [1], [2], [3], [], [5], [4, 6], [0, 0, 1, 2, 3, 4, 5, 6, 7], [8, 0, 1, 2, 3, 4, 5, 6, 7], [9, 7, 7, 0, 1, 2, 3, 4, 5, 6, 7]]) (.seq (.region (
.op (some 139) (.mv (.tm 10)) <|
.op (some 140) (.mv (.tm 10)) <|
.op (some 141) (.nilc (.tm 140)) <|
.op (some 142) (.fldA 2 (.list tI) (.tm 141)) <|
.op (some 143) (.load (.list tI) (.tm 142)) <|
.op (some 144) (.mv (.tm 12)) <|
.op (some 145) (.bslice false 3 tI 1 [.tm 144]) <|
.op (some 146) (.append 3 tI 8 (.tm 143) (.tm 145)) <|
.op (some 147) (.nilc (.tm 139)) <|
.op (some 148) (.fldA 2 (.list tI) (.tm 147)) <|
.op none (.store (.list tI) (.tm 148) (.tm 146)) <|
.nil)) (.seq (.region (
.op (some 149) (.mv (.tm 10)) <|
.op (some 150) (.mv (.tm 10)) <|
.op (some 151) (.nilc (.tm 150)) <|
.op (some 152) (.fldA 3 (.list tI) (.tm 151)) <|
.op (some 153) (.load (.list tI) (.tm 152)) <|
.op (some 154) (.mv (.tm 15)) <|
.op (some 155) (.bslice false 3 tI 1 [.tm 154]) <|
.op (some 156) (.append 3 tI 8 (.tm 153) (.tm 155)) <|
.op (some 157) (.nilc (.tm 149)) <|
.op (some 158) (.fldA 3 (.list tI) (.tm 157)) <|
.op none (.store (.list tI) (.tm 158) (.tm 156)) <|
.nil)) (.seq (.region (
.op (some 159) (.mv (.tm 17)) <|
.op (some 160) (.mv (.tm 2)) <|
.op (some 161) (.bin .geq (.tm 159) (.tm 160)) <|
.op (some 162) (.mv (.tm 161)) <|
.gb 162 false (
.op (some 163) (.mv (.tm 3)) <|
.op (some 164) (.load (pr [tI, tI]) (.tm 16)) <|
.op (some 165) (.callp false N_dfa_Witness_1_dpp (.tm 163) [(.d (pr [tI, tI]), .tm 164)] q_dfa_Witness_1_dpp) <|
.nil) tB (.tm 165) (.k tB true) 166 <|
.nil)) (.cond (.tm 166) (.seq (.region (
.op (some 167) (.mv (.tm 10)) <|
.op (some 8) (.mv (.tm 167)) <|
.op (some 9) (.mv (.k tB true)) <|
.nil)) (.adj [.sel [0, 1, 2, 3, 4] [8, 9]] .ret)) (.after .skip [.sel [0, 1, 2, 3, 4, 5, 6] [2, 3, 4, 5, 10, 11, 12, 13, 14, 17, 69, 70, 71]])))))))) (.after .skip [.sel [0, 1, 2, 3, 4, 5, 6] [2, 3, 4, 5, 10, 11, 12, 13, 14, 17, 69, 70, 71]])))) (.region (
.op (some 168) (.mv (.tm 13)) <|
.op (some 169) (.mv (.tm 14)) <|
.op (some 170) (.mv (.tm 17)) <|
.op (some 171) (.idxA tI (.tm 168) (.tm 169)) <|
.op none (.store tI (.tm 171) (.tm 170)) <|
.nil))))))) (.region (
.op (some 172) (.bin .add (.tm 71) (.k tI (1 : Int))) <|
.op (some 71) (.mv (.tm 172)) <|
.nil)))))))) (.region (
.op (some 173) (.mv (.tm 10)) <|
.op (some 174) (.mv (.tm 10)) <|
.op (some 175) (.nilc (.tm 174)) <|
.op (some 176) (.fldA 4 (.list (.list tI)) (.tm 175)) <|
.op (some 177) (.load (.list (.list tI)) (.tm 176)) <|
.op (some 178) (.mv (.tm 13)) <|
.adj [.freeze 6] <|
.op (some 179) (.bslice false 22 (.list tI) 1 [.tm 178]) <|
.op (some 180) (.append 22 (.list tI) 24 (.tm 177) (.tm 179)) <|
.op (some 181) (.nilc (.tm 173)) <|
.op (some 182) (.fldA 4 (.list (.list tI)) (.tm 181)) <|
.op none (.store (.list (.list tI)) (.tm 182) (.tm 180)) <|
.nil))))) (.after (.region (
.op (some 58) (.mv (.tm 12)) <|
.op (some 59) (.bin .add (.tm 58) (.k tI (1 : Int))) <|
.op (some 12) (.mv (.tm 59)) <|
.nil)) [.sel [0, 1, 2, 3, 4, 5] [2, 3, 4, 5, 10, 11, 12]]))))))) (.seq (.region (
.op (some 183) (.mv (.tm 10)) <|
.op (some 8) (.mv (.tm 183)) <|
.op (some 9) (.mv (.k tB false)) <|
.nil)) .ret)))))), [.tm 8, .tm 9], 184, q_dfa_multiply_dddf, 0⟩
def L_dfa_multiply_dddf_0 (O : Oracle) (n : Nat) (a : ((List Int) × ((List (List Int)) × ((List Bool) × (Int × Unit))))) (b : ((List Int) × ((List (List Int)) × ((List Bool) × (Int × Unit))))) (most : Int) (stop : ((List Int) × ((List (List Int)) × ((List Bool) × (Int × Unit))))) (stop1 : ((List Int) × ((List (List Int)) × ((List Bool) × (Int × Unit))))) (s : (Int × (List Int) × (List (Int × (Int × Unit))) × (List Int) × (List Int) × (List (List Int)) × (List ((Int × (Int × Unit)) × Int)) × Unit)) (v6 : (Int × (List Int) × (List (Int × (Int × Unit))) × (List Int) × (List Int) × (List (List Int)) × (List ((Int × (Int × Unit)) × Int)) × (List Int) × Unit)) : Option ((Int × (List Int) × (List (Int × (Int × Unit))) × (List Int) × (List Int) × (List (List Int)) × (List ((Int × (Int × Unit)) × Int)) × (List Int) × Unit) ⊕ (Bool × (List Int) × (List (Int × (Int × Unit))) × (List Int) × (List Int) × (List (List Int)) × Unit) ⊕ ((List Int) × (List (Int × (Int × Unit))) × (List Int) × (List Int) × (List (List Int)) × (List ((Int × (Int × Unit)) × Int)) × (List Int) × Unit)) :=
 bif decide (v6.1 < (s.2.1.length : Int)) then
 Option.bind (getI s.2.1 v6.1) fun v7 =>
 Option.bind (getI v6.2.2.1 s.1) fun _ =>
 Option.bind v6.2.2.1[Int.toNat s.1]? fun v8 =>
 Option.bind (getI a.2.1 v8.1) fun v9 =>
 Option.bind (callR O N_dfa_class [.d (.list tI) a.1, .d tI v7] [] q_dfa_class) fun v10 =>
 Option.bind (getI v9 v10.1) fun v11 =>
 Option.bind (getI v6.2.2.1 s.1) fun _ =>
 Option.bind v6.2.2.1[Int.toNat s.1]? fun v12 =>
 Option.bind (getI b.2.1 v12.2.1) fun v13 =>
 Option.bind (callR O N_dfa_class [.d (.list tI) b.1, .d tI v7] [] q_dfa_class) fun v14 =>
 Option.bind (getI v13 v14.1) fun v15 =>
 Option.bind (
 bif (!(kvGet (pr [tI, tI]) tI v6.2.2.2.2.2.2.1 ((v11, v15, ()))).isSome) then
 guardB (decide ((v6.2.2.2.2.2.2.1).length < maxLen)) (
 let v16 := kvSet (pr [tI, tI]) tI v6.2.2.2.2.2.2.1 ((v11, v15, ())) (v6.2.2.1.length : Int)
 guardB (decide ((v6.2.2.1.length + (([(v11, v15, ())] : List (Int × (Int × Unit)))).length) * 16 ≤ 140737488355328)) (
 guardB (decide ((v6.2.2.2.1.length + ([s.1] : List Int).length) * 8 ≤ 140737488355328)) (
 guardB (decide ((v6.2.2.2.2.1.length + ([v7] : List Int).length) * 8 ≤ 140737488355328)) (
 Option.bind (bif decide ((v6.2.2.1.length : Int) ≥ most) then some (true) else
 Option.bind (callR O N_dfa_Witness_1_dpp [.d (pr [tI, tI]) ((v11, v15, ())), .dp (pr [(.list tI), (.list (.list tI)), (.list tB), tI]) stop, .dp (pr [(.list tI), (.list (.list tI)), (.list tB), tI]) stop1] [] q_dfa_Witness_1_dpp) fun v17 =>
 some (v17.1)) fun v18 =>
 bif v18 then
 some (.inr ((true, v6.2.1, v6.2.2.1 ++ (([(v11, v15, ())] : List (Int × (Int × Unit)))), v6.2.2.2.1 ++ ([s.1] : List Int), v6.2.2.2.2.1 ++ ([v7] : List Int), v6.2.2.2.2.2.1, ())))
else
 some (.inl (((v6.2.2.1.length : Int), v6.2.1, v6.2.2.1 ++ (([(v11, v15, ())] : List (Int × (Int × Unit)))), v6.2.2.2.1 ++ ([s.1] : List Int), v6.2.2.2.2.1 ++ ([v7] : List Int), v6.2.2.2.2.2.1, v16, v6.2.2.2.2.2.2.2.1, ())))))))
else
 some (.inl (((kvGet (pr [tI, tI]) tI v6.2.2.2.2.2.2.1 ((v11, v15, ()))).getD (Ty.zero tI), v6.2.1, v6.2.2.1, v6.2.2.2.1, v6.2.2.2.2.1, v6.2.2.2.2.2.1, v6.2.2.2.2.2.2.1, v6.2.2.2.2.2.2.2.1, ())))) fun (v19 : (Int × (List Int) × (List (Int × (Int × Unit))) × (List Int) × (List Int) × (List (List Int)) × (List ((Int × (Int × Unit)) × Int)) × (List Int) × Unit) ⊕ (Bool × (List Int) × (List (Int × (Int × Unit))) × (List Int) × (List Int) × (List (List Int)) × Unit)) =>
 Sum.elim (fun v20 =>
 Option.bind (getI v20.2.2.2.2.2.2.2.1 v6.1) fun _ =>
 Option.bind v20.2.2.2.2.2.2.2.1[Int.toNat v6.1]? fun v21 =>
 some (.inl (IntKind.wrap .i64 (v6.1 + (1 : Int)), v20.2.1, v20.2.2.1, v20.2.2.2.1, v20.2.2.2.2.1, v20.2.2.2.2.2.1, v20.2.2.2.2.2.2.1, v20.2.2.2.2.2.2.2.1.set (Int.toNat v6.1) v20.1, ()))) (fun v22 =>
 some (.inr (.inl ((v22.1, v22.2.1, v22.2.2.1, v22.2.2.2.1, v22.2.2.2.2.1, v22.2.2.2.2.2.1, ()))))) v19
else
 some (.inr (.inr ((v6.2.1, v6.2.2.1, v6.2.2.2.1, v6.2.2.2.2.1, v6.2.2.2.2.2.1, v6.2.2.2.2.2.2.1, v6.2.2.2.2.2.2.2.1, ()))))
def L_dfa_multiply_dddf_1 (O : Oracle) (n : Nat) (a : ((List Int) × ((List (List Int)) × ((List Bool) × (Int × Unit))))) (b : ((List Int) × ((List (List Int)) × ((List Bool) × (Int × Unit))))) (most : Int) (stop : ((List Int) × ((List (List Int)) × ((List Bool) × (Int × Unit))))) (stop1 : ((List Int) × ((List (List Int)) × ((List Bool) × (Int × Unit))))) (s : (Int × (List Int) × (List (Int × (Int × Unit))) × (List Int) × (List Int) × (List (List Int)) × (List ((Int × (Int × Unit)) × Int)) × Unit)) : Option ((Int × (List Int) × (List (Int × (Int × Unit))) × (List Int) × (List Int) × (List (List Int)) × (List ((Int × (Int × Unit)) × Int)) × Unit) ⊕ (Bool × (List Int) × (List (Int × (Int × Unit))) × (List Int) × (List Int) × (List (List Int)) × Unit) ⊕ ((List Int) × (List (Int × (Int × Unit))) × (List Int) × (List Int) × (List (List Int)) × Unit)) :=
 bif decide (s.1 < (s.2.2.1.length : Int)) then
 guardB (decide (0 ≤ (s.2.1.length : Int)) && decide ((s.2.1.length : Int) ≤ (s.2.1.length : Int)) && decide ((s.2.1.length : Int) ≤ 9223372036854775807) && decide (8 * (s.2.1.length : Int) ≤ 281474976710656)) (
 Option.bind (loopN n (L_dfa_multiply_dddf_0 O n a b most stop stop1 s) ((0 : Int), s.2.1, s.2.2.1, s.2.2.2.1, s.2.2.2.2.1, s.2.2.2.2.2.1, s.2.2.2.2.2.2.1, List.replicate (Int.toNat (s.2.1.length : Int)) (Ty.zero tI), ())) fun (v23 : (Bool × (List Int) × (List (Int × (Int × Unit))) × (List Int) × (List Int) × (List (List Int)) × Unit) ⊕ ((List Int) × (List (Int × (Int × Unit))) × (List Int) × (List Int) × (List (List Int)) × (List ((Int × (Int × Unit)) × Int)) × (List Int) × Unit)) =>
 Sum.elim (fun v24 =>
 some (.inr (.inl ((v24.1, v24.2.1, v24.2.2.1, v24.2.2.2.1, v24.2.2.2.2.1, v24.2.2.2.2.2.1, ()))))) (fun v25 =>
 guardB (decide ((v25.2.2.2.2.1.length + (([v25.2.2.2.2.2.2.1] : List (List Int))).length) * 24 ≤ 140737488355328)) (
 some (.inl (IntKind.wrap .i64 (s.1 + (1 : Int)), v25.1, v25.2.1, v25.2.2.1, v25.2.2.2.1, v25.2.2.2.2.1 ++ (([v25.2.2.2.2.2.2.1] : List (List Int))), v25.2.2.2.2.2.1, ())))) v23)
else
 some (.inr (.inr ((s.2.1, s.2.2.1, s.2.2.2.1, s.2.2.2.2.1, s.2.2.2.2.2.1, ()))))
def G_dfa_multiply_dddf (O : Oracle) (n : Nat) (a : ((List Int) × ((List (List Int)) × ((List Bool) × (Int × Unit))))) (b : ((List Int) × ((List (List Int)) × ((List Bool) × (Int × Unit))))) (most : Int) (stop : ((List Int) × ((List (List Int)) × ((List Bool) × (Int × Unit))))) (stop1 : ((List Int) × ((List (List Int)) × ((List Bool) × (Int × Unit))))) : Option (Option S) :=
 Option.bind (callR O N_dfa_merge [.d (.list tI) a.1, .d (.list tI) b.1] [] q_dfa_merge) fun v =>
 Option.bind (getI (([(a.2.2.2.1, b.2.2.2)] : List (Int × (Int × Unit)))) (0 : Int)) fun _ =>
 Option.bind (([(a.2.2.2.1, b.2.2.2)] : List (Int × (Int × Unit))))[Int.toNat (0 : Int)]? fun v1 =>
 guardB (decide ((([] : List ((Int × (Int × Unit)) × Int))).length < maxLen)) (
 let v2 := kvSet (pr [tI, tI]) tI (([] : List ((Int × (Int × Unit)) × Int))) v1 (0 : Int)
 Option.bind (getI (([(a.2.2.2.1, b.2.2.2)] : List (Int × (Int × Unit)))) (0 : Int)) fun _ =>
 Option.bind (([(a.2.2.2.1, b.2.2.2)] : List (Int × (Int × Unit))))[Int.toNat (0 : Int)]? fun v3 =>
 Option.bind (callR O N_dfa_Witness_1_dpp [.d (pr [tI, tI]) v3, .dp (pr [(.list tI), (.list (.list tI)), (.list tB), tI]) stop, .dp (pr [(.list tI), (.list (.list tI)), (.list tB), tI]) stop1] [] q_dfa_Witness_1_dpp) fun v4 =>
 bif v4.1 then
 retQ q_dfa_multiply_dddf (true, v.1, ([(a.2.2.2.1, b.2.2.2)] : List (Int × (Int × Unit))), ([(-1 : Int)] : List Int), ([(0 : Int)] : List Int), ([] : List (List Int)), ())
else
 Option.bind (loopN n (L_dfa_multiply_dddf_1 O n a b most stop stop1) ((0 : Int), v.1, ([(a.2.2.2.1, b.2.2.2)] : List (Int × (Int × Unit))), ([(-1 : Int)] : List Int), ([(0 : Int)] : List Int), ([] : List (List Int)), v2, ())) fun (v26 : (Bool × (List Int) × (List (Int × (Int × Unit))) × (List Int) × (List Int) × (List (List Int)) × Unit) ⊕ ((List Int) × (List (Int × (Int × Unit))) × (List Int) × (List Int) × (List (List Int)) × Unit)) =>
 Sum.elim (fun v27 =>
 retQ q_dfa_multiply_dddf (v27.1, v27.2.1, v27.2.2.1, v27.2.2.2.1, v27.2.2.2.2.1, v27.2.2.2.2.2.1, ())) (fun v28 =>
 retQ q_dfa_multiply_dddf (false, v28.1, v28.2.1, v28.2.2.1, v28.2.2.2.1, v28.2.2.2.2.1, ())) v26)
theorem x_dfa_multiply_dddf (O : Oracle) (n : Nat) (a : ((List Int) × ((List (List Int)) × ((List Bool) × (Int × Unit))))) (b : ((List Int) × ((List (List Int)) × ((List Bool) × (Int × Unit))))) (most : Int) (stop : ((List Int) × ((List (List Int)) × ((List Bool) × (Int × Unit))))) (stop1 : ((List Int) × ((List (List Int)) × ((List Bool) × (Int × Unit))))) : evF1 O n f_dfa_multiply_dddf [.d (pr [(.list tI), (.list (.list tI)), (.list tB), tI]) a, .d (pr [(.list tI), (.list (.list tI)), (.list tB), tI]) b, .d tI most, .fnD F_dfa_Witness_1 [⟨(pr [(.list tI), (.list (.list tI)), (.list tB), tI]), stop⟩, ⟨(pr [(.list tI), (.list (.list tI)), (.list tB), tI]), stop1⟩]] [] = G_dfa_multiply_dddf O n a b most stop stop1 := by kernel_rfl
def q_dfa_Witness : Sh := ⟨[], ⟨[], []⟩, [.tm 0 (.list tI), .tm 1 tB]⟩
def f_dfa_Witness : TF := ⟨(.seq (.region (
.op (some 2) (.boxD 26 (pr [(.list tI), (.list (.list tI)), (.list tB), tI]) (.tm 0)) <|
.op (some 3) (.boxD 26 (pr [(.list tI), (.list (.list tI)), (.list tB), tI]) (.tm 1)) <|
.op (some 4) (.mv (.nil tI)) <|
.op (some 5) (.mv (.k tB false)) <|
.nil)) (.seq (.seq (.region (
.op (some 13) (.load (pr [(.list tI), (.list (.list tI)), (.list tB), tI]) (.tm 2)) <|
.op (some 14) (.call false N_dfa_Check [(.d (pr [(.list tI), (.list (.list tI)), (.list tB), tI]), .tm 13)] q_dfa_Check) <|
.op (some 15) (.bin .neq (.tm 14) (.k tI (0 : Int))) <|
.op (some 16) (.mv (.tm 15)) <|
.gb 16 false (
.op (some 17) (.load (pr [(.list tI), (.list (.list tI)), (.list tB), tI]) (.tm 3)) <|
.op (some 18) (.call false N_dfa_Check [(.d (pr [(.list tI), (.list (.list tI)), (.list tB), tI]), .tm 17)] q_dfa_Check) <|
.op (some 19) (.bin .neq (.tm 18) (.k tI (0 : Int))) <|
.nil) tB (.tm 19) (.k tB true) 20 <|
.nil)) (.cond (.tm 20) (.seq (.region (
.op (some 4) (.mv (.nil tI)) <|
.op (some 5) (.mv (.k tB false)) <|
.nil)) .ret) .skip)) (.seq (.region (
.op (some 22) (.load (pr [(.list tI), (.list (.list tI)), (.list tB), tI]) (.tm 2)) <|
.op (some 23) (.load (pr [(.list tI), (.list (.list tI)), (.list tB), tI]) (.tm 3)) <|
.op (some 24) (.fldA 1 (.list (.list tI)) (.tm 2)) <|
.op (some 25) (.load (.list (.list tI)) (.tm 24)) <|
.op (some 26) (.len false (.tm 25)) <|
.op (some 27) (.fldA 1 (.list (.list tI)) (.tm 3)) <|
.op (some 28) (.load (.list (.list tI)) (.tm 27)) <|
.op (some 29) (.len false (.tm 28)) <|
.op (some 30) (.bin .mul (.tm 26) (.tm 29)) <|
.op (some 31) (.mkfn F_dfa_Witness_1 [.tm 2, .tm 3]) <|
.op (some 32) (.callA false false [] N_dfa_multiply_dddf [(.d (pr [(.list tI), (.list (.list tI)), (.list tB), tI]), .tm 22), (.d (pr [(.list tI), (.list (.list tI)), (.list tB), tI]), .tm 23), (.d tI, .tm 30), (.x, .tm 31)] q_dfa_multiply_dddf) <|
.op (some 21) (.mv (.tm 32)) <|
.op (some 33) (.ext (.tm 21) 0) <|
.op (some 34) (.ext (.tm 21) 1) <|
.op (some 6) (.mv (.tm 33)) <|
.op (some 7) (.mv (.tm 34)) <|
.nil)) (.seq (.seq (.region (
.op (some 35) (.mv (.tm 7)) <|
.op (some 36) (.un .not (.tm 35)) <|
.nil)) (.cond (.tm 36) (.seq (.region (
.op (some 4) (.mv (.nil tI)) <|
.op (some 5) (.mv (.k tB false)) <|
.nil)) .ret) .skip)) (.seq (.region (
.op (some 8) (.mv (.nil tI)) <|
.nil)) (.seq (.seq (.region (
.op (some 37) (.mv (.tm 6)) <|
.op (some 38) (.nilc (.tm 37)) <|
.op (some 39) (.fldA 1 (.list (pr [tI, tI])) (.tm 38)) <|
.op (some 40) (.load (.list (pr [tI, tI])) (.tm 39)) <|
.op (some 41) (.len false (.tm 40)) <|
.op (some 42) (.bin .sub (.tm 41) (.k tI (1 : Int))) <|
.op (some 9) (.mv (.tm 42)) <|
.nil)) (.block 0 (.adj [.adopt 8 3 tI] (.loop ⟨[], ⟨[(6, .ptr 0 0), (8, .sl 5)], [.box T_str_dfa_product [.any, .sl 1, .sl 2, .sl 3, .sl 4], .vec T_str_dfa_pair (pr [tI, tI]) [], .vec T_i64 tI [], .vec T_i64 tI [], .vec T_sl_i64 (.list tI) [], .vec T_i64 tI []]⟩, [.tm 9 tI, .cell 0 0 (.list tI), .vec 1 73 (pr [tI, tI]), .vec 2 3 tI, .vec 3 3 tI, .vec 4 22 (.list tI), .vec 5 3 tI]⟩ [(3, ⟨[], ⟨[(8, .sl 0)], [.vec T_i64 tI []]⟩, [.vec 0 3 tI]⟩)] (.seq (.seq (.region (
.op (some 43) (.mv (.tm 6)) <|
.op (some 44) (.nilc (.tm 43)) <|
.op (some 45) (.fldA 2 (.list tI) (.tm 44)) <|
.op (some 46) (.load (.list tI) (.tm 45)) <|
.op (some 47) (.mv (.tm 9)) <|
.op (some 48) (.idxA tI (.tm 46) (.tm 47)) <|
.op (some 49) (.load tI (.tm 48)) <|
.op (some 50) (.bin .geq (.tm 49) (.k tI (0 : Int))) <|
.nil)) (.cond (.tm 50) .skip (.adj [.sel [5] [8]] (.exit 0)))) (.seq (.block 1 (.region (
.op (some 58) (.mv (.tm 8)) <|
.op (some 59) (.mv (.tm 6)) <|
.op (some 60) (.nilc (.tm 59)) <|
.op (some 61) (.fldA 3 (.list tI) (.tm 60)) <|
.op (some 62) (.load (.list tI) (.tm 61)) <|
.op (some 63) (.mv (.tm 9)) <|
.op (some 64) (.idxA tI (.tm 62) (.tm 63)) <|
.op (some 65) (.load tI (.tm 64)) <|
.op (some 66) (.bslice false 3 tI 1 [.tm 65]) <|
.op (some 67) (.append 3 tI 8 (.tm 58) (.tm 66)) <|
.op (some 8) (.mv (.tm 67)) <|
.nil))) (.region (
.op (some 51) (.mv (.tm 6)) <|
.op (some 52) (.nilc (.tm 51)) <|
.op (some 53) (.fldA 2 (.list tI) (.tm 52)) <|
.op (some 54) (.load (.list tI) (.tm 53)) <|
.op (some 55) (.mv (.tm 9)) <|
.op (some 56) (.idxA tI (.tm 54) (.tm 55)) <|
.op (some 57) (.load tI (.tm 56)) <|
.op (some 9) (.mv (.tm 57)) <|
.nil)))))))) (.seq (.region (
.op (some 68) (.mv (.tm 8)) <|
.op (some 69) (.len false (.tm 68)) <|
.op (some 70) (.mslice 3 tI 8 (.tm 69) (.tm 69)) <|
.op (some 10) (.mv (.tm 70)) <|
.nil)) (.seq (.seq (.region (
.op (some 71) (.mv (.tm 8)) <|
.op (some 72) (.len false (.tm 71)) <|
.op (some 73) (.mv (.k tI (0 : Int))) <|
.nil)) (.block 2 (.loop ⟨[72], ⟨[(8, .sl 0), (10, .sl 1), (71, .sl 0)], [.vec T_i64 tI [], .vec T_i64 tI []]⟩, [.tm 73 tI, .vec 0 3 tI, .vec 1 3 tI]⟩ [(5, ⟨[], ⟨[(10, .sl 0)], [.vec T_i64 tI []]⟩, [.vec 0 3 tI]⟩)] (.seq (.region (
.op (some 74) (.bin .lss (.tm 73) (.tm 72)) <|
.nil)) (.seq (.cond (.tm 74) .skip (.adj [.sel [1] [10]] (.exit 2))) (.seq (.block 3 (.seq (.region (
.op (some 75) (.mv (.tm 73)) <|
.op (some 76) (.idxA tI (.tm 71) (.tm 73)) <|
.op (some 77) (.load tI (.tm 76)) <|
.op (some 11) (.mv (.tm 75)) <|
.op (some 12) (.mv (.tm 77)) <|
.nil)) (.region (
.op (some 78) (.mv (.tm 10)) <|
.op (some 79) (.mv (.tm 8)) <|
.op (some 80) (.len false (.tm 79)) <|
.op (some 81) (.bin .sub (.tm 80) (.k tI (1 : Int))) <|
.op (some 82) (.mv (.tm 11)) <|
.op (some 83) (.bin .sub (.tm 81) (.tm 82)) <|
.op (some 84) (.mv (.tm 12)) <|
.op (some 85) (.idxA tI (.tm 78) (.tm 83)) <|
.op none (.store tI (.tm 85) (.tm 84)) <|
.nil)))) (.region (
.op (some 86) (.bin .add (.tm 73) (.k tI (1 : Int))) <|
.op (some 73) (.mv (.tm 86)) <|
.nil)))))))) (.seq (.region (
.op (some 87) (.mv (.tm 10)) <|
.op (some 4) (.mv (.tm 87)) <|
.op (some 5) (.mv (.k tB true)) <|
.nil)) (.adj [.freeze 0] .ret)))))))))), [.tm 4, .tm 5], 88, q_dfa_Witness, 0⟩
def L_dfa_Witness_0 (O : Oracle) (n : Nat) (s : (Int × (List Int) × (List (Int × (Int × Unit))) × (List Int) × (List Int) × (List (List Int)) × (List Int) × Unit)) : Option ((Int × (List Int) × (List (Int × (Int × Unit))) × (List Int) × (List Int) × (List (List Int)) × (List Int) × Unit) ⊕ ((List Int) × Unit)) :=
 Option.bind (getI s.2.2.2.1 s.1) fun _ =>
 Option.bind s.2.2.2.1[Int.toNat s.1]? fun v5 =>
 bif decide (v5 ≥ (0 : Int)) then
 Option.bind (getI s.2.2.2.2.1 s.1) fun _ =>
 Option.bind s.2.2.2.2.1[Int.toNat s.1]? fun v6 =>
 guardB (decide ((s.2.2.2.2.2.2.1.length + ([v6] : List Int).length) * 8 ≤ 140737488355328)) (
 Option.bind (getI s.2.2.2.1 s.1) fun _ =>
 Option.bind s.2.2.2.1[Int.toNat s.1]? fun v7 =>
 some (.inl (v7, s.2.1, s.2.2.1, s.2.2.2.1, s.2.2.2.2.1, s.2.2.2.2.2.1, s.2.2.2.2.2.2.1 ++ ([v6] : List Int), ())))
else
 some (.inr ((s.2.2.2.2.2.2.1, ())))
def L_dfa_Witness_1 (O : Oracle) (n : Nat) (v8 : ((List Int) × Unit)) (v9 : (Int × (List Int) × (List Int) × Unit)) : Option ((Int × (List Int) × (List Int) × Unit) ⊕ ((List Int) × Unit)) :=
 bif decide (v9.1 < (v8.1.length : Int)) then
 Option.bind (getI v9.2.1 v9.1) fun _ =>
 Option.bind v9.2.1[Int.toNat v9.1]? fun v10 =>
 let v11 := IntKind.wrap .i64 ((IntKind.wrap .i64 ((v9.2.1.length : Int) - (1 : Int))) - v9.1)
 Option.bind (getI v9.2.2.1 v11) fun _ =>
 Option.bind v9.2.2.1[Int.toNat v11]? fun v12 =>
 some (.inl (IntKind.wrap .i64 (v9.1 + (1 : Int)), v9.2.1, v9.2.2.1.set (Int.toNat v11) v10, ()))
else
 some (.inr ((v9.2.2.1, ())))
def G_dfa_Witness (O : Oracle) (n : Nat) (a : ((List Int) × ((List (List Int)) × ((List Bool) × (Int × Unit))))) (b : ((List Int) × ((List (List Int)) × ((List Bool) × (Int × Unit))))) : Option (Option S) :=
 Option.bind (callR O N_dfa_Check [.d (pr [(.list tI), (.list (.list tI)), (.list tB), tI]) a] [] q_dfa_Check) fun v =>
 Option.bind (bif (v.1 != (0 : Int)) then some (true) else
 Option.bind (callR O N_dfa_Check [.d (pr [(.list tI), (.list (.list tI)), (.list tB), tI]) b] [] q_dfa_Check) fun v1 =>
 some ((v1.1 != (0 : Int)))) fun v2 =>
 bif v2 then
 retQ q_dfa_Witness (([] : List Int), false, ())
else
 Option.bind (callR O N_dfa_multiply_dddf [.d (pr [(.list tI), (.list (.list tI)), (.list tB), tI]) a, .d (pr [(.list tI), (.list (.list tI)), (.list tB), tI]) b, .d tI (IntKind.wrap .i64 ((a.2.1.length : Int) * (b.2.1.length : Int))), .fnD F_dfa_Witness_1 [⟨(pr [(.list tI), (.list (.list tI)), (.list tB), tI]), a⟩, ⟨(pr [(.list tI), (.list (.list tI)), (.list tB), tI]), b⟩]] [] q_dfa_multiply_dddf) fun v3 =>
 bif (!v3.1) then
 retQ q_dfa_Witness (([] : List Int), false, ())
else
 Option.bind (loopN n (L_dfa_Witness_0 O n) (IntKind.wrap .i64 ((v3.2.2.1.length : Int) - (1 : Int)), v3.2.1, v3.2.2.1, v3.2.2.2.1, v3.2.2.2.2.1, v3.2.2.2.2.2.1, ([] : List Int), ())) fun (v8 : ((List Int) × Unit)) =>
 guardB (decide (0 ≤ (v8.1.length : Int)) && decide ((v8.1.length : Int) ≤ (v8.1.length : Int)) && decide ((v8.1.length : Int) ≤ 9223372036854775807) && decide (8 * (v8.1.length : Int) ≤ 281474976710656)) (
 Option.bind (loopN n (L_dfa_Witness_1 O n v8) ((0 : Int), v8.1, List.replicate (Int.toNat (v8.1.length : Int)) (Ty.zero tI), ())) fun (v13 : ((List Int) × Unit)) =>
 retQ q_dfa_Witness (v13.1, true, ()))
theorem x_dfa_Witness (O : Oracle) (n : Nat) (a : ((List Int) × ((List (List Int)) × ((List Bool) × (Int × Unit))))) (b : ((List Int) × ((List (List Int)) × ((List Bool) × (Int × Unit))))) : evF1 O n f_dfa_Witness [.d (pr [(.list tI), (.list (.list tI)), (.list tB), tI]) a, .d (pr [(.list tI), (.list (.list tI)), (.list tB), tI]) b] [] = G_dfa_Witness O n a b := by kernel_rfl
def q_dfa_Not : Sh := ⟨[], ⟨[], []⟩, [.tm 0 (pr [(.list tI), (.list (.list tI)), (.list tB), tI])]⟩
def f_dfa_Not : TF := ⟨(.seq (.region (
.op (some 1) (.boxD 26 (pr [(.list tI), (.list (.list tI)), (.list tB), tI]) (.tm 0)) <|
.op (some 2) (.alloc 26 [.nil tI, .nil (.list tI), .nil tB, .d tI (0 : Int)]) <|
.nil)) (.seq (.seq (.region (
.op (some 6) (.load (pr [(.list tI), (.list (.list tI)), (.list tB), tI]) (.tm 1)) <|
.op (some 7) (.call false N_dfa_Check [(.d (pr [(.list tI), (.list (.list tI)), (.list tB), tI]), .tm 6)] q_dfa_Check) <|
.op (some 8) (.bin .neq (.tm 7) (.k tI (0 : Int))) <|
.nil)) (.cond (.tm 8) (.seq (.region (
.op (some 9) (.build [.nil tI, .nil (.list tI), .nil tB, .d tI (0 : Int)] []) <|
.op none (.store (pr [(.list tI), (.list (.list tI)), (.list tB), tI]) (.tm 2) (.tm 9)) <|
.nil)) .ret) .skip)) (.seq (.draw2 1 [
 mkPO 0 true [] (some 10) (.bsliceF 3 tI 0 []),
 mkPO 1 true [0] (some 11) (.fldA 0 (.list tI) (.tm 1)),
 mkPO 2 true [0] (some 12) (.load (.list tI) (.tm 11)),
 mkPO 3 true [] (some 13) (.appD 3 tI 8 (.tm 10) (.tm 12)),
 mkPO 4 true [0, 1, 2, 3] (some 14) (.fldA 3 tI (.tm 1)),
 mkPO 5 true [0, 1, 2, 3] (some 15) (.load tI (.tm 14)),
 mkPO 6 true [] (some 16) (.build [.nil tI, .nil (.list tI), .nil tB, .d tI (0 : Int)] [(0, 1, .tm 13), (3, 1, .tm 15)]),
 mkPO 7 true [0, 1, 2, 3, 4, 5, 6] (some 3) (.atq 1 (.alloc 26 [.nil tI, .nil (.list tI), .nil tB, .d tI (0 : Int)]))] (
.op none (.store (pr [(.list tI), (.list (.list tI)), (.list tB), tI]) (.tm 3) (.tm 16)) <|
.nil) [[], [], [1], [0, 2], [], [4], [3, 5], [], [7, 6, 3, 0, 1, 2, 3, 4, 5, 6, 7]]) (.seq (.seq (.region (
.op (some 17) (.fldA 1 (.list (.list tI)) (.tm 1)) <|
.op (some 18) (.load (.list (.list tI)) (.tm 17)) <|
.op (some 19) (.len false (.tm 18)) <|
.op (some 20) (.mv (.k tI (0 : Int))) <|
.nil)) (.block 0 (.adj [.adoptC 1 1 22 (.list tI), .adoptC 1 2 4 tB] (.loop ⟨[1, 18, 19], ⟨[(2, .ptr 0 0), (3, .ptr 1 0)], [.box T_str_api_DFA [.nil tI, .nil (.list tI), .nil tB, .any], .box T_str_api_DFA [.any, .sl 2, .sl 3, .any], .vec T_sl_i64 (.list tI) [], .vec T_bool tB []]⟩, [.tm 20 tI, .cell 0 3 tI, .cell 1 0 (.list tI), .cell 1 3 tI, .vec 2 22 (.list tI), .vec 3 4 tB]⟩ [(3, ⟨[], ⟨[(2, .ptr 0 0), (3, .ptr 1 0)], [.box T_str_api_DFA [.nil tI, .nil (.list tI), .nil tB, .any], .box T_str_api_DFA [.any, .sl 2, .sl 3, .any], .vec T_sl_i64 (.list tI) [], .vec T_bool tB []]⟩, [.cell 0 3 tI, .cell 1 0 (.list tI), .cell 1 3 tI, .vec 2 22 (.list tI), .vec 3 4 tB]⟩)] (.seq (.region (
.op (some 21) (.bin .lss (.tm 20) (.tm 19)) <|
.nil)) (.seq (.cond (.tm 21) .skip (.exit 0)) (.seq (.block 1 (.seq (.region (
.op (some 22) (.mv (.tm 20)) <|
.op (some 23) (.idxA (.list tI) (.tm 18) (.tm 20)) <|
.op (some 24) (.load (.list tI) (.tm 23)) <|
.op (some 4) (.mv (.tm 22)) <|
.op (some 5) (.mv (.tm 24)) <|
.nil)) (.seq (.draw2 0 [
 mkPO 0 true [] (some 25) (.fldA 1 (.list (.list tI)) (.tm 3)),
 mkPO 1 true [] (some 26) (.load (.list (.list tI)) (.tm 25)),
 mkPO 2 true [0, 1] (some 27) (.bsliceF 3 tI 0 []),
 mkPO 3 true [0, 1, 2] (some 28) (.mv (.tm 5)),
 mkPO 4 true [0, 1] (some 29) (.appD 3 tI 8 (.tm 27) (.tm 28)),
 mkPO 5 true [0, 1] (some 30) (.bslice false 22 (.list tI) 1 [.tm 29])] (
.op (some 31) (.append 22 (.list tI) 24 (.tm 26) (.tm 30)) <|
.op (some 32) (.fldA 1 (.list (.list tI)) (.tm 3)) <|
.op none (.store (.list (.list tI)) (.tm 32) (.tm 31)) <|
.nil) [[], [0], [], [], [2, 3], [4], [1, 5, 4], [0, 1, 2, 3, 4, 5, 6], [7, 6, 6, 0, 1, 2, 3, 4, 5, 6]]) (.draw 9 (
.op (some 33) (.fldA 2 (.list tB) (.tm 3)) <|
.op (some 34) (.load (.list tB) (.tm 33)) <|
.op (some 35) (.fldA 2 (.list tB) (.tm 1)) <|
.op (some 36) (.load (.list tB) (.tm 35)) <|
.op (some 37) (.mv (.tm 4)) <|
.op (some 38) (.idxA tB (.tm 36) (.tm 37)) <|
.op (some 39) (.load tB (.tm 38)) <|
.op (some 40) (.un .not (.tm 39)) <|
.op (some 41) (.bslice false 4 tB 1 [.tm 40]) <|
.op (some 42) (.append 4 tB 1 (.tm 34) (.tm 41)) <|
.op (some 43) (.fldA 2 (.list tB) (.tm 3)) <|
.op none (.store (.list tB) (.tm 43) (.tm 42)) <|
.nil) [[], [0], [], [2], [], [3, 4], [5], [6], [7], [1, 8], [0, 1, 2, 3, 4, 5, 6, 7, 8, 9], [10, 9, 9, 0, 1, 2, 3, 4, 5, 6, 7, 8, 9]])))) (.region (
.op (some 44) (.bin .add (.tm 20) (.k tI (1 : Int))) <|
.op (some 20) (.mv (.tm 44)) <|
.nil))))))))) (.seq (.region (
.op (some 45) (.load (pr [(.list tI), (.list (.list tI)), (.list tB), tI]) (.tm 3)) <|
.op none (.store (pr [(.list tI), (.list (.list tI)), (.list tB), tI]) (.tm 2) (.tm 45)) <|
.nil)) (.adj [.freeze 2, .freeze 3] .ret)))))), [.cell 2 (pr [(.list tI), (.list (.list tI)), (.list tB), tI])], 46, q_dfa_Not, 0⟩
def L_dfa_Not_0 (O : Oracle) (n : Nat) (d : ((List Int) × ((List (List Int)) × ((List Bool) × (Int × Unit))))) (s : (Int × Int × (List Int) × Int × (List (List Int)) × (List Bool) × Unit)) : Option ((Int × Int × (List Int) × Int × (List (List Int)) × (List Bool) × Unit) ⊕ (Int × (List Int) × Int × (List (List Int)) × (List Bool) × Unit)) :=
 bif decide (s.1 < (d.2.1.length : Int)) then
 Option.bind (getI d.2.1 s.1) fun v2 =>
 guardB (decide ((([] : List Int).length + v2.length) * 8 ≤ 140737488355328)) (
 guardB (decide ((s.2.2.2.2.1.length + (([([] : List Int) ++ v2] : List (List Int))).length) * 24 ≤ 140737488355328)) (
 Option.bind (getI d.2.2.1 s.1) fun v3 =>
 guardB (decide ((s.2.2.2.2.2.1.length + (([(!v3)] : List Bool)).length) * 1 ≤ 140737488355328)) (
 some (.inl (IntKind.wrap .i64 (s.1 + (1 : Int)), s.2.1, s.2.2.1, s.2.2.2.1, s.2.2.2.2.1 ++ (([([] : List Int) ++ v2] : List (List Int))), s.2.2.2.2.2.1 ++ (([(!v3)] : List Bool)), ())))))
else
 some (.inr ((s.2.1, s.2.2.1, s.2.2.2.1, s.2.2.2.2.1, s.2.2.2.2.2.1, ())))
def G_dfa_Not (O : Oracle) (n : Nat) (d : ((List Int) × ((List (List Int)) × ((List Bool) × (Int × Unit))))) : Option (Option S) :=
 Option.bind (callR O N_dfa_Check [.d (pr [(.list tI), (.list (.list tI)), (.list tB), tI]) d] [] q_dfa_Check) fun v =>
 bif (v.1 != (0 : Int)) then
 retQ q_dfa_Not ((([] : List Int), ([] : List (List Int)), ([] : List Bool), (0 : Int), ()), ())
else
 guardB (decide ((([] : List Int).length + d.1.length) * 8 ≤ 140737488355328)) (
 Option.bind (loopN n (L_dfa_Not_0 O n d) ((0 : Int), (0 : Int), ([] : List Int) ++ d.1, d.2.2.2.1, ([] : List (List Int)), ([] : List Bool), ())) fun (v4 : (Int × (List Int) × Int × (List (List Int)) × (List Bool) × Unit)) =>
 retQ q_dfa_Not ((v4.2.1, v4.2.2.2.1, v4.2.2.2.2.1, v4.2.2.1, ()), ()))
theorem x_dfa_Not (O : Oracle) (n : Nat) (d : ((List Int) × ((List (List Int)) × ((List Bool) × (Int × Unit))))) : evF1 O n f_dfa_Not [.d (pr [(.list tI), (.list (.list tI)), (.list tB), tI]) d] [] = G_dfa_Not O n d := by kernel_rfl
def q_dfa_Both_1 : Sh := ⟨[], ⟨[], []⟩, [.tm 0 tB]⟩
def f_dfa_Both_1 : TF := ⟨(.seq (.region (
.op (some 1) (.boxD 73 (pr [tI, tI]) (.tm 0)) <|
.op (some 2) (.mv (.k tB false)) <|
.nil)) (.seq (.region (
.op (some 2) (.mv (.k tB false)) <|
.nil)) .ret)), [.tm 2], 3, q_dfa_Both_1, 0⟩
end Go.Proofs.Ytbpdbooalkkenaa
