/-
  THE LOADED FUNCTIONS AS TYPED CODE AND AS PLAIN FUNCTIONS, printed by program; each pair held by the kernel.
-/
import Derived.Test.YtbpdbooalkkenaaJL5
import Derived.KernelRfl
set_option linter.unusedVariables false
set_option linter.unusedSimpArgs false
namespace Go.Proofs.Ytbpdbooalkkenaa
open Go Go.Av Go.Ev
namespace Z
abbrev o (d : Nat) (x : TOp) (r : RC) : RC := .op (some d) x r
abbrev t (k : Nat) : X := .tm k
abbrev q (d j : Nat) (T : Ty) (k : Nat) (r : RC) : RC := .op (some d) (.fldA j T (.tm k)) (.op (some (d + 1)) (.load T (.tm d)) r)
abbrev m (k : Nat) : TOp := .mv (.tm k)
abbrev i (x : Int) : X := .k tI x
abbrev yT : X := .k tB true
abbrev yF : X := .k tB false
abbrev lI : Ty := .list tI
abbrev lB : Ty := .list tB
abbrev lL : Ty := .list (.list tI)
abbrev pD : Ty := pr [.list tI, .list (.list tI), .list tB, tI]
abbrev pI : Ty := pr [tI, tI]
abbrev TD : Type := (List Int) × ((List (List Int)) × ((List Bool) × (Int × Unit)))
end Z
open Z
abbrev N_dfa_Check : Nat := 12
abbrev N_ref16_Check : Nat := 13
abbrev N_law16_first : Nat := 36
abbrev N_regex_kids : Nat := 79
abbrev N_regex_node : Nat := 74
abbrev N_regex_check_ddr : Nat := 60
abbrev N_regex_Check : Nat := 37
abbrev N_dfa_positions_add_rdd : Nat := 61
abbrev N_dfa_positions_link_rdd : Nat := 62
abbrev N_dfa_positions_walk_rd : Nat := 38
abbrev N_dfa_merge : Nat := 63
abbrev N_dfa_positions_starts_r : Nat := 39
abbrev N_dfa_positions_matching_rd : Nat := 40
abbrev N_dfa_reachable : Nat := 64
abbrev N_dfa_signature : Nat := 78
abbrev N_dfa_blocks : Nat := 65
abbrev N_dfa_numbered : Nat := 66
abbrev N_dfa_minimal : Nat := 41
abbrev N_dfa_Build : Nat := 16
abbrev N_dfa_Witness_1_dpp : Nat := 48
abbrev N_dfa_class : Nat := 45
abbrev N_dfa_multiply_dddf : Nat := 47
abbrev N_dfa_Witness : Nat := 22
abbrev N_dfa_Not : Nat := 26
abbrev N_dfa_Both_1 : Nat := 50
abbrev N_dfa_multiply_dddf_v1 : Nat := 10047
abbrev N_dfa_Both : Nat := 28
abbrev N_ref16_equal : Nat := 44
abbrev N_ref16_Equal : Nat := 18
abbrev N_dfa_equal : Nat := 51
abbrev N_dfa_Equal : Nat := 30
abbrev N_dfa_Match : Nat := 20
abbrev N_dfa_Same : Nat := 24
abbrev N_law16_awake : Nat := 14
abbrev N_ref16_alike : Nat := 71
abbrev N_ref16_blocks : Nat := 52
abbrev N_ref16_reachable : Nat := 53
abbrev N_ref16_Normal : Nat := 33
abbrev N_law16_Large : Nat := 19
abbrev N_ref16_class : Nat := 46
abbrev N_dfa_Minimal : Nat := 31
abbrev N_ref16_Minimal : Nat := 32
abbrev N_law16_DfaMinimal : Nat := 10
abbrev F_dfa_Witness_1 : Nat := 48
abbrev F_dfa_Both_1 : Nat := 50
abbrev T_i64 : TypeId := 3
abbrev T_bool : TypeId := 4
abbrev T_u8 : TypeId := 5
abbrev T_string : TypeId := 9
abbrev T_sl_i64 : TypeId := 22
abbrev T_str_api_DFA : TypeId := 26
abbrev T_str_dfa_positions : TypeId := 52
abbrev T_u64 : TypeId := 53
abbrev T_str_dfa_sets : TypeId := 55
abbrev T_str_dfa_state : TypeId := 59
abbrev T_str_dfa_pair : TypeId := 73
abbrev T_str_dfa_product : TypeId := 77
def q_dfa_Check : Sh := ⟨[], ⟨[], []⟩, [.tm 0 tI]⟩
def f_dfa_Check : TF := ⟨(.seq (.region (
 o 1 (.boxD 26 pD (t 0))<|
 o 2 (.mv (i 0))<|
.nil)) (.seq (.seq (.region (
 q 12 2 lB 1<|
 o 14 (.len false (t 13))<|
 o 15 (.bin .gtr (t 14) (i 4096))<|
 o 16 (m 15)<|
.gb 16 false (
 q 17 1 lL 1<|
 o 19 (.len false (t 18))<|
 o 20 (.bin .gtr (t 19) (i 4096))<|
.nil) tB (t 20) yT 21 <|
 o 22 (m 21)<|
.gb 22 false (
 q 23 0 lI 1<|
 o 25 (.len false (t 24))<|
 o 26 (.bin .gtr (t 25) (i 2000))<|
.nil) tB (t 26) yT 27 <|
.nil)) (.cond (t 27) (.seq (.region (
 o 2 (.mv (i 4))<|
.nil)) .ret) .skip)) (.seq (.seq (.region (
 q 28 0 lI 1<|
 o 30 (.len false (t 29))<|
 o 31 (.mv (i 0))<|
.nil)) (.block 0 (.loop ⟨[1, 29, 30], ⟨[], []⟩, [.tm 31 tI]⟩ [(1, ⟨[], ⟨[], []⟩, [.tm 2 tI]⟩), (3, ⟨[1], ⟨[], []⟩, []⟩)] (.seq (.region (
 o 32 (.bin .lss (t 31) (t 30))<|
.nil)) (.seq (.cond (t 32) .skip (.exit 0)) (.seq (.block 1 (.seq (.region (
 o 33 (m 31)<|
 o 34 (.idxA tI (t 29) (t 31))<|
 o 35 (.load tI (t 34))<|
 o 3 (m 33)<|
 o 4 (m 35)<|
.nil)) (.seq (.region (
 o 36 (m 3)<|
 o 37 (.bin .eql (t 36) (i 0))<|
 o 38 (m 37)<|
.gb 38 true (
 o 39 (m 4)<|
 o 40 (.bin .neq (t 39) (i 0))<|
.nil) tB (t 40) yF 41 <|
 o 42 (m 41)<|
.gb 42 false (
 o 43 (m 3)<|
 o 44 (.bin .gtr (t 43) (i 0))<|
 o 45 (m 44)<|
.gb 45 true (
 o 46 (m 4)<|
 q 47 0 lI 1<|
 o 49 (m 3)<|
 o 50 (.bin .sub (t 49) (i 1))<|
 o 51 (.idxA tI (t 48) (t 50))<|
 o 52 (.load tI (t 51))<|
 o 53 (.bin .leq (t 46) (t 52))<|
.nil) tB (t 53) yF 54 <|
.nil) tB (t 54) yT 55 <|
 o 56 (m 55)<|
.gb 56 false (
 o 57 (m 4)<|
 o 58 (.bin .gtr (t 57) (i 4294967295))<|
.nil) tB (t 58) yT 59 <|
.nil)) (.cond (t 59) (.seq (.region (
 o 2 (.mv (i 16))<|
.nil)) .ret) .skip)))) (.region (
 o 60 (.bin .add (t 31) (i 1))<|
 o 31 (m 60)<|
.nil)))))))) (.seq (.seq (.region (
 q 61 0 lI 1<|
 o 63 (.len false (t 62))<|
 o 64 (.bin .eql (t 63) (i 0))<|
.nil)) (.cond (t 64) (.seq (.region (
 o 2 (.mv (i 16))<|
.nil)) .ret) .skip)) (.seq (.region (
 q 65 1 lL 1<|
 o 67 (.len false (t 66))<|
 o 5 (m 67)<|
.nil)) (.seq (.seq (.region (
 o 68 (m 5)<|
 o 69 (.bin .eql (t 68) (i 0))<|
 o 70 (m 69)<|
.gb 70 false (
 q 71 2 lB 1<|
 o 73 (.len false (t 72))<|
 o 74 (m 5)<|
 o 75 (.bin .neq (t 73) (t 74))<|
.nil) tB (t 75) yT 76 <|
.nil)) (.cond (t 76) (.seq (.region (
 o 2 (.mv (i 14))<|
.nil)) .ret) .skip)) (.seq (.seq (.region (
 q 77 1 lL 1<|
 o 79 (.len false (t 78))<|
 o 80 (.mv (i 0))<|
.nil)) (.block 2 (.loop ⟨[1, 5, 78, 79], ⟨[], []⟩, [.tm 80 tI]⟩ [(1, ⟨[], ⟨[], []⟩, [.tm 2 tI]⟩), (5, ⟨[1, 5], ⟨[], []⟩, []⟩)] (.seq (.region (
 o 81 (.bin .lss (t 80) (t 79))<|
.nil)) (.seq (.cond (t 81) .skip (.exit 2)) (.seq (.block 3 (.seq (.region (
 o 82 (.idxA lI (t 78) (t 80))<|
 o 83 (.load lI (t 82))<|
 o 7 (m 83)<|
.nil)) (.seq (.region (
 o 84 (m 7)<|
 o 85 (.len false (t 84))<|
 q 86 0 lI 1<|
 o 88 (.len false (t 87))<|
 o 89 (.bin .neq (t 85) (t 88))<|
.nil)) (.cond (t 89) (.seq (.region (
 o 2 (.mv (i 14))<|
.nil)) .ret) .skip)))) (.region (
 o 90 (.bin .add (t 80) (i 1))<|
 o 80 (m 90)<|
.nil)))))))) (.seq (.seq (.region (
 q 91 3 tI 1<|
 o 93 (.bin .lss (t 92) (i 0))<|
 o 94 (m 93)<|
.gb 94 false (
 q 95 3 tI 1<|
 o 97 (m 5)<|
 o 98 (.bin .geq (t 96) (t 97))<|
.nil) tB (t 98) yT 99 <|
.nil)) (.cond (t 99) (.seq (.region (
 o 2 (.mv (i 5))<|
.nil)) .ret) .skip)) (.seq (.seq (.region (
 q 100 1 lL 1<|
 o 102 (.len false (t 101))<|
 o 103 (.mv (i 0))<|
.nil)) (.block 4 (.loop ⟨[5, 101, 102], ⟨[], []⟩, [.tm 103 tI]⟩ [(1, ⟨[], ⟨[], []⟩, [.tm 2 tI]⟩), (7, ⟨[], ⟨[], []⟩, []⟩)] (.seq (.region (
 o 104 (.bin .lss (t 103) (t 102))<|
.nil)) (.seq (.cond (t 104) .skip (.exit 4)) (.seq (.block 5 (.seq (.region (
 o 105 (.idxA lI (t 101) (t 103))<|
 o 106 (.load lI (t 105))<|
 o 9 (m 106)<|
.nil)) (.seq (.region (
 o 107 (m 9)<|
 o 108 (.len false (t 107))<|
 o 109 (.mv (i 0))<|
.nil)) (.block 6 (.loop ⟨[5, 101, 102, 103, 107, 108], ⟨[], []⟩, [.tm 109 tI]⟩ [(1, ⟨[], ⟨[], []⟩, [.tm 2 tI]⟩), (9, ⟨[5, 101, 102, 103], ⟨[], []⟩, []⟩)] (.seq (.region (
 o 110 (.bin .lss (t 109) (t 108))<|
.nil)) (.seq (.cond (t 110) .skip (.exit 6)) (.seq (.block 7 (.seq (.region (
 o 111 (.idxA tI (t 107) (t 109))<|
 o 112 (.load tI (t 111))<|
 o 11 (m 112)<|
.nil)) (.seq (.region (
 o 113 (m 11)<|
 o 114 (.bin .lss (t 113) (i 0))<|
 o 115 (m 114)<|
.gb 115 false (
 o 116 (m 11)<|
 o 117 (m 5)<|
 o 118 (.bin .geq (t 116) (t 117))<|
.nil) tB (t 118) yT 119 <|
.nil)) (.cond (t 119) (.seq (.region (
 o 2 (.mv (i 5))<|
.nil)) .ret) .skip)))) (.region (
 o 120 (.bin .add (t 109) (i 1))<|
 o 109 (m 120)<|
.nil)))))))))) (.region (
 o 121 (.bin .add (t 103) (i 1))<|
 o 103 (m 121)<|
.nil)))))))) (.seq (.region (
 o 2 (.mv (i 0))<|
.nil)) .ret)))))))))), [.tm 2], 122, q_dfa_Check, 0⟩
def L_dfa_Check_0 (O : Oracle) (n : Nat) (d : TD) (s : (Int × Unit)) : Option ((Int × Unit) ⊕ (Int × Unit) ⊕ Unit) :=
 bif decide (s.1 < (d.1.length : Int)) then
 Option.bind (getI d.1 s.1) fun v3 =>
 Option.bind (bif (s.1 == (0 : Int)) then
 some ((v3 != (0 : Int)))
else some (false)) fun v4 =>
 Option.bind (bif v4 then some (true) else
 Option.bind (bif decide (s.1 > (0 : Int)) then
 Option.bind (getI d.1 (IntKind.wrap .i64 (s.1 - (1 : Int)))) fun v5 =>
 some (decide (v3 ≤ v5))
else some (false)) fun v6 =>
 some (v6)) fun v7 =>
 Option.bind (bif v7 then some (true) else
 some (decide (v3 > (4294967295 : Int)))) fun v8 =>
 bif v8 then
 some (.inr (.inl (((16 : Int), ()))))
else
 some (.inl (IntKind.wrap .i64 (s.1 + (1 : Int)), ()))
else
 some (.inr (.inr (())))
def L_dfa_Check_1 (O : Oracle) (n : Nat) (d : TD) (v13 : (Int × Unit)) : Option ((Int × Unit) ⊕ (Int × Unit) ⊕ Unit) :=
 bif decide (v13.1 < (d.2.1.length : Int)) then
 Option.bind (getI d.2.1 v13.1) fun v14 =>
 bif ((v14.length : Int) != (d.1.length : Int)) then
 some (.inr (.inl (((14 : Int), ()))))
else
 some (.inl (IntKind.wrap .i64 (v13.1 + (1 : Int)), ()))
else
 some (.inr (.inr (())))
def L_dfa_Check_2 (O : Oracle) (n : Nat) (d : TD) (v20 : (List Int)) (v21 : (Int × Unit)) : Option ((Int × Unit) ⊕ (Int × Unit) ⊕ Unit) :=
 bif decide (v21.1 < (v20.length : Int)) then
 Option.bind (getI v20 v21.1) fun v22 =>
 Option.bind (bif decide (v22 < (0 : Int)) then some (true) else
 some (decide (v22 ≥ (d.2.1.length : Int)))) fun v23 =>
 bif v23 then
 some (.inr (.inl (((5 : Int), ()))))
else
 some (.inl (IntKind.wrap .i64 (v21.1 + (1 : Int)), ()))
else
 some (.inr (.inr (())))
def L_dfa_Check_3 (O : Oracle) (n : Nat) (d : TD) (v19 : (Int × Unit)) : Option ((Int × Unit) ⊕ (Int × Unit) ⊕ Unit) :=
 bif decide (v19.1 < (d.2.1.length : Int)) then
 Option.bind (getI d.2.1 v19.1) fun v20 =>
 Option.bind (loopN n (L_dfa_Check_2 O n d v20) ((0 : Int), ())) fun (v24 : (Int × Unit) ⊕ Unit) =>
 Sum.elim (fun v25 =>
 some (.inr (.inl ((v25.1, ()))))) (fun v26 =>
 some (.inl (IntKind.wrap .i64 (v19.1 + (1 : Int)), ()))) v24
else
 some (.inr (.inr (())))
def G_dfa_Check (O : Oracle) (n : Nat) (d : TD) : Option (Option S) :=
 Option.bind (bif decide ((d.2.2.1.length : Int) > (4096 : Int)) then some (true) else
 some (decide ((d.2.1.length : Int) > (4096 : Int)))) fun v =>
 Option.bind (bif v then some (true) else
 some (decide ((d.1.length : Int) > (2000 : Int)))) fun v1 =>
 bif v1 then
 retQ q_dfa_Check ((4 : Int), ())
else
 Option.bind (loopN n (L_dfa_Check_0 O n d) ((0 : Int), ())) fun (v9 : (Int × Unit) ⊕ Unit) =>
 Sum.elim (fun v10 =>
 retQ q_dfa_Check (v10.1, ())) (fun v11 =>
 bif ((d.1.length : Int) == (0 : Int)) then
 retQ q_dfa_Check ((16 : Int), ())
else
 Option.bind (bif ((d.2.1.length : Int) == (0 : Int)) then some (true) else
 some (((d.2.2.1.length : Int) != (d.2.1.length : Int)))) fun v12 =>
 bif v12 then
 retQ q_dfa_Check ((14 : Int), ())
else
 Option.bind (loopN n (L_dfa_Check_1 O n d) ((0 : Int), ())) fun (v15 : (Int × Unit) ⊕ Unit) =>
 Sum.elim (fun v16 =>
 retQ q_dfa_Check (v16.1, ())) (fun v17 =>
 Option.bind (bif decide (d.2.2.2.1 < (0 : Int)) then some (true) else
 some (decide (d.2.2.2.1 ≥ (d.2.1.length : Int)))) fun v18 =>
 bif v18 then
 retQ q_dfa_Check ((5 : Int), ())
else
 Option.bind (loopN n (L_dfa_Check_3 O n d) ((0 : Int), ())) fun (v27 : (Int × Unit) ⊕ Unit) =>
 Sum.elim (fun v28 =>
 retQ q_dfa_Check (v28.1, ())) (fun v29 =>
 retQ q_dfa_Check ((0 : Int), ())) v27) v15) v9
theorem x_dfa_Check (O : Oracle) (n : Nat) (d : ((List Int) × ((List (List Int)) × ((List Bool) × (Int × Unit))))) : evF1 O n f_dfa_Check [.d (pr [(.list tI), (.list (.list tI)), (.list tB), tI]) d] [] = G_dfa_Check O n d := by kernel_rfl
def q_ref16_Check : Sh := ⟨[], ⟨[], []⟩, [.tm 0 tI]⟩
def f_ref16_Check : TF := ⟨(.seq (.region (
 o 1 (.boxD 26 pD (t 0))<|
 o 2 (.mv (i 0))<|
.nil)) (.seq (.seq (.region (
 q 11 2 lB 1<|
 o 13 (.len false (t 12))<|
 o 14 (.bin .gtr (t 13) (i 4096))<|
 o 15 (m 14)<|
.gb 15 false (
 q 16 1 lL 1<|
 o 18 (.len false (t 17))<|
 o 19 (.bin .gtr (t 18) (i 4096))<|
.nil) tB (t 19) yT 20 <|
 o 21 (m 20)<|
.gb 21 false (
 q 22 0 lI 1<|
 o 24 (.len false (t 23))<|
 o 25 (.bin .gtr (t 24) (i 2000))<|
.nil) tB (t 25) yT 26 <|
.nil)) (.cond (t 26) (.seq (.region (
 o 2 (.mv (i 4))<|
.nil)) .ret) .skip)) (.seq (.seq (.region (
 q 27 0 lI 1<|
 o 29 (.len false (t 28))<|
 o 30 (.bin .eql (t 29) (i 0))<|
 o 31 (m 30)<|
.gb 31 false (
 q 32 0 lI 1<|
 o 34 (.idxA tI (t 33) (i 0))<|
 o 35 (.load tI (t 34))<|
 o 36 (.bin .neq (t 35) (i 0))<|
.nil) tB (t 36) yT 37 <|
.nil)) (.cond (t 37) (.seq (.region (
 o 2 (.mv (i 16))<|
.nil)) .ret) .skip)) (.seq (.seq (.region (
 q 38 0 lI 1<|
 o 40 (.len false (t 39))<|
 o 41 (.mv (i 0))<|
.nil)) (.block 0 (.loop ⟨[1, 39, 40], ⟨[], []⟩, [.tm 41 tI]⟩ [(1, ⟨[], ⟨[], []⟩, [.tm 2 tI]⟩), (3, ⟨[1], ⟨[], []⟩, []⟩)] (.seq (.region (
 o 42 (.bin .lss (t 41) (t 40))<|
.nil)) (.seq (.cond (t 42) .skip (.exit 0)) (.seq (.block 1 (.seq (.region (
 o 43 (m 41)<|
 o 44 (.idxA tI (t 39) (t 41))<|
 o 45 (.load tI (t 44))<|
 o 3 (m 43)<|
 o 4 (m 45)<|
.nil)) (.seq (.region (
 o 46 (m 4)<|
 o 47 (.bin .gtr (t 46) (i 4294967295))<|
 o 48 (m 47)<|
.gb 48 false (
 o 49 (m 3)<|
 o 50 (.bin .gtr (t 49) (i 0))<|
 o 51 (m 50)<|
.gb 51 true (
 o 52 (m 4)<|
 q 53 0 lI 1<|
 o 55 (m 3)<|
 o 56 (.bin .sub (t 55) (i 1))<|
 o 57 (.idxA tI (t 54) (t 56))<|
 o 58 (.load tI (t 57))<|
 o 59 (.bin .leq (t 52) (t 58))<|
.nil) tB (t 59) yF 60 <|
.nil) tB (t 60) yT 61 <|
.nil)) (.cond (t 61) (.seq (.region (
 o 2 (.mv (i 16))<|
.nil)) .ret) .skip)))) (.region (
 o 62 (.bin .add (t 41) (i 1))<|
 o 41 (m 62)<|
.nil)))))))) (.seq (.seq (.region (
 q 63 1 lL 1<|
 o 65 (.len false (t 64))<|
 o 66 (.bin .eql (t 65) (i 0))<|
 o 67 (m 66)<|
.gb 67 false (
 q 68 1 lL 1<|
 o 70 (.len false (t 69))<|
 q 71 2 lB 1<|
 o 73 (.len false (t 72))<|
 o 74 (.bin .neq (t 70) (t 73))<|
.nil) tB (t 74) yT 75 <|
.nil)) (.cond (t 75) (.seq (.region (
 o 2 (.mv (i 14))<|
.nil)) .ret) .skip)) (.seq (.seq (.region (
 q 76 1 lL 1<|
 o 78 (.len false (t 77))<|
 o 79 (.mv (i 0))<|
.nil)) (.block 2 (.loop ⟨[1, 77, 78], ⟨[], []⟩, [.tm 79 tI]⟩ [(1, ⟨[], ⟨[], []⟩, [.tm 2 tI]⟩), (5, ⟨[1], ⟨[], []⟩, []⟩)] (.seq (.region (
 o 80 (.bin .lss (t 79) (t 78))<|
.nil)) (.seq (.cond (t 80) .skip (.exit 2)) (.seq (.block 3 (.seq (.region (
 o 81 (.idxA lI (t 77) (t 79))<|
 o 82 (.load lI (t 81))<|
 o 6 (m 82)<|
.nil)) (.seq (.region (
 o 83 (m 6)<|
 o 84 (.len false (t 83))<|
 q 85 0 lI 1<|
 o 87 (.len false (t 86))<|
 o 88 (.bin .neq (t 84) (t 87))<|
.nil)) (.cond (t 88) (.seq (.region (
 o 2 (.mv (i 14))<|
.nil)) .ret) .skip)))) (.region (
 o 89 (.bin .add (t 79) (i 1))<|
 o 79 (m 89)<|
.nil)))))))) (.seq (.seq (.region (
 q 90 3 tI 1<|
 o 92 (.bin .lss (t 91) (i 0))<|
 o 93 (m 92)<|
.gb 93 false (
 q 94 3 tI 1<|
 q 96 1 lL 1<|
 o 98 (.len false (t 97))<|
 o 99 (.bin .geq (t 95) (t 98))<|
.nil) tB (t 99) yT 100 <|
.nil)) (.cond (t 100) (.seq (.region (
 o 2 (.mv (i 5))<|
.nil)) .ret) .skip)) (.seq (.seq (.region (
 q 101 1 lL 1<|
 o 103 (.len false (t 102))<|
 o 104 (.mv (i 0))<|
.nil)) (.block 4 (.loop ⟨[1, 102, 103], ⟨[], []⟩, [.tm 104 tI]⟩ [(1, ⟨[], ⟨[], []⟩, [.tm 2 tI]⟩), (7, ⟨[], ⟨[], []⟩, []⟩)] (.seq (.region (
 o 105 (.bin .lss (t 104) (t 103))<|
.nil)) (.seq (.cond (t 105) .skip (.exit 4)) (.seq (.block 5 (.seq (.region (
 o 106 (.idxA lI (t 102) (t 104))<|
 o 107 (.load lI (t 106))<|
 o 8 (m 107)<|
.nil)) (.seq (.region (
 o 108 (m 8)<|
 o 109 (.len false (t 108))<|
 o 110 (.mv (i 0))<|
.nil)) (.block 6 (.loop ⟨[1, 102, 103, 104, 108, 109], ⟨[], []⟩, [.tm 110 tI]⟩ [(1, ⟨[], ⟨[], []⟩, [.tm 2 tI]⟩), (9, ⟨[1, 102, 103, 104], ⟨[], []⟩, []⟩)] (.seq (.region (
 o 111 (.bin .lss (t 110) (t 109))<|
.nil)) (.seq (.cond (t 111) .skip (.exit 6)) (.seq (.block 7 (.seq (.region (
 o 112 (.idxA tI (t 108) (t 110))<|
 o 113 (.load tI (t 112))<|
 o 10 (m 113)<|
.nil)) (.seq (.region (
 o 114 (m 10)<|
 o 115 (.bin .lss (t 114) (i 0))<|
 o 116 (m 115)<|
.gb 116 false (
 o 117 (m 10)<|
 q 118 1 lL 1<|
 o 120 (.len false (t 119))<|
 o 121 (.bin .geq (t 117) (t 120))<|
.nil) tB (t 121) yT 122 <|
.nil)) (.cond (t 122) (.seq (.region (
 o 2 (.mv (i 5))<|
.nil)) .ret) .skip)))) (.region (
 o 123 (.bin .add (t 110) (i 1))<|
 o 110 (m 123)<|
.nil)))))))))) (.region (
 o 124 (.bin .add (t 104) (i 1))<|
 o 104 (m 124)<|
.nil)))))))) (.seq (.region (
 o 2 (.mv (i 0))<|
.nil)) .ret))))))))), [.tm 2], 125, q_ref16_Check, 0⟩
def L_ref16_Check_0 (O : Oracle) (n : Nat) (d : TD) (s : (Int × Unit)) : Option ((Int × Unit) ⊕ (Int × Unit) ⊕ Unit) :=
 bif decide (s.1 < (d.1.length : Int)) then
 Option.bind (getI d.1 s.1) fun v5 =>
 Option.bind (bif decide (v5 > (4294967295 : Int)) then some (true) else
 Option.bind (bif decide (s.1 > (0 : Int)) then
 Option.bind (getI d.1 (IntKind.wrap .i64 (s.1 - (1 : Int)))) fun v6 =>
 some (decide (v5 ≤ v6))
else some (false)) fun v7 =>
 some (v7)) fun v8 =>
 bif v8 then
 some (.inr (.inl (((16 : Int), ()))))
else
 some (.inl (IntKind.wrap .i64 (s.1 + (1 : Int)), ()))
else
 some (.inr (.inr (())))
def L_ref16_Check_1 (O : Oracle) (n : Nat) (d : TD) (v13 : (Int × Unit)) : Option ((Int × Unit) ⊕ (Int × Unit) ⊕ Unit) :=
 bif decide (v13.1 < (d.2.1.length : Int)) then
 Option.bind (getI d.2.1 v13.1) fun v14 =>
 bif ((v14.length : Int) != (d.1.length : Int)) then
 some (.inr (.inl (((14 : Int), ()))))
else
 some (.inl (IntKind.wrap .i64 (v13.1 + (1 : Int)), ()))
else
 some (.inr (.inr (())))
def L_ref16_Check_2 (O : Oracle) (n : Nat) (d : TD) (v20 : (List Int)) (v21 : (Int × Unit)) : Option ((Int × Unit) ⊕ (Int × Unit) ⊕ Unit) :=
 bif decide (v21.1 < (v20.length : Int)) then
 Option.bind (getI v20 v21.1) fun v22 =>
 Option.bind (bif decide (v22 < (0 : Int)) then some (true) else
 some (decide (v22 ≥ (d.2.1.length : Int)))) fun v23 =>
 bif v23 then
 some (.inr (.inl (((5 : Int), ()))))
else
 some (.inl (IntKind.wrap .i64 (v21.1 + (1 : Int)), ()))
else
 some (.inr (.inr (())))
def L_ref16_Check_3 (O : Oracle) (n : Nat) (d : TD) (v19 : (Int × Unit)) : Option ((Int × Unit) ⊕ (Int × Unit) ⊕ Unit) :=
 bif decide (v19.1 < (d.2.1.length : Int)) then
 Option.bind (getI d.2.1 v19.1) fun v20 =>
 Option.bind (loopN n (L_ref16_Check_2 O n d v20) ((0 : Int), ())) fun (v24 : (Int × Unit) ⊕ Unit) =>
 Sum.elim (fun v25 =>
 some (.inr (.inl ((v25.1, ()))))) (fun v26 =>
 some (.inl (IntKind.wrap .i64 (v19.1 + (1 : Int)), ()))) v24
else
 some (.inr (.inr (())))
def G_ref16_Check (O : Oracle) (n : Nat) (d : TD) : Option (Option S) :=
 Option.bind (bif decide ((d.2.2.1.length : Int) > (4096 : Int)) then some (true) else
 some (decide ((d.2.1.length : Int) > (4096 : Int)))) fun v =>
 Option.bind (bif v then some (true) else
 some (decide ((d.1.length : Int) > (2000 : Int)))) fun v1 =>
 bif v1 then
 retQ q_ref16_Check ((4 : Int), ())
else
 Option.bind (bif ((d.1.length : Int) == (0 : Int)) then some (true) else
 Option.bind (getI d.1 (0 : Int)) fun v2 =>
 some ((v2 != (0 : Int)))) fun v3 =>
 bif v3 then
 retQ q_ref16_Check ((16 : Int), ())
else
 Option.bind (loopN n (L_ref16_Check_0 O n d) ((0 : Int), ())) fun (v9 : (Int × Unit) ⊕ Unit) =>
 Sum.elim (fun v10 =>
 retQ q_ref16_Check (v10.1, ())) (fun v11 =>
 Option.bind (bif ((d.2.1.length : Int) == (0 : Int)) then some (true) else
 some (((d.2.1.length : Int) != (d.2.2.1.length : Int)))) fun v12 =>
 bif v12 then
 retQ q_ref16_Check ((14 : Int), ())
else
 Option.bind (loopN n (L_ref16_Check_1 O n d) ((0 : Int), ())) fun (v15 : (Int × Unit) ⊕ Unit) =>
 Sum.elim (fun v16 =>
 retQ q_ref16_Check (v16.1, ())) (fun v17 =>
 Option.bind (bif decide (d.2.2.2.1 < (0 : Int)) then some (true) else
 some (decide (d.2.2.2.1 ≥ (d.2.1.length : Int)))) fun v18 =>
 bif v18 then
 retQ q_ref16_Check ((5 : Int), ())
else
 Option.bind (loopN n (L_ref16_Check_3 O n d) ((0 : Int), ())) fun (v27 : (Int × Unit) ⊕ Unit) =>
 Sum.elim (fun v28 =>
 retQ q_ref16_Check (v28.1, ())) (fun v29 =>
 retQ q_ref16_Check ((0 : Int), ())) v27) v15) v9
theorem x_ref16_Check (O : Oracle) (n : Nat) (d : ((List Int) × ((List (List Int)) × ((List Bool) × (Int × Unit))))) : evF1 O n f_ref16_Check [.d (pr [(.list tI), (.list (.list tI)), (.list tB), tI]) d] [] = G_ref16_Check O n d := by kernel_rfl
def q_law16_first : Sh := ⟨[], ⟨[], []⟩, [.tm 0 .rx]⟩
def f_law16_first : TF := ⟨(.seq (.region (
 o 0 (.alloc 33 [.d tI (0 : Int), .d tI (0 : Int), .d tI (0 : Int), .nil .rx])<|
.nil)) (.seq (.region (
 o 1 (.build [.d tI (0 : Int), .d tI (0 : Int), .d tI (0 : Int), .nil .rx] [(0, 1, .k tI (1 : Int)), (1, 1, .k tI (65001 : Int)), (2, 1, .k tI (65001 : Int))])<|
 o 2 (.build [.d tI (0 : Int), .d tI (0 : Int), .d tI (0 : Int), .nil .rx] [(0, 1, .k tI (2 : Int))])<|
 o 3 (.bslice false 33 .rx 1 [.tm 2])<|
 o 4 (.build [.d tI (0 : Int), .d tI (0 : Int), .d tI (0 : Int), .nil .rx] [(0, 1, .k tI (5 : Int)), (3, 1, .tm 3)])<|
 o 5 (.bslice false 33 .rx 2 [.tm 1, .tm 4])<|
 o 6 (.build [.d tI (0 : Int), .d tI (0 : Int), .d tI (0 : Int), .nil .rx] [(0, 1, .k tI (3 : Int)), (3, 1, .tm 5)])<|
.op none (.store .rx (t 0) (t 6))<|
.nil)) .ret)), [.cell 0 .rx], 7, q_law16_first, 0⟩
def q_regex_kids : Sh := ⟨[], ⟨[], []⟩, [.tm 0 tB, .tm 1 tB]⟩
def f_regex_kids : TF := ⟨(.seq (.region (
 o 4 (.mv yF)<|
 o 5 (.mv yF)<|
.nil)) (.seq (.seq (.region (
 o 6 (m 0)<|
.nil)) (.block 0 (.seq (.cut [(0, ⟨[1, 6], ⟨[], []⟩, [.tm 7 tB]⟩)] (.seq (.region (
 o 8 (.bin .eql (t 6) (i 0))<|
 o 7 (m 8)<|
.nil)) (.cond (t 7) .skip (.seq (.region (
 o 9 (.bin .eql (t 6) (i 1))<|
 o 7 (m 9)<|
.nil)) (.cond (t 7) .skip (.region (
 o 10 (.bin .eql (t 6) (i 2))<|
 o 7 (m 10)<|
.nil))))))) (.cond (t 7) (.seq (.region (
 o 11 (m 1)<|
 o 12 (.bin .eql (t 11) (i 0))<|
 o 4 (.mv yT)<|
 o 5 (m 12)<|
.nil)) .ret) (.seq (.region (
 o 14 (.bin .eql (t 6) (i 3))<|
 o 13 (m 14)<|
.nil)) (.cond (t 13) (.seq (.region (
 o 15 (m 1)<|
 o 16 (.bin .geq (t 15) (i 2))<|
 o 4 (.mv yT)<|
 o 5 (m 16)<|
.nil)) .ret) (.seq (.region (
 o 18 (.bin .eql (t 6) (i 4))<|
 o 17 (m 18)<|
.nil)) (.cond (t 17) (.seq (.region (
 o 19 (m 1)<|
 o 20 (.bin .neq (t 19) (i 1))<|
 o 4 (.mv yT)<|
 o 5 (m 20)<|
.nil)) .ret) (.seq (.cut [(0, ⟨[1], ⟨[], []⟩, [.tm 21 tB]⟩)] (.seq (.region (
 o 22 (.bin .eql (t 6) (i 5))<|
 o 21 (m 22)<|
.nil)) (.cond (t 21) .skip (.seq (.region (
 o 23 (.bin .eql (t 6) (i 6))<|
 o 21 (m 23)<|
.nil)) (.cond (t 21) .skip (.region (
 o 24 (.bin .eql (t 6) (i 7))<|
 o 21 (m 24)<|
.nil))))))) (.cond (t 21) (.seq (.region (
 o 25 (m 1)<|
 o 26 (.bin .eql (t 25) (i 1))<|
 o 4 (.mv yT)<|
 o 5 (m 26)<|
.nil)) .ret) .skip)))))))))) (.seq (.region (
 o 4 (.mv yF)<|
 o 5 (.mv yF)<|
.nil)) .ret))), [.tm 4, .tm 5], 27, q_regex_kids, 0⟩
def q_regex_node : Sh := ⟨[], ⟨[], []⟩, [.tm 0 tI]⟩
def f_regex_node : TF := ⟨(.seq (.region (
 o 1 (.boxD 33 .rx (t 0))<|
 o 2 (.mv (i 0))<|
.nil)) (.seq (.region (
 q 6 0 tI 1<|
 o 8 (.fldA 3 (.list .rx) (t 1))<|
 o 9 (.load (.list .rx) (t 8))<|
 o 10 (.len false (t 9))<|
 o 11 (.call false N_regex_kids [(.d tI, .tm 7), (.d tI, .tm 10)] q_regex_kids)<|
 o 5 (m 11)<|
 o 12 (.ext (t 5) 0)<|
 o 13 (.ext (t 5) 1)<|
 o 3 (m 12)<|
 o 4 (m 13)<|
.nil)) (.seq (.block 0 (.seq (.region (
 o 15 (m 3)<|
 o 16 (.un .not (t 15))<|
 o 14 (m 16)<|
.nil)) (.cond (t 14) (.seq (.region (
 o 2 (.mv (i 15))<|
.nil)) .ret) (.seq (.region (
 q 18 0 tI 1<|
 o 20 (.bin .eql (t 19) (i 1))<|
 o 21 (m 20)<|
.gb 21 true (
 q 22 1 tI 1<|
 o 24 (.bin .lss (t 23) (i 0))<|
 o 25 (m 24)<|
.gb 25 false (
 q 26 1 tI 1<|
 q 28 2 tI 1<|
 o 30 (.bin .gtr (t 27) (t 29))<|
.nil) tB (t 30) yT 31 <|
 o 32 (m 31)<|
.gb 32 false (
 q 33 2 tI 1<|
 o 35 (.bin .gtr (t 34) (i 4294967295))<|
.nil) tB (t 35) yT 36 <|
.nil) tB (t 36) yF 37 <|
 o 17 (m 37)<|
.nil)) (.cond (t 17) (.seq (.region (
 o 2 (.mv (i 5))<|
.nil)) .ret) (.seq (.cut [(0, ⟨[], ⟨[], []⟩, [.tm 38 tB]⟩)] (.seq (.region (
 q 39 0 tI 1<|
 o 41 (.bin .neq (t 40) (i 1))<|
 o 42 (m 41)<|
.gb 42 true (
 q 43 1 tI 1<|
 o 45 (.bin .neq (t 44) (i 0))<|
 o 46 (m 45)<|
.gb 46 false (
 q 47 2 tI 1<|
 o 49 (.bin .neq (t 48) (i 0))<|
.nil) tB (t 49) yT 50 <|
.nil) tB (t 50) yF 51 <|
 o 38 (m 51)<|
.nil)) (.cond (t 38) .skip (.region (
 o 52 (m 4)<|
 o 53 (.un .not (t 52))<|
 o 38 (m 53)<|
.nil))))) (.cond (t 38) (.seq (.region (
 o 2 (.mv (i 1))<|
.nil)) .ret) .skip))))))) (.seq (.region (
 o 2 (.mv (i 0))<|
.nil)) .ret)))), [.tm 2], 54, q_regex_node, 0⟩
def q_regex_check_ddr : Sh := ⟨[], ⟨[], [.box T_i64 [.any]]⟩, [.tm 0 tI, .cell 0 0 tI]⟩
def f_regex_check_ddr : TF := ⟨(.seq (.region (
 o 3 (.boxD 33 .rx (t 0))<|
 o 6 (.mv (i 0))<|
.nil)) (.seq (.seq (.region (
 o 11 (m 1)<|
 o 12 (.bin .gtr (t 11) (i 16))<|
.nil)) (.cond (t 12) (.seq (.region (
 o 6 (.mv (i 24))<|
.nil)) .ret) .skip)) (.seq (.seq (.region (
 o 13 (m 2)<|
 o 14 (.nilc (t 13))<|
 o 15 (.load tI (t 14))<|
 o 16 (.bin .geq (t 15) (i 64))<|
.nil)) (.cond (t 16) (.seq (.region (
 o 6 (.mv (i 4))<|
.nil)) .ret) .skip)) (.seq (.region (
 o 17 (m 2)<|
 o 18 (.nilc (t 17))<|
 o 19 (.load tI (t 18))<|
 o 20 (.bin .add (t 19) (i 1))<|
 o 21 (.nilc (t 17))<|
.op none (.store tI (t 21) (t 20))<|
.nil)) (.seq (.seq (.region (
 o 22 (.load .rx (t 3))<|
 o 23 (.call false N_regex_node [(.d .rx, .tm 22)] q_regex_node)<|
 o 7 (m 23)<|
.nil)) (.seq (.region (
 o 24 (m 7)<|
 o 25 (.bin .neq (t 24) (i 0))<|
.nil)) (.cond (t 25) (.seq (.region (
 o 26 (m 7)<|
 o 6 (m 26)<|
.nil)) .ret) .skip))) (.seq (.seq (.region (
 o 27 (.fldA 3 (.list .rx) (t 3))<|
 o 28 (.load (.list .rx) (t 27))<|
 o 29 (.len false (t 28))<|
 o 30 (.mv (i 0))<|
.nil)) (.block 0 (.loop ⟨[1, 28, 29], ⟨[(2, .ptr 0 0)], [.box T_i64 [.any]]⟩, [.tm 30 tI, .cell 0 0 tI]⟩ [(1, ⟨[], ⟨[(2, .ptr 0 0)], [.box T_i64 [.any]]⟩, [.tm 6 tI, .cell 0 0 tI]⟩), (3, ⟨[], ⟨[(2, .ptr 0 0)], [.box T_i64 [.any]]⟩, [.cell 0 0 tI]⟩)] (.seq (.region (
 o 31 (.bin .lss (t 30) (t 29))<|
.nil)) (.seq (.cond (t 31) .skip (.exit 0)) (.seq (.block 1 (.seq (.region (
 o 32 (.idxA .rx (t 28) (t 30))<|
 o 33 (.load .rx (t 32))<|
 o 9 (.alloc 33 [.d tI (0 : Int), .d tI (0 : Int), .d tI (0 : Int), .nil .rx])<|
.op none (.store .rx (t 9) (t 33))<|
.nil)) (.seq (.region (
 o 34 (.load .rx (t 9))<|
 o 35 (m 1)<|
 o 36 (.bin .add (t 35) (i 1))<|
 o 37 (m 2)<|
 o 38 (.callA false false [0] N_regex_check_ddr [(.d .rx, .tm 34), (.d tI, .tm 36), (.x, .tm 37)] q_regex_check_ddr)<|
 o 10 (m 38)<|
.nil)) (.seq (.region (
 o 39 (m 10)<|
 o 40 (.bin .neq (t 39) (i 0))<|
.nil)) (.cond (t 40) (.seq (.region (
 o 41 (m 10)<|
 o 6 (m 41)<|
.nil)) (.adj [.sel [0] [2, 6]] .ret)) .skip))))) (.after (.region (
 o 42 (.bin .add (t 30) (i 1))<|
 o 30 (m 42)<|
.nil)) [.sel [0] [1, 2, 28, 29, 30]]))))))) (.seq (.region (
 o 6 (.mv (i 0))<|
.nil)) .ret))))))), [.tm 6], 43, q_regex_check_ddr, 1⟩
def q_regex_Check : Sh := ⟨[], ⟨[], []⟩, [.tm 0 tI]⟩
def f_regex_Check : TF := ⟨(.seq (.region (
 o 1 (.boxD 33 .rx (t 0))<|
 o 2 (.mv (i 0))<|
.nil)) (.seq (.region (
 o 3 (.alloc 3 [.d tI (0 : Int)])<|
.op none (.store tI (t 3) (i 0))<|
.nil)) (.seq (.region (
 o 4 (.load .rx (t 1))<|
 o 5 (.callA false false [0] N_regex_check_ddr [(.d .rx, .tm 4), (.d tI, .k tI (1 : Int)), (.x, .tm 3)] q_regex_check_ddr)<|
 o 2 (m 5)<|
.nil)) .ret))), [.tm 2], 6, q_regex_Check, 0⟩
def q_dfa_positions_add_rdd : Sh := ⟨[], ⟨[], [.box T_str_dfa_positions [.sl 1, .sl 2, .sl 3], .vec T_i64 tI [], .vec T_i64 tI [], .vec T_u64 tQ []]⟩, [.tm 0 (pr [tQ, tQ, tB]), .vec 1 3 tI, .vec 2 3 tI, .vec 3 53 tQ]⟩
def f_dfa_positions_add_rdd : TF := ⟨(.seq (.region (
 o 6 (.alloc 55 [.d tQ (0 : Int), .d tQ (0 : Int), .d tB false])<|
.nil)) (.seq (.region (
 o 8 (m 0)<|
 o 9 (.nilc (t 8))<|
 q 10 0 lI 9<|
 o 12 (.len false (t 11))<|
 o 13 (.cvtI .u64 (t 12))<|
 o 14 (.bin .shl (.k tQ (1 : Int)) (t 13))<|
 o 7 (m 14)<|
.nil)) (.seq (.region (
 o 15 (m 0)<|
 o 16 (m 0)<|
 o 17 (.nilc (t 16))<|
 q 18 0 lI 17<|
 o 20 (m 1)<|
 o 21 (.bslice false 3 tI 1 [.tm 20])<|
 o 22 (.append 3 tI 8 (t 19) (t 21))<|
 o 23 (.nilc (t 15))<|
 o 24 (.fldA 0 lI (t 23))<|
.op none (.store lI (t 24) (t 22))<|
.nil)) (.seq (.region (
 o 25 (m 0)<|
 o 26 (m 0)<|
 o 27 (.nilc (t 26))<|
 q 28 1 lI 27<|
 o 30 (m 2)<|
 o 31 (.bslice false 3 tI 1 [.tm 30])<|
 o 32 (.append 3 tI 8 (t 29) (t 31))<|
 o 33 (.nilc (t 25))<|
 o 34 (.fldA 1 lI (t 33))<|
.op none (.store lI (t 34) (t 32))<|
.nil)) (.seq (.region (
 o 35 (m 0)<|
 o 36 (m 0)<|
 o 37 (.nilc (t 36))<|
 o 38 (.fldA 2 (.list tQ) (t 37))<|
 o 39 (.load (.list tQ) (t 38))<|
 o 40 (.bslice false 53 tQ 1 [.k tQ (0 : Int)])<|
 o 41 (.append 53 tQ 8 (t 39) (t 40))<|
 o 42 (.nilc (t 35))<|
 o 43 (.fldA 2 (.list tQ) (t 42))<|
.op none (.store (.list tQ) (t 43) (t 41))<|
.nil)) (.seq (.region (
 o 44 (m 7)<|
 o 45 (m 7)<|
 o 46 (.build [.d tQ (0 : Int), .d tQ (0 : Int), .d tB false] [(0, 1, .tm 44), (1, 1, .tm 45)])<|
.op none (.store (pr [tQ, tQ, tB]) (t 6) (t 46))<|
.nil)) .ret)))))), [.cell 6 (pr [tQ, tQ, tB])], 47, q_dfa_positions_add_rdd, 4⟩
def q_dfa_positions_link_rdd : Sh := ⟨[], ⟨[], [.box T_str_dfa_positions [.sl 1, .sl 2, .sl 3], .vec T_i64 tI [], .vec T_i64 tI [], .vec T_u64 tQ []]⟩, [.vec 1 3 tI, .vec 2 3 tI, .vec 3 53 tQ]⟩
def f_dfa_positions_link_rdd : TF := ⟨(.seq (.region (
 o 7 (m 0)<|
 o 8 (.nilc (t 7))<|
 o 9 (.fldA 2 (.list tQ) (t 8))<|
 o 10 (.load (.list tQ) (t 9))<|
 o 11 (.len false (t 10))<|
 o 12 (.mv (i 0))<|
.nil)) (.block 0 (.loop ⟨[1, 2, 11], ⟨[(0, .ptr 0 0)], [.box T_str_dfa_positions [.sl 1, .sl 2, .sl 3], .vec T_i64 tI [], .vec T_i64 tI [], .vec T_u64 tQ []]⟩, [.tm 12 tI, .vec 1 3 tI, .vec 2 3 tI, .vec 3 53 tQ]⟩ [(3, ⟨[], ⟨[(0, .ptr 0 0)], [.box T_str_dfa_positions [.sl 1, .sl 2, .sl 3], .vec T_i64 tI [], .vec T_i64 tI [], .vec T_u64 tQ []]⟩, [.vec 1 3 tI, .vec 2 3 tI, .vec 3 53 tQ]⟩)] (.seq (.region (
 o 13 (.bin .lss (t 12) (t 11))<|
.nil)) (.seq (.cond (t 13) .skip (.exit 0)) (.seq (.cut [(0, ⟨[1, 2, 11, 12], ⟨[(0, .ptr 0 0)], [.box T_str_dfa_positions [.sl 1, .sl 2, .sl 3], .vec T_i64 tI [], .vec T_i64 tI [], .vec T_u64 tQ []]⟩, [.vec 1 3 tI, .vec 2 3 tI, .vec 3 53 tQ]⟩)] (.block 1 (.seq (.region (
 o 14 (m 12)<|
 o 6 (m 14)<|
.nil)) (.seq (.region (
 o 15 (m 1)<|
 o 16 (m 6)<|
 o 17 (.cvtI .u64 (t 16))<|
 o 18 (.bin .shr (t 15) (t 17))<|
 o 19 (.bin .and (t 18) (.k tQ (1 : Int)))<|
 o 20 (.bin .eql (t 19) (.k tQ (1 : Int)))<|
.nil)) (.cond (t 20) (.region (
 o 21 (m 0)<|
 o 22 (.nilc (t 21))<|
 o 23 (.fldA 2 (.list tQ) (t 22))<|
 o 24 (.load (.list tQ) (t 23))<|
 o 25 (m 6)<|
 o 26 (.idxA tQ (t 24) (t 25))<|
 o 27 (.load tQ (t 26))<|
 o 28 (m 2)<|
 o 29 (.bin .or (t 27) (t 28))<|
 o 30 (.idxA tQ (t 24) (t 25))<|
.op none (.store tQ (t 30) (t 29))<|
.nil)) .skip))))) (.region (
 o 31 (.bin .add (t 12) (i 1))<|
 o 12 (m 31)<|
.nil)))))))), [], 32, q_dfa_positions_link_rdd, 4⟩
def q_dfa_positions_walk_rd : Sh := ⟨[], ⟨[], [.box T_str_dfa_positions [.sl 1, .sl 2, .sl 3], .vec T_i64 tI [], .vec T_i64 tI [], .vec T_u64 tQ []]⟩, [.tm 0 (pr [tQ, tQ, tB]), .vec 1 3 tI, .vec 2 3 tI, .vec 3 53 tQ]⟩
def f_dfa_positions_walk_rd : TF := ⟨(.seq (.region (
 o 3 (.boxD 33 .rx (t 1))<|
 o 4 (.alloc 55 [.d tQ (0 : Int), .d tQ (0 : Int), .d tB false])<|
.nil)) (.seq (.seq (.region (
 q 15 0 tI 3<|
.nil)) (.block 0 (.seq (.region (
 o 18 (.bin .eql (t 16) (i 1))<|
 o 17 (m 18)<|
.nil)) (.cond (t 17) (.seq (.region (
 o 19 (m 0)<|
 q 20 1 tI 3<|
 q 22 2 tI 3<|
 o 24 (.callA false false [0, 1, 2, 3] N_dfa_positions_add_rdd [(.x, .tm 19), (.d tI, .tm 21), (.d tI, .tm 23)] q_dfa_positions_add_rdd)<|
.op none (.store (pr [tQ, tQ, tB]) (t 4) (t 24))<|
.nil)) .ret) (.seq (.region (
 o 26 (.bin .eql (t 16) (i 2))<|
 o 25 (m 26)<|
.nil)) (.cond (t 25) (.seq (.region (
 o 27 (m 0)<|
 o 28 (.callA false false [0, 1, 2, 3] N_dfa_positions_add_rdd [(.x, .tm 27), (.d tI, .k tI (0 : Int)), (.d tI, .k tI (4294967295 : Int))] q_dfa_positions_add_rdd)<|
.op none (.store (pr [tQ, tQ, tB]) (t 4) (t 28))<|
.nil)) .ret) (.seq (.region (
 o 30 (.bin .eql (t 16) (i 3))<|
 o 29 (m 30)<|
.nil)) (.cond (t 29) (.seq (.region (
 o 31 (.build [.d tQ (0 : Int), .d tQ (0 : Int), .d tB false] [(2, 1, .k tB true)])<|
 o 5 (.alloc 55 [.d tQ (0 : Int), .d tQ (0 : Int), .d tB false])<|
.op none (.store (pr [tQ, tQ, tB]) (t 5) (t 31))<|
.nil)) (.seq (.seq (.region (
 o 32 (.fldA 3 (.list .rx) (t 3))<|
 o 33 (.load (.list .rx) (t 32))<|
 o 34 (.len false (t 33))<|
 o 35 (.mv (i 0))<|
.nil)) (.block 1 (.loop ⟨[33, 34], ⟨[(0, .ptr 0 0), (4, .ptr 4 0), (5, .ptr 5 0)], [.box T_str_dfa_positions [.sl 1, .sl 2, .sl 3], .vec T_i64 tI [], .vec T_i64 tI [], .vec T_u64 tQ [], .box T_str_dfa_sets [.any, .any, .any], .box T_str_dfa_sets [.any, .any, .any]]⟩, [.tm 35 tI, .vec 1 3 tI, .vec 2 3 tI, .vec 3 53 tQ, .cell 4 0 tQ, .cell 4 1 tQ, .cell 4 2 tB, .cell 5 0 tQ, .cell 5 1 tQ, .cell 5 2 tB]⟩ [(4, ⟨[], ⟨[(0, .ptr 0 0), (4, .ptr 4 0), (5, .ptr 5 0)], [.box T_str_dfa_positions [.sl 1, .sl 2, .sl 3], .vec T_i64 tI [], .vec T_i64 tI [], .vec T_u64 tQ [], .box T_str_dfa_sets [.any, .any, .any], .box T_str_dfa_sets [.any, .any, .any]]⟩, [.vec 1 3 tI, .vec 2 3 tI, .vec 3 53 tQ, .cell 4 0 tQ, .cell 4 1 tQ, .cell 4 2 tB, .cell 5 0 tQ, .cell 5 1 tQ, .cell 5 2 tB]⟩)] (.seq (.region (
 o 36 (.bin .lss (t 35) (t 34))<|
.nil)) (.seq (.cond (t 36) .skip (.exit 1)) (.seq (.block 2 (.seq (.region (
 o 37 (.idxA .rx (t 33) (t 35))<|
 o 38 (.load .rx (t 37))<|
 o 7 (.alloc 33 [.d tI (0 : Int), .d tI (0 : Int), .d tI (0 : Int), .nil .rx])<|
.op none (.store .rx (t 7) (t 38))<|
.nil)) (.seq (.region (
 o 39 (m 0)<|
 o 40 (.load .rx (t 7))<|
 o 41 (.callA false false [0, 1, 2, 3] N_dfa_positions_walk_rd [(.x, .tm 39), (.d .rx, .tm 40)] q_dfa_positions_walk_rd)<|
 o 8 (.alloc 55 [.d tQ (0 : Int), .d tQ (0 : Int), .d tB false])<|
.op none (.store (pr [tQ, tQ, tB]) (t 8) (t 41))<|
.nil)) (.seq (.region (
 o 42 (m 0)<|
 q 43 1 tQ 5<|
 q 45 0 tQ 8<|
 o 47 (.callA false false [0, 1, 2, 3] N_dfa_positions_link_rdd [(.x, .tm 42), (.d tQ, .tm 44), (.d tQ, .tm 46)] q_dfa_positions_link_rdd)<|
.nil)) (.seq (.cut [(0, ⟨[33, 34, 35], ⟨[(0, .ptr 0 0), (4, .ptr 4 0), (5, .ptr 5 0), (8, .ptr 6 0)], [.box T_str_dfa_positions [.sl 1, .sl 2, .sl 3], .vec T_i64 tI [], .vec T_i64 tI [], .vec T_u64 tQ [], .box T_str_dfa_sets [.any, .any, .any], .box T_str_dfa_sets [.any, .any, .any], .box T_str_dfa_sets [.any, .any, .any]]⟩, [.vec 1 3 tI, .vec 2 3 tI, .vec 3 53 tQ, .cell 4 0 tQ, .cell 4 1 tQ, .cell 4 2 tB, .cell 5 0 tQ, .cell 5 1 tQ, .cell 5 2 tB, .cell 6 0 tQ, .cell 6 1 tQ, .cell 6 2 tB]⟩)] (.seq (.region (
 q 48 2 tB 5<|
.nil)) (.cond (t 49) (.after (.region (
 q 50 0 tQ 5<|
 q 52 0 tQ 8<|
 o 54 (.bin .or (t 51) (t 53))<|
 o 55 (.fldA 0 tQ (t 5))<|
.op none (.store tQ (t 55) (t 54))<|
.nil)) [.sel [0, 1, 2, 3, 4, 5, 7] [0, 4, 5, 8, 33, 34, 35]]) (.after .skip [.sel [0, 1, 2, 3, 4, 5, 7] [0, 4, 5, 8, 33, 34, 35]])))) (.seq (.cut [(0, ⟨[33, 34, 35], ⟨[(0, .ptr 0 0), (4, .ptr 4 0), (5, .ptr 5 0), (8, .ptr 6 0)], [.box T_str_dfa_positions [.sl 1, .sl 2, .sl 3], .vec T_i64 tI [], .vec T_i64 tI [], .vec T_u64 tQ [], .box T_str_dfa_sets [.any, .any, .any], .box T_str_dfa_sets [.any, .any, .any], .box T_str_dfa_sets [.any, .any, .any]]⟩, [.vec 1 3 tI, .vec 2 3 tI, .vec 3 53 tQ, .cell 4 0 tQ, .cell 4 1 tQ, .cell 4 2 tB, .cell 5 0 tQ, .cell 5 1 tQ, .cell 5 2 tB, .cell 6 0 tQ, .cell 6 1 tQ, .cell 6 2 tB]⟩)] (.seq (.region (
 q 56 2 tB 8<|
.nil)) (.cond (t 57) (.region (
 q 58 1 tQ 5<|
 q 60 1 tQ 8<|
 o 62 (.bin .or (t 59) (t 61))<|
 o 63 (.fldA 1 tQ (t 5))<|
.op none (.store tQ (t 63) (t 62))<|
.nil)) (.region (
 q 64 1 tQ 8<|
 o 66 (.fldA 1 tQ (t 5))<|
.op none (.store tQ (t 66) (t 65))<|
.nil))))) (.region (
 q 67 2 tB 5<|
 o 69 (m 68)<|
.gb 69 true (
 q 70 2 tB 8<|
.nil) tB (t 71) yF 72 <|
 o 73 (.fldA 2 tB (t 5))<|
.op none (.store tB (t 73) (t 72))<|
.nil)))))))) (.after (.region (
 o 74 (.bin .add (t 35) (i 1))<|
 o 35 (m 74)<|
.nil)) [.sel [0, 1, 2, 3, 4, 5] [0, 4, 5, 33, 34, 35]]))))))) (.seq (.region (
 o 75 (.load (pr [tQ, tQ, tB]) (t 5))<|
.op none (.store (pr [tQ, tQ, tB]) (t 4) (t 75))<|
.nil)) .ret))) (.seq (.region (
 o 77 (.bin .eql (t 16) (i 4))<|
 o 76 (m 77)<|
.nil)) (.cond (t 76) (.seq (.region (
 o 78 (.build [.d tQ (0 : Int), .d tQ (0 : Int), .d tB false] [])<|
 o 9 (.alloc 55 [.d tQ (0 : Int), .d tQ (0 : Int), .d tB false])<|
.op none (.store (pr [tQ, tQ, tB]) (t 9) (t 78))<|
.nil)) (.seq (.seq (.region (
 o 79 (.fldA 3 (.list .rx) (t 3))<|
 o 80 (.load (.list .rx) (t 79))<|
 o 81 (.len false (t 80))<|
 o 82 (.mv (i 0))<|
.nil)) (.block 3 (.loop ⟨[80, 81], ⟨[(0, .ptr 0 0), (4, .ptr 4 0), (9, .ptr 5 0)], [.box T_str_dfa_positions [.sl 1, .sl 2, .sl 3], .vec T_i64 tI [], .vec T_i64 tI [], .vec T_u64 tQ [], .box T_str_dfa_sets [.any, .any, .any], .box T_str_dfa_sets [.any, .any, .any]]⟩, [.tm 82 tI, .vec 1 3 tI, .vec 2 3 tI, .vec 3 53 tQ, .cell 4 0 tQ, .cell 4 1 tQ, .cell 4 2 tB, .cell 5 0 tQ, .cell 5 1 tQ, .cell 5 2 tB]⟩ [(6, ⟨[], ⟨[(0, .ptr 0 0), (4, .ptr 4 0), (9, .ptr 5 0)], [.box T_str_dfa_positions [.sl 1, .sl 2, .sl 3], .vec T_i64 tI [], .vec T_i64 tI [], .vec T_u64 tQ [], .box T_str_dfa_sets [.any, .any, .any], .box T_str_dfa_sets [.any, .any, .any]]⟩, [.vec 1 3 tI, .vec 2 3 tI, .vec 3 53 tQ, .cell 4 0 tQ, .cell 4 1 tQ, .cell 4 2 tB, .cell 5 0 tQ, .cell 5 1 tQ, .cell 5 2 tB]⟩)] (.seq (.region (
 o 83 (.bin .lss (t 82) (t 81))<|
.nil)) (.seq (.cond (t 83) .skip (.exit 3)) (.seq (.block 4 (.seq (.region (
 o 84 (.idxA .rx (t 80) (t 82))<|
 o 85 (.load .rx (t 84))<|
 o 11 (.alloc 33 [.d tI (0 : Int), .d tI (0 : Int), .d tI (0 : Int), .nil .rx])<|
.op none (.store .rx (t 11) (t 85))<|
.nil)) (.seq (.region (
 o 86 (m 0)<|
 o 87 (.load .rx (t 11))<|
 o 88 (.callA false false [0, 1, 2, 3] N_dfa_positions_walk_rd [(.x, .tm 86), (.d .rx, .tm 87)] q_dfa_positions_walk_rd)<|
 o 12 (.alloc 55 [.d tQ (0 : Int), .d tQ (0 : Int), .d tB false])<|
.op none (.store (pr [tQ, tQ, tB]) (t 12) (t 88))<|
.nil)) (.region (
 q 89 0 tQ 9<|
 q 91 0 tQ 12<|
 o 93 (.bin .or (t 90) (t 92))<|
 q 94 1 tQ 9<|
 q 96 1 tQ 12<|
 o 98 (.bin .or (t 95) (t 97))<|
 q 99 2 tB 9<|
 o 101 (m 100)<|
.gb 101 false (
 q 102 2 tB 12<|
.nil) tB (t 103) yT 104 <|
 o 105 (.build [.d tQ (0 : Int), .d tQ (0 : Int), .d tB false] [(0, 1, .tm 93), (1, 1, .tm 98), (2, 1, .tm 104)])<|
.op none (.store (pr [tQ, tQ, tB]) (t 9) (t 105))<|
.nil))))) (.after (.region (
 o 106 (.bin .add (t 82) (i 1))<|
 o 82 (m 106)<|
.nil)) [.sel [0, 1, 2, 3, 4, 5] [0, 4, 9, 80, 81, 82]]))))))) (.seq (.region (
 o 107 (.load (pr [tQ, tQ, tB]) (t 9))<|
.op none (.store (pr [tQ, tQ, tB]) (t 4) (t 107))<|
.nil)) .ret))) (.seq (.cut [(0, ⟨[3, 16], ⟨[(0, .ptr 0 0), (4, .ptr 4 0)], [.box T_str_dfa_positions [.sl 1, .sl 2, .sl 3], .vec T_i64 tI [], .vec T_i64 tI [], .vec T_u64 tQ [], .box T_str_dfa_sets [.any, .any, .any]]⟩, [.tm 108 tB, .vec 1 3 tI, .vec 2 3 tI, .vec 3 53 tQ, .cell 4 0 tQ, .cell 4 1 tQ, .cell 4 2 tB]⟩)] (.seq (.region (
 o 109 (.bin .eql (t 16) (i 5))<|
 o 108 (m 109)<|
.nil)) (.cond (t 108) .skip (.region (
 o 110 (.bin .eql (t 16) (i 6))<|
 o 108 (m 110)<|
.nil))))) (.cond (t 108) (.seq (.region (
 o 111 (m 0)<|
 o 112 (.fldA 3 (.list .rx) (t 3))<|
 o 113 (.load (.list .rx) (t 112))<|
 o 114 (.idxA .rx (t 113) (i 0))<|
 o 115 (.load .rx (t 114))<|
 o 116 (.callA false false [0, 1, 2, 3] N_dfa_positions_walk_rd [(.x, .tm 111), (.d .rx, .tm 115)] q_dfa_positions_walk_rd)<|
 o 13 (.alloc 55 [.d tQ (0 : Int), .d tQ (0 : Int), .d tB false])<|
.op none (.store (pr [tQ, tQ, tB]) (t 13) (t 116))<|
.nil)) (.seq (.region (
 o 117 (m 0)<|
 q 118 1 tQ 13<|
 q 120 0 tQ 13<|
 o 122 (.callA false false [0, 1, 2, 3] N_dfa_positions_link_rdd [(.x, .tm 117), (.d tQ, .tm 119), (.d tQ, .tm 121)] q_dfa_positions_link_rdd)<|
.nil)) (.seq (.region (
 q 123 2 tB 13<|
 o 125 (m 124)<|
.gb 125 false (
 q 126 0 tI 3<|
 o 128 (.bin .eql (t 127) (i 5))<|
.nil) tB (t 128) yT 129 <|
 o 130 (.fldA 2 tB (t 13))<|
.op none (.store tB (t 130) (t 129))<|
.nil)) (.seq (.region (
 o 131 (.load (pr [tQ, tQ, tB]) (t 13))<|
.op none (.store (pr [tQ, tQ, tB]) (t 4) (t 131))<|
.nil)) .ret)))) (.seq (.region (
 o 133 (.bin .eql (t 16) (i 7))<|
 o 132 (m 133)<|
.nil)) (.cond (t 132) (.seq (.region (
 o 134 (m 0)<|
 o 135 (.fldA 3 (.list .rx) (t 3))<|
 o 136 (.load (.list .rx) (t 135))<|
 o 137 (.idxA .rx (t 136) (i 0))<|
 o 138 (.load .rx (t 137))<|
 o 139 (.callA false false [0, 1, 2, 3] N_dfa_positions_walk_rd [(.x, .tm 134), (.d .rx, .tm 138)] q_dfa_positions_walk_rd)<|
 o 14 (.alloc 55 [.d tQ (0 : Int), .d tQ (0 : Int), .d tB false])<|
.op none (.store (pr [tQ, tQ, tB]) (t 14) (t 139))<|
.nil)) (.seq (.region (
 o 140 (.fldA 2 tB (t 14))<|
.op none (.store tB (t 140) yT)<|
.nil)) (.seq (.region (
 o 141 (.load (pr [tQ, tQ, tB]) (t 14))<|
.op none (.store (pr [tQ, tQ, tB]) (t 4) (t 141))<|
.nil)) .ret))) .skip)))))))))))))) (.seq (.region (
 o 142 (.build [.d tQ (0 : Int), .d tQ (0 : Int), .d tB false] [(2, 1, .k tB true)])<|
.op none (.store (pr [tQ, tQ, tB]) (t 4) (t 142))<|
.nil)) .ret))), [.cell 4 (pr [tQ, tQ, tB])], 143, q_dfa_positions_walk_rd, 4⟩
def q_dfa_merge : Sh := ⟨[], ⟨[], []⟩, [.tm 0 (.list tI)]⟩
def f_dfa_merge : TF := ⟨(.seq (.region (
 o 4 (.mv (.nil tI))<|
.nil)) (.seq (.region (
 o 5 (.mv (.nil tI))<|
.nil)) (.seq (.block 0 (.adj [.adopt 5 3 tI] (.loop ⟨[], ⟨[(5, .sl 0)], [.vec T_i64 tI []]⟩, [.tm 0 lI, .tm 1 lI, .vec 0 3 tI]⟩ [(3, ⟨[], ⟨[(5, .sl 0)], [.vec T_i64 tI []]⟩, [.vec 0 3 tI]⟩)] (.seq (.seq (.region (
 o 6 (m 0)<|
 o 7 (.len false (t 6))<|
 o 8 (.bin .gtr (t 7) (i 0))<|
 o 9 (m 8)<|
.gb 9 false (
 o 10 (m 1)<|
 o 11 (.len false (t 10))<|
 o 12 (.bin .gtr (t 11) (i 0))<|
.nil) tB (t 12) yT 13 <|
.nil)) (.cond (t 13) .skip (.exit 0))) (.block 1 (.block 2 (.seq (.draw 18 (
 o 25 (m 1)<|
 o 26 (.len false (t 25))<|
 o 27 (.bin .eql (t 26) (i 0))<|
 o 28 (m 27)<|
.gb 28 false (
 o 29 (m 0)<|
 o 30 (.len false (t 29))<|
 o 31 (.bin .gtr (t 30) (i 0))<|
 o 32 (m 31)<|
.gb 32 true (
 o 33 (m 0)<|
 o 34 (.idxA tI (t 33) (i 0))<|
 o 35 (.load tI (t 34))<|
 o 36 (m 1)<|
 o 37 (.idxA tI (t 36) (i 0))<|
 o 38 (.load tI (t 37))<|
 o 39 (.bin .lss (t 35) (t 38))<|
.nil) tB (t 39) yF 40 <|
.nil) tB (t 40) yT 41 <|
 o 24 (m 41)<|
.nil) [[], [0], [1], [2], [3], [4, 3], [5, 3], [6, 3, 3], [7], [8, 7], [9, 7], [7], [11, 7], [12, 7], [10, 13, 7], [7, 14, 3], [3, 15], [16, 7]]) (.cond (t 24) (.seq (.region (
 o 42 (m 5)<|
 o 43 (m 0)<|
 o 44 (.idxA tI (t 43) (i 0))<|
 o 45 (.load tI (t 44))<|
 o 46 (.bslice false 3 tI 1 [.tm 45])<|
 o 47 (.append 3 tI 8 (t 42) (t 46))<|
 o 5 (m 47)<|
.nil)) (.region (
 o 48 (m 0)<|
 o 49 (.slc false tI (t 48) (some (i 1)) none none)<|
 o 0 (m 49)<|
.nil))) (.seq (.draw 13 (
 o 51 (m 0)<|
 o 52 (.len false (t 51))<|
 o 53 (.bin .eql (t 52) (i 0))<|
 o 54 (m 53)<|
.gb 54 false (
 o 55 (m 1)<|
 o 56 (.idxA tI (t 55) (i 0))<|
 o 57 (.load tI (t 56))<|
 o 58 (m 0)<|
 o 59 (.idxA tI (t 58) (i 0))<|
 o 60 (.load tI (t 59))<|
 o 61 (.bin .lss (t 57) (t 60))<|
.nil) tB (t 61) yT 62 <|
 o 50 (m 62)<|
.nil) [[], [0], [1], [2], [3], [4, 3], [5, 3], [3], [7, 3], [8, 3], [6, 9, 3], [3, 10], [11, 3]]) (.cond (t 50) (.seq (.region (
 o 63 (m 5)<|
 o 64 (m 1)<|
 o 65 (.idxA tI (t 64) (i 0))<|
 o 66 (.load tI (t 65))<|
 o 67 (.bslice false 3 tI 1 [.tm 66])<|
 o 68 (.append 3 tI 8 (t 63) (t 67))<|
 o 5 (m 68)<|
.nil)) (.region (
 o 69 (m 1)<|
 o 70 (.slc false tI (t 69) (some (i 1)) none none)<|
 o 1 (m 70)<|
.nil))) (.seq (.region (
 o 14 (m 5)<|
 o 15 (m 0)<|
 o 16 (.idxA tI (t 15) (i 0))<|
 o 17 (.load tI (t 16))<|
 o 18 (.bslice false 3 tI 1 [.tm 17])<|
 o 19 (.append 3 tI 8 (t 14) (t 18))<|
 o 5 (m 19)<|
.nil)) (.draw 6 (
 o 20 (m 0)<|
 o 21 (.slc false tI (t 20) (some (i 1)) none none)<|
 o 22 (m 1)<|
 o 23 (.slc false tI (t 22) (some (i 1)) none none)<|
 o 0 (m 21)<|
 o 1 (m 23)<|
.nil) [[], [0], [], [2], [1, 0, 1], [3, 4, 0, 1, 2, 3, 4]])))))))))))) (.seq (.region (
 o 71 (m 5)<|
 o 4 (m 71)<|
.nil)) (.adj [.freeze 0] .ret))))), [.tm 4], 72, q_dfa_merge, 0⟩
def L_dfa_merge_0 (O : Oracle) (n : Nat) (s : ((List Int) × (List Int) × (List Int) × Unit)) : Option (((List Int) × (List Int) × (List Int) × Unit) ⊕ ((List Int) × Unit)) :=
 Option.bind (bif decide ((s.1.length : Int) > (0 : Int)) then some (true) else
 some (decide ((s.2.1.length : Int) > (0 : Int)))) fun v1 =>
 bif v1 then
 Option.bind (bif ((s.2.1.length : Int) == (0 : Int)) then some (true) else
 Option.bind (bif decide ((s.1.length : Int) > (0 : Int)) then
 Option.bind (getI s.1 (0 : Int)) fun v2 =>
 Option.bind (getI s.2.1 (0 : Int)) fun v3 =>
 some (decide (v2 < v3))
else some (false)) fun v4 =>
 some (v4)) fun v5 =>
 bif v5 then
 Option.bind (getI s.1 (0 : Int)) fun v6 =>
 guardB (decide ((s.2.2.1.length + ([v6] : List Int).length) * 8 ≤ 140737488355328)) (
 guardB (decide (0 ≤ (1 : Int))) (
 guardB (decide (Int.toNat (1 : Int) ≤ s.1.length) && decide (s.1.length ≤ s.1.length) && decide (s.1.length ≤ s.1.length)) (
 some (.inl ((s.1.take (s.1.length)).drop (Int.toNat (1 : Int)), s.2.1, s.2.2.1 ++ ([v6] : List Int), ())))))
else
 Option.bind (bif ((s.1.length : Int) == (0 : Int)) then some (true) else
 Option.bind (getI s.2.1 (0 : Int)) fun v7 =>
 Option.bind (getI s.1 (0 : Int)) fun v8 =>
 some (decide (v7 < v8))) fun v9 =>
 bif v9 then
 Option.bind (getI s.2.1 (0 : Int)) fun v10 =>
 guardB (decide ((s.2.2.1.length + ([v10] : List Int).length) * 8 ≤ 140737488355328)) (
 guardB (decide (0 ≤ (1 : Int))) (
 guardB (decide (Int.toNat (1 : Int) ≤ s.2.1.length) && decide (s.2.1.length ≤ s.2.1.length) && decide (s.2.1.length ≤ s.2.1.length)) (
 some (.inl (s.1, (s.2.1.take (s.2.1.length)).drop (Int.toNat (1 : Int)), s.2.2.1 ++ ([v10] : List Int), ())))))
else
 Option.bind (getI s.1 (0 : Int)) fun v11 =>
 guardB (decide ((s.2.2.1.length + ([v11] : List Int).length) * 8 ≤ 140737488355328)) (
 guardB (decide (0 ≤ (1 : Int))) (
 guardB (decide (Int.toNat (1 : Int) ≤ s.1.length) && decide (s.1.length ≤ s.1.length) && decide (s.1.length ≤ s.1.length)) (
 guardB (decide (0 ≤ (1 : Int))) (
 guardB (decide (Int.toNat (1 : Int) ≤ s.2.1.length) && decide (s.2.1.length ≤ s.2.1.length) && decide (s.2.1.length ≤ s.2.1.length)) (
 some (.inl ((s.1.take (s.1.length)).drop (Int.toNat (1 : Int)), (s.2.1.take (s.2.1.length)).drop (Int.toNat (1 : Int)), s.2.2.1 ++ ([v11] : List Int), ())))))))
else
 some (.inr ((s.2.2.1, ())))
def G_dfa_merge (O : Oracle) (n : Nat) (a : (List Int)) (b : (List Int)) : Option (Option S) :=
 Option.bind (loopN n (L_dfa_merge_0 O n) (a, b, ([] : List Int), ())) fun (v12 : ((List Int) × Unit)) =>
 retQ q_dfa_merge (v12.1, ())
theorem x_dfa_merge (O : Oracle) (n : Nat) (a : (List Int)) (b : (List Int)) : evF1 O n f_dfa_merge [.d (.list tI) a, .d (.list tI) b] [] = G_dfa_merge O n a b := by kernel_rfl
def q_dfa_positions_starts_r : Sh := ⟨[], ⟨[], [.box T_str_dfa_positions [.sl 1, .sl 2, .sl 3], .vec T_i64 tI [], .vec T_i64 tI [], .vec T_u64 tQ []]⟩, [.tm 0 (.list tI), .vec 1 3 tI, .vec 2 3 tI, .vec 3 53 tQ]⟩
def f_dfa_positions_starts_r : TF := ⟨(.seq (.region (
 o 2 (.mv (.nil tI))<|
.nil)) (.seq (.region (
 o 5 (.bslice false 3 tI 1 [.k tI (0 : Int)])<|
 o 3 (m 5)<|
.nil)) (.seq (.seq (.region (
 o 6 (m 0)<|
 o 7 (.nilc (t 6))<|
 q 8 0 lI 7<|
 o 10 (.len false (t 9))<|
 o 11 (.mv (i 0))<|
.nil)) (.block 0 (.loop ⟨[10], ⟨[(0, .ptr 0 0)], [.box T_str_dfa_positions [.sl 1, .sl 2, .sl 3], .vec T_i64 tI [], .vec T_i64 tI [], .vec T_u64 tQ []]⟩, [.tm 3 lI, .tm 11 tI, .vec 1 3 tI, .vec 2 3 tI, .vec 3 53 tQ]⟩ [(3, ⟨[], ⟨[(0, .ptr 0 0)], [.box T_str_dfa_positions [.sl 1, .sl 2, .sl 3], .vec T_i64 tI [], .vec T_i64 tI [], .vec T_u64 tQ []]⟩, [.tm 3 lI, .vec 1 3 tI, .vec 2 3 tI, .vec 3 53 tQ]⟩)] (.seq (.region (
 o 12 (.bin .lss (t 11) (t 10))<|
.nil)) (.seq (.cond (t 12) .skip (.exit 0)) (.seq (.cut [(0, ⟨[10, 11], ⟨[(0, .ptr 0 0)], [.box T_str_dfa_positions [.sl 1, .sl 2, .sl 3], .vec T_i64 tI [], .vec T_i64 tI [], .vec T_u64 tQ []]⟩, [.tm 3 lI, .vec 1 3 tI, .vec 2 3 tI, .vec 3 53 tQ]⟩)] (.block 1 (.seq (.region (
 o 13 (m 11)<|
 o 4 (m 13)<|
.nil)) (.seq (.region (
 o 14 (m 3)<|
 o 15 (m 0)<|
 o 16 (.nilc (t 15))<|
 q 17 0 lI 16<|
 o 19 (m 4)<|
 o 20 (.idxA tI (t 18) (t 19))<|
 o 21 (.load tI (t 20))<|
 o 22 (.bslice false 3 tI 1 [.tm 21])<|
 o 23 (.call false N_dfa_merge [(.d lI, .tm 14), (.d lI, .tm 22)] q_dfa_merge)<|
 o 3 (m 23)<|
.nil)) (.seq (.region (
 o 24 (m 0)<|
 o 25 (.nilc (t 24))<|
 q 26 1 lI 25<|
 o 28 (m 4)<|
 o 29 (.idxA tI (t 27) (t 28))<|
 o 30 (.load tI (t 29))<|
 o 31 (.bin .lss (t 30) (i 4294967295))<|
.nil)) (.cond (t 31) (.region (
 o 32 (m 3)<|
 o 33 (m 0)<|
 o 34 (.nilc (t 33))<|
 q 35 1 lI 34<|
 o 37 (m 4)<|
 o 38 (.idxA tI (t 36) (t 37))<|
 o 39 (.load tI (t 38))<|
 o 40 (.bin .add (t 39) (i 1))<|
 o 41 (.bslice false 3 tI 1 [.tm 40])<|
 o 42 (.call false N_dfa_merge [(.d lI, .tm 32), (.d lI, .tm 41)] q_dfa_merge)<|
 o 3 (m 42)<|
.nil)) .skip)))))) (.region (
 o 43 (.bin .add (t 11) (i 1))<|
 o 11 (m 43)<|
.nil)))))))) (.seq (.region (
 o 44 (m 3)<|
 o 2 (m 44)<|
.nil)) .ret)))), [.tm 2], 45, q_dfa_positions_starts_r, 4⟩
def q_dfa_positions_matching_rd : Sh := ⟨[], ⟨[], [.box T_str_dfa_positions [.sl 1, .sl 2, .sl 3], .vec T_i64 tI [], .vec T_i64 tI [], .vec T_u64 tQ []]⟩, [.tm 0 tQ, .vec 1 3 tI, .vec 2 3 tI, .vec 3 53 tQ]⟩
def f_dfa_positions_matching_rd : TF := ⟨(.seq (.region (
 o 4 (.mv (.k tQ (0 : Int)))<|
.nil)) (.seq (.region (
 o 5 (.mv (.k tQ (0 : Int)))<|
.nil)) (.seq (.seq (.region (
 o 7 (m 0)<|
 o 8 (.nilc (t 7))<|
 q 9 0 lI 8<|
 o 11 (.len false (t 10))<|
 o 12 (.mv (i 0))<|
.nil)) (.block 0 (.loop ⟨[1, 11], ⟨[(0, .ptr 0 0)], [.box T_str_dfa_positions [.sl 1, .sl 2, .sl 3], .vec T_i64 tI [], .vec T_i64 tI [], .vec T_u64 tQ []]⟩, [.tm 5 tQ, .tm 12 tI, .vec 1 3 tI, .vec 2 3 tI, .vec 3 53 tQ]⟩ [(3, ⟨[], ⟨[(0, .ptr 0 0)], [.box T_str_dfa_positions [.sl 1, .sl 2, .sl 3], .vec T_i64 tI [], .vec T_i64 tI [], .vec T_u64 tQ []]⟩, [.tm 5 tQ, .vec 1 3 tI, .vec 2 3 tI, .vec 3 53 tQ]⟩)] (.seq (.region (
 o 13 (.bin .lss (t 12) (t 11))<|
.nil)) (.seq (.cond (t 13) .skip (.exit 0)) (.seq (.cut [(0, ⟨[1, 11, 12], ⟨[(0, .ptr 0 0)], [.box T_str_dfa_positions [.sl 1, .sl 2, .sl 3], .vec T_i64 tI [], .vec T_i64 tI [], .vec T_u64 tQ []]⟩, [.tm 5 tQ, .vec 1 3 tI, .vec 2 3 tI, .vec 3 53 tQ]⟩)] (.block 1 (.seq (.region (
 o 14 (m 12)<|
 o 6 (m 14)<|
.nil)) (.seq (.region (
 o 15 (m 0)<|
 o 16 (.nilc (t 15))<|
 q 17 0 lI 16<|
 o 19 (m 6)<|
 o 20 (.idxA tI (t 18) (t 19))<|
 o 21 (.load tI (t 20))<|
 o 22 (m 1)<|
 o 23 (.bin .leq (t 21) (t 22))<|
 o 24 (m 23)<|
.gb 24 true (
 o 25 (m 1)<|
 o 26 (m 0)<|
 o 27 (.nilc (t 26))<|
 q 28 1 lI 27<|
 o 30 (m 6)<|
 o 31 (.idxA tI (t 29) (t 30))<|
 o 32 (.load tI (t 31))<|
 o 33 (.bin .leq (t 25) (t 32))<|
.nil) tB (t 33) yF 34 <|
.nil)) (.cond (t 34) (.region (
 o 35 (m 5)<|
 o 36 (m 6)<|
 o 37 (.cvtI .u64 (t 36))<|
 o 38 (.bin .shl (.k tQ (1 : Int)) (t 37))<|
 o 39 (.bin .or (t 35) (t 38))<|
 o 5 (m 39)<|
.nil)) .skip))))) (.region (
 o 40 (.bin .add (t 12) (i 1))<|
 o 12 (m 40)<|
.nil)))))))) (.seq (.region (
 o 41 (m 5)<|
 o 4 (m 41)<|
.nil)) .ret)))), [.tm 4], 42, q_dfa_positions_matching_rd, 4⟩
def q_dfa_reachable : Sh := ⟨[], ⟨[], []⟩, [.tm 0 (.list tI)]⟩
def f_dfa_reachable : TF := ⟨(.seq (.region (
 o 1 (.boxD 26 pD (t 0))<|
 o 2 (.mv (.nil tI))<|
.nil)) (.seq (.region (
 q 8 1 lL 1<|
 o 10 (.len false (t 9))<|
 o 11 (.mslice 4 tB 1 (t 10) (t 10))<|
 o 3 (m 11)<|
.nil)) (.seq (.region (
 o 12 (m 3)<|
 q 13 3 tI 1<|
 o 15 (.idxA tB (t 12) (t 14))<|
.op none (.store tB (t 15) yT)<|
.nil)) (.seq (.region (
 q 16 3 tI 1<|
 o 18 (.bslice true 3 tI 1 [.tm 17])<|
 o 4 (m 18)<|
.nil)) (.seq (.seq (.region (
 o 5 (.mv (i 0))<|
.nil)) (.block 0 (.loop ⟨[1], ⟨[(3, .sl 0), (4, .sl 1)], [.vec T_bool tB [], .vec T_i64 tI []]⟩, [.tm 5 tI, .vec 0 4 tB, .vec 1 3 tI]⟩ [(3, ⟨[], ⟨[(4, .sl 0)], [.vec T_i64 tI []]⟩, [.vec 0 3 tI]⟩)] (.seq (.seq (.region (
 o 19 (m 5)<|
 o 20 (m 4)<|
 o 21 (.len false (t 20))<|
 o 22 (.bin .lss (t 19) (t 21))<|
.nil)) (.cond (t 22) .skip (.adj [.sel [1] [4]] (.exit 0)))) (.seq (.block 1 (.seq (.draw 10 (
 q 25 1 lL 1<|
 o 27 (m 4)<|
 o 28 (m 5)<|
 o 29 (.idxA tI (t 27) (t 28))<|
 o 30 (.load tI (t 29))<|
 o 31 (.idxA lI (t 26) (t 30))<|
 o 32 (.load lI (t 31))<|
 o 33 (.len false (t 32))<|
 o 34 (.mv (i 0))<|
.nil) [[], [0], [], [], [2, 3], [4], [1, 5], [6], [7], []]) (.block 2 (.loop ⟨[1, 5, 32, 33], ⟨[(3, .sl 0), (4, .sl 1)], [.vec T_bool tB [], .vec T_i64 tI []]⟩, [.tm 34 tI, .vec 0 4 tB, .vec 1 3 tI]⟩ [(5, ⟨[1, 5], ⟨[(3, .sl 0), (4, .sl 1)], [.vec T_bool tB [], .vec T_i64 tI []]⟩, [.vec 0 4 tB, .vec 1 3 tI]⟩)] (.seq (.region (
 o 35 (.bin .lss (t 34) (t 33))<|
.nil)) (.seq (.cond (t 35) .skip (.exit 2)) (.seq (.cut [(0, ⟨[1, 5, 32, 33, 34], ⟨[(3, .sl 0), (4, .sl 1)], [.vec T_bool tB [], .vec T_i64 tI []]⟩, [.vec 0 4 tB, .vec 1 3 tI]⟩)] (.block 3 (.seq (.region (
 o 36 (.idxA tI (t 32) (t 34))<|
 o 37 (.load tI (t 36))<|
 o 7 (m 37)<|
.nil)) (.seq (.region (
 o 38 (m 3)<|
 o 39 (m 7)<|
 o 40 (.idxA tB (t 38) (t 39))<|
 o 41 (.load tB (t 40))<|
 o 42 (.un .not (t 41))<|
.nil)) (.cond (t 42) (.seq (.region (
 o 43 (m 3)<|
 o 44 (m 7)<|
 o 45 (.idxA tB (t 43) (t 44))<|
.op none (.store tB (t 45) yT)<|
.nil)) (.region (
 o 46 (m 4)<|
 o 47 (m 7)<|
 o 48 (.bslice false 3 tI 1 [.tm 47])<|
 o 49 (.append 3 tI 8 (t 46) (t 48))<|
 o 4 (m 49)<|
.nil))) .skip))))) (.region (
 o 50 (.bin .add (t 34) (i 1))<|
 o 34 (m 50)<|
.nil))))))))) (.region (
 o 23 (m 5)<|
 o 24 (.bin .add (t 23) (i 1))<|
 o 5 (m 24)<|
.nil))))))) (.seq (.region (
 o 51 (m 4)<|
 o 2 (m 51)<|
.nil)) (.adj [.freeze 0] .ret))))))), [.tm 2], 52, q_dfa_reachable, 0⟩
def L_dfa_reachable_0 (O : Oracle) (n : Nat) (v4 : (List Int)) (v5 : (Int × (List Bool) × (List Int) × Unit)) : Option ((Int × (List Bool) × (List Int) × Unit) ⊕ ((List Bool) × (List Int) × Unit)) :=
 bif decide (v5.1 < (v4.length : Int)) then
 Option.bind (
 Option.bind (getI v4 v5.1) fun v6 =>
 Option.bind (getI v5.2.1 v6) fun _ =>
 Option.bind v5.2.1[Int.toNat v6]? fun v7 =>
 bif (!v7) then
 Option.bind (getI v5.2.1 v6) fun _ =>
 Option.bind v5.2.1[Int.toNat v6]? fun v8 =>
 guardB (decide ((v5.2.2.1.length + ([v6] : List Int).length) * 8 ≤ 140737488355328)) (
 some ((v5.2.1.set (Int.toNat v6) true, v5.2.2.1 ++ ([v6] : List Int), ())))
else
 some ((v5.2.1, v5.2.2.1, ()))) fun (v9 : ((List Bool) × (List Int) × Unit)) =>
 some (.inl (IntKind.wrap .i64 (v5.1 + (1 : Int)), v9.1, v9.2.1, ()))
else
 some (.inr ((v5.2.1, v5.2.2.1, ())))
def L_dfa_reachable_1 (O : Oracle) (n : Nat) (d : TD) (s : (Int × (List Bool) × (List Int) × Unit)) : Option ((Int × (List Bool) × (List Int) × Unit) ⊕ ((List Int) × Unit)) :=
 bif decide (s.1 < (s.2.2.1.length : Int)) then
 Option.bind (getI s.2.2.1 s.1) fun _ =>
 Option.bind s.2.2.1[Int.toNat s.1]? fun v3 =>
 Option.bind (getI d.2.1 v3) fun v4 =>
 Option.bind (loopN n (L_dfa_reachable_0 O n v4) ((0 : Int), s.2.1, s.2.2.1, ())) fun (v10 : ((List Bool) × (List Int) × Unit)) =>
 some (.inl (IntKind.wrap .i64 (s.1 + (1 : Int)), v10.1, v10.2.1, ()))
else
 some (.inr ((s.2.2.1, ())))
def G_dfa_reachable (O : Oracle) (n : Nat) (d : TD) : Option (Option S) :=
 guardB (decide (0 ≤ (d.2.1.length : Int)) && decide ((d.2.1.length : Int) ≤ (d.2.1.length : Int)) && decide ((d.2.1.length : Int) ≤ 9223372036854775807) && decide (1 * (d.2.1.length : Int) ≤ 281474976710656)) (
 Option.bind (getI (List.replicate (Int.toNat (d.2.1.length : Int)) (Ty.zero tB)) d.2.2.2.1) fun _ =>
 Option.bind (List.replicate (Int.toNat (d.2.1.length : Int)) (Ty.zero tB))[Int.toNat d.2.2.2.1]? fun v =>
 let v1 := (List.replicate (Int.toNat (d.2.1.length : Int)) (Ty.zero tB)).set (Int.toNat d.2.2.2.1) true
 Option.bind (loopN n (L_dfa_reachable_1 O n d) ((0 : Int), v1, ([d.2.2.2.1] : List Int), ())) fun (v11 : ((List Int) × Unit)) =>
 retQ q_dfa_reachable (v11.1, ()))
theorem x_dfa_reachable (O : Oracle) (n : Nat) (d : ((List Int) × ((List (List Int)) × ((List Bool) × (Int × Unit))))) : evF1 O n f_dfa_reachable [.d (pr [(.list tI), (.list (.list tI)), (.list tB), tI]) d] [] = G_dfa_reachable O n d := by kernel_rfl
def q_dfa_signature : Sh := ⟨[], ⟨[], []⟩, [.tm 0 tS]⟩
def f_dfa_signature : TF := ⟨(.seq (.region (
 o 3 (.boxD 26 pD (t 0))<|
 o 6 (.mv (.k tS ([] : List UInt8)))<|
.nil)) (.seq (.region (
 q 10 0 lI 3<|
 o 12 (.len false (t 11))<|
 o 13 (.bin .mul (i 2) (t 12))<|
 o 14 (.bin .add (t 13) (i 2))<|
 o 15 (.mslice 5 tY 1 (i 0) (t 14))<|
 o 7 (m 15)<|
.nil)) (.seq (.draw 13 (
 o 16 (m 7)<|
 o 17 (m 1)<|
 o 18 (m 2)<|
 o 19 (.idxA tI (t 17) (t 18))<|
 o 20 (.load tI (t 19))<|
 o 21 (.bin .shr (t 20) (.k tQ (8 : Int)))<|
 o 22 (.cvtI .u8 (t 21))<|
 o 23 (m 1)<|
 o 24 (m 2)<|
 o 25 (.idxA tI (t 23) (t 24))<|
 o 26 (.load tI (t 25))<|
 o 27 (.cvtI .u8 (t 26))<|
 o 28 (.bslice false 5 tY 2 [.tm 22, .tm 27])<|
 o 29 (.append 5 tY 1 (t 16) (t 28))<|
 o 7 (m 29)<|
.nil) [[], [], [], [1, 2], [3], [4], [5], [], [], [7, 8], [9], [10], [6, 11], [0, 12], [13, 13, 0, 1, 2, 3, 4, 5, 6, 7, 8, 9, 10, 11, 12, 13]]) (.seq (.seq (.region (
 q 30 1 lL 3<|
 o 32 (m 2)<|
 o 33 (.idxA lI (t 31) (t 32))<|
 o 34 (.load lI (t 33))<|
 o 35 (.len false (t 34))<|
 o 36 (.mv (i 0))<|
.nil)) (.block 0 (.loop ⟨[1, 34, 35], ⟨[(7, .sl 0)], [.vec T_u8 tY []]⟩, [.tm 36 tI, .vec 0 5 tY]⟩ [(3, ⟨[], ⟨[(7, .sl 0)], [.vec T_u8 tY []]⟩, [.vec 0 5 tY]⟩)] (.seq (.region (
 o 37 (.bin .lss (t 36) (t 35))<|
.nil)) (.seq (.cond (t 37) .skip (.exit 0)) (.seq (.block 1 (.seq (.region (
 o 38 (.idxA tI (t 34) (t 36))<|
 o 39 (.load tI (t 38))<|
 o 9 (m 39)<|
.nil)) (.draw 13 (
 o 40 (m 7)<|
 o 41 (m 1)<|
 o 42 (m 9)<|
 o 43 (.idxA tI (t 41) (t 42))<|
 o 44 (.load tI (t 43))<|
 o 45 (.bin .shr (t 44) (.k tQ (8 : Int)))<|
 o 46 (.cvtI .u8 (t 45))<|
 o 47 (m 1)<|
 o 48 (m 9)<|
 o 49 (.idxA tI (t 47) (t 48))<|
 o 50 (.load tI (t 49))<|
 o 51 (.cvtI .u8 (t 50))<|
 o 52 (.bslice false 5 tY 2 [.tm 46, .tm 51])<|
 o 53 (.append 5 tY 1 (t 40) (t 52))<|
 o 7 (m 53)<|
.nil) [[], [], [], [1, 2], [3], [4], [5], [], [], [7, 8], [9], [10], [6, 11], [0, 12], [13, 13, 0, 1, 2, 3, 4, 5, 6, 7, 8, 9, 10, 11, 12, 13]]))) (.region (
 o 54 (.bin .add (t 36) (i 1))<|
 o 36 (m 54)<|
.nil)))))))) (.seq (.region (
 o 55 (m 7)<|
 o 56 (.b2s (t 55))<|
 o 6 (m 56)<|
.nil)) .ret))))), [.tm 6], 57, q_dfa_signature, 0⟩
def L_dfa_signature_0 (O : Oracle) (n : Nat) (block : (List Int)) (v5 : (List Int)) (s : (Int × (List Int) × Unit)) : Option ((Int × (List Int) × Unit) ⊕ ((List Int) × Unit)) :=
 bif decide (s.1 < (v5.length : Int)) then
 Option.bind (getI v5 s.1) fun v7 =>
 Option.bind (getI block v7) fun v8 =>
 guardB (decide (0 ≤ (8 : Int))) (
 let v9 := IntKind.wrap .u8 (Int.fdiv v8 (2 ^ (min (Int.toNat (8 : Int)) (IntKind.bits .i64))))
 Option.bind (getI block v7) fun v10 =>
 guardB (decide ((s.2.1.length + ([v9, IntKind.wrap .u8 v10] : List Int).length) * 1 ≤ 140737488355328)) (
 some (.inl (IntKind.wrap .i64 (s.1 + (1 : Int)), s.2.1 ++ ([v9, IntKind.wrap .u8 v10] : List Int), ()))))
else
 some (.inr ((s.2.1, ())))
def G_dfa_signature (O : Oracle) (n : Nat) (d : TD) (block : (List Int)) (s_ : Int) : Option (Option S) :=
 let v := IntKind.wrap .i64 ((IntKind.wrap .i64 ((2 : Int) * (d.1.length : Int))) + (2 : Int))
 guardB (decide (0 ≤ (0 : Int)) && decide ((0 : Int) ≤ v) && decide (v ≤ 9223372036854775807) && decide (1 * v ≤ 281474976710656)) (
 Option.bind (getI block s_) fun v1 =>
 guardB (decide (0 ≤ (8 : Int))) (
 let v2 := IntKind.wrap .u8 (Int.fdiv v1 (2 ^ (min (Int.toNat (8 : Int)) (IntKind.bits .i64))))
 Option.bind (getI block s_) fun v3 =>
 guardB (decide (((List.replicate (Int.toNat (0 : Int)) (Ty.zero tY)).length + ([v2, IntKind.wrap .u8 v3] : List Int).length) * 1 ≤ 140737488355328)) (
 let v4 := (List.replicate (Int.toNat (0 : Int)) (Ty.zero tY)) ++ ([v2, IntKind.wrap .u8 v3] : List Int)
 Option.bind (getI d.2.1 s_) fun v5 =>
 Option.bind (loopN n (L_dfa_signature_0 O n block v5) ((0 : Int), v4, ())) fun (v11 : ((List Int) × Unit)) =>
 retQ q_dfa_signature (v11.1.map fun (n : Int) => UInt8.ofNat n.toNat, ()))))
theorem x_dfa_signature (O : Oracle) (n : Nat) (d : ((List Int) × ((List (List Int)) × ((List Bool) × (Int × Unit))))) (block : (List Int)) (s_ : Int) : evF1 O n f_dfa_signature [.d (pr [(.list tI), (.list (.list tI)), (.list tB), tI]) d, .d (.list tI) block, .d tI s_] [] = G_dfa_signature O n d block s_ := by kernel_rfl
def q_dfa_blocks : Sh := ⟨[], ⟨[], []⟩, [.tm 0 (.list tI), .tm 1 tI]⟩
def f_dfa_blocks : TF := ⟨(.seq (.region (
 o 2 (.boxD 26 pD (t 0))<|
 o 4 (.mv (.nil tI))<|
 o 5 (.mv (i 0))<|
.nil)) (.seq (.region (
 q 17 1 lL 2<|
 o 19 (.len false (t 18))<|
 o 20 (.mslice 3 tI 8 (t 19) (t 19))<|
 o 6 (m 20)<|
.nil)) (.seq (.region (
 o 7 (.mv (i 1))<|
.nil)) (.seq (.seq (.region (
 o 21 (m 1)<|
 o 22 (.len false (t 21))<|
 o 23 (.mv (i 0))<|
.nil)) (.block 0 (.loop ⟨[1, 2, 21, 22], ⟨[(6, .sl 0)], [.vec T_i64 tI []]⟩, [.tm 7 tI, .tm 23 tI, .vec 0 3 tI]⟩ [(3, ⟨[1, 2], ⟨[(6, .sl 0)], [.vec T_i64 tI []]⟩, [.tm 7 tI, .vec 0 3 tI]⟩)] (.seq (.region (
 o 24 (.bin .lss (t 23) (t 22))<|
.nil)) (.seq (.cond (t 24) .skip (.exit 0)) (.seq (.cut [(0, ⟨[1, 2, 21, 22, 23], ⟨[(6, .sl 0)], [.vec T_i64 tI []]⟩, [.tm 7 tI, .vec 0 3 tI]⟩)] (.block 1 (.seq (.region (
 o 25 (.idxA tI (t 21) (t 23))<|
 o 26 (.load tI (t 25))<|
 o 9 (m 26)<|
.nil)) (.seq (.draw 13 (
 q 27 2 lB 2<|
 o 29 (m 9)<|
 o 30 (.idxA tB (t 28) (t 29))<|
 o 31 (.load tB (t 30))<|
 q 32 2 lB 2<|
 o 34 (m 1)<|
 o 35 (.idxA tI (t 34) (i 0))<|
 o 36 (.load tI (t 35))<|
 o 37 (.idxA tB (t 33) (t 36))<|
 o 38 (.load tB (t 37))<|
 o 39 (.eqB true (t 31) (t 38))<|
.nil) [[], [0], [], [1, 2], [3], [], [5], [], [7], [8], [6, 9], [10], [4, 11]]) (.cond (t 39) (.seq (.region (
 o 40 (m 6)<|
 o 41 (m 9)<|
 o 42 (.idxA tI (t 40) (t 41))<|
.op none (.store tI (t 42) (i 1))<|
.nil)) (.region (
 o 7 (.mv (i 2))<|
.nil))) .skip))))) (.region (
 o 43 (.bin .add (t 23) (i 1))<|
 o 23 (m 43)<|
.nil)))))))) (.block 2 (.loop ⟨[1, 2], ⟨[(6, .sl 0)], [.vec T_i64 tI []]⟩, [.tm 7 tI, .vec 0 3 tI]⟩ [(1, ⟨[], ⟨[], []⟩, [.tm 4 lI, .tm 5 tI]⟩)] (.after (.block 3 (.seq (.region (
 o 44 (.mkmap 9 3 tS tI)<|
 o 10 (m 44)<|
.nil)) (.seq (.region (
 q 45 1 lL 2<|
 o 47 (.len false (t 46))<|
 o 48 (.mslice 3 tI 8 (t 47) (t 47))<|
 o 11 (m 48)<|
.nil)) (.seq (.seq (.region (
 o 49 (m 1)<|
 o 50 (.len false (t 49))<|
 o 51 (.mv (i 0))<|
.nil)) (.block 4 (.loop ⟨[1, 2, 7, 49, 50], ⟨[(6, .sl 0), (10, .mp 1), (11, .sl 2)], [.vec T_i64 tI [], .map T_string T_i64 tS tI [], .vec T_i64 tI []]⟩, [.tm 51 tI, .vec 0 3 tI, .map 1 9 3 tS tI, .vec 2 3 tI]⟩ [(7, ⟨[1, 2, 7], ⟨[(10, .mp 0), (11, .sl 1)], [.map T_string T_i64 tS tI [], .vec T_i64 tI []]⟩, [.map 0 9 3 tS tI, .vec 1 3 tI]⟩)] (.seq (.region (
 o 52 (.bin .lss (t 51) (t 50))<|
.nil)) (.seq (.cond (t 52) .skip (.adj [.sel [1, 2] [1, 2, 7, 10, 11]] (.exit 4))) (.seq (.block 5 (.seq (.region (
 o 53 (.idxA tI (t 49) (t 51))<|
 o 54 (.load tI (t 53))<|
 o 13 (m 54)<|
.nil)) (.seq (.region (
 o 55 (.load pD (t 2))<|
 o 56 (m 6)<|
 o 57 (m 13)<|
 o 58 (.call true N_dfa_signature [(.d pD, .tm 55), (.d lI, .tm 56), (.d tI, .tm 57)] q_dfa_signature)<|
 o 14 (m 58)<|
.nil)) (.seq (.region (
 o 60 (m 10)<|
 o 61 (m 14)<|
 o 62 (.lookup 9 3 true tS tI (t 60) (t 61))<|
 o 59 (m 62)<|
 o 63 (.ext (t 59) 0)<|
 o 64 (.ext (t 59) 1)<|
 o 15 (m 63)<|
 o 16 (m 64)<|
.nil)) (.seq (.cut [(0, ⟨[1, 2, 7, 13, 49, 50, 51], ⟨[(6, .sl 0), (10, .mp 1), (11, .sl 2)], [.vec T_i64 tI [], .map T_string T_i64 tS tI [], .vec T_i64 tI []]⟩, [.tm 15 tI, .vec 0 3 tI, .map 1 9 3 tS tI, .vec 2 3 tI]⟩)] (.seq (.region (
 o 65 (m 16)<|
 o 66 (.un .not (t 65))<|
.nil)) (.cond (t 66) (.seq (.region (
 o 67 (m 10)<|
 o 68 (.lenM 9 3 (t 67))<|
 o 15 (m 68)<|
.nil)) (.region (
 o 69 (m 10)<|
 o 70 (m 14)<|
 o 71 (m 15)<|
.op none (.mapset 9 3 tS tI (t 69) (t 70) (t 71))<|
.nil))) .skip))) (.region (
 o 72 (m 11)<|
 o 73 (m 13)<|
 o 74 (m 15)<|
 o 75 (.idxA tI (t 72) (t 73))<|
.op none (.store tI (t 75) (t 74))<|
.nil))))))) (.region (
 o 76 (.bin .add (t 51) (i 1))<|
 o 51 (m 76)<|
.nil)))))))) (.seq (.seq (.region (
 o 77 (m 10)<|
 o 78 (.lenM 9 3 (t 77))<|
 o 79 (m 7)<|
 o 80 (.bin .eql (t 78) (t 79))<|
.nil)) (.cond (t 80) (.seq (.region (
 o 81 (m 11)<|
 o 82 (m 7)<|
 o 4 (m 81)<|
 o 5 (m 82)<|
.nil)) (.adj [.freeze 1, .sel [] [4, 5]] .ret)) .skip)) (.seq (.region (
 o 83 (m 11)<|
 o 6 (m 83)<|
.nil)) (.region (
 o 84 (m 10)<|
 o 85 (.lenM 9 3 (t 84))<|
 o 7 (m 85)<|
.nil)))))))) [.sel [1] [1, 2, 6, 7]]))))))), [.tm 4, .tm 5], 86, q_dfa_blocks, 0⟩
def L_dfa_blocks_0 (O : Oracle) (n : Nat) (d : TD) (l : (List Int)) (s : (Int × Int × (List Int) × Unit)) : Option ((Int × Int × (List Int) × Unit) ⊕ (Int × (List Int) × Unit)) :=
 bif decide (s.2.1 < (l.length : Int)) then
 Option.bind (
 Option.bind (getI l s.2.1) fun v1 =>
 Option.bind (getI d.2.2.1 v1) fun v2 =>
 Option.bind (getI l (0 : Int)) fun v3 =>
 Option.bind (getI d.2.2.1 v3) fun v4 =>
 bif (true ^^ (v2 == v4)) then
 Option.bind (getI s.2.2.1 v1) fun _ =>
 Option.bind s.2.2.1[Int.toNat v1]? fun v5 =>
 some (((2 : Int), s.2.2.1.set (Int.toNat v1) (1 : Int), ()))
else
 some ((s.1, s.2.2.1, ()))) fun (v6 : (Int × (List Int) × Unit)) =>
 some (.inl (v6.1, IntKind.wrap .i64 (s.2.1 + (1 : Int)), v6.2.1, ()))
else
 some (.inr ((s.1, s.2.2.1, ())))
def L_dfa_blocks_1 (O : Oracle) (n : Nat) (d : TD) (l : (List Int)) (v9 : (Int × (List Int) × (List ((List UInt8) × Int)) × (List Int) × Unit)) : Option ((Int × (List Int) × (List ((List UInt8) × Int)) × (List Int) × Unit) ⊕ ((List ((List UInt8) × Int)) × (List Int) × Unit)) :=
 bif decide (v9.1 < (l.length : Int)) then
 Option.bind (getI l v9.1) fun v10 =>
 Option.bind (callR O N_dfa_signature [.d (pr [(.list tI), (.list (.list tI)), (.list tB), tI]) d, .d (.list tI) v9.2.1, .d tI v10] [] q_dfa_signature) fun v11 =>
 Option.bind (
 bif (!(kvGet tS tI v9.2.2.1 v11.1).isSome) then
 guardB (decide ((v9.2.2.1).length < maxLen)) (
 some ((((v9.2.2.1).length : Int), v9.2.1, kvSet tS tI v9.2.2.1 v11.1 (((v9.2.2.1).length : Int)), v9.2.2.2.1, ())))
else
 some (((kvGet tS tI v9.2.2.1 v11.1).getD (Ty.zero tI), v9.2.1, v9.2.2.1, v9.2.2.2.1, ()))) fun (v12 : (Int × (List Int) × (List ((List UInt8) × Int)) × (List Int) × Unit)) =>
 Option.bind (getI v12.2.2.2.1 v10) fun _ =>
 Option.bind v12.2.2.2.1[Int.toNat v10]? fun v13 =>
 some (.inl (IntKind.wrap .i64 (v9.1 + (1 : Int)), v12.2.1, v12.2.2.1, v12.2.2.2.1.set (Int.toNat v10) v12.1, ()))
else
 some (.inr ((v9.2.2.1, v9.2.2.2.1, ())))
def L_dfa_blocks_2 (O : Oracle) (n : Nat) (d : TD) (l : (List Int)) (v8 : (Int × (List Int) × Unit)) : Option ((Int × (List Int) × Unit) ⊕ ((List Int) × Int × Unit)) :=
 guardB (decide (0 ≤ (d.2.1.length : Int)) && decide ((d.2.1.length : Int) ≤ (d.2.1.length : Int)) && decide ((d.2.1.length : Int) ≤ 9223372036854775807) && decide (8 * (d.2.1.length : Int) ≤ 281474976710656)) (
 Option.bind (loopN n (L_dfa_blocks_1 O n d l) ((0 : Int), v8.2.1, ([] : List ((List UInt8) × Int)), List.replicate (Int.toNat (d.2.1.length : Int)) (Ty.zero tI), ())) fun (v14 : ((List ((List UInt8) × Int)) × (List Int) × Unit)) =>
 bif (((v14.1).length : Int) == v8.1) then
 some (.inr ((v14.2.1, v8.1, ())))
else
 some (.inl (((v14.1).length : Int), v14.2.1, ())))
def G_dfa_blocks (O : Oracle) (n : Nat) (d : TD) (l : (List Int)) : Option (Option S) :=
 guardB (decide (0 ≤ (d.2.1.length : Int)) && decide ((d.2.1.length : Int) ≤ (d.2.1.length : Int)) && decide ((d.2.1.length : Int) ≤ 9223372036854775807) && decide (8 * (d.2.1.length : Int) ≤ 281474976710656)) (
 Option.bind (loopN n (L_dfa_blocks_0 O n d l) ((1 : Int), (0 : Int), List.replicate (Int.toNat (d.2.1.length : Int)) (Ty.zero tI), ())) fun (v7 : (Int × (List Int) × Unit)) =>
 Option.bind (loopN n (L_dfa_blocks_2 O n d l) (v7.1, v7.2.1, ())) fun (v15 : ((List Int) × Int × Unit)) =>
 retQ q_dfa_blocks (v15.1, v15.2.1, ()))
theorem x_dfa_blocks (O : Oracle) (n : Nat) (d : ((List Int) × ((List (List Int)) × ((List Bool) × (Int × Unit))))) (l : (List Int)) : evF1 O n f_dfa_blocks [.d (pr [(.list tI), (.list (.list tI)), (.list tB), tI]) d, .d (.list tI) l] [] = G_dfa_blocks O n d l := by kernel_rfl
def q_dfa_numbered : Sh := ⟨[], ⟨[], []⟩, [.tm 0 (pr [(.list tI), (.list (.list tI)), (.list tB), tI])]⟩
def f_dfa_numbered : TF := ⟨(.seq (.region (
 o 1 (.boxD 26 pD (t 0))<|
 o 2 (.alloc 26 [.nil tI, .nil lI, .nil tB, .d tI (0 : Int)])<|
.nil)) (.seq (.region (
 o 13 (.load pD (t 1))<|
 o 14 (.call false N_dfa_reachable [(.d pD, .tm 13)] q_dfa_reachable)<|
 o 3 (m 14)<|
.nil)) (.seq (.region (
 q 15 1 lL 1<|
 o 17 (.len false (t 16))<|
 o 18 (.mslice 3 tI 8 (t 17) (t 17))<|
 o 4 (m 18)<|
.nil)) (.seq (.seq (.region (
 o 19 (m 3)<|
 o 20 (.len false (t 19))<|
 o 21 (.mv (i 0))<|
.nil)) (.block 0 (.loop ⟨[1, 3, 19, 20], ⟨[(2, .ptr 0 0), (4, .sl 1)], [.box T_str_api_DFA [.nil tI, .nil lI, .nil tB, .any], .vec T_i64 tI []]⟩, [.tm 21 tI, .cell 0 3 tI, .vec 1 3 tI]⟩ [(3, ⟨[1, 3], ⟨[(2, .ptr 0 0), (4, .sl 1)], [.box T_str_api_DFA [.nil tI, .nil lI, .nil tB, .any], .vec T_i64 tI []]⟩, [.cell 0 3 tI, .vec 1 3 tI]⟩)] (.seq (.region (
 o 22 (.bin .lss (t 21) (t 20))<|
.nil)) (.seq (.cond (t 22) .skip (.exit 0)) (.seq (.block 1 (.seq (.region (
 o 23 (m 21)<|
 o 24 (.idxA tI (t 19) (t 21))<|
 o 25 (.load tI (t 24))<|
 o 5 (m 23)<|
 o 6 (m 25)<|
.nil)) (.region (
 o 26 (m 4)<|
 o 27 (m 6)<|
 o 28 (m 5)<|
 o 29 (.idxA tI (t 26) (t 27))<|
.op none (.store tI (t 29) (t 28))<|
.nil)))) (.region (
 o 30 (.bin .add (t 21) (i 1))<|
 o 21 (m 30)<|
.nil)))))))) (.seq (.region (
 q 31 0 lI 1<|
 o 33 (.build [.nil tI, .nil lI, .nil tB, .d tI (0 : Int)] [(0, 1, .tm 32)])<|
 o 7 (.alloc 26 [.nil tI, .nil lI, .nil tB, .d tI (0 : Int)])<|
.op none (.store pD (t 7) (t 33))<|
.nil)) (.seq (.seq (.region (
 o 34 (m 3)<|
 o 35 (.len false (t 34))<|
 o 36 (.mv (i 0))<|
.nil)) (.block 2 (.adj [.adoptC 2 1 22 lI, .adoptC 2 2 4 tB] (.loop ⟨[1, 34, 35], ⟨[(2, .ptr 0 0), (4, .sl 1), (7, .ptr 2 0)], [.box T_str_api_DFA [.nil tI, .nil lI, .nil tB, .any], .vec T_i64 tI [], .box T_str_api_DFA [.any, .sl 3, .sl 4, .any], .vec T_sl_i64 lI [], .vec T_bool tB []]⟩, [.tm 36 tI, .cell 0 3 tI, .vec 1 3 tI, .cell 2 0 lI, .cell 2 3 tI, .vec 3 22 lI, .vec 4 4 tB]⟩ [(5, ⟨[], ⟨[(2, .ptr 0 0), (7, .ptr 1 0)], [.box T_str_api_DFA [.nil tI, .nil lI, .nil tB, .any], .box T_str_api_DFA [.any, .sl 2, .sl 3, .any], .vec T_sl_i64 lI [], .vec T_bool tB []]⟩, [.cell 0 3 tI, .cell 1 0 lI, .cell 1 3 tI, .vec 2 22 lI, .vec 3 4 tB]⟩)] (.seq (.region (
 o 37 (.bin .lss (t 36) (t 35))<|
.nil)) (.seq (.cond (t 37) .skip (.adj [.sel [0, 2, 3, 4] [2, 7]] (.exit 2))) (.seq (.block 3 (.seq (.region (
 o 38 (.idxA tI (t 34) (t 36))<|
 o 39 (.load tI (t 38))<|
 o 9 (m 39)<|
.nil)) (.seq (.region (
 q 40 0 lI 1<|
 o 42 (.len false (t 41))<|
 o 43 (.mslice 3 tI 8 (t 42) (t 42))<|
 o 10 (m 43)<|
.nil)) (.seq (.seq (.region (
 q 44 1 lL 1<|
 o 46 (m 9)<|
 o 47 (.idxA lI (t 45) (t 46))<|
 o 48 (.load lI (t 47))<|
 o 49 (.len false (t 48))<|
 o 50 (.mv (i 0))<|
.nil)) (.block 4 (.loop ⟨[1, 9, 34, 35, 36, 48, 49], ⟨[(2, .ptr 0 0), (4, .sl 1), (7, .ptr 2 0), (10, .sl 5)], [.box T_str_api_DFA [.nil tI, .nil lI, .nil tB, .any], .vec T_i64 tI [], .box T_str_api_DFA [.any, .sl 3, .sl 4, .any], .vec T_sl_i64 lI [], .vec T_bool tB [], .vec T_i64 tI []]⟩, [.tm 50 tI, .cell 0 3 tI, .vec 1 3 tI, .cell 2 0 lI, .cell 2 3 tI, .vec 3 22 lI, .vec 4 4 tB, .vec 5 3 tI]⟩ [(7, ⟨[1, 9, 34, 35, 36], ⟨[(2, .ptr 0 0), (4, .sl 1), (7, .ptr 2 0), (10, .sl 5)], [.box T_str_api_DFA [.nil tI, .nil lI, .nil tB, .any], .vec T_i64 tI [], .box T_str_api_DFA [.any, .sl 3, .sl 4, .any], .vec T_sl_i64 lI [], .vec T_bool tB [], .vec T_i64 tI []]⟩, [.cell 0 3 tI, .vec 1 3 tI, .cell 2 0 lI, .cell 2 3 tI, .vec 3 22 lI, .vec 4 4 tB, .vec 5 3 tI]⟩)] (.seq (.region (
 o 51 (.bin .lss (t 50) (t 49))<|
.nil)) (.seq (.cond (t 51) .skip (.exit 4)) (.seq (.block 5 (.seq (.region (
 o 52 (m 50)<|
 o 53 (.idxA tI (t 48) (t 50))<|
 o 54 (.load tI (t 53))<|
 o 11 (m 52)<|
 o 12 (m 54)<|
.nil)) (.region (
 o 55 (m 10)<|
 o 56 (m 11)<|
 o 57 (m 4)<|
 o 58 (m 12)<|
 o 59 (.idxA tI (t 57) (t 58))<|
 o 60 (.load tI (t 59))<|
 o 61 (.idxA tI (t 55) (t 56))<|
.op none (.store tI (t 61) (t 60))<|
.nil)))) (.region (
 o 62 (.bin .add (t 50) (i 1))<|
 o 50 (m 62)<|
.nil)))))))) (.seq (.region (
 q 63 1 lL 7<|
 o 65 (m 10)<|
.adj [.freeze 5] <|
 o 66 (.bslice false 22 lI 1 [.tm 65])<|
 o 67 (.append 22 lI 24 (t 64) (t 66))<|
 o 68 (.fldA 1 lL (t 7))<|
.op none (.store lL (t 68) (t 67))<|
.nil)) (.draw 8 (
 q 69 2 lB 7<|
 q 71 2 lB 1<|
 o 73 (m 9)<|
 o 74 (.idxA tB (t 72) (t 73))<|
 o 75 (.load tB (t 74))<|
 o 76 (.bslice false 4 tB 1 [.tm 75])<|
 o 77 (.append 4 tB 1 (t 70) (t 76))<|
 o 78 (.fldA 2 lB (t 7))<|
.op none (.store lB (t 78) (t 77))<|
.nil) [[], [0], [], [2], [], [3, 4], [5], [6], [1, 7], [0, 1, 2, 3, 4, 5, 6, 7, 8], [9, 8, 8, 0, 1, 2, 3, 4, 5, 6, 7, 8]])))))) (.after (.region (
 o 79 (.bin .add (t 36) (i 1))<|
 o 36 (m 79)<|
.nil)) [.sel [0, 1, 2, 3, 4] [1, 2, 4, 7, 34, 35, 36]])))))))) (.seq (.region (
 o 80 (.load pD (t 7))<|
.op none (.store pD (t 2) (t 80))<|
.nil)) (.adj [.freeze 2, .freeze 3] .ret)))))))), [.cell 2 pD], 81, q_dfa_numbered, 0⟩
def L_dfa_numbered_0 (O : Oracle) (n : Nat) (v : ((List Int) × Unit)) (s : (Int × Int × (List Int) × Unit)) : Option ((Int × Int × (List Int) × Unit) ⊕ (Int × (List Int) × Unit)) :=
 bif decide (s.1 < (v.1.length : Int)) then
 Option.bind (getI v.1 s.1) fun v2 =>
 Option.bind (getI s.2.2.1 v2) fun _ =>
 Option.bind s.2.2.1[Int.toNat v2]? fun v3 =>
 some (.inl (IntKind.wrap .i64 (s.1 + (1 : Int)), s.2.1, s.2.2.1.set (Int.toNat v2) s.1, ()))
else
 some (.inr ((s.2.1, s.2.2.1, ())))
def L_dfa_numbered_1 (O : Oracle) (n : Nat) (v7 : (List Int)) (v8 : (Int × Int × (List Int) × (List Int) × Int × (List (List Int)) × (List Bool) × (List Int) × Unit)) : Option ((Int × Int × (List Int) × (List Int) × Int × (List (List Int)) × (List Bool) × (List Int) × Unit) ⊕ (Int × (List Int) × (List Int) × Int × (List (List Int)) × (List Bool) × (List Int) × Unit)) :=
 bif decide (v8.1 < (v7.length : Int)) then
 Option.bind (getI v7 v8.1) fun v9 =>
 Option.bind (getI v8.2.2.1 v9) fun _ =>
 Option.bind v8.2.2.1[Int.toNat v9]? fun v10 =>
 Option.bind (getI v8.2.2.2.2.2.2.2.1 v8.1) fun _ =>
 Option.bind v8.2.2.2.2.2.2.2.1[Int.toNat v8.1]? fun v11 =>
 some (.inl (IntKind.wrap .i64 (v8.1 + (1 : Int)), v8.2.1, v8.2.2.1, v8.2.2.2.1, v8.2.2.2.2.1, v8.2.2.2.2.2.1, v8.2.2.2.2.2.2.1, v8.2.2.2.2.2.2.2.1.set (Int.toNat v8.1) v10, ()))
else
 some (.inr ((v8.2.1, v8.2.2.1, v8.2.2.2.1, v8.2.2.2.2.1, v8.2.2.2.2.2.1, v8.2.2.2.2.2.2.1, v8.2.2.2.2.2.2.2.1, ())))
def L_dfa_numbered_2 (O : Oracle) (n : Nat) (d : TD) (v : ((List Int) × Unit)) (v5 : (Int × Int × (List Int) × (List Int) × Int × (List (List Int)) × (List Bool) × Unit)) : Option ((Int × Int × (List Int) × (List Int) × Int × (List (List Int)) × (List Bool) × Unit) ⊕ (Int × (List Int) × Int × (List (List Int)) × (List Bool) × Unit)) :=
 bif decide (v5.1 < (v.1.length : Int)) then
 Option.bind (getI v.1 v5.1) fun v6 =>
 guardB (decide (0 ≤ (d.1.length : Int)) && decide ((d.1.length : Int) ≤ (d.1.length : Int)) && decide ((d.1.length : Int) ≤ 9223372036854775807) && decide (8 * (d.1.length : Int) ≤ 281474976710656)) (
 Option.bind (getI d.2.1 v6) fun v7 =>
 Option.bind (loopN n (L_dfa_numbered_1 O n v7) ((0 : Int), v5.2.1, v5.2.2.1, v5.2.2.2.1, v5.2.2.2.2.1, v5.2.2.2.2.2.1, v5.2.2.2.2.2.2.1, List.replicate (Int.toNat (d.1.length : Int)) (Ty.zero tI), ())) fun (v12 : (Int × (List Int) × (List Int) × Int × (List (List Int)) × (List Bool) × (List Int) × Unit)) =>
 guardB (decide ((v12.2.2.2.2.1.length + (([v12.2.2.2.2.2.2.1] : List (List Int))).length) * 24 ≤ 140737488355328)) (
 Option.bind (getI d.2.2.1 v6) fun v13 =>
 guardB (decide ((v12.2.2.2.2.2.1.length + ([v13] : List Bool).length) * 1 ≤ 140737488355328)) (
 some (.inl (IntKind.wrap .i64 (v5.1 + (1 : Int)), v12.1, v12.2.1, v12.2.2.1, v12.2.2.2.1, v12.2.2.2.2.1 ++ (([v12.2.2.2.2.2.2.1] : List (List Int))), v12.2.2.2.2.2.1 ++ ([v13] : List Bool), ())))))
else
 some (.inr ((v5.2.1, v5.2.2.2.1, v5.2.2.2.2.1, v5.2.2.2.2.2.1, v5.2.2.2.2.2.2.1, ())))
def G_dfa_numbered (O : Oracle) (n : Nat) (d : TD) : Option (Option S) :=
 Option.bind (callR O N_dfa_reachable [.d (pr [(.list tI), (.list (.list tI)), (.list tB), tI]) d] [] q_dfa_reachable) fun v =>
 guardB (decide (0 ≤ (d.2.1.length : Int)) && decide ((d.2.1.length : Int) ≤ (d.2.1.length : Int)) && decide ((d.2.1.length : Int) ≤ 9223372036854775807) && decide (8 * (d.2.1.length : Int) ≤ 281474976710656)) (
 Option.bind (loopN n (L_dfa_numbered_0 O n v) ((0 : Int), (0 : Int), List.replicate (Int.toNat (d.2.1.length : Int)) (Ty.zero tI), ())) fun (v4 : (Int × (List Int) × Unit)) =>
 Option.bind (loopN n (L_dfa_numbered_2 O n d v) ((0 : Int), v4.1, v4.2.1, d.1, (0 : Int), ([] : List (List Int)), ([] : List Bool), ())) fun (v14 : (Int × (List Int) × Int × (List (List Int)) × (List Bool) × Unit)) =>
 retQ q_dfa_numbered ((v14.2.1, v14.2.2.2.1, v14.2.2.2.2.1, v14.2.2.1, ()), ()))
theorem x_dfa_numbered (O : Oracle) (n : Nat) (d : ((List Int) × ((List (List Int)) × ((List Bool) × (Int × Unit))))) : evF1 O n f_dfa_numbered [.d (pr [(.list tI), (.list (.list tI)), (.list tB), tI]) d] [] = G_dfa_numbered O n d := by kernel_rfl
def q_dfa_minimal : Sh := ⟨[], ⟨[], []⟩, [.tm 0 (pr [(.list tI), (.list (.list tI)), (.list tB), tI])]⟩
def f_dfa_minimal : TF := ⟨(.seq (.region (
 o 1 (.boxD 26 pD (t 0))<|
 o 2 (.alloc 26 [.nil tI, .nil lI, .nil tB, .d tI (0 : Int)])<|
.nil)) (.seq (.region (
 o 20 (.load pD (t 1))<|
 o 21 (.call false N_dfa_reachable [(.d pD, .tm 20)] q_dfa_reachable)<|
 o 3 (m 21)<|
.nil)) (.seq (.region (
 o 23 (.load pD (t 1))<|
 o 24 (m 3)<|
 o 25 (.call false N_dfa_blocks [(.d pD, .tm 23), (.d lI, .tm 24)] q_dfa_blocks)<|
 o 22 (m 25)<|
 o 26 (.ext (t 22) 0)<|
 o 27 (.ext (t 22) 1)<|
 o 4 (m 26)<|
 o 5 (m 27)<|
.nil)) (.seq (.draw2 3 [
 mkPO 0 true [] (some 28) (m 5),
 mkPO 1 true [] (some 29) (.atq 1 (.mslice 22 lI 24 (t 28) (t 28))),
 mkPO 2 true [0, 1] (some 30) (m 5),
 mkPO 3 true [0, 1] (some 31) (.atq 2 (.mslice 4 tB 1 (t 30) (t 30))),
 mkPO 4 true [0, 1, 2, 3] (some 32) (m 4),
 mkPO 5 true [0, 1, 2, 3, 4] (some 33) (.fldA 3 tI (t 1)),
 mkPO 6 true [0, 1, 2, 3, 4] (some 34) (.load tI (t 33)),
 mkPO 7 true [0, 1, 2, 3] (some 35) (.idxA tI (t 32) (t 34)),
 mkPO 8 true [0, 1, 2, 3] (some 36) (.load tI (t 35)),
 mkPO 9 true [] (some 37) (.build [.nil tI, .nil lI, .nil tB, .d tI (0 : Int)] [(1, 1, .tm 29), (2, 1, .tm 31), (3, 1, .tm 36)]),
 mkPO 10 true [0, 1, 2, 3, 4, 5, 6, 7, 8, 9] (some 6) (.atq 3 (.alloc 26 [.nil tI, .nil lI, .nil tB, .d tI (0 : Int)]))] (
.op none (.store pD (t 6) (t 37))<|
.nil) [[], [0, 0], [], [2, 2], [], [], [5], [4, 6], [7], [1, 3, 8], [], [10, 9, 0, 1, 2, 3, 4, 5, 6, 7, 8, 9, 10]]) (.seq (.seq (.region (
 o 38 (m 3)<|
 o 39 (.len false (t 38))<|
 o 40 (.mv (i 0))<|
.nil)) (.block 0 (.adj [.sel [0, 3, 1, 2] [1, 2, 4, 5, 6, 38, 39, 40]] (.loop ⟨[1, 4, 5, 38, 39], ⟨[(2, .ptr 0 0), (6, .ptr 1 0)], [.box T_str_api_DFA [.nil tI, .nil lI, .nil tB, .any], .box T_str_api_DFA [.nil tI, .sl 2, .sl 3, .any], .vec T_sl_i64 lI [], .vec T_bool tB []]⟩, [.tm 40 tI, .cell 0 3 tI, .cell 1 3 tI, .vec 2 22 lI, .vec 3 4 tB]⟩ [(3, ⟨[1, 5], ⟨[(2, .ptr 0 0), (6, .ptr 1 0)], [.box T_str_api_DFA [.nil tI, .nil lI, .nil tB, .any], .box T_str_api_DFA [.nil tI, .sl 2, .sl 3, .any], .vec T_sl_i64 lI [], .vec T_bool tB []]⟩, [.cell 0 3 tI, .cell 1 3 tI, .vec 2 22 lI, .vec 3 4 tB]⟩)] (.seq (.region (
 o 41 (.bin .lss (t 40) (t 39))<|
.nil)) (.seq (.cond (t 41) .skip (.exit 0)) (.seq (.block 1 (.seq (.region (
 o 42 (.idxA tI (t 38) (t 40))<|
 o 43 (.load tI (t 42))<|
 o 8 (m 43)<|
.nil)) (.seq (.region (
 q 44 0 lI 1<|
 o 46 (.len false (t 45))<|
 o 47 (.mslice 3 tI 8 (t 46) (t 46))<|
 o 9 (m 47)<|
.nil)) (.seq (.seq (.region (
 q 48 1 lL 1<|
 o 50 (m 8)<|
 o 51 (.idxA lI (t 49) (t 50))<|
 o 52 (.load lI (t 51))<|
 o 53 (.len false (t 52))<|
 o 54 (.mv (i 0))<|
.nil)) (.block 2 (.loop ⟨[1, 4, 5, 8, 38, 39, 40, 52, 53], ⟨[(2, .ptr 0 0), (6, .ptr 1 0), (9, .sl 4)], [.box T_str_api_DFA [.nil tI, .nil lI, .nil tB, .any], .box T_str_api_DFA [.nil tI, .sl 2, .sl 3, .any], .vec T_sl_i64 lI [], .vec T_bool tB [], .vec T_i64 tI []]⟩, [.tm 54 tI, .cell 0 3 tI, .cell 1 3 tI, .vec 2 22 lI, .vec 3 4 tB, .vec 4 3 tI]⟩ [(5, ⟨[1, 4, 5, 8, 38, 39, 40], ⟨[(2, .ptr 0 0), (6, .ptr 1 0), (9, .sl 4)], [.box T_str_api_DFA [.nil tI, .nil lI, .nil tB, .any], .box T_str_api_DFA [.nil tI, .sl 2, .sl 3, .any], .vec T_sl_i64 lI [], .vec T_bool tB [], .vec T_i64 tI []]⟩, [.cell 0 3 tI, .cell 1 3 tI, .vec 2 22 lI, .vec 3 4 tB, .vec 4 3 tI]⟩)] (.seq (.region (
 o 55 (.bin .lss (t 54) (t 53))<|
.nil)) (.seq (.cond (t 55) .skip (.exit 2)) (.seq (.block 3 (.seq (.region (
 o 56 (m 54)<|
 o 57 (.idxA tI (t 52) (t 54))<|
 o 58 (.load tI (t 57))<|
 o 10 (m 56)<|
 o 11 (m 58)<|
.nil)) (.region (
 o 59 (m 9)<|
 o 60 (m 10)<|
 o 61 (m 4)<|
 o 62 (m 11)<|
 o 63 (.idxA tI (t 61) (t 62))<|
 o 64 (.load tI (t 63))<|
 o 65 (.idxA tI (t 59) (t 60))<|
.op none (.store tI (t 65) (t 64))<|
.nil)))) (.region (
 o 66 (.bin .add (t 54) (i 1))<|
 o 54 (m 66)<|
.nil)))))))) (.seq (.draw 8 (
 q 67 1 lL 6<|
 o 69 (m 4)<|
 o 70 (m 8)<|
 o 71 (.idxA tI (t 69) (t 70))<|
 o 72 (.load tI (t 71))<|
 o 73 (m 9)<|
 o 74 (.idxA lI (t 68) (t 72))<|
.adj [.freeze 4] <|
.op none (.store lI (t 74) (t 73))<|
.nil) [[], [0], [], [], [2, 3], [4], [], [1, 5, 0, 1, 2, 3, 4, 5, 6], [7, 6, 0, 1, 2, 3, 4, 5, 6]]) (.draw 12 (
 q 75 2 lB 6<|
 o 77 (m 4)<|
 o 78 (m 8)<|
 o 79 (.idxA tI (t 77) (t 78))<|
 o 80 (.load tI (t 79))<|
 q 81 2 lB 1<|
 o 83 (m 8)<|
 o 84 (.idxA tB (t 82) (t 83))<|
 o 85 (.load tB (t 84))<|
 o 86 (.idxA tB (t 76) (t 80))<|
.op none (.store tB (t 86) (t 85))<|
.nil) [[], [0], [], [], [2, 3], [4], [], [6], [], [7, 8], [9], [1, 5, 0, 1, 2, 3, 4, 5, 6, 7, 8, 9, 10], [11, 10, 0, 1, 2, 3, 4, 5, 6, 7, 8, 9, 10]])))))) (.after (.region (
 o 87 (.bin .add (t 40) (i 1))<|
 o 40 (m 87)<|
.nil)) [.sel [0, 1, 2, 3] [1, 2, 4, 5, 6, 38, 39, 40]])))))))) (.seq (.region (
 o 88 (m 5)<|
 o 89 (.msliceT 22 (.s 3 1 .e .e) tI 24 (t 88) (t 88))<|
 o 12 (m 89)<|
.nil)) (.seq (.seq (.region (
 q 90 0 lI 1<|
 o 92 (.len false (t 91))<|
 o 93 (.mv (i 0))<|
.nil)) (.block 4 (.adj [.adoptC 1 0 3 tI, .sel [0, 1, 5, 2, 3, 4] [2, 6, 12, 91, 92, 93]] (.loop ⟨[91, 92], ⟨[(2, .ptr 0 0), (6, .ptr 1 0), (12, .sl 5)], [.box T_str_api_DFA [.nil tI, .nil lI, .nil tB, .any], .box T_str_api_DFA [.sl 2, .sl 3, .sl 4, .any], .vec T_i64 tI [], .vec T_sl_i64 lI [], .vec T_bool tB [], .tree T_sl_i64 (.s 3 1 .e .e) lI [] none]⟩, [.tm 93 tI, .cell 0 3 tI, .cell 1 3 tI, .vec 2 3 tI, .vec 3 22 lI, .vec 4 4 tB, .tree 5 22 (.s 3 1 .e .e) lI]⟩ [(7, ⟨[], ⟨[(2, .ptr 0 0), (6, .ptr 1 0), (12, .sl 5)], [.box T_str_api_DFA [.nil tI, .nil lI, .nil tB, .any], .box T_str_api_DFA [.sl 2, .sl 3, .sl 4, .any], .vec T_i64 tI [], .vec T_sl_i64 lI [], .vec T_bool tB [], .tree T_sl_i64 (.s 3 1 .e .e) lI [] none]⟩, [.cell 0 3 tI, .cell 1 3 tI, .vec 2 3 tI, .vec 3 22 lI, .vec 4 4 tB, .tree 5 22 (.s 3 1 .e .e) lI]⟩)] (.seq (.region (
 o 94 (.bin .lss (t 93) (t 92))<|
.nil)) (.seq (.cond (t 94) .skip (.exit 4)) (.seq (.cut [(0, ⟨[91, 92, 93], ⟨[(2, .ptr 0 0), (6, .ptr 1 0), (12, .sl 5)], [.box T_str_api_DFA [.nil tI, .nil lI, .nil tB, .any], .box T_str_api_DFA [.sl 2, .sl 3, .sl 4, .any], .vec T_i64 tI [], .vec T_sl_i64 lI [], .vec T_bool tB [], .tree T_sl_i64 (.s 3 1 .e .e) lI [] none]⟩, [.cell 0 3 tI, .cell 1 3 tI, .vec 2 3 tI, .vec 3 22 lI, .vec 4 4 tB, .tree 5 22 (.s 3 1 .e .e) lI]⟩)] (.block 5 (.seq (.region (
 o 95 (m 93)<|
 o 96 (.idxA tI (t 91) (t 93))<|
 o 97 (.load tI (t 96))<|
 o 13 (m 95)<|
 o 14 (m 97)<|
.nil)) (.seq (.region (
 o 98 (m 13)<|
 o 99 (.bin .eql (t 98) (i 0))<|
 o 15 (m 99)<|
.nil)) (.seq (.seq (.region (
 q 100 1 lL 6<|
 o 102 (.len false (t 101))<|
 o 103 (.mv (i 0))<|
.nil)) (.block 6 (.loop ⟨[13, 14, 91, 92, 93, 102], ⟨[(2, .ptr 0 0), (6, .ptr 1 0), (12, .sl 5), (101, .sl 3)], [.box T_str_api_DFA [.nil tI, .nil lI, .nil tB, .any], .box T_str_api_DFA [.sl 2, .sl 3, .sl 4, .any], .vec T_i64 tI [], .vec T_sl_i64 lI [], .vec T_bool tB [], .tree T_sl_i64 (.s 3 1 .e .e) lI [] none]⟩, [.tm 15 tB, .tm 103 tI, .cell 0 3 tI, .cell 1 3 tI, .vec 2 3 tI, .vec 3 22 lI, .vec 4 4 tB, .tree 5 22 (.s 3 1 .e .e) lI]⟩ [(9, ⟨[13, 14, 91, 92, 93], ⟨[(2, .ptr 0 0), (6, .ptr 1 0), (12, .sl 5)], [.box T_str_api_DFA [.nil tI, .nil lI, .nil tB, .any], .box T_str_api_DFA [.sl 2, .sl 3, .sl 4, .any], .vec T_i64 tI [], .vec T_sl_i64 lI [], .vec T_bool tB [], .tree T_sl_i64 (.s 3 1 .e .e) lI [] none]⟩, [.tm 15 tB, .cell 0 3 tI, .cell 1 3 tI, .vec 2 3 tI, .vec 3 22 lI, .vec 4 4 tB, .tree 5 22 (.s 3 1 .e .e) lI]⟩)] (.seq (.region (
 o 104 (.bin .lss (t 103) (t 102))<|
.nil)) (.seq (.cond (t 104) .skip (.exit 6)) (.seq (.block 7 (.seq (.region (
 o 105 (.idxA lI (t 101) (t 103))<|
 o 106 (.load lI (t 105))<|
 o 17 (m 106)<|
.nil)) (.draw 14 (
 o 107 (m 15)<|
 o 108 (m 107)<|
.gb 108 false (
 o 109 (m 17)<|
 o 110 (m 13)<|
 o 111 (.idxA tI (t 109) (t 110))<|
 o 112 (.load tI (t 111))<|
 o 113 (m 17)<|
 o 114 (m 13)<|
 o 115 (.bin .sub (t 114) (i 1))<|
 o 116 (.idxA tI (t 113) (t 115))<|
 o 117 (.load tI (t 116))<|
 o 118 (.bin .neq (t 112) (t 117))<|
.nil) tB (t 118) yT 119 <|
 o 15 (m 119)<|
.nil) [[], [0], [1], [1], [2, 3, 1], [4, 1], [1], [1], [7, 1], [6, 8, 1], [9, 1], [5, 10, 1], [1, 11], [12, 1, 0, 1, 2, 3, 4, 5, 6, 7, 8, 9, 10, 11, 12]]))) (.region (
 o 120 (.bin .add (t 103) (i 1))<|
 o 103 (m 120)<|
.nil)))))))) (.seq (.region (
 o 121 (m 15)<|
.nil)) (.cond (t 121) (.seq (.region (
 q 122 0 lI 6<|
 o 124 (m 14)<|
 o 125 (.bslice false 3 tI 1 [.tm 124])<|
 o 126 (.append 3 tI 8 (t 123) (t 125))<|
 o 127 (.fldA 0 lI (t 6))<|
.op none (.store lI (t 127) (t 126))<|
.nil)) (.seq (.region (
 q 128 1 lL 6<|
 o 130 (.len false (t 129))<|
 o 131 (.mv (i 0))<|
.nil)) (.block 8 (.loop ⟨[13, 91, 92, 93, 130], ⟨[(2, .ptr 0 0), (6, .ptr 1 0), (12, .sl 5), (129, .sl 3)], [.box T_str_api_DFA [.nil tI, .nil lI, .nil tB, .any], .box T_str_api_DFA [.sl 2, .sl 3, .sl 4, .any], .vec T_i64 tI [], .vec T_sl_i64 lI [], .vec T_bool tB [], .tree T_sl_i64 (.s 3 1 .e .e) lI [] none]⟩, [.tm 131 tI, .cell 0 3 tI, .cell 1 3 tI, .vec 2 3 tI, .vec 3 22 lI, .vec 4 4 tB, .tree 5 22 (.s 3 1 .e .e) lI]⟩ [(11, ⟨[91, 92, 93], ⟨[(2, .ptr 0 0), (6, .ptr 1 0), (12, .sl 5)], [.box T_str_api_DFA [.nil tI, .nil lI, .nil tB, .any], .box T_str_api_DFA [.sl 2, .sl 3, .sl 4, .any], .vec T_i64 tI [], .vec T_sl_i64 lI [], .vec T_bool tB [], .tree T_sl_i64 (.s 3 1 .e .e) lI [] none]⟩, [.cell 0 3 tI, .cell 1 3 tI, .vec 2 3 tI, .vec 3 22 lI, .vec 4 4 tB, .tree 5 22 (.s 3 1 .e .e) lI]⟩)] (.seq (.region (
 o 132 (.bin .lss (t 131) (t 130))<|
.nil)) (.seq (.cond (t 132) .skip (.exit 8)) (.seq (.block 9 (.seq (.region (
 o 133 (m 131)<|
 o 134 (.idxA lI (t 129) (t 131))<|
 o 135 (.load lI (t 134))<|
 o 18 (m 133)<|
 o 19 (m 135)<|
.nil)) (.adj [.focus 5 18 0 tI] (.after (.draw2 0 [
 mkPO 0 true [] (some 136) (m 12),
 mkPO 1 true [0] (some 137) (m 18),
 mkPO 2 true [0, 1] (some 138) (m 12),
 mkPO 3 true [0, 1, 2] (some 139) (m 18),
 mkPO 4 true [0, 1] (some 140) (.idxA lI (t 138) (t 139)),
 mkPO 5 true [0, 1] (some 141) (.load lI (t 140)),
 mkPO 6 true [0, 1, 2, 3, 4, 5] (some 142) (m 19),
 mkPO 7 true [0, 1, 2, 3, 4, 5, 6] (some 143) (m 13),
 mkPO 8 true [0, 1, 2, 3, 4, 5] (some 144) (.idxA tI (t 142) (t 143)),
 mkPO 9 true [0, 1, 2, 3, 4, 5] (some 145) (.load tI (t 144)),
 mkPO 10 true [0, 1, 2, 3, 4, 5] (some 146) (.bslice false 3 tI 1 [.tm 145]),
 mkPO 11 false [0, 1] (some 147) (.append 3 tI 8 (t 141) (t 146))] (
 o 148 (.idxA lI (t 136) (t 137))<|
.op none (.store lI (t 148) (t 147))<|
.nil) [[], [], [], [], [2, 3], [4], [], [], [6, 7], [8], [9], [5, 10], [0, 1, 0, 1, 2, 3, 4, 5, 6, 7, 8, 9, 10, 11], [12, 11, 11, 0, 1, 2, 3, 4, 5, 6, 7, 8, 9, 10, 11]]) [.close 5])))) (.after (.region (
 o 149 (.bin .add (t 131) (i 1))<|
 o 131 (m 149)<|
.nil)) [.sel [0, 1, 2, 3, 4, 5] [2, 6, 12, 13, 91, 92, 93, 129, 130, 131]])))))))) .skip))))))) (.region (
 o 150 (.bin .add (t 93) (i 1))<|
 o 93 (m 150)<|
.nil))))))))) (.seq (.region (
 o 151 (m 12)<|
 o 152 (.fldA 1 lL (t 6))<|
.op none (.store lL (t 152) (t 151))<|
.nil)) (.seq (.region (
 o 153 (.load pD (t 6))<|
.adj [.freeze 2, .freeze 5, .freeze 4] <|
 o 154 (.call false N_dfa_numbered [(.d pD, .tm 153)] q_dfa_numbered)<|
.op none (.store pD (t 2) (t 154))<|
.nil)) .ret))))))))), [.cell 2 pD], 155, q_dfa_minimal, 0⟩
def L_dfa_minimal_0 (O : Oracle) (n : Nat) (v1 : ((List Int) × Int × Unit)) (v5 : (List Int)) (v6 : (Int × Int × Int × (List (List Int)) × (List Bool) × (List Int) × Unit)) : Option ((Int × Int × Int × (List (List Int)) × (List Bool) × (List Int) × Unit) ⊕ (Int × Int × (List (List Int)) × (List Bool) × (List Int) × Unit)) :=
 bif decide (v6.1 < (v5.length : Int)) then
 Option.bind (getI v5 v6.1) fun v7 =>
 Option.bind (getI v1.1 v7) fun v8 =>
 Option.bind (getI v6.2.2.2.2.2.1 v6.1) fun _ =>
 Option.bind v6.2.2.2.2.2.1[Int.toNat v6.1]? fun v9 =>
 some (.inl (IntKind.wrap .i64 (v6.1 + (1 : Int)), v6.2.1, v6.2.2.1, v6.2.2.2.1, v6.2.2.2.2.1, v6.2.2.2.2.2.1.set (Int.toNat v6.1) v8, ()))
else
 some (.inr ((v6.2.1, v6.2.2.1, v6.2.2.2.1, v6.2.2.2.2.1, v6.2.2.2.2.2.1, ())))
def L_dfa_minimal_1 (O : Oracle) (n : Nat) (d : TD) (v : ((List Int) × Unit)) (v1 : ((List Int) × Int × Unit)) (s : (Int × Int × Int × (List (List Int)) × (List Bool) × Unit)) : Option ((Int × Int × Int × (List (List Int)) × (List Bool) × Unit) ⊕ (Int × Int × (List (List Int)) × (List Bool) × Unit)) :=
 bif decide (s.1 < (v.1.length : Int)) then
 Option.bind (getI v.1 s.1) fun v4 =>
 guardB (decide (0 ≤ (d.1.length : Int)) && decide ((d.1.length : Int) ≤ (d.1.length : Int)) && decide ((d.1.length : Int) ≤ 9223372036854775807) && decide (8 * (d.1.length : Int) ≤ 281474976710656)) (
 Option.bind (getI d.2.1 v4) fun v5 =>
 Option.bind (loopN n (L_dfa_minimal_0 O n v1 v5) ((0 : Int), s.2.1, s.2.2.1, s.2.2.2.1, s.2.2.2.2.1, List.replicate (Int.toNat (d.1.length : Int)) (Ty.zero tI), ())) fun (v10 : (Int × Int × (List (List Int)) × (List Bool) × (List Int) × Unit)) =>
 Option.bind (getI v1.1 v4) fun v11 =>
 Option.bind (getI v10.2.2.1 v11) fun _ =>
 Option.bind v10.2.2.1[Int.toNat v11]? fun v12 =>
 Option.bind (getI v1.1 v4) fun v13 =>
 Option.bind (getI d.2.2.1 v4) fun v14 =>
 Option.bind (getI v10.2.2.2.1 v13) fun _ =>
 Option.bind v10.2.2.2.1[Int.toNat v13]? fun v15 =>
 some (.inl (IntKind.wrap .i64 (s.1 + (1 : Int)), v10.1, v10.2.1, v10.2.2.1.set (Int.toNat v11) v10.2.2.2.2.1, v10.2.2.2.1.set (Int.toNat v13) v14, ())))
else
 some (.inr ((s.2.1, s.2.2.1, s.2.2.2.1, s.2.2.2.2.1, ())))
def L_dfa_minimal_2 (O : Oracle) (n : Nat) (v17 : (Int × Int × Int × (List Int) × (List (List Int)) × (List Bool) × (List (List Int)) × Unit)) (v19 : (Bool × Int × Int × Int × (List Int) × (List (List Int)) × (List Bool) × (List (List Int)) × Unit)) : Option ((Bool × Int × Int × Int × (List Int) × (List (List Int)) × (List Bool) × (List (List Int)) × Unit) ⊕ (Bool × Int × Int × (List Int) × (List (List Int)) × (List Bool) × (List (List Int)) × Unit)) :=
 bif decide (v19.2.1 < (v17.2.2.2.2.1.length : Int)) then
 Option.bind (getI v19.2.2.2.2.2.1 v19.2.1) fun _ =>
 Option.bind v19.2.2.2.2.2.1[Int.toNat v19.2.1]? fun v20 =>
 Option.bind (bif v19.1 then some (true) else
 Option.bind (getI v20 v17.1) fun v21 =>
 Option.bind (getI v20 (IntKind.wrap .i64 (v17.1 - (1 : Int)))) fun v22 =>
 some ((v21 != v22))) fun v23 =>
 some (.inl (v23, IntKind.wrap .i64 (v19.2.1 + (1 : Int)), v19.2.2.1, v19.2.2.2.1, v19.2.2.2.2.1, v19.2.2.2.2.2.1, v19.2.2.2.2.2.2.1, v19.2.2.2.2.2.2.2.1, ()))
else
 some (.inr ((v19.1, v19.2.2.1, v19.2.2.2.1, v19.2.2.2.2.1, v19.2.2.2.2.2.1, v19.2.2.2.2.2.2.1, v19.2.2.2.2.2.2.2.1, ())))
def L_dfa_minimal_3 (O : Oracle) (n : Nat) (v17 : (Int × Int × Int × (List Int) × (List (List Int)) × (List Bool) × (List (List Int)) × Unit)) (v24 : (Bool × Int × Int × (List Int) × (List (List Int)) × (List Bool) × (List (List Int)) × Unit)) (v25 : (Int × Int × Int × (List Int) × (List (List Int)) × (List Bool) × (List (List Int)) × Unit)) : Option ((Int × Int × Int × (List Int) × (List (List Int)) × (List Bool) × (List (List Int)) × Unit) ⊕ (Int × Int × (List Int) × (List (List Int)) × (List Bool) × (List (List Int)) × Unit)) :=
 bif decide (v25.1 < (v24.2.2.2.2.1.length : Int)) then
 Option.bind (getI v25.2.2.2.2.1 v25.1) fun _ =>
 Option.bind v25.2.2.2.2.1[Int.toNat v25.1]? fun v26 =>
 guardB (decide (0 ≤ v25.1)) (
 Option.bind v25.2.2.2.2.2.2.1[Int.toNat v25.1]? fun v27 =>
 Option.bind (getI v25.2.2.2.2.2.2.1 v25.1) fun _ =>
 Option.bind v25.2.2.2.2.2.2.1[Int.toNat v25.1]? fun _ =>
 guardB (Nat.beq (Int.toNat v25.1) (Int.toNat v25.1)) (
 Option.bind (getI v26 v17.1) fun v28 =>
 guardB (decide ((v27.length + ([v28] : List Int).length) * 8 ≤ 140737488355328)) (
 Option.bind (getI v25.2.2.2.2.2.2.1 v25.1) fun _ =>
 Option.bind v25.2.2.2.2.2.2.1[Int.toNat v25.1]? fun _ =>
 guardB (Nat.beq (Int.toNat v25.1) (Int.toNat v25.1)) (
 Option.bind v25.2.2.2.2.2.2.1[Int.toNat v25.1]? fun v29 =>
 some (.inl (IntKind.wrap .i64 (v25.1 + (1 : Int)), v25.2.1, v25.2.2.1, v25.2.2.2.1, v25.2.2.2.2.1, v25.2.2.2.2.2.1, v25.2.2.2.2.2.2.1.set (Int.toNat v25.1) (v27 ++ ([v28] : List Int)), ()))))))
else
 some (.inr ((v25.2.1, v25.2.2.1, v25.2.2.2.1, v25.2.2.2.2.1, v25.2.2.2.2.2.1, v25.2.2.2.2.2.2.1, ())))
def L_dfa_minimal_4 (O : Oracle) (n : Nat) (d : TD) (v17 : (Int × Int × Int × (List Int) × (List (List Int)) × (List Bool) × (List (List Int)) × Unit)) : Option ((Int × Int × Int × (List Int) × (List (List Int)) × (List Bool) × (List (List Int)) × Unit) ⊕ (Int × Int × (List Int) × (List (List Int)) × (List Bool) × (List (List Int)) × Unit)) :=
 bif decide (v17.1 < (d.1.length : Int)) then
 Option.bind (
 Option.bind (getI d.1 v17.1) fun v18 =>
 Option.bind (loopN n (L_dfa_minimal_2 O n v17) ((v17.1 == (0 : Int)), (0 : Int), v17.2.1, v17.2.2.1, v17.2.2.2.1, v17.2.2.2.2.1, v17.2.2.2.2.2.1, v17.2.2.2.2.2.2.1, ())) fun (v24 : (Bool × Int × Int × (List Int) × (List (List Int)) × (List Bool) × (List (List Int)) × Unit)) =>
 bif v24.1 then
 guardB (decide ((v24.2.2.2.1.length + ([v18] : List Int).length) * 8 ≤ 140737488355328)) (
 Option.bind (loopN n (L_dfa_minimal_3 O n v17 v24) ((0 : Int), v24.2.1, v24.2.2.1, v24.2.2.2.1 ++ ([v18] : List Int), v24.2.2.2.2.1, v24.2.2.2.2.2.1, v24.2.2.2.2.2.2.1, ())) fun (v30 : (Int × Int × (List Int) × (List (List Int)) × (List Bool) × (List (List Int)) × Unit)) =>
 some ((v30.1, v30.2.1, v30.2.2.1, v30.2.2.2.1, v30.2.2.2.2.1, v30.2.2.2.2.2.1, ())))
else
 some ((v24.2.1, v24.2.2.1, v24.2.2.2.1, v24.2.2.2.2.1, v24.2.2.2.2.2.1, v24.2.2.2.2.2.2.1, ()))) fun (v31 : (Int × Int × (List Int) × (List (List Int)) × (List Bool) × (List (List Int)) × Unit)) =>
 some (.inl (IntKind.wrap .i64 (v17.1 + (1 : Int)), v31.1, v31.2.1, v31.2.2.1, v31.2.2.2.1, v31.2.2.2.2.1, v31.2.2.2.2.2.1, ()))
else
 some (.inr ((v17.2.1, v17.2.2.1, v17.2.2.2.1, v17.2.2.2.2.1, v17.2.2.2.2.2.1, v17.2.2.2.2.2.2.1, ())))
def G_dfa_minimal (O : Oracle) (n : Nat) (d : TD) : Option (Option S) :=
 Option.bind (callR O N_dfa_reachable [.d (pr [(.list tI), (.list (.list tI)), (.list tB), tI]) d] [] q_dfa_reachable) fun v =>
 Option.bind (callR O N_dfa_blocks [.d (pr [(.list tI), (.list (.list tI)), (.list tB), tI]) d, .d (.list tI) v.1] [] q_dfa_blocks) fun v1 =>
 guardB (decide (0 ≤ v1.2.1) && decide (v1.2.1 ≤ v1.2.1) && decide (v1.2.1 ≤ 9223372036854775807) && decide (24 * v1.2.1 ≤ 281474976710656)) (
 guardB (decide (0 ≤ v1.2.1) && decide (v1.2.1 ≤ v1.2.1) && decide (v1.2.1 ≤ 9223372036854775807) && decide (1 * v1.2.1 ≤ 281474976710656)) (
 Option.bind (getI v1.1 d.2.2.2.1) fun v2 =>
 Option.bind (loopN n (L_dfa_minimal_1 O n d v v1) ((0 : Int), (0 : Int), v2, List.replicate (Int.toNat v1.2.1) (Ty.zero (.list tI)), List.replicate (Int.toNat v1.2.1) (Ty.zero tB), ())) fun (v16 : (Int × Int × (List (List Int)) × (List Bool) × Unit)) =>
 guardB (decide (0 ≤ v1.2.1) && decide (v1.2.1 ≤ v1.2.1) && decide (v1.2.1 ≤ 9223372036854775807) && decide (24 * v1.2.1 ≤ 281474976710656)) (
 Option.bind (loopN n (L_dfa_minimal_4 O n d) ((0 : Int), v16.1, v16.2.1, ([] : List Int), v16.2.2.1, v16.2.2.2.1, List.replicate (Int.toNat v1.2.1) ([] : List Int), ())) fun (v32 : (Int × Int × (List Int) × (List (List Int)) × (List Bool) × (List (List Int)) × Unit)) =>
 Option.bind (callR O N_dfa_numbered [.d (pr [(.list tI), (.list (.list tI)), (.list tB), tI]) ((v32.2.2.1, v32.2.2.2.2.2.1, v32.2.2.2.2.1, v32.2.1, ()))] [] q_dfa_numbered) fun v33 =>
 retQ q_dfa_minimal (v33.1, ()))))
theorem x_dfa_minimal (O : Oracle) (n : Nat) (d : ((List Int) × ((List (List Int)) × ((List Bool) × (Int × Unit))))) : evF1 O n f_dfa_minimal [.d (pr [(.list tI), (.list (.list tI)), (.list tB), tI]) d] [] = G_dfa_minimal O n d := by kernel_rfl
def q_dfa_Build : Sh := ⟨[], ⟨[], []⟩, [.tm 0 (pr [(.list tI), (.list (.list tI)), (.list tB), tI]), .tm 1 tI]⟩
def f_dfa_Build : TF := ⟨(.seq (.region (
 o 1 (.boxD 33 .rx (t 0))<|
 o 2 (.alloc 26 [.nil tI, .nil lI, .nil tB, .d tI (0 : Int)])<|
 o 3 (.mv (i 0))<|
.nil)) (.seq (.seq (.region (
 o 20 (.load .rx (t 1))<|
 o 21 (.call false N_regex_Check [(.d .rx, .tm 20)] q_regex_Check)<|
 o 4 (m 21)<|
.nil)) (.seq (.region (
 o 22 (m 4)<|
 o 23 (.bin .neq (t 22) (i 0))<|
.nil)) (.cond (t 23) (.seq (.region (
 o 24 (.build [.nil tI, .nil lI, .nil tB, .d tI (0 : Int)] [])<|
 o 25 (m 4)<|
.op none (.store pD (t 2) (t 24))<|
 o 3 (m 25)<|
.nil)) .ret) .skip))) (.seq (.region (
 o 26 (.build [.nil tI, .nil tI, .nil tQ] [])<|
 o 27 (.box 52 (t 26))<|
 o 5 (m 27)<|
.nil)) (.seq (.region (
 o 28 (m 5)<|
 o 29 (.load .rx (t 1))<|
.adj [.adoptC 1 0 3 tI, .adoptC 1 1 3 tI, .adoptC 1 2 53 tQ] <|
 o 30 (.callA false false [1, 2, 3, 4] N_dfa_positions_walk_rd [(.x, .tm 28), (.d .rx, .tm 29)] q_dfa_positions_walk_rd)<|
 o 6 (.alloc 55 [.d tQ (0 : Int), .d tQ (0 : Int), .d tB false])<|
.op none (.store (pr [tQ, tQ, tB]) (t 6) (t 30))<|
.nil)) (.seq (.region (
 o 31 (m 5)<|
 o 32 (.callA false false [1, 2, 3, 4] N_dfa_positions_starts_r [(.x, .tm 31)] q_dfa_positions_starts_r)<|
 o 33 (.build [.nil tI, .nil lI, .nil tB, .d tI (0 : Int)] [(0, 1, .tm 32)])<|
 o 7 (.alloc 26 [.nil tI, .nil lI, .nil tB, .d tI (0 : Int)])<|
.op none (.store pD (t 7) (t 33))<|
.nil)) (.seq (.region (
 o 34 (.build [.d tB false, .d tQ (0 : Int)] [(0, 1, .k tB true)])<|
 o 35 (.bslice true 59 (pr [tB, tQ]) 1 [.tm 34])<|
 o 8 (m 35)<|
.nil)) (.seq (.region (
 o 36 (.mkmap 59 3 (pr [tB, tQ]) tI)<|
 o 37 (m 8)<|
 o 38 (.idxA (pr [tB, tQ]) (t 37) (i 0))<|
 o 39 (.load (pr [tB, tQ]) (t 38))<|
.op none (.mapset 59 3 (pr [tB, tQ]) tI (t 36) (t 39) (i 0))<|
 o 40 (m 36)<|
 o 9 (m 40)<|
.nil)) (.seq (.seq (.region (
 o 10 (.mv (i 0))<|
.nil)) (.block 0 (.adj [.adoptC 6 1 22 lI, .adoptC 6 2 4 tB, .sel [0, 1, 2, 3, 4, 5, 6, 9, 10, 7, 8] [2, 5, 6, 7, 8, 9, 10]] (.loop ⟨[], ⟨[(2, .ptr 0 0), (5, .ptr 1 0), (6, .ptr 5 0), (7, .ptr 6 0), (8, .sl 9), (9, .mp 10)], [.box T_str_api_DFA [.nil tI, .nil lI, .nil tB, .any], .box T_str_dfa_positions [.sl 2, .sl 3, .sl 4], .vec T_i64 tI [], .vec T_i64 tI [], .vec T_u64 tQ [], .box T_str_dfa_sets [.any, .any, .any], .box T_str_api_DFA [.any, .sl 7, .sl 8, .any], .vec T_sl_i64 lI [], .vec T_bool tB [], .vec T_str_dfa_state (pr [tB, tQ]) [], .map T_str_dfa_state T_i64 (pr [tB, tQ]) tI []]⟩, [.tm 10 tI, .cell 0 3 tI, .vec 2 3 tI, .vec 3 3 tI, .vec 4 53 tQ, .cell 5 0 tQ, .cell 5 1 tQ, .cell 5 2 tB, .cell 6 0 lI, .cell 6 3 tI, .vec 7 22 lI, .vec 8 4 tB, .vec 9 59 (pr [tB, tQ]), .map 10 59 3 (pr [tB, tQ]) tI]⟩ [(1, ⟨[], ⟨[(2, .ptr 0 0)], [.box T_str_api_DFA [.nil tI, .nil lI, .nil tB, .any]]⟩, [.tm 3 tI, .cell 0 3 tI]⟩), (3, ⟨[], ⟨[(2, .ptr 0 0), (7, .ptr 1 0)], [.box T_str_api_DFA [.nil tI, .nil lI, .nil tB, .any], .box T_str_api_DFA [.any, .sl 2, .sl 3, .any], .vec T_sl_i64 lI [], .vec T_bool tB []]⟩, [.cell 0 3 tI, .cell 1 0 lI, .cell 1 3 tI, .vec 2 22 lI, .vec 3 4 tB]⟩)] (.seq (.seq (.region (
 o 41 (m 10)<|
 o 42 (m 8)<|
 o 43 (.len false (t 42))<|
 o 44 (.bin .lss (t 41) (t 43))<|
.nil)) (.cond (t 44) .skip (.adj [.sel [0, 6, 7, 8] [2, 7]] (.exit 0)))) (.seq (.block 1 (.seq (.region (
 o 47 (m 8)<|
 o 48 (m 10)<|
 o 49 (.idxA (pr [tB, tQ]) (t 47) (t 48))<|
 o 50 (.load (pr [tB, tQ]) (t 49))<|
 o 11 (.alloc 59 [.d tB false, .d tQ (0 : Int)])<|
.op none (.store (pr [tB, tQ]) (t 11) (t 50))<|
.nil)) (.seq (.region (
 q 51 0 tQ 6<|
 o 12 (m 52)<|
.nil)) (.seq (.cut [(0, ⟨[10], ⟨[(2, .ptr 0 0), (5, .ptr 1 0), (6, .ptr 5 0), (7, .ptr 6 0), (8, .sl 9), (9, .mp 10), (11, .ptr 11 0)], [.box T_str_api_DFA [.nil tI, .nil lI, .nil tB, .any], .box T_str_dfa_positions [.sl 2, .sl 3, .sl 4], .vec T_i64 tI [], .vec T_i64 tI [], .vec T_u64 tQ [], .box T_str_dfa_sets [.any, .any, .any], .box T_str_api_DFA [.any, .sl 7, .sl 8, .any], .vec T_sl_i64 lI [], .vec T_bool tB [], .vec T_str_dfa_state (pr [tB, tQ]) [], .map T_str_dfa_state T_i64 (pr [tB, tQ]) tI [], .box T_str_dfa_state [.any, .any]]⟩, [.tm 12 tQ, .cell 0 3 tI, .vec 2 3 tI, .vec 3 3 tI, .vec 4 53 tQ, .cell 5 0 tQ, .cell 5 1 tQ, .cell 5 2 tB, .cell 6 0 lI, .cell 6 3 tI, .vec 7 22 lI, .vec 8 4 tB, .vec 9 59 (pr [tB, tQ]), .map 10 59 3 (pr [tB, tQ]) tI, .cell 11 0 tB, .cell 11 1 tQ]⟩)] (.seq (.region (
 q 53 0 tB 11<|
 o 55 (.un .not (t 54))<|
.nil)) (.cond (t 55) (.seq (.region (
 o 12 (.mv (.k tQ (0 : Int)))<|
.nil)) (.seq (.region (
 o 56 (m 5)<|
 o 57 (.nilc (t 56))<|
 o 58 (.fldA 2 (.list tQ) (t 57))<|
 o 59 (.load (.list tQ) (t 58))<|
 o 60 (.len false (t 59))<|
 o 61 (.mv (i 0))<|
.nil)) (.block 2 (.loop ⟨[10, 60], ⟨[(2, .ptr 0 0), (5, .ptr 1 0), (6, .ptr 5 0), (7, .ptr 6 0), (8, .sl 9), (9, .mp 10), (11, .ptr 11 0)], [.box T_str_api_DFA [.nil tI, .nil lI, .nil tB, .any], .box T_str_dfa_positions [.sl 2, .sl 3, .sl 4], .vec T_i64 tI [], .vec T_i64 tI [], .vec T_u64 tQ [], .box T_str_dfa_sets [.any, .any, .any], .box T_str_api_DFA [.any, .sl 7, .sl 8, .any], .vec T_sl_i64 lI [], .vec T_bool tB [], .vec T_str_dfa_state (pr [tB, tQ]) [], .map T_str_dfa_state T_i64 (pr [tB, tQ]) tI [], .box T_str_dfa_state [.any, .any]]⟩, [.tm 12 tQ, .tm 61 tI, .cell 0 3 tI, .vec 2 3 tI, .vec 3 3 tI, .vec 4 53 tQ, .cell 5 0 tQ, .cell 5 1 tQ, .cell 5 2 tB, .cell 6 0 lI, .cell 6 3 tI, .vec 7 22 lI, .vec 8 4 tB, .vec 9 59 (pr [tB, tQ]), .map 10 59 3 (pr [tB, tQ]) tI, .cell 11 0 tB, .cell 11 1 tQ]⟩ [(5, ⟨[10], ⟨[(2, .ptr 0 0), (5, .ptr 1 0), (6, .ptr 5 0), (7, .ptr 6 0), (8, .sl 9), (9, .mp 10), (11, .ptr 11 0)], [.box T_str_api_DFA [.nil tI, .nil lI, .nil tB, .any], .box T_str_dfa_positions [.sl 2, .sl 3, .sl 4], .vec T_i64 tI [], .vec T_i64 tI [], .vec T_u64 tQ [], .box T_str_dfa_sets [.any, .any, .any], .box T_str_api_DFA [.any, .sl 7, .sl 8, .any], .vec T_sl_i64 lI [], .vec T_bool tB [], .vec T_str_dfa_state (pr [tB, tQ]) [], .map T_str_dfa_state T_i64 (pr [tB, tQ]) tI [], .box T_str_dfa_state [.any, .any]]⟩, [.tm 12 tQ, .cell 0 3 tI, .vec 2 3 tI, .vec 3 3 tI, .vec 4 53 tQ, .cell 5 0 tQ, .cell 5 1 tQ, .cell 5 2 tB, .cell 6 0 lI, .cell 6 3 tI, .vec 7 22 lI, .vec 8 4 tB, .vec 9 59 (pr [tB, tQ]), .map 10 59 3 (pr [tB, tQ]) tI, .cell 11 0 tB, .cell 11 1 tQ]⟩)] (.seq (.region (
 o 62 (.bin .lss (t 61) (t 60))<|
.nil)) (.seq (.cond (t 62) .skip (.exit 2)) (.seq (.cut [(0, ⟨[10, 60, 61], ⟨[(2, .ptr 0 0), (5, .ptr 1 0), (6, .ptr 5 0), (7, .ptr 6 0), (8, .sl 9), (9, .mp 10), (11, .ptr 11 0)], [.box T_str_api_DFA [.nil tI, .nil lI, .nil tB, .any], .box T_str_dfa_positions [.sl 2, .sl 3, .sl 4], .vec T_i64 tI [], .vec T_i64 tI [], .vec T_u64 tQ [], .box T_str_dfa_sets [.any, .any, .any], .box T_str_api_DFA [.any, .sl 7, .sl 8, .any], .vec T_sl_i64 lI [], .vec T_bool tB [], .vec T_str_dfa_state (pr [tB, tQ]) [], .map T_str_dfa_state T_i64 (pr [tB, tQ]) tI [], .box T_str_dfa_state [.any, .any]]⟩, [.tm 12 tQ, .cell 0 3 tI, .vec 2 3 tI, .vec 3 3 tI, .vec 4 53 tQ, .cell 5 0 tQ, .cell 5 1 tQ, .cell 5 2 tB, .cell 6 0 lI, .cell 6 3 tI, .vec 7 22 lI, .vec 8 4 tB, .vec 9 59 (pr [tB, tQ]), .map 10 59 3 (pr [tB, tQ]) tI, .cell 11 0 tB, .cell 11 1 tQ]⟩)] (.block 3 (.seq (.region (
 o 63 (m 61)<|
 o 13 (m 63)<|
.nil)) (.seq (.region (
 q 64 1 tQ 11<|
 o 66 (m 13)<|
 o 67 (.cvtI .u64 (t 66))<|
 o 68 (.bin .shr (t 65) (t 67))<|
 o 69 (.bin .and (t 68) (.k tQ (1 : Int)))<|
 o 70 (.bin .eql (t 69) (.k tQ (1 : Int)))<|
.nil)) (.cond (t 70) (.region (
 o 71 (m 12)<|
 o 72 (m 5)<|
 o 73 (.nilc (t 72))<|
 o 74 (.fldA 2 (.list tQ) (t 73))<|
 o 75 (.load (.list tQ) (t 74))<|
 o 76 (m 13)<|
 o 77 (.idxA tQ (t 75) (t 76))<|
 o 78 (.load tQ (t 77))<|
 o 79 (.bin .or (t 71) (t 78))<|
 o 12 (m 79)<|
.nil)) .skip))))) (.region (
 o 80 (.bin .add (t 61) (i 1))<|
 o 61 (m 80)<|
.nil))))))))) .skip))) (.seq (.region (
 q 81 0 lI 7<|
 o 83 (.len false (t 82))<|
 o 84 (.mslice 3 tI 8 (t 83) (t 83))<|
 o 14 (m 84)<|
.nil)) (.seq (.seq (.region (
 q 85 0 lI 7<|
 o 87 (.len false (t 86))<|
 o 88 (.mv (i 0))<|
.nil)) (.block 4 (.loop ⟨[10, 12, 86, 87], ⟨[(2, .ptr 0 0), (5, .ptr 1 0), (6, .ptr 5 0), (7, .ptr 6 0), (8, .sl 9), (9, .mp 10), (11, .ptr 11 0), (14, .sl 12)], [.box T_str_api_DFA [.nil tI, .nil lI, .nil tB, .any], .box T_str_dfa_positions [.sl 2, .sl 3, .sl 4], .vec T_i64 tI [], .vec T_i64 tI [], .vec T_u64 tQ [], .box T_str_dfa_sets [.any, .any, .any], .box T_str_api_DFA [.any, .sl 7, .sl 8, .any], .vec T_sl_i64 lI [], .vec T_bool tB [], .vec T_str_dfa_state (pr [tB, tQ]) [], .map T_str_dfa_state T_i64 (pr [tB, tQ]) tI [], .box T_str_dfa_state [.any, .any], .vec T_i64 tI []]⟩, [.tm 88 tI, .cell 0 3 tI, .vec 2 3 tI, .vec 3 3 tI, .vec 4 53 tQ, .cell 5 0 tQ, .cell 5 1 tQ, .cell 5 2 tB, .cell 6 0 lI, .cell 6 3 tI, .vec 7 22 lI, .vec 8 4 tB, .vec 9 59 (pr [tB, tQ]), .map 10 59 3 (pr [tB, tQ]) tI, .cell 11 0 tB, .cell 11 1 tQ, .vec 12 3 tI]⟩ [(1, ⟨[], ⟨[(2, .ptr 0 0)], [.box T_str_api_DFA [.nil tI, .nil lI, .nil tB, .any]]⟩, [.tm 3 tI, .cell 0 3 tI]⟩), (7, ⟨[10], ⟨[(2, .ptr 0 0), (5, .ptr 1 0), (6, .ptr 5 0), (7, .ptr 6 0), (8, .sl 9), (9, .mp 10), (11, .ptr 11 0), (14, .sl 12)], [.box T_str_api_DFA [.nil tI, .nil lI, .nil tB, .any], .box T_str_dfa_positions [.sl 2, .sl 3, .sl 4], .vec T_i64 tI [], .vec T_i64 tI [], .vec T_u64 tQ [], .box T_str_dfa_sets [.any, .any, .any], .box T_str_api_DFA [.any, .sl 7, .sl 8, .any], .vec T_sl_i64 lI [], .vec T_bool tB [], .vec T_str_dfa_state (pr [tB, tQ]) [], .map T_str_dfa_state T_i64 (pr [tB, tQ]) tI [], .box T_str_dfa_state [.any, .any], .vec T_i64 tI []]⟩, [.cell 0 3 tI, .vec 2 3 tI, .vec 3 3 tI, .vec 4 53 tQ, .cell 5 0 tQ, .cell 5 1 tQ, .cell 5 2 tB, .cell 6 0 lI, .cell 6 3 tI, .vec 7 22 lI, .vec 8 4 tB, .vec 9 59 (pr [tB, tQ]), .map 10 59 3 (pr [tB, tQ]) tI, .cell 11 0 tB, .cell 11 1 tQ, .vec 12 3 tI]⟩)] (.seq (.region (
 o 89 (.bin .lss (t 88) (t 87))<|
.nil)) (.seq (.cond (t 89) .skip (.exit 4)) (.seq (.block 5 (.seq (.region (
 o 90 (m 88)<|
 o 91 (.idxA tI (t 86) (t 88))<|
 o 92 (.load tI (t 91))<|
 o 15 (m 90)<|
 o 16 (m 92)<|
.nil)) (.seq (.region (
 o 93 (m 12)<|
 o 94 (m 5)<|
 o 95 (m 16)<|
 o 96 (.callA false false [1, 2, 3, 4] N_dfa_positions_matching_rd [(.x, .tm 94), (.d tI, .tm 95)] q_dfa_positions_matching_rd)<|
 o 97 (.bin .and (t 93) (t 96))<|
 o 98 (.build [.d tB false, .d tQ (0 : Int)] [(1, 1, .tm 97)])<|
 o 17 (.alloc 59 [.d tB false, .d tQ (0 : Int)])<|
.op none (.store (pr [tB, tQ]) (t 17) (t 98))<|
.nil)) (.seq (.region (
 o 100 (m 9)<|
 o 101 (.load (pr [tB, tQ]) (t 17))<|
 o 102 (.lookup 59 3 true (pr [tB, tQ]) tI (t 100) (t 101))<|
 o 99 (m 102)<|
 o 103 (.ext (t 99) 0)<|
 o 104 (.ext (t 99) 1)<|
 o 18 (m 103)<|
 o 19 (m 104)<|
.nil)) (.seq (.cut [(0, ⟨[10, 12, 15, 86, 87, 88], ⟨[(2, .ptr 0 0), (5, .ptr 1 0), (6, .ptr 5 0), (7, .ptr 6 0), (8, .sl 9), (9, .mp 10), (11, .ptr 11 0), (14, .sl 12)], [.box T_str_api_DFA [.nil tI, .nil lI, .nil tB, .any], .box T_str_dfa_positions [.sl 2, .sl 3, .sl 4], .vec T_i64 tI [], .vec T_i64 tI [], .vec T_u64 tQ [], .box T_str_dfa_sets [.any, .any, .any], .box T_str_api_DFA [.any, .sl 7, .sl 8, .any], .vec T_sl_i64 lI [], .vec T_bool tB [], .vec T_str_dfa_state (pr [tB, tQ]) [], .map T_str_dfa_state T_i64 (pr [tB, tQ]) tI [], .box T_str_dfa_state [.any, .any], .vec T_i64 tI []]⟩, [.tm 18 tI, .cell 0 3 tI, .vec 2 3 tI, .vec 3 3 tI, .vec 4 53 tQ, .cell 5 0 tQ, .cell 5 1 tQ, .cell 5 2 tB, .cell 6 0 lI, .cell 6 3 tI, .vec 7 22 lI, .vec 8 4 tB, .vec 9 59 (pr [tB, tQ]), .map 10 59 3 (pr [tB, tQ]) tI, .cell 11 0 tB, .cell 11 1 tQ, .vec 12 3 tI]⟩), (1, ⟨[], ⟨[(2, .ptr 0 0)], [.box T_str_api_DFA [.nil tI, .nil lI, .nil tB, .any]]⟩, [.tm 3 tI, .cell 0 3 tI]⟩)] (.seq (.region (
 o 105 (m 19)<|
 o 106 (.un .not (t 105))<|
.nil)) (.cond (t 106) (.seq (.region (
 o 107 (m 8)<|
 o 108 (.len false (t 107))<|
 o 18 (m 108)<|
.nil)) (.seq (.seq (.region (
 o 109 (m 18)<|
 o 110 (.bin .geq (t 109) (i 4096))<|
.nil)) (.cond (t 110) (.seq (.region (
 o 111 (.build [.nil tI, .nil lI, .nil tB, .d tI (0 : Int)] [])<|
.op none (.store pD (t 2) (t 111))<|
 o 3 (.mv (i 8))<|
.nil)) (.adj [.sel [0] [2, 3]] .ret)) .skip)) (.seq (.region (
 o 112 (m 9)<|
 o 113 (.load (pr [tB, tQ]) (t 17))<|
 o 114 (m 18)<|
.op none (.mapset 59 3 (pr [tB, tQ]) tI (t 112) (t 113) (t 114))<|
.nil)) (.after (.region (
 o 115 (m 8)<|
 o 116 (.load (pr [tB, tQ]) (t 17))<|
 o 117 (.bslice false 59 (pr [tB, tQ]) 1 [.tm 116])<|
 o 118 (.append 59 (pr [tB, tQ]) 16 (t 115) (t 117))<|
 o 8 (m 118)<|
.nil)) [.sel [0, 1, 2, 3, 4, 5, 6, 7, 8, 9, 10, 11, 12] [2, 5, 6, 7, 8, 9, 10, 11, 12, 14, 15, 18, 86, 87, 88]])))) (.after .skip [.sel [0, 1, 2, 3, 4, 5, 6, 7, 8, 9, 10, 11, 12] [2, 5, 6, 7, 8, 9, 10, 11, 12, 14, 15, 18, 86, 87, 88]])))) (.region (
 o 119 (m 14)<|
 o 120 (m 15)<|
 o 121 (m 18)<|
 o 122 (.idxA tI (t 119) (t 120))<|
.op none (.store tI (t 122) (t 121))<|
.nil))))))) (.region (
 o 123 (.bin .add (t 88) (i 1))<|
 o 88 (m 123)<|
.nil)))))))) (.seq (.region (
 q 124 1 lL 7<|
 o 126 (m 14)<|
.adj [.freeze 12] <|
 o 127 (.bslice false 22 lI 1 [.tm 126])<|
 o 128 (.append 22 lI 24 (t 125) (t 127))<|
 o 129 (.fldA 1 lL (t 7))<|
.op none (.store lL (t 129) (t 128))<|
.nil)) (.region (
 q 130 2 lB 7<|
 q 132 0 tB 11<|
 o 134 (m 133)<|
.gb 134 true (
 q 135 2 tB 6<|
.nil) tB (t 136) yF 137 <|
 o 138 (m 137)<|
.gb 138 false (
 q 139 0 tB 11<|
 o 141 (.un .not (t 140))<|
 o 142 (m 141)<|
.gb 142 true (
 q 143 1 tQ 11<|
 q 145 1 tQ 6<|
 o 147 (.bin .and (t 144) (t 146))<|
 o 148 (.bin .neq (t 147) (.k tQ (0 : Int)))<|
.nil) tB (t 148) yF 149 <|
.nil) tB (t 149) yT 150 <|
 o 151 (.bslice false 4 tB 1 [.tm 150])<|
 o 152 (.append 4 tB 1 (t 131) (t 151))<|
 o 153 (.fldA 2 lB (t 7))<|
.op none (.store lB (t 153) (t 152))<|
.nil))))))))) (.after (.region (
 o 45 (m 10)<|
 o 46 (.bin .add (t 45) (i 1))<|
 o 10 (m 46)<|
.nil)) [.sel [0, 1, 2, 3, 4, 5, 6, 7, 8, 9, 10] [2, 5, 6, 7, 8, 9, 10]]))))))) (.seq (.region (
 o 154 (.load pD (t 7))<|
.adj [.freeze 2, .freeze 3] <|
 o 155 (.call false N_dfa_minimal [(.d pD, .tm 154)] q_dfa_minimal)<|
.op none (.store pD (t 2) (t 155))<|
 o 3 (.mv (i 0))<|
.nil)) .ret))))))))), [.cell 2 pD, .tm 3], 156, q_dfa_Build, 0⟩
def q_dfa_Witness_1_dpp : Sh := ⟨[], ⟨[], []⟩, [.tm 0 tB]⟩
def f_dfa_Witness_1_dpp : TF := ⟨(.seq (.region (
 o 3 (.boxD 73 pI (t 0))<|
 o 4 (.mv yF)<|
.nil)) (.seq (.draw 14 (
 q 5 2 lB 1<|
 q 7 0 tI 3<|
 o 9 (.idxA tB (t 6) (t 8))<|
 o 10 (.load tB (t 9))<|
 q 11 2 lB 2<|
 q 13 1 tI 3<|
 o 15 (.idxA tB (t 12) (t 14))<|
 o 16 (.load tB (t 15))<|
 o 17 (.eqB true (t 10) (t 16))<|
 o 4 (m 17)<|
.nil) [[], [0], [], [2], [1, 3], [4], [], [6], [], [8], [7, 9], [10], [5, 11], [12, 0, 1, 2, 3, 4, 5, 6, 7, 8, 9, 10, 11, 12]]) .ret)), [.tm 4], 18, q_dfa_Witness_1_dpp, 0⟩
def G_dfa_Witness_1_dpp (O : Oracle) (n : Nat) (x : (Int × (Int × Unit))) (v : TD) (v1 : TD) : Option (Option S) :=
 Option.bind (getI v.2.2.1 x.1) fun v2 =>
 Option.bind (getI v1.2.2.1 x.2.1) fun v3 =>
 retQ q_dfa_Witness_1_dpp ((true ^^ (v2 == v3)), ())
theorem x_dfa_Witness_1_dpp (O : Oracle) (n : Nat) (x : (Int × (Int × Unit))) (v : ((List Int) × ((List (List Int)) × ((List Bool) × (Int × Unit))))) (v1 : ((List Int) × ((List (List Int)) × ((List Bool) × (Int × Unit))))) : evF1 O n f_dfa_Witness_1_dpp [.d (pr [tI, tI]) x, .dp (pr [(.list tI), (.list (.list tI)), (.list tB), tI]) v, .dp (pr [(.list tI), (.list (.list tI)), (.list tB), tI]) v1] [] = G_dfa_Witness_1_dpp O n x v v1 := by kernel_rfl
def q_dfa_class : Sh := ⟨[], ⟨[], []⟩, [.tm 0 tI]⟩
def f_dfa_class : TF := ⟨(.seq (.region (
 o 4 (.mv (i 0))<|
.nil)) (.seq (.region (
 o 8 (m 0)<|
 o 9 (.len false (t 8))<|
 o 5 (.mv (i 0))<|
 o 6 (m 9)<|
.nil)) (.seq (.block 0 (.loop ⟨[0, 1], ⟨[], []⟩, [.tm 5 tI, .tm 6 tI]⟩ [(3, ⟨[], ⟨[], []⟩, [.tm 5 tI]⟩)] (.seq (.seq (.region (
 o 10 (m 6)<|
 o 11 (m 5)<|
 o 12 (.bin .sub (t 10) (t 11))<|
 o 13 (.bin .gtr (t 12) (i 1))<|
.nil)) (.cond (t 13) .skip (.exit 0))) (.block 1 (.seq (.region (
 o 14 (m 5)<|
 o 15 (m 6)<|
 o 16 (.bin .add (t 14) (t 15))<|
 o 17 (.bin .quo (t 16) (i 2))<|
 o 7 (m 17)<|
.nil)) (.seq (.region (
 o 18 (m 0)<|
 o 19 (m 7)<|
 o 20 (.idxA tI (t 18) (t 19))<|
 o 21 (.load tI (t 20))<|
 o 22 (m 1)<|
 o 23 (.bin .leq (t 21) (t 22))<|
.nil)) (.cond (t 23) (.region (
 o 24 (m 7)<|
 o 5 (m 24)<|
.nil)) (.region (
 o 25 (m 7)<|
 o 6 (m 25)<|
.nil))))))))) (.seq (.region (
 o 26 (m 5)<|
 o 4 (m 26)<|
.nil)) .ret)))), [.tm 4], 27, q_dfa_class, 0⟩
def L_dfa_class_0 (O : Oracle) (n : Nat) (starts : (List Int)) (as_ : Int) (s : (Int × Int × Unit)) : Option ((Int × Int × Unit) ⊕ (Int × Unit)) :=
 bif decide (IntKind.wrap .i64 (s.2.1 - s.1) > (1 : Int)) then
 guardB ((2 : Int) != 0) (
 let v1 := IntKind.wrap .i64 (Int.tdiv (IntKind.wrap .i64 (s.1 + s.2.1)) (2 : Int))
 Option.bind (getI starts v1) fun v2 =>
 bif decide (v2 ≤ as_) then
 some (.inl (v1, s.2.1, ()))
else
 some (.inl (s.1, v1, ())))
else
 some (.inr ((s.1, ())))
def G_dfa_class (O : Oracle) (n : Nat) (starts : (List Int)) (as_ : Int) : Option (Option S) :=
 Option.bind (loopN n (L_dfa_class_0 O n starts as_) ((0 : Int), (starts.length : Int), ())) fun (v3 : (Int × Unit)) =>
 retQ q_dfa_class (v3.1, ())
theorem x_dfa_class (O : Oracle) (n : Nat) (starts : (List Int)) (as_ : Int) : evF1 O n f_dfa_class [.d (.list tI) starts, .d tI as_] [] = G_dfa_class O n starts as_ := by kernel_rfl
def q_dfa_multiply_dddf : Sh := ⟨[], ⟨[(0, .ptr 0 0)], [.box T_str_dfa_product [.any, .sl 1, .sl 2, .sl 3, .sl 4], .vec T_str_dfa_pair (pr [tI, tI]) [], .vec T_i64 tI [], .vec T_i64 tI [], .vec T_sl_i64 (.list tI) []]⟩, [.tm 1 tB, .cell 0 0 (.list tI), .vec 1 73 (pr [tI, tI]), .vec 2 3 tI, .vec 3 3 tI, .vec 4 22 (.list tI)]⟩
def f_dfa_multiply_dddf : TF := ⟨(.seq (.region (
 o 4 (.boxD 26 pD (t 0))<|
 o 5 (.boxD 26 pD (t 1))<|
 o 8 (.mv (.raw (.pointer none)))<|
 o 9 (.mv yF)<|
.nil)) (.seq (.draw2 3 [
 mkPO 0 true [] (some 19) (.fldA 0 lI (t 4)),
 mkPO 1 true [] (some 20) (.load lI (t 19)),
 mkPO 2 true [0, 1] (some 21) (.fldA 0 lI (t 5)),
 mkPO 3 true [0, 1] (some 22) (.load lI (t 21)),
 mkPO 4 true [] (some 23) (.call false N_dfa_merge [(.d lI, .tm 20), (.d lI, .tm 22)] q_dfa_merge),
 mkPO 5 true [0, 1, 2, 3, 4] (some 24) (.fldA 3 tI (t 4)),
 mkPO 6 true [0, 1, 2, 3, 4] (some 25) (.load tI (t 24)),
 mkPO 7 true [0, 1, 2, 3, 4, 5, 6] (some 26) (.fldA 3 tI (t 5)),
 mkPO 8 true [0, 1, 2, 3, 4, 5, 6] (some 27) (.load tI (t 26)),
 mkPO 9 true [0, 1, 2, 3, 4] (some 28) (.build [.d tI (0 : Int), .d tI (0 : Int)] [(0, 1, .tm 25), (1, 1, .tm 27)]),
 mkPO 10 true [0, 1, 2, 3, 4] (some 29) (.atq 0 (.bslice true 73 pI 1 [.tm 28])),
 mkPO 11 true [0, 1, 2, 3, 4, 5, 6, 7, 8, 9, 10] (some 30) (.atq 1 (.bslice true 3 tI 1 [.k tI (-1 : Int)])),
 mkPO 12 true [0, 1, 2, 3, 4, 5, 6, 7, 8, 9, 10, 11] (some 31) (.atq 2 (.bslice true 3 tI 1 [.k tI (0 : Int)]))] (
 o 32 (.build [.nil tI, .nil pI, .nil tI, .nil tI, .nil lI] [(0, 1, .tm 23), (1, 1, .tm 29), (2, 1, .tm 30), (3, 1, .tm 31)])<|
 o 33 (.box 77 (t 32))<|
 o 10 (m 33)<|
.nil) [[], [0], [], [2], [1, 3], [], [5], [], [7], [6, 8], [9], [], [], [4, 10, 11, 12], [13], [14, 4, 0, 1, 2, 3, 4, 5, 6, 7, 8, 9, 10, 11, 12, 13, 14]]) (.seq (.region (
 o 34 (.mkmap 73 3 pI tI)<|
 o 35 (m 10)<|
 o 36 (.nilc (t 35))<|
 o 37 (.fldA 1 (.list pI) (t 36))<|
 o 38 (.load (.list pI) (t 37))<|
 o 39 (.idxA pI (t 38) (i 0))<|
 o 40 (.load pI (t 39))<|
.op none (.mapset 73 3 pI tI (t 34) (t 40) (i 0))<|
 o 41 (m 34)<|
 o 11 (m 41)<|
.nil)) (.seq (.seq (.region (
 o 42 (m 3)<|
 o 43 (m 10)<|
 o 44 (.nilc (t 43))<|
 o 45 (.fldA 1 (.list pI) (t 44))<|
 o 46 (.load (.list pI) (t 45))<|
 o 47 (.idxA pI (t 46) (i 0))<|
 o 48 (.load pI (t 47))<|
 o 49 (.callp false N_dfa_Witness_1_dpp (t 42) [(.d pI, .tm 48)] q_dfa_Witness_1_dpp)<|
.nil)) (.cond (t 49) (.seq (.region (
 o 50 (m 10)<|
 o 8 (m 50)<|
 o 9 (.mv yT)<|
.nil)) (.adj [.adoptC 3 4 22 lI, .sel [3, 0, 1, 2, 5] [8, 9]] .ret)) .skip)) (.seq (.seq (.region (
 o 12 (.mv (i 0))<|
.nil)) (.block 0 (.adj [.adoptC 3 4 22 lI, .sel [3, 0, 1, 2, 5, 4] [2, 3, 4, 5, 10, 11, 12]] (.loop ⟨[2, 3, 4, 5], ⟨[(10, .ptr 0 0), (11, .mp 5)], [.box T_str_dfa_product [.any, .sl 1, .sl 2, .sl 3, .sl 4], .vec T_str_dfa_pair pI [], .vec T_i64 tI [], .vec T_i64 tI [], .vec T_sl_i64 lI [], .map T_str_dfa_pair T_i64 pI tI []]⟩, [.tm 12 tI, .cell 0 0 lI, .vec 1 73 pI, .vec 2 3 tI, .vec 3 3 tI, .vec 4 22 lI, .map 5 73 3 pI tI]⟩ [(1, ⟨[], ⟨[(8, .ptr 0 0)], [.box T_str_dfa_product [.any, .sl 1, .sl 2, .sl 3, .sl 4], .vec T_str_dfa_pair pI [], .vec T_i64 tI [], .vec T_i64 tI [], .vec T_sl_i64 lI []]⟩, [.tm 9 tB, .cell 0 0 lI, .vec 1 73 pI, .vec 2 3 tI, .vec 3 3 tI, .vec 4 22 lI]⟩), (3, ⟨[], ⟨[(10, .ptr 0 0)], [.box T_str_dfa_product [.any, .sl 1, .sl 2, .sl 3, .sl 4], .vec T_str_dfa_pair pI [], .vec T_i64 tI [], .vec T_i64 tI [], .vec T_sl_i64 lI []]⟩, [.cell 0 0 lI, .vec 1 73 pI, .vec 2 3 tI, .vec 3 3 tI, .vec 4 22 lI]⟩)] (.seq (.seq (.region (
 o 51 (m 12)<|
 o 52 (m 10)<|
 o 53 (.nilc (t 52))<|
 o 54 (.fldA 1 (.list pI) (t 53))<|
 o 55 (.load (.list pI) (t 54))<|
 o 56 (.len false (t 55))<|
 o 57 (.bin .lss (t 51) (t 56))<|
.nil)) (.cond (t 57) .skip (.adj [.sel [0, 1, 2, 3, 4] [10]] (.exit 0)))) (.seq (.block 1 (.seq (.region (
 o 60 (m 10)<|
 o 61 (.nilc (t 60))<|
 q 62 0 lI 61<|
 o 64 (.len false (t 63))<|
 o 65 (.mslice 3 tI 8 (t 64) (t 64))<|
 o 13 (m 65)<|
.nil)) (.seq (.seq (.region (
 o 66 (m 10)<|
 o 67 (.nilc (t 66))<|
 q 68 0 lI 67<|
 o 70 (.len false (t 69))<|
 o 71 (.mv (i 0))<|
.nil)) (.block 2 (.loop ⟨[2, 3, 4, 5, 12, 69, 70], ⟨[(10, .ptr 0 0), (11, .mp 5), (13, .sl 6)], [.box T_str_dfa_product [.any, .sl 1, .sl 2, .sl 3, .sl 4], .vec T_str_dfa_pair pI [], .vec T_i64 tI [], .vec T_i64 tI [], .vec T_sl_i64 lI [], .map T_str_dfa_pair T_i64 pI tI [], .vec T_i64 tI []]⟩, [.tm 71 tI, .cell 0 0 lI, .vec 1 73 pI, .vec 2 3 tI, .vec 3 3 tI, .vec 4 22 lI, .map 5 73 3 pI tI, .vec 6 3 tI]⟩ [(1, ⟨[], ⟨[(8, .ptr 0 0)], [.box T_str_dfa_product [.any, .sl 1, .sl 2, .sl 3, .sl 4], .vec T_str_dfa_pair pI [], .vec T_i64 tI [], .vec T_i64 tI [], .vec T_sl_i64 lI []]⟩, [.tm 9 tB, .cell 0 0 lI, .vec 1 73 pI, .vec 2 3 tI, .vec 3 3 tI, .vec 4 22 lI]⟩), (5, ⟨[2, 3, 4, 5, 12], ⟨[(10, .ptr 0 0), (11, .mp 5), (13, .sl 6)], [.box T_str_dfa_product [.any, .sl 1, .sl 2, .sl 3, .sl 4], .vec T_str_dfa_pair pI [], .vec T_i64 tI [], .vec T_i64 tI [], .vec T_sl_i64 lI [], .map T_str_dfa_pair T_i64 pI tI [], .vec T_i64 tI []]⟩, [.cell 0 0 lI, .vec 1 73 pI, .vec 2 3 tI, .vec 3 3 tI, .vec 4 22 lI, .map 5 73 3 pI tI, .vec 6 3 tI]⟩)] (.seq (.region (
 o 72 (.bin .lss (t 71) (t 70))<|
.nil)) (.seq (.cond (t 72) .skip (.exit 2)) (.seq (.block 3 (.seq (.region (
 o 73 (m 71)<|
 o 74 (.idxA tI (t 69) (t 71))<|
 o 75 (.load tI (t 74))<|
 o 14 (m 73)<|
 o 15 (m 75)<|
.nil)) (.seq (.draw2 1 [
 mkPO 0 true [] (some 76) (.fldA 1 lL (t 4)),
 mkPO 1 true [] (some 77) (.load lL (t 76)),
 mkPO 2 true [0, 1] (some 78) (m 10),
 mkPO 3 true [0, 1] (some 79) (.nilc (t 78)),
 mkPO 4 true [0, 1] (some 80) (.fldA 1 (.list pI) (t 79)),
 mkPO 5 true [0, 1] (some 81) (.load (.list pI) (t 80)),
 mkPO 6 true [0, 1, 2, 3, 4, 5] (some 82) (m 12),
 mkPO 7 true [0, 1] (some 83) (.idxA pI (t 81) (t 82)),
 mkPO 8 true [0, 1] (some 84) (.fldA 0 tI (t 83)),
 mkPO 9 true [0, 1] (some 85) (.load tI (t 84)),
 mkPO 10 true [] (some 86) (.idxA lI (t 77) (t 85)),
 mkPO 11 true [] (some 87) (.load lI (t 86)),
 mkPO 12 true [0, 1, 2, 3, 4, 5, 6, 7, 8, 9, 10, 11] (some 88) (.fldA 0 lI (t 4)),
 mkPO 13 true [0, 1, 2, 3, 4, 5, 6, 7, 8, 9, 10, 11] (some 89) (.load lI (t 88)),
 mkPO 14 true [0, 1, 2, 3, 4, 5, 6, 7, 8, 9, 10, 11, 12, 13] (some 90) (m 15),
 mkPO 15 true [0, 1, 2, 3, 4, 5, 6, 7, 8, 9, 10, 11] (some 91) (.call false N_dfa_class [(.d lI, .tm 89), (.d tI, .tm 90)] q_dfa_class),
 mkPO 16 true [] (some 92) (.idxA tI (t 87) (t 91)),
 mkPO 17 true [] (some 93) (.load tI (t 92)),
 mkPO 18 true [0, 1, 2, 3, 4, 5, 6, 7, 8, 9, 10, 11, 12, 13, 14, 15, 16, 17] (some 94) (.fldA 1 lL (t 5)),
 mkPO 19 true [0, 1, 2, 3, 4, 5, 6, 7, 8, 9, 10, 11, 12, 13, 14, 15, 16, 17] (some 95) (.load lL (t 94)),
 mkPO 20 true [0, 1, 2, 3, 4, 5, 6, 7, 8, 9, 10, 11, 12, 13, 14, 15, 16, 17, 18, 19] (some 96) (m 10),
 mkPO 21 true [0, 1, 2, 3, 4, 5, 6, 7, 8, 9, 10, 11, 12, 13, 14, 15, 16, 17, 18, 19] (some 97) (.nilc (t 96)),
 mkPO 22 true [0, 1, 2, 3, 4, 5, 6, 7, 8, 9, 10, 11, 12, 13, 14, 15, 16, 17, 18, 19] (some 98) (.fldA 1 (.list pI) (t 97)),
 mkPO 23 true [0, 1, 2, 3, 4, 5, 6, 7, 8, 9, 10, 11, 12, 13, 14, 15, 16, 17, 18, 19] (some 99) (.load (.list pI) (t 98)),
 mkPO 24 true [0, 1, 2, 3, 4, 5, 6, 7, 8, 9, 10, 11, 12, 13, 14, 15, 16, 17, 18, 19, 20, 21, 22, 23] (some 100) (m 12),
 mkPO 25 true [0, 1, 2, 3, 4, 5, 6, 7, 8, 9, 10, 11, 12, 13, 14, 15, 16, 17, 18, 19] (some 101) (.idxA pI (t 99) (t 100)),
 mkPO 26 true [0, 1, 2, 3, 4, 5, 6, 7, 8, 9, 10, 11, 12, 13, 14, 15, 16, 17, 18, 19] (some 102) (.fldA 1 tI (t 101)),
 mkPO 27 true [0, 1, 2, 3, 4, 5, 6, 7, 8, 9, 10, 11, 12, 13, 14, 15, 16, 17, 18, 19] (some 103) (.load tI (t 102)),
 mkPO 28 true [0, 1, 2, 3, 4, 5, 6, 7, 8, 9, 10, 11, 12, 13, 14, 15, 16, 17] (some 104) (.idxA lI (t 95) (t 103)),
 mkPO 29 true [0, 1, 2, 3, 4, 5, 6, 7, 8, 9, 10, 11, 12, 13, 14, 15, 16, 17] (some 105) (.load lI (t 104)),
 mkPO 30 true [0, 1, 2, 3, 4, 5, 6, 7, 8, 9, 10, 11, 12, 13, 14, 15, 16, 17, 18, 19, 20, 21, 22, 23, 24, 25, 26, 27, 28, 29] (some 106) (.fldA 0 lI (t 5)),
 mkPO 31 true [0, 1, 2, 3, 4, 5, 6, 7, 8, 9, 10, 11, 12, 13, 14, 15, 16, 17, 18, 19, 20, 21, 22, 23, 24, 25, 26, 27, 28, 29] (some 107) (.load lI (t 106)),
 mkPO 32 true [0, 1, 2, 3, 4, 5, 6, 7, 8, 9, 10, 11, 12, 13, 14, 15, 16, 17, 18, 19, 20, 21, 22, 23, 24, 25, 26, 27, 28, 29, 30, 31] (some 108) (m 15),
 mkPO 33 true [0, 1, 2, 3, 4, 5, 6, 7, 8, 9, 10, 11, 16, 17, 18, 19, 20, 21, 22, 23, 24, 25, 26, 27, 28, 29] (some 109) (.call false N_dfa_class [(.d lI, .tm 107), (.d tI, .tm 108)] q_dfa_class),
 mkPO 34 true [0, 1, 2, 3, 4, 5, 6, 7, 8, 9, 10, 11, 16, 17] (some 110) (.idxA tI (t 105) (t 109)),
 mkPO 35 true [0, 1, 2, 3, 4, 5, 6, 7, 8, 9, 10, 11, 16, 17] (some 111) (.load tI (t 110)),
 mkPO 36 true [] (some 112) (.build [.d tI (0 : Int), .d tI (0 : Int)] [(0, 1, .tm 93), (1, 1, .tm 111)]),
 mkPO 37 true [0, 1, 2, 3, 4, 5, 6, 7, 8, 9, 10, 11, 12, 13, 14, 15, 16, 17, 18, 19, 20, 21, 22, 23, 24, 25, 26, 27, 28, 29, 30, 31, 32, 33, 34, 35, 36] (some 16) (.atq 7 (.alloc 73 [.d tI (0 : Int), .d tI (0 : Int)]))] (
.op none (.store pI (t 16) (t 112))<|
.nil) [[], [0], [], [2], [3], [4], [], [5, 6], [7], [8], [1, 9], [10], [], [12], [], [13, 14], [11, 15], [16], [], [18], [], [20], [21], [22], [], [23, 24], [25], [26], [19, 27], [28], [], [30], [], [31, 32, 15], [29, 33], [34], [17, 35], [], [37, 36, 33, 0, 1, 2, 3, 4, 5, 6, 7, 8, 9, 10, 11, 12, 13, 14, 15, 16, 17, 18, 19, 20, 21, 22, 23, 24, 25, 26, 27, 28, 29, 30, 31, 32, 33, 34, 35, 36, 37]]) (.seq (.region (
 o 114 (m 11)<|
 o 115 (.load pI (t 16))<|
 o 116 (.lookup 73 3 true pI tI (t 114) (t 115))<|
 o 113 (m 116)<|
 o 117 (.ext (t 113) 0)<|
 o 118 (.ext (t 113) 1)<|
 o 17 (m 117)<|
 o 18 (m 118)<|
.nil)) (.seq (.cut [(0, ⟨[2, 3, 4, 5, 12, 14, 69, 70, 71], ⟨[(10, .ptr 0 0), (11, .mp 5), (13, .sl 6)], [.box T_str_dfa_product [.any, .sl 1, .sl 2, .sl 3, .sl 4], .vec T_str_dfa_pair pI [], .vec T_i64 tI [], .vec T_i64 tI [], .vec T_sl_i64 lI [], .map T_str_dfa_pair T_i64 pI tI [], .vec T_i64 tI []]⟩, [.tm 17 tI, .cell 0 0 lI, .vec 1 73 pI, .vec 2 3 tI, .vec 3 3 tI, .vec 4 22 lI, .map 5 73 3 pI tI, .vec 6 3 tI]⟩), (1, ⟨[], ⟨[(8, .ptr 0 0)], [.box T_str_dfa_product [.any, .sl 1, .sl 2, .sl 3, .sl 4], .vec T_str_dfa_pair pI [], .vec T_i64 tI [], .vec T_i64 tI [], .vec T_sl_i64 lI []]⟩, [.tm 9 tB, .cell 0 0 lI, .vec 1 73 pI, .vec 2 3 tI, .vec 3 3 tI, .vec 4 22 lI]⟩)] (.seq (.region (
 o 119 (m 18)<|
 o 120 (.un .not (t 119))<|
.nil)) (.cond (t 120) (.seq (.region (
 o 121 (m 10)<|
 o 122 (.nilc (t 121))<|
 o 123 (.fldA 1 (.list pI) (t 122))<|
 o 124 (.load (.list pI) (t 123))<|
 o 125 (.len false (t 124))<|
 o 17 (m 125)<|
.nil)) (.seq (.region (
 o 126 (m 11)<|
 o 127 (.load pI (t 16))<|
 o 128 (m 17)<|
.op none (.mapset 73 3 pI tI (t 126) (t 127) (t 128))<|
.nil)) (.seq (.draw2 0 [
 mkPO 0 true [] (some 129) (m 10),
 mkPO 1 true [0] (some 130) (m 10),
 mkPO 2 true [0] (some 131) (.nilc (t 130)),
 mkPO 3 true [0] (some 132) (.fldA 1 (.list pI) (t 131)),
 mkPO 4 true [0] (some 133) (.load (.list pI) (t 132)),
 mkPO 5 true [0, 1, 2, 3, 4] (some 134) (.load pI (t 16)),
 mkPO 6 true [0, 1, 2, 3, 4] (some 135) (.bslice false 73 pI 1 [.tm 134]),
 mkPO 7 false [0] (some 136) (.append 73 pI 16 (t 133) (t 135))] (
 o 137 (.nilc (t 129))<|
 o 138 (.fldA 1 (.list pI) (t 137))<|
.op none (.store (.list pI) (t 138) (t 136))<|
.nil) [[], [], [1], [2], [3], [], [5], [4, 6], [0, 0, 1, 2, 3, 4, 5, 6, 7], [8, 0, 1, 2, 3, 4, 5, 6, 7], [9, 7, 7, 0, 1, 2, 3, 4, 5, 6, 7]]) (.seq (.region (
 o 139 (m 10)<|
 o 140 (m 10)<|
 o 141 (.nilc (t 140))<|
 q 142 2 lI 141<|
 o 144 (m 12)<|
 o 145 (.bslice false 3 tI 1 [.tm 144])<|
 o 146 (.append 3 tI 8 (t 143) (t 145))<|
 o 147 (.nilc (t 139))<|
 o 148 (.fldA 2 lI (t 147))<|
.op none (.store lI (t 148) (t 146))<|
.nil)) (.seq (.region (
 o 149 (m 10)<|
 o 150 (m 10)<|
 o 151 (.nilc (t 150))<|
 q 152 3 lI 151<|
 o 154 (m 15)<|
 o 155 (.bslice false 3 tI 1 [.tm 154])<|
 o 156 (.append 3 tI 8 (t 153) (t 155))<|
 o 157 (.nilc (t 149))<|
 o 158 (.fldA 3 lI (t 157))<|
.op none (.store lI (t 158) (t 156))<|
.nil)) (.seq (.region (
 o 159 (m 17)<|
 o 160 (m 2)<|
 o 161 (.bin .geq (t 159) (t 160))<|
 o 162 (m 161)<|
.gb 162 false (
 o 163 (m 3)<|
 o 164 (.load pI (t 16))<|
 o 165 (.callp false N_dfa_Witness_1_dpp (t 163) [(.d pI, .tm 164)] q_dfa_Witness_1_dpp)<|
.nil) tB (t 165) yT 166 <|
.nil)) (.cond (t 166) (.seq (.region (
 o 167 (m 10)<|
 o 8 (m 167)<|
 o 9 (.mv yT)<|
.nil)) (.adj [.sel [0, 1, 2, 3, 4] [8, 9]] .ret)) (.after .skip [.sel [0, 1, 2, 3, 4, 5, 6] [2, 3, 4, 5, 10, 11, 12, 13, 14, 17, 69, 70, 71]])))))))) (.after .skip [.sel [0, 1, 2, 3, 4, 5, 6] [2, 3, 4, 5, 10, 11, 12, 13, 14, 17, 69, 70, 71]])))) (.region (
 o 168 (m 13)<|
 o 169 (m 14)<|
 o 170 (m 17)<|
 o 171 (.idxA tI (t 168) (t 169))<|
.op none (.store tI (t 171) (t 170))<|
.nil))))))) (.region (
 o 172 (.bin .add (t 71) (i 1))<|
 o 71 (m 172)<|
.nil)))))))) (.region (
 o 173 (m 10)<|
 o 174 (m 10)<|
 o 175 (.nilc (t 174))<|
 q 176 4 lL 175<|
 o 178 (m 13)<|
.adj [.freeze 6] <|
 o 179 (.bslice false 22 lI 1 [.tm 178])<|
 o 180 (.append 22 lI 24 (t 177) (t 179))<|
 o 181 (.nilc (t 173))<|
 o 182 (.fldA 4 lL (t 181))<|
.op none (.store lL (t 182) (t 180))<|
.nil))))) (.after (.region (
 o 58 (m 12)<|
 o 59 (.bin .add (t 58) (i 1))<|
 o 12 (m 59)<|
.nil)) [.sel [0, 1, 2, 3, 4, 5] [2, 3, 4, 5, 10, 11, 12]]))))))) (.seq (.region (
 o 183 (m 10)<|
 o 8 (m 183)<|
 o 9 (.mv yF)<|
.nil)) .ret)))))), [.tm 8, .tm 9], 184, q_dfa_multiply_dddf, 0⟩
def L_dfa_multiply_dddf_0 (O : Oracle) (n : Nat) (a : TD) (b : TD) (most : Int) (stop : TD) (stop1 : TD) (s : (Int × (List Int) × (List (Int × (Int × Unit))) × (List Int) × (List Int) × (List (List Int)) × (List ((Int × (Int × Unit)) × Int)) × Unit)) (v6 : (Int × (List Int) × (List (Int × (Int × Unit))) × (List Int) × (List Int) × (List (List Int)) × (List ((Int × (Int × Unit)) × Int)) × (List Int) × Unit)) : Option ((Int × (List Int) × (List (Int × (Int × Unit))) × (List Int) × (List Int) × (List (List Int)) × (List ((Int × (Int × Unit)) × Int)) × (List Int) × Unit) ⊕ (Bool × (List Int) × (List (Int × (Int × Unit))) × (List Int) × (List Int) × (List (List Int)) × Unit) ⊕ ((List Int) × (List (Int × (Int × Unit))) × (List Int) × (List Int) × (List (List Int)) × (List ((Int × (Int × Unit)) × Int)) × (List Int) × Unit)) :=
 bif decide (v6.1 < (s.2.1.length : Int)) then
 Option.bind (getI s.2.1 v6.1) fun v7 =>
 Option.bind (getI v6.2.2.1 s.1) fun _ =>
 Option.bind v6.2.2.1[Int.toNat s.1]? fun v8 =>
 Option.bind (getI a.2.1 v8.1) fun v9 =>
 Option.bind (callR O N_dfa_class [.d (.list tI) a.1, .d tI v7] [] q_dfa_class) fun v10 =>
 Option.bind (getI v9 v10.1) fun v11 =>
 Option.bind (getI v6.2.2.1 s.1) fun _ =>
 Option.bind v6.2.2.1[Int.toNat s.1]? fun v12 =>
 Option.bind (getI b.2.1 v12.2.1) fun v13 =>
 Option.bind (callR O N_dfa_class [.d (.list tI) b.1, .d tI v7] [] q_dfa_class) fun v14 =>
 Option.bind (getI v13 v14.1) fun v15 =>
 Option.bind (
 bif (!(kvGet (pr [tI, tI]) tI v6.2.2.2.2.2.2.1 ((v11, v15, ()))).isSome) then
 guardB (decide ((v6.2.2.2.2.2.2.1).length < maxLen)) (
 let v16 := kvSet (pr [tI, tI]) tI v6.2.2.2.2.2.2.1 ((v11, v15, ())) (v6.2.2.1.length : Int)
 guardB (decide ((v6.2.2.1.length + (([(v11, v15, ())] : List (Int × (Int × Unit)))).length) * 16 ≤ 140737488355328)) (
 guardB (decide ((v6.2.2.2.1.length + ([s.1] : List Int).length) * 8 ≤ 140737488355328)) (
 guardB (decide ((v6.2.2.2.2.1.length + ([v7] : List Int).length) * 8 ≤ 140737488355328)) (
 Option.bind (bif decide ((v6.2.2.1.length : Int) ≥ most) then some (true) else
 Option.bind (callR O N_dfa_Witness_1_dpp [.d (pr [tI, tI]) ((v11, v15, ())), .dp (pr [(.list tI), (.list (.list tI)), (.list tB), tI]) stop, .dp (pr [(.list tI), (.list (.list tI)), (.list tB), tI]) stop1] [] q_dfa_Witness_1_dpp) fun v17 =>
 some (v17.1)) fun v18 =>
 bif v18 then
 some (.inr ((true, v6.2.1, v6.2.2.1 ++ (([(v11, v15, ())] : List (Int × (Int × Unit)))), v6.2.2.2.1 ++ ([s.1] : List Int), v6.2.2.2.2.1 ++ ([v7] : List Int), v6.2.2.2.2.2.1, ())))
else
 some (.inl (((v6.2.2.1.length : Int), v6.2.1, v6.2.2.1 ++ (([(v11, v15, ())] : List (Int × (Int × Unit)))), v6.2.2.2.1 ++ ([s.1] : List Int), v6.2.2.2.2.1 ++ ([v7] : List Int), v6.2.2.2.2.2.1, v16, v6.2.2.2.2.2.2.2.1, ())))))))
else
 some (.inl (((kvGet (pr [tI, tI]) tI v6.2.2.2.2.2.2.1 ((v11, v15, ()))).getD (Ty.zero tI), v6.2.1, v6.2.2.1, v6.2.2.2.1, v6.2.2.2.2.1, v6.2.2.2.2.2.1, v6.2.2.2.2.2.2.1, v6.2.2.2.2.2.2.2.1, ())))) fun (v19 : (Int × (List Int) × (List (Int × (Int × Unit))) × (List Int) × (List Int) × (List (List Int)) × (List ((Int × (Int × Unit)) × Int)) × (List Int) × Unit) ⊕ (Bool × (List Int) × (List (Int × (Int × Unit))) × (List Int) × (List Int) × (List (List Int)) × Unit)) =>
 Sum.elim (fun v20 =>
 Option.bind (getI v20.2.2.2.2.2.2.2.1 v6.1) fun _ =>
 Option.bind v20.2.2.2.2.2.2.2.1[Int.toNat v6.1]? fun v21 =>
 some (.inl (IntKind.wrap .i64 (v6.1 + (1 : Int)), v20.2.1, v20.2.2.1, v20.2.2.2.1, v20.2.2.2.2.1, v20.2.2.2.2.2.1, v20.2.2.2.2.2.2.1, v20.2.2.2.2.2.2.2.1.set (Int.toNat v6.1) v20.1, ()))) (fun v22 =>
 some (.inr (.inl ((v22.1, v22.2.1, v22.2.2.1, v22.2.2.2.1, v22.2.2.2.2.1, v22.2.2.2.2.2.1, ()))))) v19
else
 some (.inr (.inr ((v6.2.1, v6.2.2.1, v6.2.2.2.1, v6.2.2.2.2.1, v6.2.2.2.2.2.1, v6.2.2.2.2.2.2.1, v6.2.2.2.2.2.2.2.1, ()))))
def L_dfa_multiply_dddf_1 (O : Oracle) (n : Nat) (a : TD) (b : TD) (most : Int) (stop : TD) (stop1 : TD) (s : (Int × (List Int) × (List (Int × (Int × Unit))) × (List Int) × (List Int) × (List (List Int)) × (List ((Int × (Int × Unit)) × Int)) × Unit)) : Option ((Int × (List Int) × (List (Int × (Int × Unit))) × (List Int) × (List Int) × (List (List Int)) × (List ((Int × (Int × Unit)) × Int)) × Unit) ⊕ (Bool × (List Int) × (List (Int × (Int × Unit))) × (List Int) × (List Int) × (List (List Int)) × Unit) ⊕ ((List Int) × (List (Int × (Int × Unit))) × (List Int) × (List Int) × (List (List Int)) × Unit)) :=
 bif decide (s.1 < (s.2.2.1.length : Int)) then
 guardB (decide (0 ≤ (s.2.1.length : Int)) && decide ((s.2.1.length : Int) ≤ (s.2.1.length : Int)) && decide ((s.2.1.length : Int) ≤ 9223372036854775807) && decide (8 * (s.2.1.length : Int) ≤ 281474976710656)) (
 Option.bind (loopN n (L_dfa_multiply_dddf_0 O n a b most stop stop1 s) ((0 : Int), s.2.1, s.2.2.1, s.2.2.2.1, s.2.2.2.2.1, s.2.2.2.2.2.1, s.2.2.2.2.2.2.1, List.replicate (Int.toNat (s.2.1.length : Int)) (Ty.zero tI), ())) fun (v23 : (Bool × (List Int) × (List (Int × (Int × Unit))) × (List Int) × (List Int) × (List (List Int)) × Unit) ⊕ ((List Int) × (List (Int × (Int × Unit))) × (List Int) × (List Int) × (List (List Int)) × (List ((Int × (Int × Unit)) × Int)) × (List Int) × Unit)) =>
 Sum.elim (fun v24 =>
 some (.inr (.inl ((v24.1, v24.2.1, v24.2.2.1, v24.2.2.2.1, v24.2.2.2.2.1, v24.2.2.2.2.2.1, ()))))) (fun v25 =>
 guardB (decide ((v25.2.2.2.2.1.length + (([v25.2.2.2.2.2.2.1] : List (List Int))).length) * 24 ≤ 140737488355328)) (
 some (.inl (IntKind.wrap .i64 (s.1 + (1 : Int)), v25.1, v25.2.1, v25.2.2.1, v25.2.2.2.1, v25.2.2.2.2.1 ++ (([v25.2.2.2.2.2.2.1] : List (List Int))), v25.2.2.2.2.2.1, ())))) v23)
else
 some (.inr (.inr ((s.2.1, s.2.2.1, s.2.2.2.1, s.2.2.2.2.1, s.2.2.2.2.2.1, ()))))
def G_dfa_multiply_dddf (O : Oracle) (n : Nat) (a : TD) (b : TD) (most : Int) (stop : TD) (stop1 : TD) : Option (Option S) :=
 Option.bind (callR O N_dfa_merge [.d (.list tI) a.1, .d (.list tI) b.1] [] q_dfa_merge) fun v =>
 Option.bind (getI (([(a.2.2.2.1, b.2.2.2)] : List (Int × (Int × Unit)))) (0 : Int)) fun _ =>
 Option.bind (([(a.2.2.2.1, b.2.2.2)] : List (Int × (Int × Unit))))[Int.toNat (0 : Int)]? fun v1 =>
 guardB (decide ((([] : List ((Int × (Int × Unit)) × Int))).length < maxLen)) (
 let v2 := kvSet (pr [tI, tI]) tI (([] : List ((Int × (Int × Unit)) × Int))) v1 (0 : Int)
 Option.bind (getI (([(a.2.2.2.1, b.2.2.2)] : List (Int × (Int × Unit)))) (0 : Int)) fun _ =>
 Option.bind (([(a.2.2.2.1, b.2.2.2)] : List (Int × (Int × Unit))))[Int.toNat (0 : Int)]? fun v3 =>
 Option.bind (callR O N_dfa_Witness_1_dpp [.d (pr [tI, tI]) v3, .dp (pr [(.list tI), (.list (.list tI)), (.list tB), tI]) stop, .dp (pr [(.list tI), (.list (.list tI)), (.list tB), tI]) stop1] [] q_dfa_Witness_1_dpp) fun v4 =>
 bif v4.1 then
 retQ q_dfa_multiply_dddf (true, v.1, ([(a.2.2.2.1, b.2.2.2)] : List (Int × (Int × Unit))), ([(-1 : Int)] : List Int), ([(0 : Int)] : List Int), ([] : List (List Int)), ())
else
 Option.bind (loopN n (L_dfa_multiply_dddf_1 O n a b most stop stop1) ((0 : Int), v.1, ([(a.2.2.2.1, b.2.2.2)] : List (Int × (Int × Unit))), ([(-1 : Int)] : List Int), ([(0 : Int)] : List Int), ([] : List (List Int)), v2, ())) fun (v26 : (Bool × (List Int) × (List (Int × (Int × Unit))) × (List Int) × (List Int) × (List (List Int)) × Unit) ⊕ ((List Int) × (List (Int × (Int × Unit))) × (List Int) × (List Int) × (List (List Int)) × Unit)) =>
 Sum.elim (fun v27 =>
 retQ q_dfa_multiply_dddf (v27.1, v27.2.1, v27.2.2.1, v27.2.2.2.1, v27.2.2.2.2.1, v27.2.2.2.2.2.1, ())) (fun v28 =>
 retQ q_dfa_multiply_dddf (false, v28.1, v28.2.1, v28.2.2.1, v28.2.2.2.1, v28.2.2.2.2.1, ())) v26)
theorem x_dfa_multiply_dddf (O : Oracle) (n : Nat) (a : ((List Int) × ((List (List Int)) × ((List Bool) × (Int × Unit))))) (b : ((List Int) × ((List (List Int)) × ((List Bool) × (Int × Unit))))) (most : Int) (stop : ((List Int) × ((List (List Int)) × ((List Bool) × (Int × Unit))))) (stop1 : ((List Int) × ((List (List Int)) × ((List Bool) × (Int × Unit))))) : evF1 O n f_dfa_multiply_dddf [.d (pr [(.list tI), (.list (.list tI)), (.list tB), tI]) a, .d (pr [(.list tI), (.list (.list tI)), (.list tB), tI]) b, .d tI most, .fnD F_dfa_Witness_1 [⟨(pr [(.list tI), (.list (.list tI)), (.list tB), tI]), stop⟩, ⟨(pr [(.list tI), (.list (.list tI)), (.list tB), tI]), stop1⟩]] [] = G_dfa_multiply_dddf O n a b most stop stop1 := by kernel_rfl
def q_dfa_Witness : Sh := ⟨[], ⟨[], []⟩, [.tm 0 (.list tI), .tm 1 tB]⟩
def f_dfa_Witness : TF := ⟨(.seq (.region (
 o 2 (.boxD 26 pD (t 0))<|
 o 3 (.boxD 26 pD (t 1))<|
 o 4 (.mv (.nil tI))<|
 o 5 (.mv yF)<|
.nil)) (.seq (.seq (.region (
 o 13 (.load pD (t 2))<|
 o 14 (.call false N_dfa_Check [(.d pD, .tm 13)] q_dfa_Check)<|
 o 15 (.bin .neq (t 14) (i 0))<|
 o 16 (m 15)<|
.gb 16 false (
 o 17 (.load pD (t 3))<|
 o 18 (.call false N_dfa_Check [(.d pD, .tm 17)] q_dfa_Check)<|
 o 19 (.bin .neq (t 18) (i 0))<|
.nil) tB (t 19) yT 20 <|
.nil)) (.cond (t 20) (.seq (.region (
 o 4 (.mv (.nil tI))<|
 o 5 (.mv yF)<|
.nil)) .ret) .skip)) (.seq (.region (
 o 22 (.load pD (t 2))<|
 o 23 (.load pD (t 3))<|
 q 24 1 lL 2<|
 o 26 (.len false (t 25))<|
 q 27 1 lL 3<|
 o 29 (.len false (t 28))<|
 o 30 (.bin .mul (t 26) (t 29))<|
 o 31 (.mkfn F_dfa_Witness_1 [.tm 2, .tm 3])<|
 o 32 (.callA false false [] N_dfa_multiply_dddf [(.d pD, .tm 22), (.d pD, .tm 23), (.d tI, .tm 30), (.x, .tm 31)] q_dfa_multiply_dddf)<|
 o 21 (m 32)<|
 o 33 (.ext (t 21) 0)<|
 o 34 (.ext (t 21) 1)<|
 o 6 (m 33)<|
 o 7 (m 34)<|
.nil)) (.seq (.seq (.region (
 o 35 (m 7)<|
 o 36 (.un .not (t 35))<|
.nil)) (.cond (t 36) (.seq (.region (
 o 4 (.mv (.nil tI))<|
 o 5 (.mv yF)<|
.nil)) .ret) .skip)) (.seq (.region (
 o 8 (.mv (.nil tI))<|
.nil)) (.seq (.seq (.region (
 o 37 (m 6)<|
 o 38 (.nilc (t 37))<|
 o 39 (.fldA 1 (.list pI) (t 38))<|
 o 40 (.load (.list pI) (t 39))<|
 o 41 (.len false (t 40))<|
 o 42 (.bin .sub (t 41) (i 1))<|
 o 9 (m 42)<|
.nil)) (.block 0 (.adj [.adopt 8 3 tI] (.loop ⟨[], ⟨[(6, .ptr 0 0), (8, .sl 5)], [.box T_str_dfa_product [.any, .sl 1, .sl 2, .sl 3, .sl 4], .vec T_str_dfa_pair pI [], .vec T_i64 tI [], .vec T_i64 tI [], .vec T_sl_i64 lI [], .vec T_i64 tI []]⟩, [.tm 9 tI, .cell 0 0 lI, .vec 1 73 pI, .vec 2 3 tI, .vec 3 3 tI, .vec 4 22 lI, .vec 5 3 tI]⟩ [(3, ⟨[], ⟨[(8, .sl 0)], [.vec T_i64 tI []]⟩, [.vec 0 3 tI]⟩)] (.seq (.seq (.region (
 o 43 (m 6)<|
 o 44 (.nilc (t 43))<|
 q 45 2 lI 44<|
 o 47 (m 9)<|
 o 48 (.idxA tI (t 46) (t 47))<|
 o 49 (.load tI (t 48))<|
 o 50 (.bin .geq (t 49) (i 0))<|
.nil)) (.cond (t 50) .skip (.adj [.sel [5] [8]] (.exit 0)))) (.seq (.block 1 (.region (
 o 58 (m 8)<|
 o 59 (m 6)<|
 o 60 (.nilc (t 59))<|
 q 61 3 lI 60<|
 o 63 (m 9)<|
 o 64 (.idxA tI (t 62) (t 63))<|
 o 65 (.load tI (t 64))<|
 o 66 (.bslice false 3 tI 1 [.tm 65])<|
 o 67 (.append 3 tI 8 (t 58) (t 66))<|
 o 8 (m 67)<|
.nil))) (.region (
 o 51 (m 6)<|
 o 52 (.nilc (t 51))<|
 q 53 2 lI 52<|
 o 55 (m 9)<|
 o 56 (.idxA tI (t 54) (t 55))<|
 o 57 (.load tI (t 56))<|
 o 9 (m 57)<|
.nil)))))))) (.seq (.region (
 o 68 (m 8)<|
 o 69 (.len false (t 68))<|
 o 70 (.mslice 3 tI 8 (t 69) (t 69))<|
 o 10 (m 70)<|
.nil)) (.seq (.seq (.region (
 o 71 (m 8)<|
 o 72 (.len false (t 71))<|
 o 73 (.mv (i 0))<|
.nil)) (.block 2 (.loop ⟨[72], ⟨[(8, .sl 0), (10, .sl 1), (71, .sl 0)], [.vec T_i64 tI [], .vec T_i64 tI []]⟩, [.tm 73 tI, .vec 0 3 tI, .vec 1 3 tI]⟩ [(5, ⟨[], ⟨[(10, .sl 0)], [.vec T_i64 tI []]⟩, [.vec 0 3 tI]⟩)] (.seq (.region (
 o 74 (.bin .lss (t 73) (t 72))<|
.nil)) (.seq (.cond (t 74) .skip (.adj [.sel [1] [10]] (.exit 2))) (.seq (.block 3 (.seq (.region (
 o 75 (m 73)<|
 o 76 (.idxA tI (t 71) (t 73))<|
 o 77 (.load tI (t 76))<|
 o 11 (m 75)<|
 o 12 (m 77)<|
.nil)) (.region (
 o 78 (m 10)<|
 o 79 (m 8)<|
 o 80 (.len false (t 79))<|
 o 81 (.bin .sub (t 80) (i 1))<|
 o 82 (m 11)<|
 o 83 (.bin .sub (t 81) (t 82))<|
 o 84 (m 12)<|
 o 85 (.idxA tI (t 78) (t 83))<|
.op none (.store tI (t 85) (t 84))<|
.nil)))) (.region (
 o 86 (.bin .add (t 73) (i 1))<|
 o 73 (m 86)<|
.nil)))))))) (.seq (.region (
 o 87 (m 10)<|
 o 4 (m 87)<|
 o 5 (.mv yT)<|
.nil)) (.adj [.freeze 0] .ret)))))))))), [.tm 4, .tm 5], 88, q_dfa_Witness, 0⟩
def L_dfa_Witness_0 (O : Oracle) (n : Nat) (s : (Int × (List Int) × (List (Int × (Int × Unit))) × (List Int) × (List Int) × (List (List Int)) × (List Int) × Unit)) : Option ((Int × (List Int) × (List (Int × (Int × Unit))) × (List Int) × (List Int) × (List (List Int)) × (List Int) × Unit) ⊕ ((List Int) × Unit)) :=
 Option.bind (getI s.2.2.2.1 s.1) fun _ =>
 Option.bind s.2.2.2.1[Int.toNat s.1]? fun v5 =>
 bif decide (v5 ≥ (0 : Int)) then
 Option.bind (getI s.2.2.2.2.1 s.1) fun _ =>
 Option.bind s.2.2.2.2.1[Int.toNat s.1]? fun v6 =>
 guardB (decide ((s.2.2.2.2.2.2.1.length + ([v6] : List Int).length) * 8 ≤ 140737488355328)) (
 Option.bind (getI s.2.2.2.1 s.1) fun _ =>
 Option.bind s.2.2.2.1[Int.toNat s.1]? fun v7 =>
 some (.inl (v7, s.2.1, s.2.2.1, s.2.2.2.1, s.2.2.2.2.1, s.2.2.2.2.2.1, s.2.2.2.2.2.2.1 ++ ([v6] : List Int), ())))
else
 some (.inr ((s.2.2.2.2.2.2.1, ())))
def L_dfa_Witness_1 (O : Oracle) (n : Nat) (v8 : ((List Int) × Unit)) (v9 : (Int × (List Int) × (List Int) × Unit)) : Option ((Int × (List Int) × (List Int) × Unit) ⊕ ((List Int) × Unit)) :=
 bif decide (v9.1 < (v8.1.length : Int)) then
 Option.bind (getI v9.2.1 v9.1) fun _ =>
 Option.bind v9.2.1[Int.toNat v9.1]? fun v10 =>
 let v11 := IntKind.wrap .i64 ((IntKind.wrap .i64 ((v9.2.1.length : Int) - (1 : Int))) - v9.1)
 Option.bind (getI v9.2.2.1 v11) fun _ =>
 Option.bind v9.2.2.1[Int.toNat v11]? fun v12 =>
 some (.inl (IntKind.wrap .i64 (v9.1 + (1 : Int)), v9.2.1, v9.2.2.1.set (Int.toNat v11) v10, ()))
else
 some (.inr ((v9.2.2.1, ())))
def G_dfa_Witness (O : Oracle) (n : Nat) (a : TD) (b : TD) : Option (Option S) :=
 Option.bind (callR O N_dfa_Check [.d (pr [(.list tI), (.list (.list tI)), (.list tB), tI]) a] [] q_dfa_Check) fun v =>
 Option.bind (bif (v.1 != (0 : Int)) then some (true) else
 Option.bind (callR O N_dfa_Check [.d (pr [(.list tI), (.list (.list tI)), (.list tB), tI]) b] [] q_dfa_Check) fun v1 =>
 some ((v1.1 != (0 : Int)))) fun v2 =>
 bif v2 then
 retQ q_dfa_Witness (([] : List Int), false, ())
else
 Option.bind (callR O N_dfa_multiply_dddf [.d (pr [(.list tI), (.list (.list tI)), (.list tB), tI]) a, .d (pr [(.list tI), (.list (.list tI)), (.list tB), tI]) b, .d tI (IntKind.wrap .i64 ((a.2.1.length : Int) * (b.2.1.length : Int))), .fnD F_dfa_Witness_1 [⟨(pr [(.list tI), (.list (.list tI)), (.list tB), tI]), a⟩, ⟨(pr [(.list tI), (.list (.list tI)), (.list tB), tI]), b⟩]] [] q_dfa_multiply_dddf) fun v3 =>
 bif (!v3.1) then
 retQ q_dfa_Witness (([] : List Int), false, ())
else
 Option.bind (loopN n (L_dfa_Witness_0 O n) (IntKind.wrap .i64 ((v3.2.2.1.length : Int) - (1 : Int)), v3.2.1, v3.2.2.1, v3.2.2.2.1, v3.2.2.2.2.1, v3.2.2.2.2.2.1, ([] : List Int), ())) fun (v8 : ((List Int) × Unit)) =>
 guardB (decide (0 ≤ (v8.1.length : Int)) && decide ((v8.1.length : Int) ≤ (v8.1.length : Int)) && decide ((v8.1.length : Int) ≤ 9223372036854775807) && decide (8 * (v8.1.length : Int) ≤ 281474976710656)) (
 Option.bind (loopN n (L_dfa_Witness_1 O n v8) ((0 : Int), v8.1, List.replicate (Int.toNat (v8.1.length : Int)) (Ty.zero tI), ())) fun (v13 : ((List Int) × Unit)) =>
 retQ q_dfa_Witness (v13.1, true, ()))
theorem x_dfa_Witness (O : Oracle) (n : Nat) (a : ((List Int) × ((List (List Int)) × ((List Bool) × (Int × Unit))))) (b : ((List Int) × ((List (List Int)) × ((List Bool) × (Int × Unit))))) : evF1 O n f_dfa_Witness [.d (pr [(.list tI), (.list (.list tI)), (.list tB), tI]) a, .d (pr [(.list tI), (.list (.list tI)), (.list tB), tI]) b] [] = G_dfa_Witness O n a b := by kernel_rfl
def q_dfa_Not : Sh := ⟨[], ⟨[], []⟩, [.tm 0 (pr [(.list tI), (.list (.list tI)), (.list tB), tI])]⟩
def f_dfa_Not : TF := ⟨(.seq (.region (
 o 1 (.boxD 26 pD (t 0))<|
 o 2 (.alloc 26 [.nil tI, .nil lI, .nil tB, .d tI (0 : Int)])<|
.nil)) (.seq (.seq (.region (
 o 6 (.load pD (t 1))<|
 o 7 (.call false N_dfa_Check [(.d pD, .tm 6)] q_dfa_Check)<|
 o 8 (.bin .neq (t 7) (i 0))<|
.nil)) (.cond (t 8) (.seq (.region (
 o 9 (.build [.nil tI, .nil lI, .nil tB, .d tI (0 : Int)] [])<|
.op none (.store pD (t 2) (t 9))<|
.nil)) .ret) .skip)) (.seq (.draw2 1 [
 mkPO 0 true [] (some 10) (.bsliceF 3 tI 0 []),
 mkPO 1 true [0] (some 11) (.fldA 0 lI (t 1)),
 mkPO 2 true [0] (some 12) (.load lI (t 11)),
 mkPO 3 true [] (some 13) (.appD 3 tI 8 (t 10) (t 12)),
 mkPO 4 true [0, 1, 2, 3] (some 14) (.fldA 3 tI (t 1)),
 mkPO 5 true [0, 1, 2, 3] (some 15) (.load tI (t 14)),
 mkPO 6 true [] (some 16) (.build [.nil tI, .nil lI, .nil tB, .d tI (0 : Int)] [(0, 1, .tm 13), (3, 1, .tm 15)]),
 mkPO 7 true [0, 1, 2, 3, 4, 5, 6] (some 3) (.atq 1 (.alloc 26 [.nil tI, .nil lI, .nil tB, .d tI (0 : Int)]))] (
.op none (.store pD (t 3) (t 16))<|
.nil) [[], [], [1], [0, 2], [], [4], [3, 5], [], [7, 6, 3, 0, 1, 2, 3, 4, 5, 6, 7]]) (.seq (.seq (.region (
 q 17 1 lL 1<|
 o 19 (.len false (t 18))<|
 o 20 (.mv (i 0))<|
.nil)) (.block 0 (.adj [.adoptC 1 1 22 lI, .adoptC 1 2 4 tB] (.loop ⟨[1, 18, 19], ⟨[(2, .ptr 0 0), (3, .ptr 1 0)], [.box T_str_api_DFA [.nil tI, .nil lI, .nil tB, .any], .box T_str_api_DFA [.any, .sl 2, .sl 3, .any], .vec T_sl_i64 lI [], .vec T_bool tB []]⟩, [.tm 20 tI, .cell 0 3 tI, .cell 1 0 lI, .cell 1 3 tI, .vec 2 22 lI, .vec 3 4 tB]⟩ [(3, ⟨[], ⟨[(2, .ptr 0 0), (3, .ptr 1 0)], [.box T_str_api_DFA [.nil tI, .nil lI, .nil tB, .any], .box T_str_api_DFA [.any, .sl 2, .sl 3, .any], .vec T_sl_i64 lI [], .vec T_bool tB []]⟩, [.cell 0 3 tI, .cell 1 0 lI, .cell 1 3 tI, .vec 2 22 lI, .vec 3 4 tB]⟩)] (.seq (.region (
 o 21 (.bin .lss (t 20) (t 19))<|
.nil)) (.seq (.cond (t 21) .skip (.exit 0)) (.seq (.block 1 (.seq (.region (
 o 22 (m 20)<|
 o 23 (.idxA lI (t 18) (t 20))<|
 o 24 (.load lI (t 23))<|
 o 4 (m 22)<|
 o 5 (m 24)<|
.nil)) (.seq (.draw2 0 [
 mkPO 0 true [] (some 25) (.fldA 1 lL (t 3)),
 mkPO 1 true [] (some 26) (.load lL (t 25)),
 mkPO 2 true [0, 1] (some 27) (.bsliceF 3 tI 0 []),
 mkPO 3 true [0, 1, 2] (some 28) (m 5),
 mkPO 4 true [0, 1] (some 29) (.appD 3 tI 8 (t 27) (t 28)),
 mkPO 5 true [0, 1] (some 30) (.bslice false 22 lI 1 [.tm 29])] (
 o 31 (.append 22 lI 24 (t 26) (t 30))<|
 o 32 (.fldA 1 lL (t 3))<|
.op none (.store lL (t 32) (t 31))<|
.nil) [[], [0], [], [], [2, 3], [4], [1, 5, 4], [0, 1, 2, 3, 4, 5, 6], [7, 6, 6, 0, 1, 2, 3, 4, 5, 6]]) (.draw 9 (
 q 33 2 lB 3<|
 q 35 2 lB 1<|
 o 37 (m 4)<|
 o 38 (.idxA tB (t 36) (t 37))<|
 o 39 (.load tB (t 38))<|
 o 40 (.un .not (t 39))<|
 o 41 (.bslice false 4 tB 1 [.tm 40])<|
 o 42 (.append 4 tB 1 (t 34) (t 41))<|
 o 43 (.fldA 2 lB (t 3))<|
.op none (.store lB (t 43) (t 42))<|
.nil) [[], [0], [], [2], [], [3, 4], [5], [6], [7], [1, 8], [0, 1, 2, 3, 4, 5, 6, 7, 8, 9], [10, 9, 9, 0, 1, 2, 3, 4, 5, 6, 7, 8, 9]])))) (.region (
 o 44 (.bin .add (t 20) (i 1))<|
 o 20 (m 44)<|
.nil))))))))) (.seq (.region (
 o 45 (.load pD (t 3))<|
.op none (.store pD (t 2) (t 45))<|
.nil)) (.adj [.freeze 2, .freeze 3] .ret)))))), [.cell 2 pD], 46, q_dfa_Not, 0⟩
def q_dfa_Both_1 : Sh := ⟨[], ⟨[], []⟩, [.tm 0 tB]⟩
def f_dfa_Both_1 : TF := ⟨(.seq (.region (
 o 1 (.boxD 73 pI (t 0))<|
 o 2 (.mv yF)<|
.nil)) (.seq (.region (
 o 2 (.mv yF)<|
.nil)) .ret)), [.tm 2], 3, q_dfa_Both_1, 0⟩
end Go.Proofs.Ytbpdbooalkkenaa
