/-
  THE LOADED FUNCTIONS AS TYPED CODE AND AS PLAIN FUNCTIONS, printed by program; each pair held by the kernel.
-/
import Derived.Test.YtbpdbooalkkenaaHTG2
set_option linter.unusedVariables false
set_option linter.unusedSimpArgs false
namespace Go.Proofs.Ytbpdbooalkkenaa
open Go Go.Av Go.Ev
def q_law16_Large : Sh := ⟨[], ⟨[], []⟩, [.tm 0 tB]⟩
def f_law16_Large : TF := ⟨(.seq (.region (
.op (some 1) (.boxD 26 (pr [(.list tI), (.list (.list tI)), (.list tB), tI]) (.tm 0)) <|
.op (some 2) (.mv (.k tB false)) <|
.nil)) (.seq (.seq (.region (
.op (some 5) (.fldA 1 (.list (.list tI)) (.tm 1)) <|
.op (some 6) (.load (.list (.list tI)) (.tm 5)) <|
.op (some 7) (.len false (.tm 6)) <|
.op (some 8) (.bin .gtr (.tm 7) (.k tI (60 : Int))) <|
.op (some 9) (.mv (.tm 8)) <|
.gb 9 false (
.op (some 10) (.fldA 2 (.list tB) (.tm 1)) <|
.op (some 11) (.load (.list tB) (.tm 10)) <|
.op (some 12) (.len false (.tm 11)) <|
.op (some 13) (.bin .gtr (.tm 12) (.k tI (60 : Int))) <|
.nil) tB (.tm 13) (.k tB true) 14 <|
.op (some 15) (.mv (.tm 14)) <|
.gb 15 false (
.op (some 16) (.fldA 0 (.list tI) (.tm 1)) <|
.op (some 17) (.load (.list tI) (.tm 16)) <|
.op (some 18) (.len false (.tm 17)) <|
.op (some 19) (.bin .gtr (.tm 18) (.k tI (60 : Int))) <|
.nil) tB (.tm 19) (.k tB true) 20 <|
.nil)) (.cond (.tm 20) (.seq (.region (
.op (some 2) (.mv (.k tB true)) <|
.nil)) .ret) .skip)) (.seq (.seq (.region (
.op (some 21) (.fldA 1 (.list (.list tI)) (.tm 1)) <|
.op (some 22) (.load (.list (.list tI)) (.tm 21)) <|
.op (some 23) (.len false (.tm 22)) <|
.op (some 24) (.mv (.k tI (0 : Int))) <|
.nil)) (.block 0 (.loop ⟨[22, 23], ⟨[], []⟩, [.tm 24 tI]⟩ [(1, ⟨[], ⟨[], []⟩, [.tm 2 tB]⟩), (3, ⟨[], ⟨[], []⟩, []⟩)] (.seq (.region (
.op (some 25) (.bin .lss (.tm 24) (.tm 23)) <|
.nil)) (.seq (.cond (.tm 25) .skip (.exit 0)) (.seq (.block 1 (.seq (.region (
.op (some 26) (.idxA (.list tI) (.tm 22) (.tm 24)) <|
.op (some 27) (.load (.list tI) (.tm 26)) <|
.op (some 4) (.mv (.tm 27)) <|
.nil)) (.seq (.region (
.op (some 28) (.mv (.tm 4)) <|
.op (some 29) (.len false (.tm 28)) <|
.op (some 30) (.bin .gtr (.tm 29) (.k tI (60 : Int))) <|
.nil)) (.cond (.tm 30) (.seq (.region (
.op (some 2) (.mv (.k tB true)) <|
.nil)) .ret) .skip)))) (.region (
.op (some 31) (.bin .add (.tm 24) (.k tI (1 : Int))) <|
.op (some 24) (.mv (.tm 31)) <|
.nil)))))))) (.seq (.region (
.op (some 2) (.mv (.k tB false)) <|
.nil)) .ret)))), [.tm 2], 32, q_law16_Large, 0⟩
def L_law16_Large_0 (O : Oracle) (n : Nat) (d : ((List Int) × ((List (List Int)) × ((List Bool) × (Int × Unit))))) (s : (Int × Unit)) : Option ((Int × Unit) ⊕ (Bool × Unit) ⊕ Unit) :=
 bif decide (s.1 < (d.2.1.length : Int)) then
 Option.bind (getI d.2.1 s.1) fun v3 =>
 bif decide ((v3.length : Int) > (60 : Int)) then
 some (.inr (.inl ((true, ()))))
else
 some (.inl (IntKind.wrap .i64 (s.1 + (1 : Int)), ()))
else
 some (.inr (.inr (())))
def G_law16_Large (O : Oracle) (n : Nat) (d : ((List Int) × ((List (List Int)) × ((List Bool) × (Int × Unit))))) : Option (Option S) :=
 Option.bind (bif decide ((d.2.1.length : Int) > (60 : Int)) then some (true) else
 some (decide ((d.2.2.1.length : Int) > (60 : Int)))) fun v =>
 Option.bind (bif v then some (true) else
 some (decide ((d.1.length : Int) > (60 : Int)))) fun v1 =>
 bif v1 then
 retQ q_law16_Large (true, ())
else
 Option.bind (loopN n (L_law16_Large_0 O n d) ((0 : Int), ())) fun (v4 : (Bool × Unit) ⊕ Unit) =>
 Sum.elim (fun v5 =>
 retQ q_law16_Large (v5.1, ())) (fun v6 =>
 retQ q_law16_Large (false, ())) v4
theorem x_law16_Large (O : Oracle) (n : Nat) (d : ((List Int) × ((List (List Int)) × ((List Bool) × (Int × Unit))))) : evF1 O n f_law16_Large [.d (pr [(.list tI), (.list (.list tI)), (.list tB), tI]) d] [] = G_law16_Large O n d := by kernel_rfl
def q_ref16_class : Sh := ⟨[], ⟨[], []⟩, [.tm 0 tI]⟩
def f_ref16_class : TF := ⟨(.seq (.region (
.op (some 4) (.mv (.k tI (0 : Int))) <|
.nil)) (.seq (.region (
.op (some 5) (.mv (.k tI (0 : Int))) <|
.nil)) (.seq (.seq (.region (
.op (some 8) (.mv (.tm 0)) <|
.op (some 9) (.len false (.tm 8)) <|
.op (some 10) (.mv (.k tI (0 : Int))) <|
.nil)) (.block 0 (.loop ⟨[1, 8, 9], ⟨[], []⟩, [.tm 5 tI, .tm 10 tI]⟩ [(3, ⟨[], ⟨[], []⟩, [.tm 5 tI]⟩)] (.seq (.region (
.op (some 11) (.bin .lss (.tm 10) (.tm 9)) <|
.nil)) (.seq (.cond (.tm 11) .skip (.exit 0)) (.seq (.cut [(0, ⟨[1, 8, 9, 10], ⟨[], []⟩, [.tm 5 tI]⟩)] (.block 1 (.seq (.region (
.op (some 12) (.mv (.tm 10)) <|
.op (some 13) (.idxA tI (.tm 8) (.tm 10)) <|
.op (some 14) (.load tI (.tm 13)) <|
.op (some 6) (.mv (.tm 12)) <|
.op (some 7) (.mv (.tm 14)) <|
.nil)) (.seq (.region (
.op (some 15) (.mv (.tm 7)) <|
.op (some 16) (.mv (.tm 1)) <|
.op (some 17) (.bin .leq (.tm 15) (.tm 16)) <|
.nil)) (.cond (.tm 17) (.region (
.op (some 18) (.mv (.tm 6)) <|
.op (some 5) (.mv (.tm 18)) <|
.nil)) .skip))))) (.region (
.op (some 19) (.bin .add (.tm 10) (.k tI (1 : Int))) <|
.op (some 10) (.mv (.tm 19)) <|
.nil)))))))) (.seq (.region (
.op (some 20) (.mv (.tm 5)) <|
.op (some 4) (.mv (.tm 20)) <|
.nil)) .ret)))), [.tm 4], 21, q_ref16_class, 0⟩
def L_ref16_class_0 (O : Oracle) (n : Nat) (starts : (List Int)) (as_ : Int) (s : (Int × Int × Unit)) : Option ((Int × Int × Unit) ⊕ (Int × Unit)) :=
 bif decide (s.2.1 < (starts.length : Int)) then
 Option.bind (
 Option.bind (getI starts s.2.1) fun v1 =>
 bif decide (v1 ≤ as_) then
 some ((s.2.1, ()))
else
 some ((s.1, ()))) fun (v2 : (Int × Unit)) =>
 some (.inl (v2.1, IntKind.wrap .i64 (s.2.1 + (1 : Int)), ()))
else
 some (.inr ((s.1, ())))
def G_ref16_class (O : Oracle) (n : Nat) (starts : (List Int)) (as_ : Int) : Option (Option S) :=
 Option.bind (loopN n (L_ref16_class_0 O n starts as_) ((0 : Int), (0 : Int), ())) fun (v3 : (Int × Unit)) =>
 retQ q_ref16_class (v3.1, ())
theorem x_ref16_class (O : Oracle) (n : Nat) (starts : (List Int)) (as_ : Int) : evF1 O n f_ref16_class [.d (.list tI) starts, .d tI as_] [] = G_ref16_class O n starts as_ := by kernel_rfl
def q_ref16_Match : Sh := ⟨[], ⟨[], []⟩, [.tm 0 tB]⟩
def f_ref16_Match : TF := ⟨(.seq (.region (
.op (some 2) (.boxD 26 (pr [(.list tI), (.list (.list tI)), (.list tB), tI]) (.tm 0)) <|
.op (some 4) (.mv (.k tB false)) <|
.nil)) (.seq (.seq (.region (
.op (some 8) (.load (pr [(.list tI), (.list (.list tI)), (.list tB), tI]) (.tm 2)) <|
.op (some 9) (.call false N_ref16_Check [(.d (pr [(.list tI), (.list (.list tI)), (.list tB), tI]), .tm 8)] q_ref16_Check) <|
.op (some 10) (.bin .neq (.tm 9) (.k tI (0 : Int))) <|
.nil)) (.cond (.tm 10) (.seq (.region (
.op (some 4) (.mv (.k tB false)) <|
.nil)) .ret) .skip)) (.seq (.region (
.op (some 11) (.fldA 3 tI (.tm 2)) <|
.op (some 12) (.load tI (.tm 11)) <|
.op (some 5) (.mv (.tm 12)) <|
.nil)) (.seq (.seq (.region (
.op (some 13) (.mv (.tm 1)) <|
.op (some 14) (.len false (.tm 13)) <|
.op (some 15) (.mv (.k tI (0 : Int))) <|
.nil)) (.block 0 (.loop ⟨[2, 13, 14], ⟨[], []⟩, [.tm 5 tI, .tm 15 tI]⟩ [(1, ⟨[], ⟨[], []⟩, [.tm 4 tB]⟩), (3, ⟨[2], ⟨[], []⟩, [.tm 5 tI]⟩)] (.seq (.region (
.op (some 16) (.bin .lss (.tm 15) (.tm 14)) <|
.nil)) (.seq (.cond (.tm 16) .skip (.exit 0)) (.seq (.block 1 (.seq (.region (
.op (some 17) (.idxA tI (.tm 13) (.tm 15)) <|
.op (some 18) (.load tI (.tm 17)) <|
.op (some 7) (.mv (.tm 18)) <|
.nil)) (.seq (.seq (.region (
.op (some 19) (.mv (.tm 7)) <|
.op (some 20) (.bin .lss (.tm 19) (.k tI (0 : Int))) <|
.op (some 21) (.mv (.tm 20)) <|
.gb 21 false (
.op (some 22) (.mv (.tm 7)) <|
.op (some 23) (.bin .gtr (.tm 22) (.k tI (4294967295 : Int))) <|
.nil) tB (.tm 23) (.k tB true) 24 <|
.nil)) (.cond (.tm 24) (.seq (.region (
.op (some 4) (.mv (.k tB false)) <|
.nil)) .ret) .skip)) (.draw 12 (
.op (some 25) (.fldA 1 (.list (.list tI)) (.tm 2)) <|
.op (some 26) (.load (.list (.list tI)) (.tm 25)) <|
.op (some 27) (.mv (.tm 5)) <|
.op (some 28) (.idxA (.list tI) (.tm 26) (.tm 27)) <|
.op (some 29) (.load (.list tI) (.tm 28)) <|
.op (some 30) (.fldA 0 (.list tI) (.tm 2)) <|
.op (some 31) (.load (.list tI) (.tm 30)) <|
.op (some 32) (.mv (.tm 7)) <|
.op (some 33) (.call false N_ref16_class [(.d (.list tI), .tm 31), (.d tI, .tm 32)] q_ref16_class) <|
.op (some 34) (.idxA tI (.tm 29) (.tm 33)) <|
.op (some 35) (.load tI (.tm 34)) <|
.op (some 5) (.mv (.tm 35)) <|
.nil) [[], [0], [], [1, 2], [3], [], [5], [], [6, 7], [4, 8], [9], [10, 8, 0, 1, 2, 3, 4, 5, 6, 7, 8, 9, 10]])))) (.region (
.op (some 36) (.bin .add (.tm 15) (.k tI (1 : Int))) <|
.op (some 15) (.mv (.tm 36)) <|
.nil)))))))) (.seq (.region (
.op (some 37) (.fldA 2 (.list tB) (.tm 2)) <|
.op (some 38) (.load (.list tB) (.tm 37)) <|
.op (some 39) (.mv (.tm 5)) <|
.op (some 40) (.idxA tB (.tm 38) (.tm 39)) <|
.op (some 41) (.load tB (.tm 40)) <|
.op (some 4) (.mv (.tm 41)) <|
.nil)) .ret))))), [.tm 4], 42, q_ref16_Match, 0⟩
def L_ref16_Match_0 (O : Oracle) (n : Nat) (d : ((List Int) × ((List (List Int)) × ((List Bool) × (Int × Unit))))) (path : (List Int)) (s : (Int × Int × Unit)) : Option ((Int × Int × Unit) ⊕ (Bool × Unit) ⊕ (Int × Unit)) :=
 bif decide (s.2.1 < (path.length : Int)) then
 Option.bind (getI path s.2.1) fun v2 =>
 Option.bind (bif decide (v2 < (0 : Int)) then some (true) else
 some (decide (v2 > (4294967295 : Int)))) fun v3 =>
 bif v3 then
 some (.inr (.inl ((false, ()))))
else
 Option.bind (getI d.2.1 s.1) fun v4 =>
 Option.bind (callR O N_ref16_class [.d (.list tI) d.1, .d tI v2] [] q_ref16_class) fun v5 =>
 Option.bind (getI v4 v5.1) fun v6 =>
 some (.inl (v6, IntKind.wrap .i64 (s.2.1 + (1 : Int)), ()))
else
 some (.inr (.inr ((s.1, ()))))
def G_ref16_Match (O : Oracle) (n : Nat) (d : ((List Int) × ((List (List Int)) × ((List Bool) × (Int × Unit))))) (path : (List Int)) : Option (Option S) :=
 Option.bind (callR O N_ref16_Check [.d (pr [(.list tI), (.list (.list tI)), (.list tB), tI]) d] [] q_ref16_Check) fun v =>
 bif (v.1 != (0 : Int)) then
 retQ q_ref16_Match (false, ())
else
 Option.bind (loopN n (L_ref16_Match_0 O n d path) (d.2.2.2.1, (0 : Int), ())) fun (v7 : (Bool × Unit) ⊕ (Int × Unit)) =>
 Sum.elim (fun v8 =>
 retQ q_ref16_Match (v8.1, ())) (fun v9 =>
 Option.bind (getI d.2.2.1 v9.1) fun v10 =>
 retQ q_ref16_Match (v10, ())) v7
theorem x_ref16_Match (O : Oracle) (n : Nat) (d : ((List Int) × ((List (List Int)) × ((List Bool) × (Int × Unit))))) (path : (List Int)) : evF1 O n f_ref16_Match [.d (pr [(.list tI), (.list (.list tI)), (.list tB), tI]) d, .d (.list tI) path] [] = G_ref16_Match O n d path := by kernel_rfl
def q_law16_DfaMatch : Sh := ⟨[], ⟨[], []⟩, [.tm 0 tB]⟩
def f_law16_DfaMatch : TF := ⟨(.seq (.region (
.op (some 2) (.boxD 26 (pr [(.list tI), (.list (.list tI)), (.list tB), tI]) (.tm 0)) <|
.op (some 4) (.mv (.k tB false)) <|
.nil)) (.seq (.seq (.region (
.op (some 5) (.load (pr [(.list tI), (.list (.list tI)), (.list tB), tI]) (.tm 2)) <|
.op (some 6) (.call false N_law16_Large [(.d (pr [(.list tI), (.list (.list tI)), (.list tB), tI]), .tm 5)] q_law16_Large) <|
.op (some 7) (.mv (.tm 6)) <|
.gb 7 false (
.op (some 8) (.mv (.tm 1)) <|
.op (some 9) (.len false (.tm 8)) <|
.op (some 10) (.bin .gtr (.tm 9) (.k tI (100 : Int))) <|
.nil) tB (.tm 10) (.k tB true) 11 <|
.nil)) (.cond (.tm 11) (.seq (.region (
.op (some 12) (.call false N_law16_awake [] q_law16_awake) <|
.op (some 4) (.mv (.tm 12)) <|
.nil)) .ret) .skip)) (.seq (.draw 11 (
.op (some 13) (.load (pr [(.list tI), (.list (.list tI)), (.list tB), tI]) (.tm 2)) <|
.op (some 14) (.mv (.tm 1)) <|
.op (some 15) (.call false N_dfa_Match [(.d (pr [(.list tI), (.list (.list tI)), (.list tB), tI]), .tm 13), (.d (.list tI), .tm 14)] q_dfa_Match) <|
.op (some 16) (.load (pr [(.list tI), (.list (.list tI)), (.list tB), tI]) (.tm 2)) <|
.op (some 17) (.mv (.tm 1)) <|
.op (some 18) (.call false N_ref16_Match [(.d (pr [(.list tI), (.list (.list tI)), (.list tB), tI]), .tm 16), (.d (.list tI), .tm 17)] q_ref16_Match) <|
.op (some 19) (.eqB false (.tm 15) (.tm 18)) <|
.op (some 20) (.mv (.tm 19)) <|
.gb 20 true (
.op (some 21) (.call false N_law16_awake [] q_law16_awake) <|
.nil) tB (.tm 21) (.k tB false) 22 <|
.op (some 4) (.mv (.tm 22)) <|
.nil) [[], [], [0, 1], [], [], [3, 4, 2], [2, 5], [6, 5], [7, 7], [7, 8], [9, 8, 0, 1, 2, 3, 4, 5, 6, 7, 8, 9]]) .ret))), [.tm 4], 23, q_law16_DfaMatch, 0⟩
def G_law16_DfaMatch (O : Oracle) (n : Nat) (d : ((List Int) × ((List (List Int)) × ((List Bool) × (Int × Unit))))) (path : (List Int)) : Option (Option S) :=
 Option.bind (callR O N_law16_Large [.d (pr [(.list tI), (.list (.list tI)), (.list tB), tI]) d] [] q_law16_Large) fun v =>
 Option.bind (bif v.1 then some (true) else
 some (decide ((path.length : Int) > (100 : Int)))) fun v1 =>
 bif v1 then
 Option.bind (callR O N_law16_awake [] [] q_law16_awake) fun v2 =>
 retQ q_law16_DfaMatch (v2.1, ())
else
 Option.bind (callR O N_dfa_Match [.d (pr [(.list tI), (.list (.list tI)), (.list tB), tI]) d, .d (.list tI) path] [] q_dfa_Match) fun v3 =>
 Option.bind (callR O N_ref16_Match [.d (pr [(.list tI), (.list (.list tI)), (.list tB), tI]) d, .d (.list tI) path] [] q_ref16_Match) fun v4 =>
 Option.bind (bif (false ^^ (v3.1 == v4.1)) then
 Option.bind (callR O N_law16_awake [] [] q_law16_awake) fun v5 =>
 some (v5.1)
else some (false)) fun v6 =>
 retQ q_law16_DfaMatch (v6, ())
theorem x_law16_DfaMatch (O : Oracle) (n : Nat) (d : ((List Int) × ((List (List Int)) × ((List Bool) × (Int × Unit))))) (path : (List Int)) : evF1 O n f_law16_DfaMatch [.d (pr [(.list tI), (.list (.list tI)), (.list tB), tI]) d, .d (.list tI) path] [] = G_law16_DfaMatch O n d path := by kernel_rfl
def q_ref16_Not : Sh := ⟨[], ⟨[], []⟩, [.tm 0 (pr [(.list tI), (.list (.list tI)), (.list tB), tI])]⟩
def f_ref16_Not : TF := ⟨(.seq (.region (
.op (some 1) (.boxD 26 (pr [(.list tI), (.list (.list tI)), (.list tB), tI]) (.tm 0)) <|
.op (some 2) (.alloc 26 [.nil tI, .nil (.list tI), .nil tB, .d tI (0 : Int)]) <|
.nil)) (.seq (.seq (.region (
.op (some 6) (.load (pr [(.list tI), (.list (.list tI)), (.list tB), tI]) (.tm 1)) <|
.op (some 7) (.call false N_ref16_Check [(.d (pr [(.list tI), (.list (.list tI)), (.list tB), tI]), .tm 6)] q_ref16_Check) <|
.op (some 8) (.bin .neq (.tm 7) (.k tI (0 : Int))) <|
.nil)) (.cond (.tm 8) (.seq (.region (
.op (some 9) (.build [.nil tI, .nil (.list tI), .nil tB, .d tI (0 : Int)] []) <|
.op none (.store (pr [(.list tI), (.list (.list tI)), (.list tB), tI]) (.tm 2) (.tm 9)) <|
.nil)) .ret) .skip)) (.seq (.draw2 1 [
 mkPO 0 true [] (some 10) (.bsliceF 3 tI 0 []),
 mkPO 1 true [0] (some 11) (.fldA 0 (.list tI) (.tm 1)),
 mkPO 2 true [0] (some 12) (.load (.list tI) (.tm 11)),
 mkPO 3 true [] (some 13) (.appD 3 tI 8 (.tm 10) (.tm 12)),
 mkPO 4 true [0, 1, 2, 3] (some 14) (.fldA 3 tI (.tm 1)),
 mkPO 5 true [0, 1, 2, 3] (some 15) (.load tI (.tm 14)),
 mkPO 6 true [] (some 16) (.build [.nil tI, .nil (.list tI), .nil tB, .d tI (0 : Int)] [(0, 1, .tm 13), (3, 1, .tm 15)]),
 mkPO 7 true [0, 1, 2, 3, 4, 5, 6] (some 3) (.atq 1 (.alloc 26 [.nil tI, .nil (.list tI), .nil tB, .d tI (0 : Int)]))] (
.op none (.store (pr [(.list tI), (.list (.list tI)), (.list tB), tI]) (.tm 3) (.tm 16)) <|
.nil) [[], [], [1], [0, 2], [], [4], [3, 5], [], [7, 6, 3, 0, 1, 2, 3, 4, 5, 6, 7]]) (.seq (.seq (.region (
.op (some 17) (.fldA 1 (.list (.list tI)) (.tm 1)) <|
.op (some 18) (.load (.list (.list tI)) (.tm 17)) <|
.op (some 19) (.len false (.tm 18)) <|
.op (some 20) (.mv (.k tI (0 : Int))) <|
.nil)) (.block 0 (.adj [.adoptC 1 1 22 (.list tI), .adoptC 1 2 4 tB] (.loop ⟨[1, 18, 19], ⟨[(2, .ptr 0 0), (3, .ptr 1 0)], [.box T_str_api_DFA [.nil tI, .nil (.list tI), .nil tB, .any], .box T_str_api_DFA [.any, .sl 2, .sl 3, .any], .vec T_sl_i64 (.list tI) [], .vec T_bool tB []]⟩, [.tm 20 tI, .cell 0 3 tI, .cell 1 0 (.list tI), .cell 1 3 tI, .vec 2 22 (.list tI), .vec 3 4 tB]⟩ [(3, ⟨[], ⟨[(2, .ptr 0 0), (3, .ptr 1 0)], [.box T_str_api_DFA [.nil tI, .nil (.list tI), .nil tB, .any], .box T_str_api_DFA [.any, .sl 2, .sl 3, .any], .vec T_sl_i64 (.list tI) [], .vec T_bool tB []]⟩, [.cell 0 3 tI, .cell 1 0 (.list tI), .cell 1 3 tI, .vec 2 22 (.list tI), .vec 3 4 tB]⟩)] (.seq (.region (
.op (some 21) (.bin .lss (.tm 20) (.tm 19)) <|
.nil)) (.seq (.cond (.tm 21) .skip (.exit 0)) (.seq (.block 1 (.seq (.region (
.op (some 22) (.mv (.tm 20)) <|
.op (some 23) (.idxA (.list tI) (.tm 18) (.tm 20)) <|
.op (some 24) (.load (.list tI) (.tm 23)) <|
.op (some 4) (.mv (.tm 22)) <|
.op (some 5) (.mv (.tm 24)) <|
.nil)) (.seq (.draw2 0 [
 mkPO 0 true [] (some 25) (.fldA 1 (.list (.list tI)) (.tm 3)),
 mkPO 1 true [] (some 26) (.load (.list (.list tI)) (.tm 25)),
 mkPO 2 true [0, 1] (some 27) (.bsliceF 3 tI 0 []),
 mkPO 3 true [0, 1, 2] (some 28) (.mv (.tm 5)),
 mkPO 4 true [0, 1] (some 29) (.appD 3 tI 8 (.tm 27) (.tm 28)),
 mkPO 5 true [0, 1] (some 30) (.bslice false 22 (.list tI) 1 [.tm 29])] (
.op (some 31) (.append 22 (.list tI) 24 (.tm 26) (.tm 30)) <|
.op (some 32) (.fldA 1 (.list (.list tI)) (.tm 3)) <|
.op none (.store (.list (.list tI)) (.tm 32) (.tm 31)) <|
.nil) [[], [0], [], [], [2, 3], [4], [1, 5, 4], [0, 1, 2, 3, 4, 5, 6], [7, 6, 6, 0, 1, 2, 3, 4, 5, 6]]) (.draw 9 (
.op (some 33) (.fldA 2 (.list tB) (.tm 3)) <|
.op (some 34) (.load (.list tB) (.tm 33)) <|
.op (some 35) (.fldA 2 (.list tB) (.tm 1)) <|
.op (some 36) (.load (.list tB) (.tm 35)) <|
.op (some 37) (.mv (.tm 4)) <|
.op (some 38) (.idxA tB (.tm 36) (.tm 37)) <|
.op (some 39) (.load tB (.tm 38)) <|
.op (some 40) (.un .not (.tm 39)) <|
.op (some 41) (.bslice false 4 tB 1 [.tm 40]) <|
.op (some 42) (.append 4 tB 1 (.tm 34) (.tm 41)) <|
.op (some 43) (.fldA 2 (.list tB) (.tm 3)) <|
.op none (.store (.list tB) (.tm 43) (.tm 42)) <|
.nil) [[], [0], [], [2], [], [3, 4], [5], [6], [7], [1, 8], [0, 1, 2, 3, 4, 5, 6, 7, 8, 9], [10, 9, 9, 0, 1, 2, 3, 4, 5, 6, 7, 8, 9]])))) (.region (
.op (some 44) (.bin .add (.tm 20) (.k tI (1 : Int))) <|
.op (some 20) (.mv (.tm 44)) <|
.nil))))))))) (.seq (.region (
.op (some 45) (.load (pr [(.list tI), (.list (.list tI)), (.list tB), tI]) (.tm 3)) <|
.op none (.store (pr [(.list tI), (.list (.list tI)), (.list tB), tI]) (.tm 2) (.tm 45)) <|
.nil)) (.adj [.freeze 2, .freeze 3] .ret)))))), [.cell 2 (pr [(.list tI), (.list (.list tI)), (.list tB), tI])], 46, q_ref16_Not, 0⟩
def L_ref16_Not_0 (O : Oracle) (n : Nat) (d : ((List Int) × ((List (List Int)) × ((List Bool) × (Int × Unit))))) (s : (Int × Int × (List Int) × Int × (List (List Int)) × (List Bool) × Unit)) : Option ((Int × Int × (List Int) × Int × (List (List Int)) × (List Bool) × Unit) ⊕ (Int × (List Int) × Int × (List (List Int)) × (List Bool) × Unit)) :=
 bif decide (s.1 < (d.2.1.length : Int)) then
 Option.bind (getI d.2.1 s.1) fun v2 =>
 guardB (decide ((([] : List Int).length + v2.length) * 8 ≤ 140737488355328)) (
 guardB (decide ((s.2.2.2.2.1.length + (([([] : List Int) ++ v2] : List (List Int))).length) * 24 ≤ 140737488355328)) (
 Option.bind (getI d.2.2.1 s.1) fun v3 =>
 guardB (decide ((s.2.2.2.2.2.1.length + (([(!v3)] : List Bool)).length) * 1 ≤ 140737488355328)) (
 some (.inl (IntKind.wrap .i64 (s.1 + (1 : Int)), s.2.1, s.2.2.1, s.2.2.2.1, s.2.2.2.2.1 ++ (([([] : List Int) ++ v2] : List (List Int))), s.2.2.2.2.2.1 ++ (([(!v3)] : List Bool)), ())))))
else
 some (.inr ((s.2.1, s.2.2.1, s.2.2.2.1, s.2.2.2.2.1, s.2.2.2.2.2.1, ())))
def G_ref16_Not (O : Oracle) (n : Nat) (d : ((List Int) × ((List (List Int)) × ((List Bool) × (Int × Unit))))) : Option (Option S) :=
 Option.bind (callR O N_ref16_Check [.d (pr [(.list tI), (.list (.list tI)), (.list tB), tI]) d] [] q_ref16_Check) fun v =>
 bif (v.1 != (0 : Int)) then
 retQ q_ref16_Not ((([] : List Int), ([] : List (List Int)), ([] : List Bool), (0 : Int), ()), ())
else
 guardB (decide ((([] : List Int).length + d.1.length) * 8 ≤ 140737488355328)) (
 Option.bind (loopN n (L_ref16_Not_0 O n d) ((0 : Int), (0 : Int), ([] : List Int) ++ d.1, d.2.2.2.1, ([] : List (List Int)), ([] : List Bool), ())) fun (v4 : (Int × (List Int) × Int × (List (List Int)) × (List Bool) × Unit)) =>
 retQ q_ref16_Not ((v4.2.1, v4.2.2.2.1, v4.2.2.2.2.1, v4.2.2.1, ()), ()))
theorem x_ref16_Not (O : Oracle) (n : Nat) (d : ((List Int) × ((List (List Int)) × ((List Bool) × (Int × Unit))))) : evF1 O n f_ref16_Not [.d (pr [(.list tI), (.list (.list tI)), (.list tB), tI]) d] [] = G_ref16_Not O n d := by kernel_rfl
def q_law16_DfaNot : Sh := ⟨[], ⟨[], []⟩, [.tm 0 tB]⟩
def f_law16_DfaNot : TF := ⟨(.seq (.region (
.op (some 2) (.boxD 26 (pr [(.list tI), (.list (.list tI)), (.list tB), tI]) (.tm 0)) <|
.op (some 4) (.mv (.k tB false)) <|
.nil)) (.seq (.seq (.region (
.op (some 8) (.load (pr [(.list tI), (.list (.list tI)), (.list tB), tI]) (.tm 2)) <|
.op (some 9) (.call false N_law16_Large [(.d (pr [(.list tI), (.list (.list tI)), (.list tB), tI]), .tm 8)] q_law16_Large) <|
.op (some 10) (.mv (.tm 9)) <|
.gb 10 false (
.op (some 11) (.mv (.tm 1)) <|
.op (some 12) (.len false (.tm 11)) <|
.op (some 13) (.bin .gtr (.tm 12) (.k tI (60 : Int))) <|
.nil) tB (.tm 13) (.k tB true) 14 <|
.nil)) (.cond (.tm 14) (.seq (.region (
.op (some 15) (.call false N_law16_awake [] q_law16_awake) <|
.op (some 4) (.mv (.tm 15)) <|
.nil)) .ret) .skip)) (.seq (.region (
.op (some 16) (.load (pr [(.list tI), (.list (.list tI)), (.list tB), tI]) (.tm 2)) <|
.op (some 17) (.call false N_dfa_Not [(.d (pr [(.list tI), (.list (.list tI)), (.list tB), tI]), .tm 16)] q_dfa_Not) <|
.op (some 5) (.alloc 26 [.nil tI, .nil (.list tI), .nil tB, .d tI (0 : Int)]) <|
.op none (.store (pr [(.list tI), (.list (.list tI)), (.list tB), tI]) (.tm 5) (.tm 17)) <|
.nil)) (.seq (.seq (.draw 5 (
.op (some 18) (.load (pr [(.list tI), (.list (.list tI)), (.list tB), tI]) (.tm 5)) <|
.op (some 19) (.load (pr [(.list tI), (.list (.list tI)), (.list tB), tI]) (.tm 2)) <|
.op (some 20) (.call false N_ref16_Not [(.d (pr [(.list tI), (.list (.list tI)), (.list tB), tI]), .tm 19)] q_ref16_Not) <|
.op (some 21) (.call false N_ref16_Equal [(.d (pr [(.list tI), (.list (.list tI)), (.list tB), tI]), .tm 18), (.d (pr [(.list tI), (.list (.list tI)), (.list tB), tI]), .tm 20)] q_ref16_Equal) <|
.op (some 22) (.un .not (.tm 21)) <|
.nil) [[], [], [1], [0, 2, 2], [3]]) (.cond (.tm 22) (.seq (.region (
.op (some 4) (.mv (.k tB false)) <|
.nil)) .ret) .skip)) (.seq (.seq (.region (
.op (some 23) (.load (pr [(.list tI), (.list (.list tI)), (.list tB), tI]) (.tm 2)) <|
.op (some 24) (.call false N_ref16_Check [(.d (pr [(.list tI), (.list (.list tI)), (.list tB), tI]), .tm 23)] q_ref16_Check) <|
.op (some 25) (.bin .neq (.tm 24) (.k tI (0 : Int))) <|
.nil)) (.cond (.tm 25) (.seq (.region (
.op (some 26) (.call false N_law16_awake [] q_law16_awake) <|
.op (some 4) (.mv (.tm 26)) <|
.nil)) .ret) .skip)) (.seq (.seq (.region (
.op (some 27) (.mv (.tm 1)) <|
.op (some 28) (.len false (.tm 27)) <|
.op (some 29) (.mv (.k tI (0 : Int))) <|
.nil)) (.block 0 (.loop ⟨[1, 2, 27, 28], ⟨[(5, .ptr 0 0)], [.box T_str_api_DFA [.any, .any, .any, .any]]⟩, [.tm 29 tI, .cell 0 0 (.list tI), .cell 0 1 (.list (.list tI)), .cell 0 2 (.list tB), .cell 0 3 tI]⟩ [(1, ⟨[], ⟨[], []⟩, [.tm 4 tB]⟩), (3, ⟨[1, 2], ⟨[(5, .ptr 0 0)], [.box T_str_api_DFA [.any, .any, .any, .any]]⟩, [.cell 0 0 (.list tI), .cell 0 1 (.list (.list tI)), .cell 0 2 (.list tB), .cell 0 3 tI]⟩)] (.seq (.region (
.op (some 30) (.bin .lss (.tm 29) (.tm 28)) <|
.nil)) (.seq (.cond (.tm 30) .skip (.exit 0)) (.seq (.block 1 (.seq (.region (
.op (some 31) (.idxA tI (.tm 27) (.tm 29)) <|
.op (some 32) (.load tI (.tm 31)) <|
.op (some 7) (.mv (.tm 32)) <|
.nil)) (.seq (.region (
.op (some 33) (.mv (.tm 7)) <|
.op (some 34) (.bin .lss (.tm 33) (.k tI (0 : Int))) <|
.op (some 35) (.mv (.tm 34)) <|
.gb 35 false (
.op (some 36) (.mv (.tm 7)) <|
.op (some 37) (.bin .gtr (.tm 36) (.k tI (4294967295 : Int))) <|
.nil) tB (.tm 37) (.k tB true) 38 <|
.nil)) (.cond (.tm 38) (.seq (.region (
.op (some 39) (.load (pr [(.list tI), (.list (.list tI)), (.list tB), tI]) (.tm 5)) <|
.op (some 40) (.mv (.tm 1)) <|
.op (some 41) (.call false N_dfa_Match [(.d (pr [(.list tI), (.list (.list tI)), (.list tB), tI]), .tm 39), (.d (.list tI), .tm 40)] q_dfa_Match) <|
.op (some 42) (.un .not (.tm 41)) <|
.op (some 43) (.mv (.tm 42)) <|
.gb 43 true (
.op (some 44) (.load (pr [(.list tI), (.list (.list tI)), (.list tB), tI]) (.tm 2)) <|
.op (some 45) (.mv (.tm 1)) <|
.op (some 46) (.call false N_dfa_Match [(.d (pr [(.list tI), (.list (.list tI)), (.list tB), tI]), .tm 44), (.d (.list tI), .tm 45)] q_dfa_Match) <|
.op (some 47) (.un .not (.tm 46)) <|
.nil) tB (.tm 47) (.k tB false) 48 <|
.op (some 49) (.mv (.tm 48)) <|
.gb 49 true (
.op (some 50) (.call false N_law16_awake [] q_law16_awake) <|
.nil) tB (.tm 50) (.k tB false) 51 <|
.op (some 4) (.mv (.tm 51)) <|
.nil)) (.adj [.sel [] [4]] .ret)) .skip)))) (.region (
.op (some 52) (.bin .add (.tm 29) (.k tI (1 : Int))) <|
.op (some 29) (.mv (.tm 52)) <|
.nil)))))))) (.seq (.draw 17 (
.op (some 53) (.load (pr [(.list tI), (.list (.list tI)), (.list tB), tI]) (.tm 5)) <|
.op (some 54) (.mv (.tm 1)) <|
.op (some 55) (.call false N_dfa_Match [(.d (pr [(.list tI), (.list (.list tI)), (.list tB), tI]), .tm 53), (.d (.list tI), .tm 54)] q_dfa_Match) <|
.op (some 56) (.load (pr [(.list tI), (.list (.list tI)), (.list tB), tI]) (.tm 2)) <|
.op (some 57) (.mv (.tm 1)) <|
.op (some 58) (.call false N_dfa_Match [(.d (pr [(.list tI), (.list (.list tI)), (.list tB), tI]), .tm 56), (.d (.list tI), .tm 57)] q_dfa_Match) <|
.op (some 59) (.eqB true (.tm 55) (.tm 58)) <|
.op (some 60) (.mv (.tm 59)) <|
.gb 60 true (
.op (some 61) (.load (pr [(.list tI), (.list (.list tI)), (.list tB), tI]) (.tm 5)) <|
.op (some 62) (.call false N_dfa_Not [(.d (pr [(.list tI), (.list (.list tI)), (.list tB), tI]), .tm 61)] q_dfa_Not) <|
.op (some 63) (.load (pr [(.list tI), (.list (.list tI)), (.list tB), tI]) (.tm 2)) <|
.op (some 64) (.call false N_ref16_Equal [(.d (pr [(.list tI), (.list (.list tI)), (.list tB), tI]), .tm 62), (.d (pr [(.list tI), (.list (.list tI)), (.list tB), tI]), .tm 63)] q_ref16_Equal) <|
.nil) tB (.tm 64) (.k tB false) 65 <|
.op (some 66) (.mv (.tm 65)) <|
.gb 66 true (
.op (some 67) (.call false N_law16_awake [] q_law16_awake) <|
.nil) tB (.tm 67) (.k tB false) 68 <|
.op (some 4) (.mv (.tm 68)) <|
.nil) [[], [], [0, 1], [], [], [3, 4, 2], [2, 5], [6, 5], [7], [8, 7, 7], [7], [9, 10, 9, 7], [7, 11], [12, 11], [13, 13], [13, 14], [15, 14, 0, 1, 2, 3, 4, 5, 6, 7, 8, 9, 10, 11, 12, 13, 14, 15]]) .ret))))))), [.tm 4], 69, q_law16_DfaNot, 0⟩
def L_law16_DfaNot_0 (O : Oracle) (n : Nat) (d : ((List Int) × ((List (List Int)) × ((List Bool) × (Int × Unit))))) (path : (List Int)) (s : (Int × (List Int) × (List (List Int)) × (List Bool) × Int × Unit)) : Option ((Int × (List Int) × (List (List Int)) × (List Bool) × Int × Unit) ⊕ (Bool × Unit) ⊕ ((List Int) × (List (List Int)) × (List Bool) × Int × Unit)) :=
 bif decide (s.1 < (path.length : Int)) then
 Option.bind (getI path s.1) fun v9 =>
 Option.bind (bif decide (v9 < (0 : Int)) then some (true) else
 some (decide (v9 > (4294967295 : Int)))) fun v10 =>
 bif v10 then
 Option.bind (callR O N_dfa_Match [.d (pr [(.list tI), (.list (.list tI)), (.list tB), tI]) ((s.2.1, s.2.2.1, s.2.2.2.1, s.2.2.2.2.1, ())), .d (.list tI) path] [] q_dfa_Match) fun v11 =>
 Option.bind (bif (!v11.1) then
 Option.bind (callR O N_dfa_Match [.d (pr [(.list tI), (.list (.list tI)), (.list tB), tI]) d, .d (.list tI) path] [] q_dfa_Match) fun v12 =>
 some ((!v12.1))
else some (false)) fun v13 =>
 Option.bind (bif v13 then
 Option.bind (callR O N_law16_awake [] [] q_law16_awake) fun v14 =>
 some (v14.1)
else some (false)) fun v15 =>
 some (.inr (.inl ((v15, ()))))
else
 some (.inl (IntKind.wrap .i64 (s.1 + (1 : Int)), s.2.1, s.2.2.1, s.2.2.2.1, s.2.2.2.2.1, ()))
else
 some (.inr (.inr ((s.2.1, s.2.2.1, s.2.2.2.1, s.2.2.2.2.1, ()))))
def G_law16_DfaNot (O : Oracle) (n : Nat) (d : ((List Int) × ((List (List Int)) × ((List Bool) × (Int × Unit))))) (path : (List Int)) : Option (Option S) :=
 Option.bind (callR O N_law16_Large [.d (pr [(.list tI), (.list (.list tI)), (.list tB), tI]) d] [] q_law16_Large) fun v =>
 Option.bind (bif v.1 then some (true) else
 some (decide ((path.length : Int) > (60 : Int)))) fun v1 =>
 bif v1 then
 Option.bind (callR O N_law16_awake [] [] q_law16_awake) fun v2 =>
 retQ q_law16_DfaNot (v2.1, ())
else
 Option.bind (callR O N_dfa_Not [.d (pr [(.list tI), (.list (.list tI)), (.list tB), tI]) d] [] q_dfa_Not) fun v3 =>
 Option.bind (callR O N_ref16_Not [.d (pr [(.list tI), (.list (.list tI)), (.list tB), tI]) d] [] q_ref16_Not) fun v4 =>
 Option.bind (callR O N_ref16_Equal [.d (pr [(.list tI), (.list (.list tI)), (.list tB), tI]) v3.1, .d (pr [(.list tI), (.list (.list tI)), (.list tB), tI]) v4.1] [] q_ref16_Equal) fun v5 =>
 bif (!v5.1) then
 retQ q_law16_DfaNot (false, ())
else
 Option.bind (callR O N_ref16_Check [.d (pr [(.list tI), (.list (.list tI)), (.list tB), tI]) d] [] q_ref16_Check) fun v6 =>
 bif (v6.1 != (0 : Int)) then
 Option.bind (callR O N_law16_awake [] [] q_law16_awake) fun v7 =>
 retQ q_law16_DfaNot (v7.1, ())
else
 Option.bind (loopN n (L_law16_DfaNot_0 O n d path) ((0 : Int), v3.1.1, v3.1.2.1, v3.1.2.2.1, v3.1.2.2.2.1, ())) fun (v16 : (Bool × Unit) ⊕ ((List Int) × (List (List Int)) × (List Bool) × Int × Unit)) =>
 Sum.elim (fun v17 =>
 retQ q_law16_DfaNot (v17.1, ())) (fun v18 =>
 Option.bind (callR O N_dfa_Match [.d (pr [(.list tI), (.list (.list tI)), (.list tB), tI]) ((v18.1, v18.2.1, v18.2.2.1, v18.2.2.2.1, ())), .d (.list tI) path] [] q_dfa_Match) fun v19 =>
 Option.bind (callR O N_dfa_Match [.d (pr [(.list tI), (.list (.list tI)), (.list tB), tI]) d, .d (.list tI) path] [] q_dfa_Match) fun v20 =>
 Option.bind (bif (true ^^ (v19.1 == v20.1)) then
 Option.bind (callR O N_dfa_Not [.d (pr [(.list tI), (.list (.list tI)), (.list tB), tI]) ((v18.1, v18.2.1, v18.2.2.1, v18.2.2.2.1, ()))] [] q_dfa_Not) fun v21 =>
 Option.bind (callR O N_ref16_Equal [.d (pr [(.list tI), (.list (.list tI)), (.list tB), tI]) v21.1, .d (pr [(.list tI), (.list (.list tI)), (.list tB), tI]) d] [] q_ref16_Equal) fun v22 =>
 some (v22.1)
else some (false)) fun v23 =>
 Option.bind (bif v23 then
 Option.bind (callR O N_law16_awake [] [] q_law16_awake) fun v24 =>
 some (v24.1)
else some (false)) fun v25 =>
 retQ q_law16_DfaNot (v25, ())) v16
theorem x_law16_DfaNot (O : Oracle) (n : Nat) (d : ((List Int) × ((List (List Int)) × ((List Bool) × (Int × Unit))))) (path : (List Int)) : evF1 O n f_law16_DfaNot [.d (pr [(.list tI), (.list (.list tI)), (.list tB), tI]) d, .d (.list tI) path] [] = G_law16_DfaNot O n d path := by kernel_rfl
def q_law16_DfaEqual : Sh := ⟨[], ⟨[], []⟩, [.tm 0 tB]⟩
def f_law16_DfaEqual : TF := ⟨(.seq (.region (
.op (some 2) (.boxD 26 (pr [(.list tI), (.list (.list tI)), (.list tB), tI]) (.tm 0)) <|
.op (some 3) (.boxD 26 (pr [(.list tI), (.list (.list tI)), (.list tB), tI]) (.tm 1)) <|
.op (some 4) (.mv (.k tB false)) <|
.nil)) (.seq (.seq (.region (
.op (some 5) (.load (pr [(.list tI), (.list (.list tI)), (.list tB), tI]) (.tm 2)) <|
.op (some 6) (.call false N_law16_Large [(.d (pr [(.list tI), (.list (.list tI)), (.list tB), tI]), .tm 5)] q_law16_Large) <|
.op (some 7) (.mv (.tm 6)) <|
.gb 7 false (
.op (some 8) (.load (pr [(.list tI), (.list (.list tI)), (.list tB), tI]) (.tm 3)) <|
.op (some 9) (.call false N_law16_Large [(.d (pr [(.list tI), (.list (.list tI)), (.list tB), tI]), .tm 8)] q_law16_Large) <|
.nil) tB (.tm 9) (.k tB true) 10 <|
.nil)) (.cond (.tm 10) (.seq (.region (
.op (some 11) (.call false N_law16_awake [] q_law16_awake) <|
.op (some 4) (.mv (.tm 11)) <|
.nil)) .ret) .skip)) (.seq (.draw 16 (
.op (some 12) (.load (pr [(.list tI), (.list (.list tI)), (.list tB), tI]) (.tm 2)) <|
.op (some 13) (.load (pr [(.list tI), (.list (.list tI)), (.list tB), tI]) (.tm 3)) <|
.op (some 14) (.call false N_dfa_Equal [(.d (pr [(.list tI), (.list (.list tI)), (.list tB), tI]), .tm 12), (.d (pr [(.list tI), (.list (.list tI)), (.list tB), tI]), .tm 13)] q_dfa_Equal) <|
.op (some 15) (.load (pr [(.list tI), (.list (.list tI)), (.list tB), tI]) (.tm 2)) <|
.op (some 16) (.load (pr [(.list tI), (.list (.list tI)), (.list tB), tI]) (.tm 3)) <|
.op (some 17) (.call false N_ref16_Equal [(.d (pr [(.list tI), (.list (.list tI)), (.list tB), tI]), .tm 15), (.d (pr [(.list tI), (.list (.list tI)), (.list tB), tI]), .tm 16)] q_ref16_Equal) <|
.op (some 18) (.eqB false (.tm 14) (.tm 17)) <|
.op (some 19) (.mv (.tm 18)) <|
.gb 19 true (
.op (some 20) (.load (pr [(.list tI), (.list (.list tI)), (.list tB), tI]) (.tm 2)) <|
.op (some 21) (.load (pr [(.list tI), (.list (.list tI)), (.list tB), tI]) (.tm 2)) <|
.op (some 22) (.call false N_dfa_Equal [(.d (pr [(.list tI), (.list (.list tI)), (.list tB), tI]), .tm 20), (.d (pr [(.list tI), (.list (.list tI)), (.list tB), tI]), .tm 21)] q_dfa_Equal) <|
.nil) tB (.tm 22) (.k tB false) 23 <|
.op (some 24) (.mv (.tm 23)) <|
.gb 24 true (
.op (some 25) (.call false N_law16_awake [] q_law16_awake) <|
.nil) tB (.tm 25) (.k tB false) 26 <|
.op (some 4) (.mv (.tm 26)) <|
.nil) [[], [], [0, 1], [], [], [3, 4, 2], [2, 5], [6, 5], [7], [7], [8, 9, 7, 7], [7, 10], [11, 10], [12, 12], [12, 13], [14, 13, 0, 1, 2, 3, 4, 5, 6, 7, 8, 9, 10, 11, 12, 13, 14]]) .ret))), [.tm 4], 27, q_law16_DfaEqual, 0⟩
def G_law16_DfaEqual (O : Oracle) (n : Nat) (a : ((List Int) × ((List (List Int)) × ((List Bool) × (Int × Unit))))) (b : ((List Int) × ((List (List Int)) × ((List Bool) × (Int × Unit))))) : Option (Option S) :=
 Option.bind (callR O N_law16_Large [.d (pr [(.list tI), (.list (.list tI)), (.list tB), tI]) a] [] q_law16_Large) fun v =>
 Option.bind (bif v.1 then some (true) else
 Option.bind (callR O N_law16_Large [.d (pr [(.list tI), (.list (.list tI)), (.list tB), tI]) b] [] q_law16_Large) fun v1 =>
 some (v1.1)) fun v2 =>
 bif v2 then
 Option.bind (callR O N_law16_awake [] [] q_law16_awake) fun v3 =>
 retQ q_law16_DfaEqual (v3.1, ())
else
 Option.bind (callR O N_dfa_Equal [.d (pr [(.list tI), (.list (.list tI)), (.list tB), tI]) a, .d (pr [(.list tI), (.list (.list tI)), (.list tB), tI]) b] [] q_dfa_Equal) fun v4 =>
 Option.bind (callR O N_ref16_Equal [.d (pr [(.list tI), (.list (.list tI)), (.list tB), tI]) a, .d (pr [(.list tI), (.list (.list tI)), (.list tB), tI]) b] [] q_ref16_Equal) fun v5 =>
 Option.bind (bif (false ^^ (v4.1 == v5.1)) then
 Option.bind (callR O N_dfa_Equal [.d (pr [(.list tI), (.list (.list tI)), (.list tB), tI]) a, .d (pr [(.list tI), (.list (.list tI)), (.list tB), tI]) a] [] q_dfa_Equal) fun v6 =>
 some (v6.1)
else some (false)) fun v7 =>
 Option.bind (bif v7 then
 Option.bind (callR O N_law16_awake [] [] q_law16_awake) fun v8 =>
 some (v8.1)
else some (false)) fun v9 =>
 retQ q_law16_DfaEqual (v9, ())
theorem x_law16_DfaEqual (O : Oracle) (n : Nat) (a : ((List Int) × ((List (List Int)) × ((List Bool) × (Int × Unit))))) (b : ((List Int) × ((List (List Int)) × ((List Bool) × (Int × Unit))))) : evF1 O n f_law16_DfaEqual [.d (pr [(.list tI), (.list (.list tI)), (.list tB), tI]) a, .d (pr [(.list tI), (.list (.list tI)), (.list tB), tI]) b] [] = G_law16_DfaEqual O n a b := by kernel_rfl
end Go.Proofs.Ytbpdbooalkkenaa
