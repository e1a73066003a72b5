/-
  THE LOADED FUNCTIONS AS TYPED CODE AND AS PLAIN FUNCTIONS, printed by program; each pair held by the kernel.
-/
import Derived.Test.YtbpdbooalkkenaaUTG2
set_option linter.unusedVariables false
set_option linter.unusedSimpArgs false
namespace Go.Proofs.Ytbpdbooalkkenaa
open Go Go.Av Go.Ev
def q_law16_Large : Sh := ⟨[], ⟨[], []⟩, [.tm 0 tB]⟩
def f_law16_Large : TF := ⟨(.seq (.region (
.op (some 1) (.boxD 26 (pr [(.list tI), (.list (.list tI)), (.list tB), tI]) (.tm 0)) <|
.op (some 2) (.mv (.k tB false)) <|
.nil)) (.seq (.seq (.region (
.op (some 5) (.fldA 1 (.list (.list tI)) (.tm 1)) <|
.op (some 6) (.load (.list (.list tI)) (.tm 5)) <|
.op (some 7) (.len false (.tm 6)) <|
.op (some 8) (.bin .gtr (.tm 7) (.k tI (60 : Int))) <|
.op (some 9) (.mv (.tm 8)) <|
.gb 9 false (
.op (some 10) (.fldA 2 (.list tB) (.tm 1)) <|
.op (some 11) (.load (.list tB) (.tm 10)) <|
.op (some 12) (.len false (.tm 11)) <|
.op (some 13) (.bin .gtr (.tm 12) (.k tI (60 : Int))) <|
.nil) tB (.tm 13) (.k tB true) 14 <|
.op (some 15) (.mv (.tm 14)) <|
.gb 15 false (
.op (some 16) (.fldA 0 (.list tI) (.tm 1)) <|
.op (some 17) (.load (.list tI) (.tm 16)) <|
.op (some 18) (.len false (.tm 17)) <|
.op (some 19) (.bin .gtr (.tm 18) (.k tI (60 : Int))) <|
.nil) tB (.tm 19) (.k tB true) 20 <|
.nil)) (.cond (.tm 20) (.seq (.region (
.op (some 2) (.mv (.k tB true)) <|
.nil)) .ret) .skip)) (.seq (.seq (.region (
.op (some 21) (.fldA 1 (.list (.list tI)) (.tm 1)) <|
.op (some 22) (.load (.list (.list tI)) (.tm 21)) <|
.op (some 23) (.len false (.tm 22)) <|
.op (some 24) (.mv (.k tI (0 : Int))) <|
.nil)) (.block 0 (.loop ⟨[22, 23], ⟨[], []⟩, [.tm 24 tI]⟩ [(1, ⟨[], ⟨[], []⟩, [.tm 2 tB]⟩), (3, ⟨[], ⟨[], []⟩, []⟩)] (.seq (.region (
.op (some 25) (.bin .lss (.tm 24) (.tm 23)) <|
.nil)) (.seq (.cond (.tm 25) .skip (.exit 0)) (.seq (.block 1 (.seq (.region (
.op (some 26) (.idxA (.list tI) (.tm 22) (.tm 24)) <|
.op (some 27) (.load (.list tI) (.tm 26)) <|
.op (some 4) (.mv (.tm 27)) <|
.nil)) (.seq (.region (
.op (some 28) (.mv (.tm 4)) <|
.op (some 29) (.len false (.tm 28)) <|
.op (some 30) (.bin .gtr (.tm 29) (.k tI (60 : Int))) <|
.nil)) (.cond (.tm 30) (.seq (.region (
.op (some 2) (.mv (.k tB true)) <|
.nil)) .ret) .skip)))) (.region (
.op (some 31) (.bin .add (.tm 24) (.k tI (1 : Int))) <|
.op (some 24) (.mv (.tm 31)) <|
.nil)))))))) (.seq (.region (
.op (some 2) (.mv (.k tB false)) <|
.nil)) .ret)))), [.tm 2], 32, q_law16_Large, 0⟩
def L_law16_Large_0 (O : Oracle) (n : Nat) (d : ((List Int) × ((List (List Int)) × ((List Bool) × (Int × Unit))))) (s : (Int × Unit)) : Option ((Int × Unit) ⊕ (Bool × Unit) ⊕ Unit) :=
 bif decide (s.1 < (d.2.1.length : Int)) then
 Option.bind (getI d.2.1 s.1) fun v3 =>
 bif decide ((v3.length : Int) > (60 : Int)) then
 some (.inr (.inl ((true, ()))))
else
 some (.inl (IntKind.wrap .i64 (s.1 + (1 : Int)), ()))
else
 some (.inr (.inr (())))
def G_law16_Large (O : Oracle) (n : Nat) (d : ((List Int) × ((List (List Int)) × ((List Bool) × (Int × Unit))))) : Option (Option S) :=
 Option.bind (bif decide ((d.2.1.length : Int) > (60 : Int)) then some (true) else
 some (decide ((d.2.2.1.length : Int) > (60 : Int)))) fun v =>
 Option.bind (bif v then some (true) else
 some (decide ((d.1.length : Int) > (60 : Int)))) fun v1 =>
 bif v1 then
 retQ q_law16_Large (true, ())
else
 Option.bind (loopN n (L_law16_Large_0 O n d) ((0 : Int), ())) fun (v4 : (Bool × Unit) ⊕ Unit) =>
 Sum.elim (fun v5 =>
 retQ q_law16_Large (v5.1, ())) (fun v6 =>
 retQ q_law16_Large (false, ())) v4
theorem x_law16_Large (O : Oracle) (n : Nat) (d : ((List Int) × ((List (List Int)) × ((List Bool) × (Int × Unit))))) : evF1 O n f_law16_Large [.d (pr [(.list tI), (.list (.list tI)), (.list tB), tI]) d] [] = G_law16_Large O n d := by kernel_rfl
def q_ref16_class : Sh := ⟨[], ⟨[], []⟩, [.tm 0 tI]⟩
def f_ref16_class : TF := ⟨(.seq (.region (
.op (some 4) (.mv (.k tI (0 : Int))) <|
.nil)) (.seq (.region (
.op (some 5) (.mv (.k tI (0 : Int))) <|
.nil)) (.seq (.seq (.region (
.op (some 8) (.mv (.tm 0)) <|
.op (some 9) (.len false (.tm 8)) <|
.op (some 10) (.mv (.k tI (0 : Int))) <|
.nil)) (.block 0 (.loop ⟨[1, 8, 9], ⟨[], []⟩, [.tm 5 tI, .tm 10 tI]⟩ [(3, ⟨[], ⟨[], []⟩, [.tm 5 tI]⟩)] (.seq (.region (
.op (some 11) (.bin .lss (.tm 10) (.tm 9)) <|
.nil)) (.seq (.cond (.tm 11) .skip (.exit 0)) (.seq (.cut [(0, ⟨[1, 8, 9, 10], ⟨[], []⟩, [.tm 5 tI]⟩)] (.block 1 (.seq (.region (
.op (some 12) (.mv (.tm 10)) <|
.op (some 13) (.idxA tI (.tm 8) (.tm 10)) <|
.op (some 14) (.load tI (.tm 13)) <|
.op (some 6) (.mv (.tm 12)) <|
.op (some 7) (.mv (.tm 14)) <|
.nil)) (.seq (.region (
.op (some 15) (.mv (.tm 7)) <|
.op (some 16) (.mv (.tm 1)) <|
.op (some 17) (.bin .leq (.tm 15) (.tm 16)) <|
.nil)) (.cond (.tm 17) (.region (
.op (some 18) (.mv (.tm 6)) <|
.op (some 5) (.mv (.tm 18)) <|
.nil)) .skip))))) (.region (
.op (some 19) (.bin .add (.tm 10) (.k tI (1 : Int))) <|
.op (some 10) (.mv (.tm 19)) <|
.nil)))))))) (.seq (.region (
.op (some 20) (.mv (.tm 5)) <|
.op (some 4) (.mv (.tm 20)) <|
.nil)) .ret)))), [.tm 4], 21, q_ref16_class, 0⟩
def L_ref16_class_0 (O : Oracle) (n : Nat) (starts : (List Int)) (as_ : Int) (s : (Int × Int × Unit)) : Option ((Int × Int × Unit) ⊕ (Int × Unit)) :=
 bif decide (s.2.1 < (starts.length : Int)) then
 Option.bind (
 Option.bind (getI starts s.2.1) fun v1 =>
 bif decide (v1 ≤ as_) then
 some ((s.2.1, ()))
else
 some ((s.1, ()))) fun (v2 : (Int × Unit)) =>
 some (.inl (v2.1, IntKind.wrap .i64 (s.2.1 + (1 : Int)), ()))
else
 some (.inr ((s.1, ())))
def G_ref16_class (O : Oracle) (n : Nat) (starts : (List Int)) (as_ : Int) : Option (Option S) :=
 Option.bind (loopN n (L_ref16_class_0 O n starts as_) ((0 : Int), (0 : Int), ())) fun (v3 : (Int × Unit)) =>
 retQ q_ref16_class (v3.1, ())
theorem x_ref16_class (O : Oracle) (n : Nat) (starts : (List Int)) (as_ : Int) : evF1 O n f_ref16_class [.d (.list tI) starts, .d tI as_] [] = G_ref16_class O n starts as_ := by kernel_rfl
def q_ref16_Match : Sh := ⟨[], ⟨[], []⟩, [.tm 0 tB]⟩
def f_ref16_Match : TF := ⟨(.seq (.region (
.op (some 2) (.boxD 26 (pr [(.list tI), (.list (.list tI)), (.list tB), tI]) (.tm 0)) <|
.op (some 4) (.mv (.k tB false)) <|
.nil)) (.seq (.seq (.region (
.op (some 8) (.load (pr [(.list tI), (.list (.list tI)), (.list tB), tI]) (.tm 2)) <|
.op (some 9) (.call false N_ref16_Check [(.d (pr [(.list tI), (.list (.list tI)), (.list tB), tI]), .tm 8)] q_ref16_Check) <|
.op (some 10) (.bin .neq (.tm 9) (.k tI (0 : Int))) <|
.nil)) (.cond (.tm 10) (.seq (.region (
.op (some 4) (.mv (.k tB false)) <|
.nil)) .ret) .skip)) (.seq (.region (
.op (some 11) (.fldA 3 tI (.tm 2)) <|
.op (some 12) (.load tI (.tm 11)) <|
.op (some 5) (.mv (.tm 12)) <|
.nil)) (.seq (.seq (.region (
.op (some 13) (.mv (.tm 1)) <|
.op (some 14) (.len false (.tm 13)) <|
.op (some 15) (.mv (.k tI (0 : Int))) <|
.nil)) (.block 0 (.loop ⟨[2, 13, 14], ⟨[], []⟩, [.tm 5 tI, .tm 15 tI]⟩ [(1, ⟨[], ⟨[], []⟩, [.tm 4 tB]⟩), (3, ⟨[2], ⟨[], []⟩, [.tm 5 tI]⟩)] (.seq (.region (
.op (some 16) (.bin .lss (.tm 15) (.tm 14)) <|
.nil)) (.seq (.cond (.tm 16) .skip (.exit 0)) (.seq (.block 1 (.seq (.region (
.op (some 17) (.idxA tI (.tm 13) (.tm 15)) <|
.op (some 18) (.load tI (.tm 17)) <|
.op (some 7) (.mv (.tm 18)) <|
.nil)) (.seq (.seq (.region (
.op (some 19) (.mv (.tm 7)) <|
.op (some 20) (.bin .lss (.tm 19) (.k tI (0 : Int))) <|
.op (some 21) (.mv (.tm 20)) <|
.gb 21 false (
.op (some 22) (.mv (.tm 7)) <|
.op (some 23) (.bin .gtr (.tm 22) (.k tI (4294967295 : Int))) <|
.nil) tB (.tm 23) (.k tB true) 24 <|
.nil)) (.cond (.tm 24) (.seq (.region (
.op (some 4) (.mv (.k tB false)) <|
.nil)) .ret) .skip)) (.draw 12 (
.op (some 25) (.fldA 1 (.list (.list tI)) (.tm 2)) <|
.op (some 26) (.load (.list (.list tI)) (.tm 25)) <|
.op (some 27) (.mv (.tm 5)) <|
.op (some 28) (.idxA (.list tI) (.tm 26) (.tm 27)) <|
.op (some 29) (.load (.list tI) (.tm 28)) <|
.op (some 30) (.fldA 0 (.list tI) (.tm 2)) <|
.op (some 31) (.load (.list tI) (.tm 30)) <|
.op (some 32) (.mv (.tm 7)) <|
.op (some 33) (.call false N_ref16_class [(.d (.list tI), .tm 31), (.d tI, .tm 32)] q_ref16_class) <|
.op (some 34) (.idxA tI (.tm 29) (.tm 33)) <|
.op (some 35) (.load tI (.tm 34)) <|
.op (some 5) (.mv (.tm 35)) <|
.nil) [[], [0], [], [1, 2], [3], [], [5], [], [6, 7], [4, 8], [9], [10, 8, 0, 1, 2, 3, 4, 5, 6, 7, 8, 9, 10]])))) (.region (
.op (some 36) (.bin .add (.tm 15) (.k tI (1 : Int))) <|
.op (some 15) (.mv (.tm 36)) <|
.nil)))))))) (.seq (.region (
.op (some 37) (.fldA 2 (.list tB) (.tm 2)) <|
.op (some 38) (.load (.list tB) (.tm 37)) <|
.op (some 39) (.mv (.tm 5)) <|
.op (some 40) (.idxA tB (.tm 38) (.tm 39)) <|
.op (some 41) (.load tB (.tm 40)) <|
.op (some 4) (.mv (.tm 41)) <|
.nil)) .ret))))), [.tm 4], 42, q_ref16_Match, 0⟩
def L_ref16_Match_0 (O : Oracle) (n : Nat) (d : ((List Int) × ((List (List Int)) × ((List Bool) × (Int × Unit))))) (path : (List Int)) (s : (Int × Int × Unit)) : Option ((Int × Int × Unit) ⊕ (Bool × Unit) ⊕ (Int × Unit)) :=
 bif decide (s.2.1 < (path.length : Int)) then
 Option.bind (getI path s.2.1) fun v2 =>
 Option.bind (bif decide (v2 < (0 : Int)) then some (true) else
 some (decide (v2 > (4294967295 : Int)))) fun v3 =>
 bif v3 then
 some (.inr (.inl ((false, ()))))
else
 Option.bind (getI d.2.1 s.1) fun v4 =>
 Option.bind (callR O N_ref16_class [.d (.list tI) d.1, .d tI v2] [] q_ref16_class) fun v5 =>
 Option.bind (getI v4 v5.1) fun v6 =>
 some (.inl (v6, IntKind.wrap .i64 (s.2.1 + (1 : Int)), ()))
else
 some (.inr (.inr ((s.1, ()))))
def G_ref16_Match (O : Oracle) (n : Nat) (d : ((List Int) × ((List (List Int)) × ((List Bool) × (Int × Unit))))) (path : (List Int)) : Option (Option S) :=
 Option.bind (callR O N_ref16_Check [.d (pr [(.list tI), (.list (.list tI)), (.list tB), tI]) d] [] q_ref16_Check) fun v =>
 bif (v.1 != (0 : Int)) then
 retQ q_ref16_Match (false, ())
else
 Option.bind (loopN n (L_ref16_Match_0 O n d path) (d.2.2.2.1, (0 : Int), ())) fun (v7 : (Bool × Unit) ⊕ (Int × Unit)) =>
 Sum.elim (fun v8 =>
 retQ q_ref16_Match (v8.1, ())) (fun v9 =>
 Option.bind (getI d.2.2.1 v9.1) fun v10 =>
 retQ q_ref16_Match (v10, ())) v7
theorem x_ref16_Match (O : Oracle) (n : Nat) (d : ((List Int) × ((List (List Int)) × ((List Bool) × (Int × Unit))))) (path : (List Int)) : evF1 O n f_ref16_Match [.d (pr [(.list tI), (.list (.list tI)), (.list tB), tI]) d, .d (.list tI) path] [] = G_ref16_Match O n d path := by kernel_rfl
def q_law16_DfaMatch : Sh := ⟨[], ⟨[], []⟩, [.tm 0 tB]⟩
def f_law16_DfaMatch : TF := ⟨(.seq (.region (
.op (some 2) (.boxD 26 (pr [(.list tI), (.list (.list tI)), (.list tB), tI]) (.tm 0)) <|
.op (some 4) (.mv (.k tB false)) <|
.nil)) (.seq (.seq (.region (
.op (some 5) (.load (pr [(.list tI), (.list (.list tI)), (.list tB), tI]) (.tm 2)) <|
.op (some 6) (.call false N_law16_Large [(.d (pr [(.list tI), (.list (.list tI)), (.list tB), tI]), .tm 5)] q_law16_Large) <|
.op (some 7) (.mv (.tm 6)) <|
.gb 7 false (
.op (some 8) (.mv (.tm 1)) <|
.op (some 9) (.len false (.tm 8)) <|
.op (some 10) (.bin .gtr (.tm 9) (.k tI (100 : Int))) <|
.nil) tB (.tm 10) (.k tB true) 11 <|
.nil)) (.cond (.tm 11) (.seq (.region (
.op (some 12) (.call false N_law16_awake [] q_law16_awake) <|
.op (some 4) (.mv (.tm 12)) <|
.nil)) .ret) .skip)) (.seq (.draw 11 (
.op (some 13) (.load (pr [(.list tI), (.list (.list tI)), (.list tB), tI]) (.tm 2)) <|
.op (some 14) (.mv (.tm 1)) <|
.op (some 15) (.call false N_dfa_Match [(.d (pr [(.list tI), (.list (.list tI)), (.list tB), tI]), .tm 13), (.d (.list tI), .tm 14)] q_dfa_Match) <|
.op (some 16) (.load (pr [(.list tI), (.list (.list tI)), (.list tB), tI]) (.tm 2)) <|
.op (some 17) (.mv (.tm 1)) <|
.op (some 18) (.call false N_ref16_Match [(.d (pr [(.list tI), (.list (.list tI)), (.list tB), tI]), .tm 16), (.d (.list tI), .tm 17)] q_ref16_Match) <|
.op (some 19) (.eqB false (.tm 15) (.tm 18)) <|
.op (some 20) (.mv (.tm 19)) <|
.gb 20 true (
.op (some 21) (.call false N_law16_awake [] q_law16_awake) <|
.nil) tB (.tm 21) (.k tB false) 22 <|
.op (some 4) (.mv (.tm 22)) <|
.nil) [[], [], [0, 1], [], [], [3, 4, 2], [2, 5], [6, 5], [7, 7], [7, 8], [9, 8, 0, 1, 2, 3, 4, 5, 6, 7, 8, 9]]) .ret))), [.tm 4], 23, q_law16_DfaMatch, 0⟩
def G_law16_DfaMatch (O : Oracle) (n : Nat) (d : ((List Int) × ((List (List Int)) × ((List Bool) × (Int × Unit))))) (path : (List Int)) : Option (Option S) :=
 Option.bind (callR O N_law16_Large [.d (pr [(.list tI), (.list (.list tI)), (.list tB), tI]) d] [] q_law16_Large) fun v =>
 Option.bind (bif v.1 then some (true) else
 some (decide ((path.length : Int) > (100 : Int)))) fun v1 =>
 bif v1 then
 Option.bind (callR O N_law16_awake [] [] q_law16_awake) fun v2 =>
 retQ q_law16_DfaMatch (v2.1, ())
else
 Option.bind (callR O N_dfa_Match [.d (pr [(.list tI), (.list (.list tI)), (.list tB), tI]) d, .d (.list tI) path] [] q_dfa_Match) fun v3 =>
 Option.bind (callR O N_ref16_Match [.d (pr [(.list tI), (.list (.list tI)), (.list tB), tI]) d, .d (.list tI) path] [] q_ref16_Match) fun v4 =>
 Option.bind (bif (false ^^ (v3.1 == v4.1)) then
 Option.bind (callR O N_law16_awake [] [] q_law16_awake) fun v5 =>
 some (v5.1)
else some (false)) fun v6 =>
 retQ q_law16_DfaMatch (v6, ())
theorem x_law16_DfaMatch (O : Oracle) (n : Nat) (d : ((List Int) × ((List (List Int)) × ((List Bool) × (Int × Unit))))) (path : (List Int)) : evF1 O n f_law16_DfaMatch [.d (pr [(.list tI), (.list (.list tI)), (.list tB), tI]) d, .d (.list tI) path] [] = G_law16_DfaMatch O n d path := by kernel_rfl
def q_ref16_pairs : Sh := ⟨[], ⟨[], []⟩, [.tm 0 (.list (pr [tI, tI, tI, tI])), .tm 1 (.list (.list tI)), .tm 2 (.list tI), .tm 3 tB]⟩
def f_ref16_pairs : TF := ⟨(.seq (.region (
.op (some 3) (.boxD 26 (pr [(.list tI), (.list (.list tI)), (.list tB), tI]) (.tm 0)) <|
.op (some 4) (.boxD 26 (pr [(.list tI), (.list (.list tI)), (.list tB), tI]) (.tm 1)) <|
.op (some 6) (.mv (.nil (pr [tI, tI, tI, tI]))) <|
.op (some 7) (.mv (.nil (.list tI))) <|
.op (some 8) (.mv (.nil tI)) <|
.op (some 9) (.mv (.k tB false)) <|
.nil)) (.seq (.draw2 1 [
 mkPO 0 true [] (some 20) (.bsliceF 3 tI 0 []),
 mkPO 1 true [0] (some 21) (.fldA 0 (.list tI) (.tm 3)),
 mkPO 2 true [0] (some 22) (.load (.list tI) (.tm 21)),
 mkPO 3 true [] (some 23) (.atq 0 (.append 3 tI 8 (.tm 20) (.tm 22))),
 mkPO 4 true [0, 1, 2, 3] (some 24) (.fldA 0 (.list tI) (.tm 4)),
 mkPO 5 true [0, 1, 2, 3] (some 25) (.load (.list tI) (.tm 24))] (
.op (some 26) (.append 3 tI 8 (.tm 23) (.tm 25)) <|
.adj [.freeze 0] <|
.op (some 27) (.call false N_ref16_sorted [(.d (.list tI), .tm 26)] q_ref16_sorted) <|
.op (some 10) (.mv (.tm 27)) <|
.nil) [[], [], [1], [0, 2], [], [4], [3, 5, 3], [6, 6], [7, 7, 0, 1, 2, 3, 4, 5, 6, 7]]) (.seq (.region (
.op (some 28) (.fldA 3 tI (.tm 3)) <|
.op (some 29) (.load tI (.tm 28)) <|
.op (some 30) (.fldA 3 tI (.tm 4)) <|
.op (some 31) (.load tI (.tm 30)) <|
.op (some 32) (.build [.d tI (0 : Int), .d tI (0 : Int), .d tI (0 : Int), .d tI (0 : Int)] [(0, 1, .tm 29), (1, 1, .tm 31), (2, 1, .k tI (-1 : Int)), (3, 1, .k tI (0 : Int))]) <|
.op (some 33) (.bslice true 82 (pr [tI, tI, tI, tI]) 1 [.tm 32]) <|
.op (some 11) (.mv (.tm 33)) <|
.nil)) (.seq (.region (
.op (some 12) (.mv (.nil (.list tI))) <|
.nil)) (.seq (.seq (.region (
.op (some 13) (.mv (.k tI (0 : Int))) <|
.nil)) (.block 0 (.adj [.adopt 12 22 (.list tI), .sel [1, 2] [2, 3, 4, 10, 11, 12, 13]] (.loop ⟨[2, 3, 4, 10], ⟨[(11, .sl 0), (12, .sl 1)], [.vec T_str_ref16_pair (pr [tI, tI, tI, tI]) [], .vec T_sl_i64 (.list tI) []]⟩, [.tm 13 tI, .vec 0 82 (pr [tI, tI, tI, tI]), .vec 1 22 (.list tI)]⟩ [(1, ⟨[], ⟨[(6, .nil (pr [tI, tI, tI, tI])), (7, .nil (.list tI)), (8, .nil tI)], []⟩, [.tm 9 tB]⟩), (3, ⟨[10], ⟨[(11, .sl 0), (12, .sl 1)], [.vec T_str_ref16_pair (pr [tI, tI, tI, tI]) [], .vec T_sl_i64 (.list tI) []]⟩, [.vec 0 82 (pr [tI, tI, tI, tI]), .vec 1 22 (.list tI)]⟩)] (.seq (.seq (.region (
.op (some 34) (.mv (.tm 13)) <|
.op (some 35) (.mv (.tm 11)) <|
.op (some 36) (.len false (.tm 35)) <|
.op (some 37) (.bin .lss (.tm 34) (.tm 36)) <|
.nil)) (.cond (.tm 37) .skip (.exit 0))) (.seq (.block 1 (.seq (.region (
.op (some 14) (.mv (.nil tI)) <|
.nil)) (.seq (.seq (.region (
.op (some 40) (.mv (.tm 10)) <|
.op (some 41) (.len false (.tm 40)) <|
.op (some 42) (.mv (.k tI (0 : Int))) <|
.nil)) (.block 2 (.adj [.adopt 14 3 tI] (.loop ⟨[2, 3, 4, 10, 13, 40, 41], ⟨[(11, .sl 0), (12, .sl 1), (14, .sl 2)], [.vec T_str_ref16_pair (pr [tI, tI, tI, tI]) [], .vec T_sl_i64 (.list tI) [], .vec T_i64 tI []]⟩, [.tm 42 tI, .vec 0 82 (pr [tI, tI, tI, tI]), .vec 1 22 (.list tI), .vec 2 3 tI]⟩ [(1, ⟨[], ⟨[(6, .nil (pr [tI, tI, tI, tI])), (7, .nil (.list tI)), (8, .nil tI)], []⟩, [.tm 9 tB]⟩), (5, ⟨[2, 3, 4, 10, 13], ⟨[(11, .sl 0), (12, .sl 1), (14, .sl 2)], [.vec T_str_ref16_pair (pr [tI, tI, tI, tI]) [], .vec T_sl_i64 (.list tI) [], .vec T_i64 tI []]⟩, [.vec 0 82 (pr [tI, tI, tI, tI]), .vec 1 22 (.list tI), .vec 2 3 tI]⟩)] (.seq (.region (
.op (some 43) (.bin .lss (.tm 42) (.tm 41)) <|
.nil)) (.seq (.cond (.tm 43) .skip (.exit 2)) (.seq (.block 3 (.seq (.region (
.op (some 44) (.idxA tI (.tm 40) (.tm 42)) <|
.op (some 45) (.load tI (.tm 44)) <|
.op (some 16) (.mv (.tm 45)) <|
.nil)) (.seq (.draw 32 (
.op (some 46) (.fldA 1 (.list (.list tI)) (.tm 3)) <|
.op (some 47) (.load (.list (.list tI)) (.tm 46)) <|
.op (some 48) (.mv (.tm 11)) <|
.op (some 49) (.mv (.tm 13)) <|
.op (some 50) (.idxA (pr [tI, tI, tI, tI]) (.tm 48) (.tm 49)) <|
.op (some 51) (.fldA 0 tI (.tm 50)) <|
.op (some 52) (.load tI (.tm 51)) <|
.op (some 53) (.idxA (.list tI) (.tm 47) (.tm 52)) <|
.op (some 54) (.load (.list tI) (.tm 53)) <|
.op (some 55) (.fldA 0 (.list tI) (.tm 3)) <|
.op (some 56) (.load (.list tI) (.tm 55)) <|
.op (some 57) (.mv (.tm 16)) <|
.op (some 58) (.call false N_ref16_class [(.d (.list tI), .tm 56), (.d tI, .tm 57)] q_ref16_class) <|
.op (some 59) (.idxA tI (.tm 54) (.tm 58)) <|
.op (some 60) (.load tI (.tm 59)) <|
.op (some 61) (.fldA 1 (.list (.list tI)) (.tm 4)) <|
.op (some 62) (.load (.list (.list tI)) (.tm 61)) <|
.op (some 63) (.mv (.tm 11)) <|
.op (some 64) (.mv (.tm 13)) <|
.op (some 65) (.idxA (pr [tI, tI, tI, tI]) (.tm 63) (.tm 64)) <|
.op (some 66) (.fldA 1 tI (.tm 65)) <|
.op (some 67) (.load tI (.tm 66)) <|
.op (some 68) (.idxA (.list tI) (.tm 62) (.tm 67)) <|
.op (some 69) (.load (.list tI) (.tm 68)) <|
.op (some 70) (.fldA 0 (.list tI) (.tm 4)) <|
.op (some 71) (.load (.list tI) (.tm 70)) <|
.op (some 72) (.mv (.tm 16)) <|
.op (some 73) (.call false N_ref16_class [(.d (.list tI), .tm 71), (.d tI, .tm 72)] q_ref16_class) <|
.op (some 74) (.idxA tI (.tm 69) (.tm 73)) <|
.op (some 75) (.load tI (.tm 74)) <|
.op (some 17) (.mv (.tm 60)) <|
.op (some 18) (.mv (.tm 75)) <|
.nil) [[], [0], [], [], [2, 3], [4], [5], [1, 6], [7], [], [9], [], [10, 11], [8, 12], [13], [], [15], [], [], [17, 18], [19], [20], [16, 21], [22], [], [24], [], [25, 26, 12], [23, 27], [28], [14, 27, 0, 1, 2, 3, 4, 5, 6, 7, 8, 9, 10, 11, 12, 13, 14], [29, 30, 0, 1, 2, 3, 4, 5, 6, 7, 8, 9, 10, 11, 12, 13, 14, 15, 16, 17, 18, 19, 20, 21, 22, 23, 24, 25, 26, 27, 28, 29, 30]]) (.seq (.region (
.op (some 19) (.mv (.k tI (0 : Int))) <|
.nil)) (.seq (.block 4 (.loop ⟨[2, 3, 4, 10, 13, 16, 17, 18, 40, 41, 42], ⟨[(11, .sl 0), (12, .sl 1), (14, .sl 2)], [.vec T_str_ref16_pair (pr [tI, tI, tI, tI]) [], .vec T_sl_i64 (.list tI) [], .vec T_i64 tI []]⟩, [.tm 19 tI, .vec 0 82 (pr [tI, tI, tI, tI]), .vec 1 22 (.list tI), .vec 2 3 tI]⟩ [(7, ⟨[2, 3, 4, 10, 13, 16, 17, 18, 40, 41, 42], ⟨[(11, .sl 0), (12, .sl 1), (14, .sl 2)], [.vec T_str_ref16_pair (pr [tI, tI, tI, tI]) [], .vec T_sl_i64 (.list tI) [], .vec T_i64 tI []]⟩, [.tm 19 tI, .vec 0 82 (pr [tI, tI, tI, tI]), .vec 1 22 (.list tI), .vec 2 3 tI]⟩)] (.seq (.seq (.region (
.op (some 76) (.mv (.tm 19)) <|
.op (some 77) (.mv (.tm 11)) <|
.op (some 78) (.len false (.tm 77)) <|
.op (some 79) (.bin .lss (.tm 76) (.tm 78)) <|
.op (some 80) (.mv (.tm 79)) <|
.gb 80 true (
.op (some 81) (.mv (.tm 11)) <|
.op (some 82) (.mv (.tm 19)) <|
.op (some 83) (.idxA (pr [tI, tI, tI, tI]) (.tm 81) (.tm 82)) <|
.op (some 84) (.fldA 0 tI (.tm 83)) <|
.op (some 85) (.load tI (.tm 84)) <|
.op (some 86) (.mv (.tm 17)) <|
.op (some 87) (.bin .neq (.tm 85) (.tm 86)) <|
.op (some 88) (.mv (.tm 87)) <|
.gb 88 false (
.op (some 89) (.mv (.tm 11)) <|
.op (some 90) (.mv (.tm 19)) <|
.op (some 91) (.idxA (pr [tI, tI, tI, tI]) (.tm 89) (.tm 90)) <|
.op (some 92) (.fldA 1 tI (.tm 91)) <|
.op (some 93) (.load tI (.tm 92)) <|
.op (some 94) (.mv (.tm 18)) <|
.op (some 95) (.bin .neq (.tm 93) (.tm 94)) <|
.nil) tB (.tm 95) (.k tB true) 96 <|
.nil) tB (.tm 96) (.k tB false) 97 <|
.nil)) (.cond (.tm 97) .skip (.exit 4))) (.block 5 (.region (
.op (some 98) (.mv (.tm 19)) <|
.op (some 99) (.bin .add (.tm 98) (.k tI (1 : Int))) <|
.op (some 19) (.mv (.tm 99)) <|
.nil)))))) (.seq (.cut [(0, ⟨[2, 3, 4, 10, 13, 19, 40, 41, 42], ⟨[(11, .sl 0), (12, .sl 1), (14, .sl 2)], [.vec T_str_ref16_pair (pr [tI, tI, tI, tI]) [], .vec T_sl_i64 (.list tI) [], .vec T_i64 tI []]⟩, [.vec 0 82 (pr [tI, tI, tI, tI]), .vec 1 22 (.list tI), .vec 2 3 tI]⟩), (1, ⟨[], ⟨[(6, .nil (pr [tI, tI, tI, tI])), (7, .nil (.list tI)), (8, .nil tI)], []⟩, [.tm 9 tB]⟩)] (.seq (.region (
.op (some 100) (.mv (.tm 19)) <|
.op (some 101) (.mv (.tm 11)) <|
.op (some 102) (.len false (.tm 101)) <|
.op (some 103) (.bin .eql (.tm 100) (.tm 102)) <|
.nil)) (.cond (.tm 103) (.seq (.seq (.region (
.op (some 104) (.mv (.tm 19)) <|
.op (some 105) (.mv (.tm 2)) <|
.op (some 106) (.bin .geq (.tm 104) (.tm 105)) <|
.nil)) (.cond (.tm 106) (.seq (.region (
.op (some 6) (.mv (.nil (pr [tI, tI, tI, tI]))) <|
.op (some 7) (.mv (.nil (.list tI))) <|
.op (some 8) (.mv (.nil tI)) <|
.op (some 9) (.mv (.k tB false)) <|
.nil)) (.adj [.sel [] [6, 7, 8, 9]] .ret)) .skip)) (.region (
.op (some 107) (.mv (.tm 11)) <|
.op (some 108) (.mv (.tm 17)) <|
.op (some 109) (.mv (.tm 18)) <|
.op (some 110) (.mv (.tm 13)) <|
.op (some 111) (.mv (.tm 16)) <|
.op (some 112) (.build [.d tI (0 : Int), .d tI (0 : Int), .d tI (0 : Int), .d tI (0 : Int)] [(0, 1, .tm 108), (1, 1, .tm 109), (2, 1, .tm 110), (3, 1, .tm 111)]) <|
.op (some 113) (.bslice false 82 (pr [tI, tI, tI, tI]) 1 [.tm 112]) <|
.op (some 114) (.append 82 (pr [tI, tI, tI, tI]) 32 (.tm 107) (.tm 113)) <|
.op (some 11) (.mv (.tm 114)) <|
.nil))) .skip))) (.region (
.op (some 115) (.mv (.tm 14)) <|
.op (some 116) (.mv (.tm 19)) <|
.op (some 117) (.bslice false 3 tI 1 [.tm 116]) <|
.op (some 118) (.append 3 tI 8 (.tm 115) (.tm 117)) <|
.op (some 14) (.mv (.tm 118)) <|
.nil)))))))) (.region (
.op (some 119) (.bin .add (.tm 42) (.k tI (1 : Int))) <|
.op (some 42) (.mv (.tm 119)) <|
.nil))))))))) (.region (
.op (some 120) (.mv (.tm 12)) <|
.op (some 121) (.mv (.tm 14)) <|
.adj [.freeze 2] <|
.op (some 122) (.bslice false 22 (.list tI) 1 [.tm 121]) <|
.op (some 123) (.append 22 (.list tI) 24 (.tm 120) (.tm 122)) <|
.op (some 12) (.mv (.tm 123)) <|
.nil))))) (.after (.region (
.op (some 38) (.mv (.tm 13)) <|
.op (some 39) (.bin .add (.tm 38) (.k tI (1 : Int))) <|
.op (some 13) (.mv (.tm 39)) <|
.nil)) [.sel [0, 1] [2, 3, 4, 10, 11, 12, 13]]))))))) (.seq (.region (
.op (some 124) (.mv (.tm 11)) <|
.op (some 125) (.mv (.tm 12)) <|
.op (some 126) (.mv (.tm 10)) <|
.op (some 6) (.mv (.tm 124)) <|
.op (some 7) (.mv (.tm 125)) <|
.op (some 8) (.mv (.tm 126)) <|
.op (some 9) (.mv (.k tB true)) <|
.nil)) (.adj [.freeze 0, .freeze 1] .ret))))))), [.tm 6, .tm 7, .tm 8, .tm 9], 127, q_ref16_pairs, 0⟩
def L_ref16_pairs_0 (O : Oracle) (n : Nat) (v7 : Int) (v11 : Int) (v12 : (Int × (List (Int × (Int × (Int × (Int × Unit))))) × (List (List Int)) × (List Int) × Unit)) : Option ((Int × (List (Int × (Int × (Int × (Int × Unit))))) × (List (List Int)) × (List Int) × Unit) ⊕ (Int × (List (Int × (Int × (Int × (Int × Unit))))) × (List (List Int)) × (List Int) × Unit)) :=
 Option.bind (bif decide (v12.1 < (v12.2.1.length : Int)) then
 Option.bind (getI v12.2.1 v12.1) fun _ =>
 Option.bind v12.2.1[Int.toNat v12.1]? fun v13 =>
 Option.bind (bif (v13.1 != v7) then some (true) else
 Option.bind (getI v12.2.1 v12.1) fun _ =>
 Option.bind v12.2.1[Int.toNat v12.1]? fun v14 =>
 some ((v14.2.1 != v11))) fun v15 =>
 some (v15)
else some (false)) fun v16 =>
 bif v16 then
 some (.inl (IntKind.wrap .i64 (v12.1 + (1 : Int)), v12.2.1, v12.2.2.1, v12.2.2.2.1, ()))
else
 some (.inr ((v12.1, v12.2.1, v12.2.2.1, v12.2.2.2.1, ())))
def L_ref16_pairs_1 (O : Oracle) (n : Nat) (a : ((List Int) × ((List (List Int)) × ((List Bool) × (Int × Unit))))) (b : ((List Int) × ((List (List Int)) × ((List Bool) × (Int × Unit))))) (limit : Int) (v : ((List Int) × Unit)) (s : (Int × (List (Int × (Int × (Int × (Int × Unit))))) × (List (List Int)) × Unit)) (v2 : (Int × (List (Int × (Int × (Int × (Int × Unit))))) × (List (List Int)) × (List Int) × Unit)) : Option ((Int × (List (Int × (Int × (Int × (Int × Unit))))) × (List (List Int)) × (List Int) × Unit) ⊕ (Bool × Unit) ⊕ ((List (Int × (Int × (Int × (Int × Unit))))) × (List (List Int)) × (List Int) × Unit)) :=
 bif decide (v2.1 < (v.1.length : Int)) then
 Option.bind (getI v.1 v2.1) fun v3 =>
 Option.bind (getI v2.2.1 s.1) fun _ =>
 Option.bind v2.2.1[Int.toNat s.1]? fun v4 =>
 Option.bind (getI a.2.1 v4.1) fun v5 =>
 Option.bind (callR O N_ref16_class [.d (.list tI) a.1, .d tI v3] [] q_ref16_class) fun v6 =>
 Option.bind (getI v5 v6.1) fun v7 =>
 Option.bind (getI v2.2.1 s.1) fun _ =>
 Option.bind v2.2.1[Int.toNat s.1]? fun v8 =>
 Option.bind (getI b.2.1 v8.2.1) fun v9 =>
 Option.bind (callR O N_ref16_class [.d (.list tI) b.1, .d tI v3] [] q_ref16_class) fun v10 =>
 Option.bind (getI v9 v10.1) fun v11 =>
 Option.bind (loopN n (L_ref16_pairs_0 O n v7 v11) ((0 : Int), v2.2.1, v2.2.2.1, v2.2.2.2.1, ())) fun (v17 : (Int × (List (Int × (Int × (Int × (Int × Unit))))) × (List (List Int)) × (List Int) × Unit)) =>
 Option.bind (
 bif (v17.1 == (v17.2.1.length : Int)) then
 bif decide (v17.1 ≥ limit) then
 some (.inr ((false, ())))
else
 guardB (decide ((v17.2.1.length + (([(v7, v11, s.1, v3, ())] : List (Int × (Int × (Int × (Int × Unit)))))).length) * 32 ≤ 140737488355328)) (
 let v18 := v17.2.1 ++ (([(v7, v11, s.1, v3, ())] : List (Int × (Int × (Int × (Int × Unit))))))
 some (.inl ((v18, v17.2.2.1, v17.2.2.2.1, ()))))
else
 some (.inl ((v17.2.1, v17.2.2.1, v17.2.2.2.1, ())))) fun (v19 : ((List (Int × (Int × (Int × (Int × Unit))))) × (List (List Int)) × (List Int) × Unit) ⊕ (Bool × Unit)) =>
 Sum.elim (fun v20 =>
 guardB (decide ((v20.2.2.1.length + ([v17.1] : List Int).length) * 8 ≤ 140737488355328)) (
 some (.inl (IntKind.wrap .i64 (v2.1 + (1 : Int)), v20.1, v20.2.1, v20.2.2.1 ++ ([v17.1] : List Int), ())))) (fun v21 =>
 some (.inr (.inl ((v21.1, ()))))) v19
else
 some (.inr (.inr ((v2.2.1, v2.2.2.1, v2.2.2.2.1, ()))))
def L_ref16_pairs_2 (O : Oracle) (n : Nat) (a : ((List Int) × ((List (List Int)) × ((List Bool) × (Int × Unit))))) (b : ((List Int) × ((List (List Int)) × ((List Bool) × (Int × Unit))))) (limit : Int) (v : ((List Int) × Unit)) (s : (Int × (List (Int × (Int × (Int × (Int × Unit))))) × (List (List Int)) × Unit)) : Option ((Int × (List (Int × (Int × (Int × (Int × Unit))))) × (List (List Int)) × Unit) ⊕ (Bool × Unit) ⊕ ((List (Int × (Int × (Int × (Int × Unit))))) × (List (List Int)) × Unit)) :=
 bif decide (s.1 < (s.2.1.length : Int)) then
 Option.bind (loopN n (L_ref16_pairs_1 O n a b limit v s) ((0 : Int), s.2.1, s.2.2.1, ([] : List Int), ())) fun (v22 : (Bool × Unit) ⊕ ((List (Int × (Int × (Int × (Int × Unit))))) × (List (List Int)) × (List Int) × Unit)) =>
 Sum.elim (fun v23 =>
 some (.inr (.inl ((v23.1, ()))))) (fun v24 =>
 guardB (decide ((v24.2.1.length + (([v24.2.2.1] : List (List Int))).length) * 24 ≤ 140737488355328)) (
 some (.inl (IntKind.wrap .i64 (s.1 + (1 : Int)), v24.1, v24.2.1 ++ (([v24.2.2.1] : List (List Int))), ())))) v22
else
 some (.inr (.inr ((s.2.1, s.2.2.1, ()))))
def G_ref16_pairs (O : Oracle) (n : Nat) (a : ((List Int) × ((List (List Int)) × ((List Bool) × (Int × Unit))))) (b : ((List Int) × ((List (List Int)) × ((List Bool) × (Int × Unit))))) (limit : Int) : Option (Option S) :=
 guardB (decide (a.1.length * 8 ≤ 140737488355328)) (
 guardB (decide ((a.1.length + b.1.length) * 8 ≤ 140737488355328)) (
 Option.bind (callR O N_ref16_sorted [.d (.list tI) (a.1 ++ b.1)] [] q_ref16_sorted) fun v =>
 Option.bind (loopN n (L_ref16_pairs_2 O n a b limit v) ((0 : Int), ([(a.2.2.2.1, b.2.2.2.1, (-1 : Int), (0 : Int), ())] : List (Int × (Int × (Int × (Int × Unit))))), ([] : List (List Int)), ())) fun (v25 : (Bool × Unit) ⊕ ((List (Int × (Int × (Int × (Int × Unit))))) × (List (List Int)) × Unit)) =>
 Sum.elim (fun v26 =>
 retQ q_ref16_pairs (([] : List (Int × (Int × (Int × (Int × Unit))))), ([] : List (List Int)), ([] : List Int), v26.1, ())) (fun v27 =>
 retQ q_ref16_pairs (v27.1, v27.2.1, v.1, true, ())) v25))
theorem x_ref16_pairs (O : Oracle) (n : Nat) (a : ((List Int) × ((List (List Int)) × ((List Bool) × (Int × Unit))))) (b : ((List Int) × ((List (List Int)) × ((List Bool) × (Int × Unit))))) (limit : Int) : evF1 O n f_ref16_pairs [.d (pr [(.list tI), (.list (.list tI)), (.list tB), tI]) a, .d (pr [(.list tI), (.list (.list tI)), (.list tB), tI]) b, .d tI limit] [] = G_ref16_pairs O n a b limit := by kernel_rfl
def q_ref16_Witness : Sh := ⟨[], ⟨[], []⟩, [.tm 0 (.list tI), .tm 1 tB]⟩
def f_ref16_Witness : TF := ⟨(.seq (.region (
.op (some 2) (.boxD 26 (pr [(.list tI), (.list (.list tI)), (.list tB), tI]) (.tm 0)) <|
.op (some 3) (.boxD 26 (pr [(.list tI), (.list (.list tI)), (.list tB), tI]) (.tm 1)) <|
.op (some 4) (.mv (.nil tI)) <|
.op (some 5) (.mv (.k tB false)) <|
.nil)) (.seq (.seq (.region (
.op (some 14) (.load (pr [(.list tI), (.list (.list tI)), (.list tB), tI]) (.tm 2)) <|
.op (some 15) (.call false N_ref16_Check [(.d (pr [(.list tI), (.list (.list tI)), (.list tB), tI]), .tm 14)] q_ref16_Check) <|
.op (some 16) (.bin .neq (.tm 15) (.k tI (0 : Int))) <|
.op (some 17) (.mv (.tm 16)) <|
.gb 17 false (
.op (some 18) (.load (pr [(.list tI), (.list (.list tI)), (.list tB), tI]) (.tm 3)) <|
.op (some 19) (.call false N_ref16_Check [(.d (pr [(.list tI), (.list (.list tI)), (.list tB), tI]), .tm 18)] q_ref16_Check) <|
.op (some 20) (.bin .neq (.tm 19) (.k tI (0 : Int))) <|
.nil) tB (.tm 20) (.k tB true) 21 <|
.nil)) (.cond (.tm 21) (.seq (.region (
.op (some 4) (.mv (.nil tI)) <|
.op (some 5) (.mv (.k tB false)) <|
.nil)) .ret) .skip)) (.seq (.region (
.op (some 23) (.load (pr [(.list tI), (.list (.list tI)), (.list tB), tI]) (.tm 2)) <|
.op (some 24) (.load (pr [(.list tI), (.list (.list tI)), (.list tB), tI]) (.tm 3)) <|
.op (some 25) (.fldA 1 (.list (.list tI)) (.tm 2)) <|
.op (some 26) (.load (.list (.list tI)) (.tm 25)) <|
.op (some 27) (.len false (.tm 26)) <|
.op (some 28) (.fldA 1 (.list (.list tI)) (.tm 3)) <|
.op (some 29) (.load (.list (.list tI)) (.tm 28)) <|
.op (some 30) (.len false (.tm 29)) <|
.op (some 31) (.bin .mul (.tm 27) (.tm 30)) <|
.op (some 32) (.bin .add (.tm 31) (.k tI (1 : Int))) <|
.op (some 33) (.call false N_ref16_pairs [(.d (pr [(.list tI), (.list (.list tI)), (.list tB), tI]), .tm 23), (.d (pr [(.list tI), (.list (.list tI)), (.list tB), tI]), .tm 24), (.d tI, .tm 32)] q_ref16_pairs) <|
.op (some 22) (.mv (.tm 33)) <|
.op (some 34) (.ext (.tm 22) 0) <|
.op (some 35) (.ext (.tm 22) 1) <|
.op (some 36) (.ext (.tm 22) 2) <|
.op (some 37) (.ext (.tm 22) 3) <|
.op (some 6) (.mv (.tm 34)) <|
.op (some 7) (.mv (.tm 35)) <|
.op (some 8) (.mv (.tm 36)) <|
.op (some 9) (.mv (.tm 37)) <|
.nil)) (.seq (.seq (.region (
.op (some 38) (.mv (.tm 6)) <|
.op (some 39) (.len false (.tm 38)) <|
.op (some 40) (.mv (.k tI (0 : Int))) <|
.nil)) (.block 0 (.loop ⟨[2, 3, 6, 38, 39], ⟨[], []⟩, [.tm 40 tI]⟩ [(1, ⟨[], ⟨[], []⟩, [.tm 4 (.list tI), .tm 5 tB]⟩), (3, ⟨[], ⟨[], []⟩, []⟩)] (.seq (.region (
.op (some 41) (.bin .lss (.tm 40) (.tm 39)) <|
.nil)) (.seq (.cond (.tm 41) .skip (.exit 0)) (.seq (.block 1 (.seq (.region (
.op (some 42) (.mv (.tm 40)) <|
.op (some 43) (.idxA (pr [tI, tI, tI, tI]) (.tm 38) (.tm 40)) <|
.op (some 44) (.load (pr [tI, tI, tI, tI]) (.tm 43)) <|
.op (some 11) (.alloc 82 [.d tI (0 : Int), .d tI (0 : Int), .d tI (0 : Int), .d tI (0 : Int)]) <|
.op (some 10) (.mv (.tm 42)) <|
.op none (.store (pr [tI, tI, tI, tI]) (.tm 11) (.tm 44)) <|
.nil)) (.seq (.seq (.draw 13 (
.op (some 45) (.fldA 2 (.list tB) (.tm 2)) <|
.op (some 46) (.load (.list tB) (.tm 45)) <|
.op (some 47) (.fldA 0 tI (.tm 11)) <|
.op (some 48) (.load tI (.tm 47)) <|
.op (some 49) (.idxA tB (.tm 46) (.tm 48)) <|
.op (some 50) (.load tB (.tm 49)) <|
.op (some 51) (.fldA 2 (.list tB) (.tm 3)) <|
.op (some 52) (.load (.list tB) (.tm 51)) <|
.op (some 53) (.fldA 1 tI (.tm 11)) <|
.op (some 54) (.load tI (.tm 53)) <|
.op (some 55) (.idxA tB (.tm 52) (.tm 54)) <|
.op (some 56) (.load tB (.tm 55)) <|
.op (some 57) (.eqB false (.tm 50) (.tm 56)) <|
.nil) [[], [0], [], [2], [1, 3], [4], [], [6], [], [8], [7, 9], [10], [5, 11]]) (.cond (.tm 57) (.exit 1) .skip)) (.seq (.region (
.op (some 12) (.mv (.nil tI)) <|
.nil)) (.seq (.seq (.region (
.op (some 58) (.mv (.tm 10)) <|
.op (some 13) (.mv (.tm 58)) <|
.nil)) (.block 2 (.adj [.adopt 12 3 tI, .sel [1] [6, 12, 13]] (.loop ⟨[6], ⟨[(12, .sl 0)], [.vec T_i64 tI []]⟩, [.tm 13 tI, .vec 0 3 tI]⟩ [(5, ⟨[], ⟨[(12, .sl 0)], [.vec T_i64 tI []]⟩, [.vec 0 3 tI]⟩)] (.seq (.seq (.region (
.op (some 59) (.mv (.tm 6)) <|
.op (some 60) (.mv (.tm 13)) <|
.op (some 61) (.idxA (pr [tI, tI, tI, tI]) (.tm 59) (.tm 60)) <|
.op (some 62) (.fldA 2 tI (.tm 61)) <|
.op (some 63) (.load tI (.tm 62)) <|
.op (some 64) (.bin .geq (.tm 63) (.k tI (0 : Int))) <|
.nil)) (.cond (.tm 64) .skip (.exit 2))) (.seq (.block 3 (.region (
.op (some 70) (.mv (.tm 6)) <|
.op (some 71) (.mv (.tm 13)) <|
.op (some 72) (.idxA (pr [tI, tI, tI, tI]) (.tm 70) (.tm 71)) <|
.op (some 73) (.fldA 3 tI (.tm 72)) <|
.op (some 74) (.load tI (.tm 73)) <|
.op (some 75) (.bslice true 3 tI 1 [.tm 74]) <|
.op (some 76) (.mv (.tm 12)) <|
.op (some 77) (.append 3 tI 8 (.tm 75) (.tm 76)) <|
.op (some 12) (.mv (.tm 77)) <|
.nil))) (.after (.region (
.op (some 65) (.mv (.tm 6)) <|
.op (some 66) (.mv (.tm 13)) <|
.op (some 67) (.idxA (pr [tI, tI, tI, tI]) (.tm 65) (.tm 66)) <|
.op (some 68) (.fldA 2 tI (.tm 67)) <|
.op (some 69) (.load tI (.tm 68)) <|
.op (some 13) (.mv (.tm 69)) <|
.nil)) [.sel [1] [6, 12, 13]]))))))) (.seq (.region (
.op (some 78) (.mv (.tm 12)) <|
.op (some 4) (.mv (.tm 78)) <|
.op (some 5) (.mv (.k tB true)) <|
.nil)) (.adj [.freeze 0, .sel [] [4, 5]] .ret))))))) (.after (.region (
.op (some 79) (.bin .add (.tm 40) (.k tI (1 : Int))) <|
.op (some 40) (.mv (.tm 79)) <|
.nil)) [.sel [] [2, 3, 6, 38, 39, 40]]))))))) (.seq (.region (
.op (some 4) (.mv (.nil tI)) <|
.op (some 5) (.mv (.k tB false)) <|
.nil)) .ret))))), [.tm 4, .tm 5], 80, q_ref16_Witness, 0⟩
def L_ref16_Witness_0 (O : Oracle) (n : Nat) (v4 : ((List (Int × (Int × (Int × (Int × Unit))))) × (List (List Int)) × (List Int) × Bool × Unit)) (v9 : (Int × (List Int) × Unit)) : Option ((Int × (List Int) × Unit) ⊕ ((List Int) × Unit)) :=
 Option.bind (getI v4.1 v9.1) fun v10 =>
 bif decide (v10.2.2.1 ≥ (0 : Int)) then
 Option.bind (getI v4.1 v9.1) fun v11 =>
 guardB (decide ((([v11.2.2.2.1] : List Int).length + v9.2.1.length) * 8 ≤ 140737488355328)) (
 Option.bind (getI v4.1 v9.1) fun v12 =>
 some (.inl (v12.2.2.1, ([v11.2.2.2.1] : List Int) ++ v9.2.1, ())))
else
 some (.inr ((v9.2.1, ())))
def L_ref16_Witness_1 (O : Oracle) (n : Nat) (a : ((List Int) × ((List (List Int)) × ((List Bool) × (Int × Unit))))) (b : ((List Int) × ((List (List Int)) × ((List Bool) × (Int × Unit))))) (v4 : ((List (Int × (Int × (Int × (Int × Unit))))) × (List (List Int)) × (List Int) × Bool × Unit)) (s : (Int × Unit)) : Option ((Int × Unit) ⊕ ((List Int) × Bool × Unit) ⊕ Unit) :=
 bif decide (s.1 < (v4.1.length : Int)) then
 Option.bind (getI v4.1 s.1) fun v6 =>
 Option.bind (getI a.2.2.1 v6.1) fun v7 =>
 Option.bind (getI b.2.2.1 v6.2.1) fun v8 =>
 bif (false ^^ (v7 == v8)) then
 some (.inl (IntKind.wrap .i64 (s.1 + (1 : Int)), ()))
else
 Option.bind (loopN n (L_ref16_Witness_0 O n v4) (s.1, ([] : List Int), ())) fun (v13 : ((List Int) × Unit)) =>
 some (.inr (.inl ((v13.1, true, ()))))
else
 some (.inr (.inr (())))
def G_ref16_Witness (O : Oracle) (n : Nat) (a : ((List Int) × ((List (List Int)) × ((List Bool) × (Int × Unit))))) (b : ((List Int) × ((List (List Int)) × ((List Bool) × (Int × Unit))))) : Option (Option S) :=
 Option.bind (callR O N_ref16_Check [.d (pr [(.list tI), (.list (.list tI)), (.list tB), tI]) a] [] q_ref16_Check) fun v =>
 Option.bind (bif (v.1 != (0 : Int)) then some (true) else
 Option.bind (callR O N_ref16_Check [.d (pr [(.list tI), (.list (.list tI)), (.list tB), tI]) b] [] q_ref16_Check) fun v1 =>
 some ((v1.1 != (0 : Int)))) fun v2 =>
 bif v2 then
 retQ q_ref16_Witness (([] : List Int), false, ())
else
 let v3 := IntKind.wrap .i64 ((IntKind.wrap .i64 ((a.2.1.length : Int) * (b.2.1.length : Int))) + (1 : Int))
 Option.bind (callR O N_ref16_pairs [.d (pr [(.list tI), (.list (.list tI)), (.list tB), tI]) a, .d (pr [(.list tI), (.list (.list tI)), (.list tB), tI]) b, .d tI v3] [] q_ref16_pairs) fun v4 =>
 Option.bind (loopN n (L_ref16_Witness_1 O n a b v4) ((0 : Int), ())) fun (v14 : ((List Int) × Bool × Unit) ⊕ Unit) =>
 Sum.elim (fun v15 =>
 retQ q_ref16_Witness (v15.1, v15.2.1, ())) (fun v16 =>
 retQ q_ref16_Witness (([] : List Int), false, ())) v14
theorem x_ref16_Witness (O : Oracle) (n : Nat) (a : ((List Int) × ((List (List Int)) × ((List Bool) × (Int × Unit))))) (b : ((List Int) × ((List (List Int)) × ((List Bool) × (Int × Unit))))) : evF1 O n f_ref16_Witness [.d (pr [(.list tI), (.list (.list tI)), (.list tB), tI]) a, .d (pr [(.list tI), (.list (.list tI)), (.list tB), tI]) b] [] = G_ref16_Witness O n a b := by kernel_rfl
def q_ref16_Same : Sh := ⟨[], ⟨[], []⟩, [.tm 0 tB]⟩
def f_ref16_Same : TF := ⟨(.seq (.region (
.op (some 2) (.boxD 26 (pr [(.list tI), (.list (.list tI)), (.list tB), tI]) (.tm 0)) <|
.op (some 3) (.boxD 26 (pr [(.list tI), (.list (.list tI)), (.list tB), tI]) (.tm 1)) <|
.op (some 4) (.mv (.k tB false)) <|
.nil)) (.seq (.region (
.op (some 8) (.load (pr [(.list tI), (.list (.list tI)), (.list tB), tI]) (.tm 2)) <|
.op (some 9) (.load (pr [(.list tI), (.list (.list tI)), (.list tB), tI]) (.tm 3)) <|
.op (some 10) (.call false N_ref16_Witness [(.d (pr [(.list tI), (.list (.list tI)), (.list tB), tI]), .tm 8), (.d (pr [(.list tI), (.list (.list tI)), (.list tB), tI]), .tm 9)] q_ref16_Witness) <|
.op (some 7) (.mv (.tm 10)) <|
.op (some 11) (.ext (.tm 7) 0) <|
.op (some 12) (.ext (.tm 7) 1) <|
.op (some 5) (.mv (.tm 11)) <|
.op (some 6) (.mv (.tm 12)) <|
.nil)) (.seq (.region (
.op (some 13) (.load (pr [(.list tI), (.list (.list tI)), (.list tB), tI]) (.tm 2)) <|
.op (some 14) (.call false N_ref16_Check [(.d (pr [(.list tI), (.list (.list tI)), (.list tB), tI]), .tm 13)] q_ref16_Check) <|
.op (some 15) (.bin .eql (.tm 14) (.k tI (0 : Int))) <|
.op (some 16) (.mv (.tm 15)) <|
.gb 16 true (
.op (some 17) (.load (pr [(.list tI), (.list (.list tI)), (.list tB), tI]) (.tm 3)) <|
.op (some 18) (.call false N_ref16_Check [(.d (pr [(.list tI), (.list (.list tI)), (.list tB), tI]), .tm 17)] q_ref16_Check) <|
.op (some 19) (.bin .eql (.tm 18) (.k tI (0 : Int))) <|
.nil) tB (.tm 19) (.k tB false) 20 <|
.op (some 21) (.mv (.tm 20)) <|
.gb 21 true (
.op (some 22) (.mv (.tm 6)) <|
.op (some 23) (.un .not (.tm 22)) <|
.nil) tB (.tm 23) (.k tB false) 24 <|
.op (some 4) (.mv (.tm 24)) <|
.nil)) .ret))), [.tm 4], 25, q_ref16_Same, 0⟩
def G_ref16_Same (O : Oracle) (n : Nat) (a : ((List Int) × ((List (List Int)) × ((List Bool) × (Int × Unit))))) (b : ((List Int) × ((List (List Int)) × ((List Bool) × (Int × Unit))))) : Option (Option S) :=
 Option.bind (callR O N_ref16_Witness [.d (pr [(.list tI), (.list (.list tI)), (.list tB), tI]) a, .d (pr [(.list tI), (.list (.list tI)), (.list tB), tI]) b] [] q_ref16_Witness) fun v =>
 Option.bind (callR O N_ref16_Check [.d (pr [(.list tI), (.list (.list tI)), (.list tB), tI]) a] [] q_ref16_Check) fun v1 =>
 Option.bind (bif (v1.1 == (0 : Int)) then
 Option.bind (callR O N_ref16_Check [.d (pr [(.list tI), (.list (.list tI)), (.list tB), tI]) b] [] q_ref16_Check) fun v2 =>
 some ((v2.1 == (0 : Int)))
else some (false)) fun v3 =>
 Option.bind (bif v3 then
 some ((!v.2.1))
else some (false)) fun v4 =>
 retQ q_ref16_Same (v4, ())
theorem x_ref16_Same (O : Oracle) (n : Nat) (a : ((List Int) × ((List (List Int)) × ((List Bool) × (Int × Unit))))) (b : ((List Int) × ((List (List Int)) × ((List Bool) × (Int × Unit))))) : evF1 O n f_ref16_Same [.d (pr [(.list tI), (.list (.list tI)), (.list tB), tI]) a, .d (pr [(.list tI), (.list (.list tI)), (.list tB), tI]) b] [] = G_ref16_Same O n a b := by kernel_rfl
def q_law16_DfaWitness : Sh := ⟨[], ⟨[], []⟩, [.tm 0 tB]⟩
def f_law16_DfaWitness : TF := ⟨(.seq (.region (
.op (some 2) (.boxD 26 (pr [(.list tI), (.list (.list tI)), (.list tB), tI]) (.tm 0)) <|
.op (some 3) (.boxD 26 (pr [(.list tI), (.list (.list tI)), (.list tB), tI]) (.tm 1)) <|
.op (some 4) (.mv (.k tB false)) <|
.nil)) (.seq (.seq (.region (
.op (some 10) (.load (pr [(.list tI), (.list (.list tI)), (.list tB), tI]) (.tm 2)) <|
.op (some 11) (.call false N_law16_Large [(.d (pr [(.list tI), (.list (.list tI)), (.list tB), tI]), .tm 10)] q_law16_Large) <|
.op (some 12) (.mv (.tm 11)) <|
.gb 12 false (
.op (some 13) (.load (pr [(.list tI), (.list (.list tI)), (.list tB), tI]) (.tm 3)) <|
.op (some 14) (.call false N_law16_Large [(.d (pr [(.list tI), (.list (.list tI)), (.list tB), tI]), .tm 13)] q_law16_Large) <|
.nil) tB (.tm 14) (.k tB true) 15 <|
.nil)) (.cond (.tm 15) (.seq (.region (
.op (some 16) (.call false N_law16_awake [] q_law16_awake) <|
.op (some 4) (.mv (.tm 16)) <|
.nil)) .ret) .skip)) (.seq (.region (
.op (some 18) (.load (pr [(.list tI), (.list (.list tI)), (.list tB), tI]) (.tm 2)) <|
.op (some 19) (.load (pr [(.list tI), (.list (.list tI)), (.list tB), tI]) (.tm 3)) <|
.op (some 20) (.call false N_dfa_Witness [(.d (pr [(.list tI), (.list (.list tI)), (.list tB), tI]), .tm 18), (.d (pr [(.list tI), (.list (.list tI)), (.list tB), tI]), .tm 19)] q_dfa_Witness) <|
.op (some 17) (.mv (.tm 20)) <|
.op (some 21) (.ext (.tm 17) 0) <|
.op (some 22) (.ext (.tm 17) 1) <|
.op (some 5) (.mv (.tm 21)) <|
.op (some 6) (.mv (.tm 22)) <|
.nil)) (.seq (.region (
.op (some 24) (.load (pr [(.list tI), (.list (.list tI)), (.list tB), tI]) (.tm 2)) <|
.op (some 25) (.load (pr [(.list tI), (.list (.list tI)), (.list tB), tI]) (.tm 3)) <|
.op (some 26) (.call false N_ref16_Witness [(.d (pr [(.list tI), (.list (.list tI)), (.list tB), tI]), .tm 24), (.d (pr [(.list tI), (.list (.list tI)), (.list tB), tI]), .tm 25)] q_ref16_Witness) <|
.op (some 23) (.mv (.tm 26)) <|
.op (some 27) (.ext (.tm 23) 0) <|
.op (some 28) (.ext (.tm 23) 1) <|
.op (some 7) (.mv (.tm 27)) <|
.op (some 8) (.mv (.tm 28)) <|
.nil)) (.seq (.seq (.draw 19 (
.op (some 29) (.mv (.tm 6)) <|
.op (some 30) (.mv (.tm 8)) <|
.op (some 31) (.eqB true (.tm 29) (.tm 30)) <|
.op (some 32) (.mv (.tm 31)) <|
.gb 32 false (
.op (some 33) (.mv (.tm 5)) <|
.op (some 34) (.len false (.tm 33)) <|
.op (some 35) (.mv (.tm 7)) <|
.op (some 36) (.len false (.tm 35)) <|
.op (some 37) (.bin .neq (.tm 34) (.tm 36)) <|
.nil) tB (.tm 37) (.k tB true) 38 <|
.op (some 39) (.mv (.tm 38)) <|
.gb 39 false (
.op (some 40) (.load (pr [(.list tI), (.list (.list tI)), (.list tB), tI]) (.tm 2)) <|
.op (some 41) (.load (pr [(.list tI), (.list (.list tI)), (.list tB), tI]) (.tm 3)) <|
.op (some 42) (.call false N_dfa_Same [(.d (pr [(.list tI), (.list (.list tI)), (.list tB), tI]), .tm 40), (.d (pr [(.list tI), (.list (.list tI)), (.list tB), tI]), .tm 41)] q_dfa_Same) <|
.op (some 43) (.load (pr [(.list tI), (.list (.list tI)), (.list tB), tI]) (.tm 2)) <|
.op (some 44) (.load (pr [(.list tI), (.list (.list tI)), (.list tB), tI]) (.tm 3)) <|
.op (some 45) (.call false N_ref16_Same [(.d (pr [(.list tI), (.list (.list tI)), (.list tB), tI]), .tm 43), (.d (pr [(.list tI), (.list (.list tI)), (.list tB), tI]), .tm 44)] q_ref16_Same) <|
.op (some 46) (.eqB true (.tm 42) (.tm 45)) <|
.nil) tB (.tm 46) (.k tB true) 47 <|
.nil) [[], [], [0, 1], [2], [3], [4, 3], [3], [6, 3], [5, 7, 3], [3, 8], [9, 3], [10], [10], [11, 12, 10, 10], [10], [10], [14, 15, 13, 10], [13, 16, 10], [10, 17]]) (.cond (.tm 47) (.seq (.region (
.op (some 4) (.mv (.k tB false)) <|
.nil)) .ret) .skip)) (.seq (.seq (.region (
.op (some 48) (.mv (.tm 5)) <|
.op (some 49) (.len false (.tm 48)) <|
.op (some 50) (.mv (.k tI (0 : Int))) <|
.nil)) (.block 0 (.loop ⟨[2, 3, 5, 6, 7, 49], ⟨[], []⟩, [.tm 50 tI]⟩ [(1, ⟨[], ⟨[], []⟩, [.tm 4 tB]⟩), (3, ⟨[2, 3, 5, 6], ⟨[], []⟩, []⟩)] (.seq (.region (
.op (some 51) (.bin .lss (.tm 50) (.tm 49)) <|
.nil)) (.seq (.cond (.tm 51) .skip (.exit 0)) (.seq (.block 1 (.seq (.region (
.op (some 52) (.mv (.tm 50)) <|
.op (some 9) (.mv (.tm 52)) <|
.nil)) (.seq (.draw 9 (
.op (some 53) (.mv (.tm 5)) <|
.op (some 54) (.mv (.tm 9)) <|
.op (some 55) (.idxA tI (.tm 53) (.tm 54)) <|
.op (some 56) (.load tI (.tm 55)) <|
.op (some 57) (.mv (.tm 7)) <|
.op (some 58) (.mv (.tm 9)) <|
.op (some 59) (.idxA tI (.tm 57) (.tm 58)) <|
.op (some 60) (.load tI (.tm 59)) <|
.op (some 61) (.bin .neq (.tm 56) (.tm 60)) <|
.nil) [[], [], [0, 1], [2], [], [], [4, 5], [6], [3, 7]]) (.cond (.tm 61) (.seq (.region (
.op (some 4) (.mv (.k tB false)) <|
.nil)) .ret) .skip)))) (.region (
.op (some 62) (.bin .add (.tm 50) (.k tI (1 : Int))) <|
.op (some 50) (.mv (.tm 62)) <|
.nil)))))))) (.seq (.draw 15 (
.op (some 63) (.mv (.tm 6)) <|
.op (some 64) (.un .not (.tm 63)) <|
.op (some 65) (.mv (.tm 64)) <|
.gb 65 false (
.op (some 66) (.load (pr [(.list tI), (.list (.list tI)), (.list tB), tI]) (.tm 2)) <|
.op (some 67) (.mv (.tm 5)) <|
.op (some 68) (.call false N_dfa_Match [(.d (pr [(.list tI), (.list (.list tI)), (.list tB), tI]), .tm 66), (.d (.list tI), .tm 67)] q_dfa_Match) <|
.op (some 69) (.load (pr [(.list tI), (.list (.list tI)), (.list tB), tI]) (.tm 3)) <|
.op (some 70) (.mv (.tm 5)) <|
.op (some 71) (.call false N_dfa_Match [(.d (pr [(.list tI), (.list (.list tI)), (.list tB), tI]), .tm 69), (.d (.list tI), .tm 70)] q_dfa_Match) <|
.op (some 72) (.eqB true (.tm 68) (.tm 71)) <|
.nil) tB (.tm 72) (.k tB true) 73 <|
.op (some 74) (.mv (.tm 73)) <|
.gb 74 true (
.op (some 75) (.call false N_law16_awake [] q_law16_awake) <|
.nil) tB (.tm 75) (.k tB false) 76 <|
.op (some 4) (.mv (.tm 76)) <|
.nil) [[], [0], [1], [2], [2], [3, 4, 2, 2], [2], [2], [6, 7, 5, 2], [5, 8, 2], [2, 9], [10, 8], [11, 11], [11, 12], [13, 12, 0, 1, 2, 3, 4, 5, 6, 7, 8, 9, 10, 11, 12, 13]]) .ret))))))), [.tm 4], 77, q_law16_DfaWitness, 0⟩
def L_law16_DfaWitness_0 (O : Oracle) (n : Nat) (v4 : ((List Int) × Bool × Unit)) (v5 : ((List Int) × Bool × Unit)) (s : (Int × Unit)) : Option ((Int × Unit) ⊕ (Bool × Unit) ⊕ Unit) :=
 bif decide (s.1 < (v4.1.length : Int)) then
 Option.bind (getI v4.1 s.1) fun v11 =>
 Option.bind (getI v5.1 s.1) fun v12 =>
 bif (v11 != v12) then
 some (.inr (.inl ((false, ()))))
else
 some (.inl (IntKind.wrap .i64 (s.1 + (1 : Int)), ()))
else
 some (.inr (.inr (())))
def G_law16_DfaWitness (O : Oracle) (n : Nat) (a : ((List Int) × ((List (List Int)) × ((List Bool) × (Int × Unit))))) (b : ((List Int) × ((List (List Int)) × ((List Bool) × (Int × Unit))))) : Option (Option S) :=
 Option.bind (callR O N_law16_Large [.d (pr [(.list tI), (.list (.list tI)), (.list tB), tI]) a] [] q_law16_Large) fun v =>
 Option.bind (bif v.1 then some (true) else
 Option.bind (callR O N_law16_Large [.d (pr [(.list tI), (.list (.list tI)), (.list tB), tI]) b] [] q_law16_Large) fun v1 =>
 some (v1.1)) fun v2 =>
 bif v2 then
 Option.bind (callR O N_law16_awake [] [] q_law16_awake) fun v3 =>
 retQ q_law16_DfaWitness (v3.1, ())
else
 Option.bind (callR O N_dfa_Witness [.d (pr [(.list tI), (.list (.list tI)), (.list tB), tI]) a, .d (pr [(.list tI), (.list (.list tI)), (.list tB), tI]) b] [] q_dfa_Witness) fun v4 =>
 Option.bind (callR O N_ref16_Witness [.d (pr [(.list tI), (.list (.list tI)), (.list tB), tI]) a, .d (pr [(.list tI), (.list (.list tI)), (.list tB), tI]) b] [] q_ref16_Witness) fun v5 =>
 Option.bind (bif (true ^^ (v4.2.1 == v5.2.1)) then some (true) else
 some (((v4.1.length : Int) != (v5.1.length : Int)))) fun v6 =>
 Option.bind (bif v6 then some (true) else
 Option.bind (callR O N_dfa_Same [.d (pr [(.list tI), (.list (.list tI)), (.list tB), tI]) a, .d (pr [(.list tI), (.list (.list tI)), (.list tB), tI]) b] [] q_dfa_Same) fun v7 =>
 Option.bind (callR O N_ref16_Same [.d (pr [(.list tI), (.list (.list tI)), (.list tB), tI]) a, .d (pr [(.list tI), (.list (.list tI)), (.list tB), tI]) b] [] q_ref16_Same) fun v8 =>
 some ((true ^^ (v7.1 == v8.1)))) fun v9 =>
 bif v9 then
 retQ q_law16_DfaWitness (false, ())
else
 Option.bind (loopN n (L_law16_DfaWitness_0 O n v4 v5) ((0 : Int), ())) fun (v13 : (Bool × Unit) ⊕ Unit) =>
 Sum.elim (fun v14 =>
 retQ q_law16_DfaWitness (v14.1, ())) (fun v15 =>
 Option.bind (bif (!v4.2.1) then some (true) else
 Option.bind (callR O N_dfa_Match [.d (pr [(.list tI), (.list (.list tI)), (.list tB), tI]) a, .d (.list tI) v4.1] [] q_dfa_Match) fun v16 =>
 Option.bind (callR O N_dfa_Match [.d (pr [(.list tI), (.list (.list tI)), (.list tB), tI]) b, .d (.list tI) v4.1] [] q_dfa_Match) fun v17 =>
 some ((true ^^ (v16.1 == v17.1)))) fun v18 =>
 Option.bind (bif v18 then
 Option.bind (callR O N_law16_awake [] [] q_law16_awake) fun v19 =>
 some (v19.1)
else some (false)) fun v20 =>
 retQ q_law16_DfaWitness (v20, ())) v13
theorem x_law16_DfaWitness (O : Oracle) (n : Nat) (a : ((List Int) × ((List (List Int)) × ((List Bool) × (Int × Unit))))) (b : ((List Int) × ((List (List Int)) × ((List Bool) × (Int × Unit))))) : evF1 O n f_law16_DfaWitness [.d (pr [(.list tI), (.list (.list tI)), (.list tB), tI]) a, .d (pr [(.list tI), (.list (.list tI)), (.list tB), tI]) b] [] = G_law16_DfaWitness O n a b := by kernel_rfl
def q_ref16_Not : Sh := ⟨[], ⟨[], []⟩, [.tm 0 (pr [(.list tI), (.list (.list tI)), (.list tB), tI])]⟩
def f_ref16_Not : TF := ⟨(.seq (.region (
.op (some 1) (.boxD 26 (pr [(.list tI), (.list (.list tI)), (.list tB), tI]) (.tm 0)) <|
.op (some 2) (.alloc 26 [.nil tI, .nil (.list tI), .nil tB, .d tI (0 : Int)]) <|
.nil)) (.seq (.seq (.region (
.op (some 6) (.load (pr [(.list tI), (.list (.list tI)), (.list tB), tI]) (.tm 1)) <|
.op (some 7) (.call false N_ref16_Check [(.d (pr [(.list tI), (.list (.list tI)), (.list tB), tI]), .tm 6)] q_ref16_Check) <|
.op (some 8) (.bin .neq (.tm 7) (.k tI (0 : Int))) <|
.nil)) (.cond (.tm 8) (.seq (.region (
.op (some 9) (.build [.nil tI, .nil (.list tI), .nil tB, .d tI (0 : Int)] []) <|
.op none (.store (pr [(.list tI), (.list (.list tI)), (.list tB), tI]) (.tm 2) (.tm 9)) <|
.nil)) .ret) .skip)) (.seq (.draw2 1 [
 mkPO 0 true [] (some 10) (.bsliceF 3 tI 0 []),
 mkPO 1 true [0] (some 11) (.fldA 0 (.list tI) (.tm 1)),
 mkPO 2 true [0] (some 12) (.load (.list tI) (.tm 11)),
 mkPO 3 true [] (some 13) (.appD 3 tI 8 (.tm 10) (.tm 12)),
 mkPO 4 true [0, 1, 2, 3] (some 14) (.fldA 3 tI (.tm 1)),
 mkPO 5 true [0, 1, 2, 3] (some 15) (.load tI (.tm 14)),
 mkPO 6 true [] (some 16) (.build [.nil tI, .nil (.list tI), .nil tB, .d tI (0 : Int)] [(0, 1, .tm 13), (3, 1, .tm 15)]),
 mkPO 7 true [0, 1, 2, 3, 4, 5, 6] (some 3) (.atq 1 (.alloc 26 [.nil tI, .nil (.list tI), .nil tB, .d tI (0 : Int)]))] (
.op none (.store (pr [(.list tI), (.list (.list tI)), (.list tB), tI]) (.tm 3) (.tm 16)) <|
.nil) [[], [], [1], [0, 2], [], [4], [3, 5], [], [7, 6, 3, 0, 1, 2, 3, 4, 5, 6, 7]]) (.seq (.seq (.region (
.op (some 17) (.fldA 1 (.list (.list tI)) (.tm 1)) <|
.op (some 18) (.load (.list (.list tI)) (.tm 17)) <|
.op (some 19) (.len false (.tm 18)) <|
.op (some 20) (.mv (.k tI (0 : Int))) <|
.nil)) (.block 0 (.adj [.adoptC 1 1 22 (.list tI), .adoptC 1 2 4 tB] (.loop ⟨[1, 18, 19], ⟨[(2, .ptr 0 0), (3, .ptr 1 0)], [.box T_str_api_DFA [.nil tI, .nil (.list tI), .nil tB, .any], .box T_str_api_DFA [.any, .sl 2, .sl 3, .any], .vec T_sl_i64 (.list tI) [], .vec T_bool tB []]⟩, [.tm 20 tI, .cell 0 3 tI, .cell 1 0 (.list tI), .cell 1 3 tI, .vec 2 22 (.list tI), .vec 3 4 tB]⟩ [(3, ⟨[], ⟨[(2, .ptr 0 0), (3, .ptr 1 0)], [.box T_str_api_DFA [.nil tI, .nil (.list tI), .nil tB, .any], .box T_str_api_DFA [.any, .sl 2, .sl 3, .any], .vec T_sl_i64 (.list tI) [], .vec T_bool tB []]⟩, [.cell 0 3 tI, .cell 1 0 (.list tI), .cell 1 3 tI, .vec 2 22 (.list tI), .vec 3 4 tB]⟩)] (.seq (.region (
.op (some 21) (.bin .lss (.tm 20) (.tm 19)) <|
.nil)) (.seq (.cond (.tm 21) .skip (.exit 0)) (.seq (.block 1 (.seq (.region (
.op (some 22) (.mv (.tm 20)) <|
.op (some 23) (.idxA (.list tI) (.tm 18) (.tm 20)) <|
.op (some 24) (.load (.list tI) (.tm 23)) <|
.op (some 4) (.mv (.tm 22)) <|
.op (some 5) (.mv (.tm 24)) <|
.nil)) (.seq (.draw2 0 [
 mkPO 0 true [] (some 25) (.fldA 1 (.list (.list tI)) (.tm 3)),
 mkPO 1 true [] (some 26) (.load (.list (.list tI)) (.tm 25)),
 mkPO 2 true [0, 1] (some 27) (.bsliceF 3 tI 0 []),
 mkPO 3 true [0, 1, 2] (some 28) (.mv (.tm 5)),
 mkPO 4 true [0, 1] (some 29) (.appD 3 tI 8 (.tm 27) (.tm 28)),
 mkPO 5 true [0, 1] (some 30) (.bslice false 22 (.list tI) 1 [.tm 29])] (
.op (some 31) (.append 22 (.list tI) 24 (.tm 26) (.tm 30)) <|
.op (some 32) (.fldA 1 (.list (.list tI)) (.tm 3)) <|
.op none (.store (.list (.list tI)) (.tm 32) (.tm 31)) <|
.nil) [[], [0], [], [], [2, 3], [4], [1, 5, 4], [0, 1, 2, 3, 4, 5, 6], [7, 6, 6, 0, 1, 2, 3, 4, 5, 6]]) (.draw 9 (
.op (some 33) (.fldA 2 (.list tB) (.tm 3)) <|
.op (some 34) (.load (.list tB) (.tm 33)) <|
.op (some 35) (.fldA 2 (.list tB) (.tm 1)) <|
.op (some 36) (.load (.list tB) (.tm 35)) <|
.op (some 37) (.mv (.tm 4)) <|
.op (some 38) (.idxA tB (.tm 36) (.tm 37)) <|
.op (some 39) (.load tB (.tm 38)) <|
.op (some 40) (.un .not (.tm 39)) <|
.op (some 41) (.bslice false 4 tB 1 [.tm 40]) <|
.op (some 42) (.append 4 tB 1 (.tm 34) (.tm 41)) <|
.op (some 43) (.fldA 2 (.list tB) (.tm 3)) <|
.op none (.store (.list tB) (.tm 43) (.tm 42)) <|
.nil) [[], [0], [], [2], [], [3, 4], [5], [6], [7], [1, 8], [0, 1, 2, 3, 4, 5, 6, 7, 8, 9], [10, 9, 9, 0, 1, 2, 3, 4, 5, 6, 7, 8, 9]])))) (.region (
.op (some 44) (.bin .add (.tm 20) (.k tI (1 : Int))) <|
.op (some 20) (.mv (.tm 44)) <|
.nil))))))))) (.seq (.region (
.op (some 45) (.load (pr [(.list tI), (.list (.list tI)), (.list tB), tI]) (.tm 3)) <|
.op none (.store (pr [(.list tI), (.list (.list tI)), (.list tB), tI]) (.tm 2) (.tm 45)) <|
.nil)) (.adj [.freeze 2, .freeze 3] .ret)))))), [.cell 2 (pr [(.list tI), (.list (.list tI)), (.list tB), tI])], 46, q_ref16_Not, 0⟩
def L_ref16_Not_0 (O : Oracle) (n : Nat) (d : ((List Int) × ((List (List Int)) × ((List Bool) × (Int × Unit))))) (s : (Int × Int × (List Int) × Int × (List (List Int)) × (List Bool) × Unit)) : Option ((Int × Int × (List Int) × Int × (List (List Int)) × (List Bool) × Unit) ⊕ (Int × (List Int) × Int × (List (List Int)) × (List Bool) × Unit)) :=
 bif decide (s.1 < (d.2.1.length : Int)) then
 Option.bind (getI d.2.1 s.1) fun v2 =>
 guardB (decide ((([] : List Int).length + v2.length) * 8 ≤ 140737488355328)) (
 guardB (decide ((s.2.2.2.2.1.length + (([([] : List Int) ++ v2] : List (List Int))).length) * 24 ≤ 140737488355328)) (
 Option.bind (getI d.2.2.1 s.1) fun v3 =>
 guardB (decide ((s.2.2.2.2.2.1.length + (([(!v3)] : List Bool)).length) * 1 ≤ 140737488355328)) (
 some (.inl (IntKind.wrap .i64 (s.1 + (1 : Int)), s.2.1, s.2.2.1, s.2.2.2.1, s.2.2.2.2.1 ++ (([([] : List Int) ++ v2] : List (List Int))), s.2.2.2.2.2.1 ++ (([(!v3)] : List Bool)), ())))))
else
 some (.inr ((s.2.1, s.2.2.1, s.2.2.2.1, s.2.2.2.2.1, s.2.2.2.2.2.1, ())))
def G_ref16_Not (O : Oracle) (n : Nat) (d : ((List Int) × ((List (List Int)) × ((List Bool) × (Int × Unit))))) : Option (Option S) :=
 Option.bind (callR O N_ref16_Check [.d (pr [(.list tI), (.list (.list tI)), (.list tB), tI]) d] [] q_ref16_Check) fun v =>
 bif (v.1 != (0 : Int)) then
 retQ q_ref16_Not ((([] : List Int), ([] : List (List Int)), ([] : List Bool), (0 : Int), ()), ())
else
 guardB (decide ((([] : List Int).length + d.1.length) * 8 ≤ 140737488355328)) (
 Option.bind (loopN n (L_ref16_Not_0 O n d) ((0 : Int), (0 : Int), ([] : List Int) ++ d.1, d.2.2.2.1, ([] : List (List Int)), ([] : List Bool), ())) fun (v4 : (Int × (List Int) × Int × (List (List Int)) × (List Bool) × Unit)) =>
 retQ q_ref16_Not ((v4.2.1, v4.2.2.2.1, v4.2.2.2.2.1, v4.2.2.1, ()), ()))
theorem x_ref16_Not (O : Oracle) (n : Nat) (d : ((List Int) × ((List (List Int)) × ((List Bool) × (Int × Unit))))) : evF1 O n f_ref16_Not [.d (pr [(.list tI), (.list (.list tI)), (.list tB), tI]) d] [] = G_ref16_Not O n d := by kernel_rfl
def q_law16_DfaNot : Sh := ⟨[], ⟨[], []⟩, [.tm 0 tB]⟩
def f_law16_DfaNot : TF := ⟨(.seq (.region (
.op (some 2) (.boxD 26 (pr [(.list tI), (.list (.list tI)), (.list tB), tI]) (.tm 0)) <|
.op (some 4) (.mv (.k tB false)) <|
.nil)) (.seq (.seq (.region (
.op (some 8) (.load (pr [(.list tI), (.list (.list tI)), (.list tB), tI]) (.tm 2)) <|
.op (some 9) (.call false N_law16_Large [(.d (pr [(.list tI), (.list (.list tI)), (.list tB), tI]), .tm 8)] q_law16_Large) <|
.op (some 10) (.mv (.tm 9)) <|
.gb 10 false (
.op (some 11) (.mv (.tm 1)) <|
.op (some 12) (.len false (.tm 11)) <|
.op (some 13) (.bin .gtr (.tm 12) (.k tI (60 : Int))) <|
.nil) tB (.tm 13) (.k tB true) 14 <|
.nil)) (.cond (.tm 14) (.seq (.region (
.op (some 15) (.call false N_law16_awake [] q_law16_awake) <|
.op (some 4) (.mv (.tm 15)) <|
.nil)) .ret) .skip)) (.seq (.region (
.op (some 16) (.load (pr [(.list tI), (.list (.list tI)), (.list tB), tI]) (.tm 2)) <|
.op (some 17) (.call false N_dfa_Not [(.d (pr [(.list tI), (.list (.list tI)), (.list tB), tI]), .tm 16)] q_dfa_Not) <|
.op (some 5) (.alloc 26 [.nil tI, .nil (.list tI), .nil tB, .d tI (0 : Int)]) <|
.op none (.store (pr [(.list tI), (.list (.list tI)), (.list tB), tI]) (.tm 5) (.tm 17)) <|
.nil)) (.seq (.seq (.draw 5 (
.op (some 18) (.load (pr [(.list tI), (.list (.list tI)), (.list tB), tI]) (.tm 5)) <|
.op (some 19) (.load (pr [(.list tI), (.list (.list tI)), (.list tB), tI]) (.tm 2)) <|
.op (some 20) (.call false N_ref16_Not [(.d (pr [(.list tI), (.list (.list tI)), (.list tB), tI]), .tm 19)] q_ref16_Not) <|
.op (some 21) (.call false N_ref16_Equal [(.d (pr [(.list tI), (.list (.list tI)), (.list tB), tI]), .tm 18), (.d (pr [(.list tI), (.list (.list tI)), (.list tB), tI]), .tm 20)] q_ref16_Equal) <|
.op (some 22) (.un .not (.tm 21)) <|
.nil) [[], [], [1], [0, 2, 2], [3]]) (.cond (.tm 22) (.seq (.region (
.op (some 4) (.mv (.k tB false)) <|
.nil)) .ret) .skip)) (.seq (.seq (.region (
.op (some 23) (.load (pr [(.list tI), (.list (.list tI)), (.list tB), tI]) (.tm 2)) <|
.op (some 24) (.call false N_ref16_Check [(.d (pr [(.list tI), (.list (.list tI)), (.list tB), tI]), .tm 23)] q_ref16_Check) <|
.op (some 25) (.bin .neq (.tm 24) (.k tI (0 : Int))) <|
.nil)) (.cond (.tm 25) (.seq (.region (
.op (some 26) (.call false N_law16_awake [] q_law16_awake) <|
.op (some 4) (.mv (.tm 26)) <|
.nil)) .ret) .skip)) (.seq (.seq (.region (
.op (some 27) (.mv (.tm 1)) <|
.op (some 28) (.len false (.tm 27)) <|
.op (some 29) (.mv (.k tI (0 : Int))) <|
.nil)) (.block 0 (.loop ⟨[1, 2, 27, 28], ⟨[(5, .ptr 0 0)], [.box T_str_api_DFA [.any, .any, .any, .any]]⟩, [.tm 29 tI, .cell 0 0 (.list tI), .cell 0 1 (.list (.list tI)), .cell 0 2 (.list tB), .cell 0 3 tI]⟩ [(1, ⟨[], ⟨[], []⟩, [.tm 4 tB]⟩), (3, ⟨[1, 2], ⟨[(5, .ptr 0 0)], [.box T_str_api_DFA [.any, .any, .any, .any]]⟩, [.cell 0 0 (.list tI), .cell 0 1 (.list (.list tI)), .cell 0 2 (.list tB), .cell 0 3 tI]⟩)] (.seq (.region (
.op (some 30) (.bin .lss (.tm 29) (.tm 28)) <|
.nil)) (.seq (.cond (.tm 30) .skip (.exit 0)) (.seq (.block 1 (.seq (.region (
.op (some 31) (.idxA tI (.tm 27) (.tm 29)) <|
.op (some 32) (.load tI (.tm 31)) <|
.op (some 7) (.mv (.tm 32)) <|
.nil)) (.seq (.region (
.op (some 33) (.mv (.tm 7)) <|
.op (some 34) (.bin .lss (.tm 33) (.k tI (0 : Int))) <|
.op (some 35) (.mv (.tm 34)) <|
.gb 35 false (
.op (some 36) (.mv (.tm 7)) <|
.op (some 37) (.bin .gtr (.tm 36) (.k tI (4294967295 : Int))) <|
.nil) tB (.tm 37) (.k tB true) 38 <|
.nil)) (.cond (.tm 38) (.seq (.region (
.op (some 39) (.load (pr [(.list tI), (.list (.list tI)), (.list tB), tI]) (.tm 5)) <|
.op (some 40) (.mv (.tm 1)) <|
.op (some 41) (.call false N_dfa_Match [(.d (pr [(.list tI), (.list (.list tI)), (.list tB), tI]), .tm 39), (.d (.list tI), .tm 40)] q_dfa_Match) <|
.op (some 42) (.un .not (.tm 41)) <|
.op (some 43) (.mv (.tm 42)) <|
.gb 43 true (
.op (some 44) (.load (pr [(.list tI), (.list (.list tI)), (.list tB), tI]) (.tm 2)) <|
.op (some 45) (.mv (.tm 1)) <|
.op (some 46) (.call false N_dfa_Match [(.d (pr [(.list tI), (.list (.list tI)), (.list tB), tI]), .tm 44), (.d (.list tI), .tm 45)] q_dfa_Match) <|
.op (some 47) (.un .not (.tm 46)) <|
.nil) tB (.tm 47) (.k tB false) 48 <|
.op (some 49) (.mv (.tm 48)) <|
.gb 49 true (
.op (some 50) (.call false N_law16_awake [] q_law16_awake) <|
.nil) tB (.tm 50) (.k tB false) 51 <|
.op (some 4) (.mv (.tm 51)) <|
.nil)) (.adj [.sel [] [4]] .ret)) .skip)))) (.region (
.op (some 52) (.bin .add (.tm 29) (.k tI (1 : Int))) <|
.op (some 29) (.mv (.tm 52)) <|
.nil)))))))) (.seq (.draw 17 (
.op (some 53) (.load (pr [(.list tI), (.list (.list tI)), (.list tB), tI]) (.tm 5)) <|
.op (some 54) (.mv (.tm 1)) <|
.op (some 55) (.call false N_dfa_Match [(.d (pr [(.list tI), (.list (.list tI)), (.list tB), tI]), .tm 53), (.d (.list tI), .tm 54)] q_dfa_Match) <|
.op (some 56) (.load (pr [(.list tI), (.list (.list tI)), (.list tB), tI]) (.tm 2)) <|
.op (some 57) (.mv (.tm 1)) <|
.op (some 58) (.call false N_dfa_Match [(.d (pr [(.list tI), (.list (.list tI)), (.list tB), tI]), .tm 56), (.d (.list tI), .tm 57)] q_dfa_Match) <|
.op (some 59) (.eqB true (.tm 55) (.tm 58)) <|
.op (some 60) (.mv (.tm 59)) <|
.gb 60 true (
.op (some 61) (.load (pr [(.list tI), (.list (.list tI)), (.list tB), tI]) (.tm 5)) <|
.op (some 62) (.call false N_dfa_Not [(.d (pr [(.list tI), (.list (.list tI)), (.list tB), tI]), .tm 61)] q_dfa_Not) <|
.op (some 63) (.load (pr [(.list tI), (.list (.list tI)), (.list tB), tI]) (.tm 2)) <|
.op (some 64) (.call false N_ref16_Equal [(.d (pr [(.list tI), (.list (.list tI)), (.list tB), tI]), .tm 62), (.d (pr [(.list tI), (.list (.list tI)), (.list tB), tI]), .tm 63)] q_ref16_Equal) <|
.nil) tB (.tm 64) (.k tB false) 65 <|
.op (some 66) (.mv (.tm 65)) <|
.gb 66 true (
.op (some 67) (.call false N_law16_awake [] q_law16_awake) <|
.nil) tB (.tm 67) (.k tB false) 68 <|
.op (some 4) (.mv (.tm 68)) <|
.nil) [[], [], [0, 1], [], [], [3, 4, 2], [2, 5], [6, 5], [7], [8, 7, 7], [7], [9, 10, 9, 7], [7, 11], [12, 11], [13, 13], [13, 14], [15, 14, 0, 1, 2, 3, 4, 5, 6, 7, 8, 9, 10, 11, 12, 13, 14, 15]]) .ret))))))), [.tm 4], 69, q_law16_DfaNot, 0⟩
def L_law16_DfaNot_0 (O : Oracle) (n : Nat) (d : ((List Int) × ((List (List Int)) × ((List Bool) × (Int × Unit))))) (path : (List Int)) (s : (Int × (List Int) × (List (List Int)) × (List Bool) × Int × Unit)) : Option ((Int × (List Int) × (List (List Int)) × (List Bool) × Int × Unit) ⊕ (Bool × Unit) ⊕ ((List Int) × (List (List Int)) × (List Bool) × Int × Unit)) :=
 bif decide (s.1 < (path.length : Int)) then
 Option.bind (getI path s.1) fun v9 =>
 Option.bind (bif decide (v9 < (0 : Int)) then some (true) else
 some (decide (v9 > (4294967295 : Int)))) fun v10 =>
 bif v10 then
 Option.bind (callR O N_dfa_Match [.d (pr [(.list tI), (.list (.list tI)), (.list tB), tI]) ((s.2.1, s.2.2.1, s.2.2.2.1, s.2.2.2.2.1, ())), .d (.list tI) path] [] q_dfa_Match) fun v11 =>
 Option.bind (bif (!v11.1) then
 Option.bind (callR O N_dfa_Match [.d (pr [(.list tI), (.list (.list tI)), (.list tB), tI]) d, .d (.list tI) path] [] q_dfa_Match) fun v12 =>
 some ((!v12.1))
else some (false)) fun v13 =>
 Option.bind (bif v13 then
 Option.bind (callR O N_law16_awake [] [] q_law16_awake) fun v14 =>
 some (v14.1)
else some (false)) fun v15 =>
 some (.inr (.inl ((v15, ()))))
else
 some (.inl (IntKind.wrap .i64 (s.1 + (1 : Int)), s.2.1, s.2.2.1, s.2.2.2.1, s.2.2.2.2.1, ()))
else
 some (.inr (.inr ((s.2.1, s.2.2.1, s.2.2.2.1, s.2.2.2.2.1, ()))))
def G_law16_DfaNot (O : Oracle) (n : Nat) (d : ((List Int) × ((List (List Int)) × ((List Bool) × (Int × Unit))))) (path : (List Int)) : Option (Option S) :=
 Option.bind (callR O N_law16_Large [.d (pr [(.list tI), (.list (.list tI)), (.list tB), tI]) d] [] q_law16_Large) fun v =>
 Option.bind (bif v.1 then some (true) else
 some (decide ((path.length : Int) > (60 : Int)))) fun v1 =>
 bif v1 then
 Option.bind (callR O N_law16_awake [] [] q_law16_awake) fun v2 =>
 retQ q_law16_DfaNot (v2.1, ())
else
 Option.bind (callR O N_dfa_Not [.d (pr [(.list tI), (.list (.list tI)), (.list tB), tI]) d] [] q_dfa_Not) fun v3 =>
 Option.bind (callR O N_ref16_Not [.d (pr [(.list tI), (.list (.list tI)), (.list tB), tI]) d] [] q_ref16_Not) fun v4 =>
 Option.bind (callR O N_ref16_Equal [.d (pr [(.list tI), (.list (.list tI)), (.list tB), tI]) v3.1, .d (pr [(.list tI), (.list (.list tI)), (.list tB), tI]) v4.1] [] q_ref16_Equal) fun v5 =>
 bif (!v5.1) then
 retQ q_law16_DfaNot (false, ())
else
 Option.bind (callR O N_ref16_Check [.d (pr [(.list tI), (.list (.list tI)), (.list tB), tI]) d] [] q_ref16_Check) fun v6 =>
 bif (v6.1 != (0 : Int)) then
 Option.bind (callR O N_law16_awake [] [] q_law16_awake) fun v7 =>
 retQ q_law16_DfaNot (v7.1, ())
else
 Option.bind (loopN n (L_law16_DfaNot_0 O n d path) ((0 : Int), v3.1.1, v3.1.2.1, v3.1.2.2.1, v3.1.2.2.2.1, ())) fun (v16 : (Bool × Unit) ⊕ ((List Int) × (List (List Int)) × (List Bool) × Int × Unit)) =>
 Sum.elim (fun v17 =>
 retQ q_law16_DfaNot (v17.1, ())) (fun v18 =>
 Option.bind (callR O N_dfa_Match [.d (pr [(.list tI), (.list (.list tI)), (.list tB), tI]) ((v18.1, v18.2.1, v18.2.2.1, v18.2.2.2.1, ())), .d (.list tI) path] [] q_dfa_Match) fun v19 =>
 Option.bind (callR O N_dfa_Match [.d (pr [(.list tI), (.list (.list tI)), (.list tB), tI]) d, .d (.list tI) path] [] q_dfa_Match) fun v20 =>
 Option.bind (bif (true ^^ (v19.1 == v20.1)) then
 Option.bind (callR O N_dfa_Not [.d (pr [(.list tI), (.list (.list tI)), (.list tB), tI]) ((v18.1, v18.2.1, v18.2.2.1, v18.2.2.2.1, ()))] [] q_dfa_Not) fun v21 =>
 Option.bind (callR O N_ref16_Equal [.d (pr [(.list tI), (.list (.list tI)), (.list tB), tI]) v21.1, .d (pr [(.list tI), (.list (.list tI)), (.list tB), tI]) d] [] q_ref16_Equal) fun v22 =>
 some (v22.1)
else some (false)) fun v23 =>
 Option.bind (bif v23 then
 Option.bind (callR O N_law16_awake [] [] q_law16_awake) fun v24 =>
 some (v24.1)
else some (false)) fun v25 =>
 retQ q_law16_DfaNot (v25, ())) v16
theorem x_law16_DfaNot (O : Oracle) (n : Nat) (d : ((List Int) × ((List (List Int)) × ((List Bool) × (Int × Unit))))) (path : (List Int)) : evF1 O n f_law16_DfaNot [.d (pr [(.list tI), (.list (.list tI)), (.list tB), tI]) d, .d (.list tI) path] [] = G_law16_DfaNot O n d path := by kernel_rfl
def q_law16_DfaEqual : Sh := ⟨[], ⟨[], []⟩, [.tm 0 tB]⟩
def f_law16_DfaEqual : TF := ⟨(.seq (.region (
.op (some 2) (.boxD 26 (pr [(.list tI), (.list (.list tI)), (.list tB), tI]) (.tm 0)) <|
.op (some 3) (.boxD 26 (pr [(.list tI), (.list (.list tI)), (.list tB), tI]) (.tm 1)) <|
.op (some 4) (.mv (.k tB false)) <|
.nil)) (.seq (.seq (.region (
.op (some 5) (.load (pr [(.list tI), (.list (.list tI)), (.list tB), tI]) (.tm 2)) <|
.op (some 6) (.call false N_law16_Large [(.d (pr [(.list tI), (.list (.list tI)), (.list tB), tI]), .tm 5)] q_law16_Large) <|
.op (some 7) (.mv (.tm 6)) <|
.gb 7 false (
.op (some 8) (.load (pr [(.list tI), (.list (.list tI)), (.list tB), tI]) (.tm 3)) <|
.op (some 9) (.call false N_law16_Large [(.d (pr [(.list tI), (.list (.list tI)), (.list tB), tI]), .tm 8)] q_law16_Large) <|
.nil) tB (.tm 9) (.k tB true) 10 <|
.nil)) (.cond (.tm 10) (.seq (.region (
.op (some 11) (.call false N_law16_awake [] q_law16_awake) <|
.op (some 4) (.mv (.tm 11)) <|
.nil)) .ret) .skip)) (.seq (.draw 16 (
.op (some 12) (.load (pr [(.list tI), (.list (.list tI)), (.list tB), tI]) (.tm 2)) <|
.op (some 13) (.load (pr [(.list tI), (.list (.list tI)), (.list tB), tI]) (.tm 3)) <|
.op (some 14) (.call false N_dfa_Equal [(.d (pr [(.list tI), (.list (.list tI)), (.list tB), tI]), .tm 12), (.d (pr [(.list tI), (.list (.list tI)), (.list tB), tI]), .tm 13)] q_dfa_Equal) <|
.op (some 15) (.load (pr [(.list tI), (.list (.list tI)), (.list tB), tI]) (.tm 2)) <|
.op (some 16) (.load (pr [(.list tI), (.list (.list tI)), (.list tB), tI]) (.tm 3)) <|
.op (some 17) (.call false N_ref16_Equal [(.d (pr [(.list tI), (.list (.list tI)), (.list tB), tI]), .tm 15), (.d (pr [(.list tI), (.list (.list tI)), (.list tB), tI]), .tm 16)] q_ref16_Equal) <|
.op (some 18) (.eqB false (.tm 14) (.tm 17)) <|
.op (some 19) (.mv (.tm 18)) <|
.gb 19 true (
.op (some 20) (.load (pr [(.list tI), (.list (.list tI)), (.list tB), tI]) (.tm 2)) <|
.op (some 21) (.load (pr [(.list tI), (.list (.list tI)), (.list tB), tI]) (.tm 2)) <|
.op (some 22) (.call false N_dfa_Equal [(.d (pr [(.list tI), (.list (.list tI)), (.list tB), tI]), .tm 20), (.d (pr [(.list tI), (.list (.list tI)), (.list tB), tI]), .tm 21)] q_dfa_Equal) <|
.nil) tB (.tm 22) (.k tB false) 23 <|
.op (some 24) (.mv (.tm 23)) <|
.gb 24 true (
.op (some 25) (.call false N_law16_awake [] q_law16_awake) <|
.nil) tB (.tm 25) (.k tB false) 26 <|
.op (some 4) (.mv (.tm 26)) <|
.nil) [[], [], [0, 1], [], [], [3, 4, 2], [2, 5], [6, 5], [7], [7], [8, 9, 7, 7], [7, 10], [11, 10], [12, 12], [12, 13], [14, 13, 0, 1, 2, 3, 4, 5, 6, 7, 8, 9, 10, 11, 12, 13, 14]]) .ret))), [.tm 4], 27, q_law16_DfaEqual, 0⟩
def G_law16_DfaEqual (O : Oracle) (n : Nat) (a : ((List Int) × ((List (List Int)) × ((List Bool) × (Int × Unit))))) (b : ((List Int) × ((List (List Int)) × ((List Bool) × (Int × Unit))))) : Option (Option S) :=
 Option.bind (callR O N_law16_Large [.d (pr [(.list tI), (.list (.list tI)), (.list tB), tI]) a] [] q_law16_Large) fun v =>
 Option.bind (bif v.1 then some (true) else
 Option.bind (callR O N_law16_Large [.d (pr [(.list tI), (.list (.list tI)), (.list tB), tI]) b] [] q_law16_Large) fun v1 =>
 some (v1.1)) fun v2 =>
 bif v2 then
 Option.bind (callR O N_law16_awake [] [] q_law16_awake) fun v3 =>
 retQ q_law16_DfaEqual (v3.1, ())
else
 Option.bind (callR O N_dfa_Equal [.d (pr [(.list tI), (.list (.list tI)), (.list tB), tI]) a, .d (pr [(.list tI), (.list (.list tI)), (.list tB), tI]) b] [] q_dfa_Equal) fun v4 =>
 Option.bind (callR O N_ref16_Equal [.d (pr [(.list tI), (.list (.list tI)), (.list tB), tI]) a, .d (pr [(.list tI), (.list (.list tI)), (.list tB), tI]) b] [] q_ref16_Equal) fun v5 =>
 Option.bind (bif (false ^^ (v4.1 == v5.1)) then
 Option.bind (callR O N_dfa_Equal [.d (pr [(.list tI), (.list (.list tI)), (.list tB), tI]) a, .d (pr [(.list tI), (.list (.list tI)), (.list tB), tI]) a] [] q_dfa_Equal) fun v6 =>
 some (v6.1)
else some (false)) fun v7 =>
 Option.bind (bif v7 then
 Option.bind (callR O N_law16_awake [] [] q_law16_awake) fun v8 =>
 some (v8.1)
else some (false)) fun v9 =>
 retQ q_law16_DfaEqual (v9, ())
theorem x_law16_DfaEqual (O : Oracle) (n : Nat) (a : ((List Int) × ((List (List Int)) × ((List Bool) × (Int × Unit))))) (b : ((List Int) × ((List (List Int)) × ((List Bool) × (Int × Unit))))) : evF1 O n f_law16_DfaEqual [.d (pr [(.list tI), (.list (.list tI)), (.list tB), tI]) a, .d (pr [(.list tI), (.list (.list tI)), (.list tB), tI]) b] [] = G_law16_DfaEqual O n a b := by kernel_rfl
end Go.Proofs.Ytbpdbooalkkenaa
