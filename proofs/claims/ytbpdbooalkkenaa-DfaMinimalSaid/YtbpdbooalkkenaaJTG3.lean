/-
  THE LOADED FUNCTIONS AS TYPED CODE AND AS PLAIN FUNCTIONS, printed by program; each pair held by the kernel.
-/
import Derived.Test.YtbpdbooalkkenaaJTG2
set_option linter.unusedVariables false
set_option linter.unusedSimpArgs false
namespace Go.Proofs.Ytbpdbooalkkenaa
open Go Go.Av Go.Ev
open Z
def q_law16_Large : Sh := ⟨[], ⟨[], []⟩, [.tm 0 tB]⟩
def f_law16_Large : TF := ⟨(.seq (.region (
 o 1 (.boxD 26 pD (t 0))<|
 o 2 (.mv yF)<|
.nil)) (.seq (.seq (.region (
 q 5 1 lL 1<|
 o 7 (.len false (t 6))<|
 o 8 (.bin .gtr (t 7) (i 60))<|
 o 9 (m 8)<|
.gb 9 false (
 q 10 2 lB 1<|
 o 12 (.len false (t 11))<|
 o 13 (.bin .gtr (t 12) (i 60))<|
.nil) tB (t 13) yT 14 <|
 o 15 (m 14)<|
.gb 15 false (
 q 16 0 lI 1<|
 o 18 (.len false (t 17))<|
 o 19 (.bin .gtr (t 18) (i 60))<|
.nil) tB (t 19) yT 20 <|
.nil)) (.cond (t 20) (.seq (.region (
 o 2 (.mv yT)<|
.nil)) .ret) .skip)) (.seq (.seq (.region (
 q 21 1 lL 1<|
 o 23 (.len false (t 22))<|
 o 24 (.mv (i 0))<|
.nil)) (.block 0 (.loop ⟨[22, 23], ⟨[], []⟩, [.tm 24 tI]⟩ [(1, ⟨[], ⟨[], []⟩, [.tm 2 tB]⟩), (3, ⟨[], ⟨[], []⟩, []⟩)] (.seq (.region (
 o 25 (.bin .lss (t 24) (t 23))<|
.nil)) (.seq (.cond (t 25) .skip (.exit 0)) (.seq (.block 1 (.seq (.region (
 o 26 (.idxA lI (t 22) (t 24))<|
 o 27 (.load lI (t 26))<|
 o 4 (m 27)<|
.nil)) (.seq (.region (
 o 28 (m 4)<|
 o 29 (.len false (t 28))<|
 o 30 (.bin .gtr (t 29) (i 60))<|
.nil)) (.cond (t 30) (.seq (.region (
 o 2 (.mv yT)<|
.nil)) .ret) .skip)))) (.region (
 o 31 (.bin .add (t 24) (i 1))<|
 o 24 (m 31)<|
.nil)))))))) (.seq (.region (
 o 2 (.mv yF)<|
.nil)) .ret)))), [.tm 2], 32, q_law16_Large, 0⟩
def L_law16_Large_0 (O : Oracle) (n : Nat) (d : TD) (s : (Int × Unit)) : Option ((Int × Unit) ⊕ (Bool × Unit) ⊕ Unit) :=
 bif decide (s.1 < (d.2.1.length : Int)) then
 Option.bind (getI d.2.1 s.1) fun v3 =>
 bif decide ((v3.length : Int) > (60 : Int)) then
 some (.inr (.inl ((true, ()))))
else
 some (.inl (IntKind.wrap .i64 (s.1 + (1 : Int)), ()))
else
 some (.inr (.inr (())))
def G_law16_Large (O : Oracle) (n : Nat) (d : TD) : Option (Option S) :=
 Option.bind (bif decide ((d.2.1.length : Int) > (60 : Int)) then some (true) else
 some (decide ((d.2.2.1.length : Int) > (60 : Int)))) fun v =>
 Option.bind (bif v then some (true) else
 some (decide ((d.1.length : Int) > (60 : Int)))) fun v1 =>
 bif v1 then
 retQ q_law16_Large (true, ())
else
 Option.bind (loopN n (L_law16_Large_0 O n d) ((0 : Int), ())) fun (v4 : (Bool × Unit) ⊕ Unit) =>
 Sum.elim (fun v5 =>
 retQ q_law16_Large (v5.1, ())) (fun v6 =>
 retQ q_law16_Large (false, ())) v4
theorem x_law16_Large (O : Oracle) (n : Nat) (d : ((List Int) × ((List (List Int)) × ((List Bool) × (Int × Unit))))) : evF1 O n f_law16_Large [.d (pr [(.list tI), (.list (.list tI)), (.list tB), tI]) d] [] = G_law16_Large O n d := by kernel_rfl
def q_ref16_class : Sh := ⟨[], ⟨[], []⟩, [.tm 0 tI]⟩
def f_ref16_class : TF := ⟨(.seq (.region (
 o 4 (.mv (i 0))<|
.nil)) (.seq (.region (
 o 5 (.mv (i 0))<|
.nil)) (.seq (.seq (.region (
 o 8 (m 0)<|
 o 9 (.len false (t 8))<|
 o 10 (.mv (i 0))<|
.nil)) (.block 0 (.loop ⟨[1, 8, 9], ⟨[], []⟩, [.tm 5 tI, .tm 10 tI]⟩ [(3, ⟨[], ⟨[], []⟩, [.tm 5 tI]⟩)] (.seq (.region (
 o 11 (.bin .lss (t 10) (t 9))<|
.nil)) (.seq (.cond (t 11) .skip (.exit 0)) (.seq (.cut [(0, ⟨[1, 8, 9, 10], ⟨[], []⟩, [.tm 5 tI]⟩)] (.block 1 (.seq (.region (
 o 12 (m 10)<|
 o 13 (.idxA tI (t 8) (t 10))<|
 o 14 (.load tI (t 13))<|
 o 6 (m 12)<|
 o 7 (m 14)<|
.nil)) (.seq (.region (
 o 15 (m 7)<|
 o 16 (m 1)<|
 o 17 (.bin .leq (t 15) (t 16))<|
.nil)) (.cond (t 17) (.region (
 o 18 (m 6)<|
 o 5 (m 18)<|
.nil)) .skip))))) (.region (
 o 19 (.bin .add (t 10) (i 1))<|
 o 10 (m 19)<|
.nil)))))))) (.seq (.region (
 o 20 (m 5)<|
 o 4 (m 20)<|
.nil)) .ret)))), [.tm 4], 21, q_ref16_class, 0⟩
def L_ref16_class_0 (O : Oracle) (n : Nat) (starts : (List Int)) (as_ : Int) (s : (Int × Int × Unit)) : Option ((Int × Int × Unit) ⊕ (Int × Unit)) :=
 bif decide (s.2.1 < (starts.length : Int)) then
 Option.bind (
 Option.bind (getI starts s.2.1) fun v1 =>
 bif decide (v1 ≤ as_) then
 some ((s.2.1, ()))
else
 some ((s.1, ()))) fun (v2 : (Int × Unit)) =>
 some (.inl (v2.1, IntKind.wrap .i64 (s.2.1 + (1 : Int)), ()))
else
 some (.inr ((s.1, ())))
def G_ref16_class (O : Oracle) (n : Nat) (starts : (List Int)) (as_ : Int) : Option (Option S) :=
 Option.bind (loopN n (L_ref16_class_0 O n starts as_) ((0 : Int), (0 : Int), ())) fun (v3 : (Int × Unit)) =>
 retQ q_ref16_class (v3.1, ())
theorem x_ref16_class (O : Oracle) (n : Nat) (starts : (List Int)) (as_ : Int) : evF1 O n f_ref16_class [.d (.list tI) starts, .d tI as_] [] = G_ref16_class O n starts as_ := by kernel_rfl
def q_dfa_Minimal : Sh := ⟨[], ⟨[], []⟩, [.tm 0 (pr [(.list tI), (.list (.list tI)), (.list tB), tI]), .tm 1 tI]⟩
def f_dfa_Minimal : TF := ⟨(.seq (.region (
 o 1 (.boxD 26 pD (t 0))<|
 o 2 (.alloc 26 [.nil tI, .nil lI, .nil tB, .d tI (0 : Int)])<|
 o 3 (.mv (i 0))<|
.nil)) (.seq (.seq (.region (
 o 5 (.load pD (t 1))<|
 o 6 (.call false N_dfa_Check [(.d pD, .tm 5)] q_dfa_Check)<|
 o 4 (m 6)<|
.nil)) (.seq (.region (
 o 7 (m 4)<|
 o 8 (.bin .neq (t 7) (i 0))<|
.nil)) (.cond (t 8) (.seq (.region (
 o 9 (.build [.nil tI, .nil lI, .nil tB, .d tI (0 : Int)] [])<|
 o 10 (m 4)<|
.op none (.store pD (t 2) (t 9))<|
 o 3 (m 10)<|
.nil)) .ret) .skip))) (.seq (.region (
 o 11 (.load pD (t 1))<|
 o 12 (.call false N_dfa_minimal [(.d pD, .tm 11)] q_dfa_minimal)<|
.op none (.store pD (t 2) (t 12))<|
 o 3 (.mv (i 0))<|
.nil)) .ret))), [.cell 2 pD, .tm 3], 13, q_dfa_Minimal, 0⟩
def G_dfa_Minimal (O : Oracle) (n : Nat) (d : TD) : Option (Option S) :=
 Option.bind (callR O N_dfa_Check [.d (pr [(.list tI), (.list (.list tI)), (.list tB), tI]) d] [] q_dfa_Check) fun v =>
 bif (v.1 != (0 : Int)) then
 retQ q_dfa_Minimal ((([] : List Int), ([] : List (List Int)), ([] : List Bool), (0 : Int), ()), v.1, ())
else
 Option.bind (callR O N_dfa_minimal [.d (pr [(.list tI), (.list (.list tI)), (.list tB), tI]) d] [] q_dfa_minimal) fun v1 =>
 retQ q_dfa_Minimal (v1.1, (0 : Int), ())
theorem x_dfa_Minimal (O : Oracle) (n : Nat) (d : ((List Int) × ((List (List Int)) × ((List Bool) × (Int × Unit))))) : evF1 O n f_dfa_Minimal [.d (pr [(.list tI), (.list (.list tI)), (.list tB), tI]) d] [] = G_dfa_Minimal O n d := by kernel_rfl
def q_ref16_Minimal : Sh := ⟨[], ⟨[], []⟩, [.tm 0 (pr [(.list tI), (.list (.list tI)), (.list tB), tI]), .tm 1 tI]⟩
def f_ref16_Minimal : TF := ⟨(.seq (.region (
 o 1 (.boxD 26 pD (t 0))<|
 o 2 (.alloc 26 [.nil tI, .nil lI, .nil tB, .d tI (0 : Int)])<|
 o 3 (.mv (i 0))<|
.nil)) (.seq (.seq (.region (
 o 5 (.load pD (t 1))<|
 o 6 (.call false N_ref16_Check [(.d pD, .tm 5)] q_ref16_Check)<|
 o 4 (m 6)<|
.nil)) (.seq (.region (
 o 7 (m 4)<|
 o 8 (.bin .neq (t 7) (i 0))<|
.nil)) (.cond (t 8) (.seq (.region (
 o 9 (.build [.nil tI, .nil lI, .nil tB, .d tI (0 : Int)] [])<|
 o 10 (m 4)<|
.op none (.store pD (t 2) (t 9))<|
 o 3 (m 10)<|
.nil)) .ret) .skip))) (.seq (.region (
 o 11 (.load pD (t 1))<|
 o 12 (.call false N_ref16_Normal [(.d pD, .tm 11)] q_ref16_Normal)<|
.op none (.store pD (t 2) (t 12))<|
 o 3 (.mv (i 0))<|
.nil)) .ret))), [.cell 2 pD, .tm 3], 13, q_ref16_Minimal, 0⟩
def G_ref16_Minimal (O : Oracle) (n : Nat) (d : TD) : Option (Option S) :=
 Option.bind (callR O N_ref16_Check [.d (pr [(.list tI), (.list (.list tI)), (.list tB), tI]) d] [] q_ref16_Check) fun v =>
 bif (v.1 != (0 : Int)) then
 retQ q_ref16_Minimal ((([] : List Int), ([] : List (List Int)), ([] : List Bool), (0 : Int), ()), v.1, ())
else
 Option.bind (callR O N_ref16_Normal [.d (pr [(.list tI), (.list (.list tI)), (.list tB), tI]) d] [] q_ref16_Normal) fun v1 =>
 retQ q_ref16_Minimal (v1.1, (0 : Int), ())
theorem x_ref16_Minimal (O : Oracle) (n : Nat) (d : ((List Int) × ((List (List Int)) × ((List Bool) × (Int × Unit))))) : evF1 O n f_ref16_Minimal [.d (pr [(.list tI), (.list (.list tI)), (.list tB), tI]) d] [] = G_ref16_Minimal O n d := by kernel_rfl
def q_law16_DfaMinimal : Sh := ⟨[], ⟨[], []⟩, [.tm 0 tB]⟩
def f_law16_DfaMinimal : TF := ⟨(.seq (.region (
 o 2 (.boxD 26 pD (t 0))<|
 o 3 (.boxD 26 pD (t 1))<|
 o 4 (.mv yF)<|
.nil)) (.seq (.seq (.region (
 o 11 (.load pD (t 2))<|
 o 12 (.call false N_law16_Large [(.d pD, .tm 11)] q_law16_Large)<|
 o 13 (m 12)<|
.gb 13 false (
 o 14 (.load pD (t 3))<|
 o 15 (.call false N_law16_Large [(.d pD, .tm 14)] q_law16_Large)<|
.nil) tB (t 15) yT 16 <|
.nil)) (.cond (t 16) (.seq (.region (
 o 17 (.call false N_law16_awake [] q_law16_awake)<|
 o 4 (m 17)<|
.nil)) .ret) .skip)) (.seq (.region (
 o 19 (.load pD (t 2))<|
 o 20 (.call false N_dfa_Minimal [(.d pD, .tm 19)] q_dfa_Minimal)<|
 o 18 (m 20)<|
 o 21 (.ext (t 18) 0)<|
 o 22 (.ext (t 18) 1)<|
 o 5 (.alloc 26 [.nil tI, .nil lI, .nil tB, .d tI (0 : Int)])<|
.op none (.store pD (t 5) (t 21))<|
 o 6 (m 22)<|
.nil)) (.seq (.region (
 o 24 (.load pD (t 2))<|
 o 25 (.call false N_ref16_Minimal [(.d pD, .tm 24)] q_ref16_Minimal)<|
 o 23 (m 25)<|
 o 26 (.ext (t 23) 0)<|
 o 27 (.ext (t 23) 1)<|
 o 7 (.alloc 26 [.nil tI, .nil lI, .nil tB, .d tI (0 : Int)])<|
.op none (.store pD (t 7) (t 26))<|
 o 8 (m 27)<|
.nil)) (.seq (.seq (.region (
 o 28 (m 6)<|
 o 29 (m 8)<|
 o 30 (.bin .neq (t 28) (t 29))<|
 o 31 (m 30)<|
.gb 31 false (
 o 32 (.load pD (t 5))<|
 o 33 (.load pD (t 7))<|
 o 34 (.call false N_ref16_Equal [(.d pD, .tm 32), (.d pD, .tm 33)] q_ref16_Equal)<|
 o 35 (.un .not (t 34))<|
.nil) tB (t 35) yT 36 <|
.nil)) (.cond (t 36) (.seq (.region (
 o 4 (.mv yF)<|
.nil)) .ret) .skip)) (.seq (.region (
 o 38 (.load pD (t 3))<|
 o 39 (.call false N_dfa_Minimal [(.d pD, .tm 38)] q_dfa_Minimal)<|
 o 37 (m 39)<|
 o 40 (.ext (t 37) 0)<|
 o 41 (.ext (t 37) 1)<|
 o 9 (.alloc 26 [.nil tI, .nil lI, .nil tB, .d tI (0 : Int)])<|
.op none (.store pD (t 9) (t 40))<|
 o 10 (m 41)<|
.nil)) (.seq (.seq (.draw 15 (
 o 42 (m 6)<|
 o 43 (.bin .eql (t 42) (i 0))<|
 o 44 (m 43)<|
.gb 44 true (
 o 45 (m 10)<|
 o 46 (.bin .eql (t 45) (i 0))<|
.nil) tB (t 46) yF 47 <|
 o 48 (m 47)<|
.gb 48 true (
 o 49 (.load pD (t 2))<|
 o 50 (.load pD (t 3))<|
 o 51 (.call false N_dfa_Same [(.d pD, .tm 49), (.d pD, .tm 50)] q_dfa_Same)<|
 o 52 (.load pD (t 5))<|
 o 53 (.load pD (t 9))<|
 o 54 (.call false N_ref16_Equal [(.d pD, .tm 52), (.d pD, .tm 53)] q_ref16_Equal)<|
 o 55 (.eqB true (t 51) (t 54))<|
.nil) tB (t 55) yF 56 <|
.nil) [[], [0], [1], [2], [3, 2], [2, 4], [5, 2], [6], [6], [7, 8, 6, 6], [6], [6], [10, 11, 9, 6], [9, 12, 6], [6, 13]]) (.cond (t 56) (.seq (.region (
 o 4 (.mv yF)<|
.nil)) .ret) .skip)) (.seq (.region (
 o 57 (.call false N_law16_awake [] q_law16_awake)<|
 o 4 (m 57)<|
.nil)) .ret)))))))), [.tm 4], 58, q_law16_DfaMinimal, 0⟩
def G_law16_DfaMinimal (O : Oracle) (n : Nat) (a : TD) (b : TD) : Option (Option S) :=
 Option.bind (callR O N_law16_Large [.d (pr [(.list tI), (.list (.list tI)), (.list tB), tI]) a] [] q_law16_Large) fun v =>
 Option.bind (bif v.1 then some (true) else
 Option.bind (callR O N_law16_Large [.d (pr [(.list tI), (.list (.list tI)), (.list tB), tI]) b] [] q_law16_Large) fun v1 =>
 some (v1.1)) fun v2 =>
 bif v2 then
 Option.bind (callR O N_law16_awake [] [] q_law16_awake) fun v3 =>
 retQ q_law16_DfaMinimal (v3.1, ())
else
 Option.bind (callR O N_dfa_Minimal [.d (pr [(.list tI), (.list (.list tI)), (.list tB), tI]) a] [] q_dfa_Minimal) fun v4 =>
 Option.bind (callR O N_ref16_Minimal [.d (pr [(.list tI), (.list (.list tI)), (.list tB), tI]) a] [] q_ref16_Minimal) fun v5 =>
 Option.bind (bif (v4.2.1 != v5.2.1) then some (true) else
 Option.bind (callR O N_ref16_Equal [.d (pr [(.list tI), (.list (.list tI)), (.list tB), tI]) v4.1, .d (pr [(.list tI), (.list (.list tI)), (.list tB), tI]) v5.1] [] q_ref16_Equal) fun v6 =>
 some ((!v6.1))) fun v7 =>
 bif v7 then
 retQ q_law16_DfaMinimal (false, ())
else
 Option.bind (callR O N_dfa_Minimal [.d (pr [(.list tI), (.list (.list tI)), (.list tB), tI]) b] [] q_dfa_Minimal) fun v8 =>
 Option.bind (bif (v4.2.1 == (0 : Int)) then
 some ((v8.2.1 == (0 : Int)))
else some (false)) fun v9 =>
 Option.bind (bif v9 then
 Option.bind (callR O N_dfa_Same [.d (pr [(.list tI), (.list (.list tI)), (.list tB), tI]) a, .d (pr [(.list tI), (.list (.list tI)), (.list tB), tI]) b] [] q_dfa_Same) fun v10 =>
 Option.bind (callR O N_ref16_Equal [.d (pr [(.list tI), (.list (.list tI)), (.list tB), tI]) v4.1, .d (pr [(.list tI), (.list (.list tI)), (.list tB), tI]) v8.1] [] q_ref16_Equal) fun v11 =>
 some ((true ^^ (v10.1 == v11.1)))
else some (false)) fun v12 =>
 bif v12 then
 retQ q_law16_DfaMinimal (false, ())
else
 Option.bind (callR O N_law16_awake [] [] q_law16_awake) fun v13 =>
 retQ q_law16_DfaMinimal (v13.1, ())
theorem x_law16_DfaMinimal (O : Oracle) (n : Nat) (a : ((List Int) × ((List (List Int)) × ((List Bool) × (Int × Unit))))) (b : ((List Int) × ((List (List Int)) × ((List Bool) × (Int × Unit))))) : evF1 O n f_law16_DfaMinimal [.d (pr [(.list tI), (.list (.list tI)), (.list tB), tI]) a, .d (pr [(.list tI), (.list (.list tI)), (.list tB), tI]) b] [] = G_law16_DfaMinimal O n a b := by kernel_rfl
end Go.Proofs.Ytbpdbooalkkenaa
