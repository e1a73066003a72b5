import Derived.Test.YtfgchoifgocclaaDoorKL5
import Derived.KernelRfl
/-
  THE LOADED FUNCTIONS AS TYPED CODE AND AS PLAIN FUNCTIONS, printed by program; each pair held by the kernel.
-/
set_option linter.unusedVariables false
namespace Go.Proofs.YtfgchoifgocclaaDoor
open Go Go.Av Go.Ev
abbrev N_community_Check : Nat := 9
abbrev N_ref18_Check : Nat := 10
abbrev N_community_names : Nat := 29
abbrev N_field_canonical : Nat := 38
abbrev N_field_Number : Nat := 31
abbrev N_strconv_Itoa : Nat := 37
abbrev N_field_Decimal : Nat := 30
abbrev N_community_Text : Nat := 12
abbrev N_community_Parse : Nat := 13
abbrev N_community_insert_uint32 : Nat := 35
abbrev N_community_sorted_uint32 : Nat := 34
abbrev N_community_has_uint32 : Nat := 33
abbrev N_community_Add : Nat := 19
abbrev N_community_Has : Nat := 16
abbrev N_community_Drop : Nat := 21
abbrev N_community_Join : Nat := 23
abbrev N_community_Match : Nat := 25
abbrev N_community_Permits : Nat := 27
abbrev N_law18_awake : Nat := 11
abbrev N_law18_CommunityCheck : Nat := 3
abbrev N_ref03_digits : Nat := 39
abbrev N_ref03_Decimal : Nat := 32
abbrev N_ref18_Text : Nat := 14
abbrev N_law18_CommunityBack : Nat := 4
abbrev N_ref18_Parse : Nat := 15
abbrev N_law18_CommunityParse : Nat := 5
abbrev N_ref18_Has : Nat := 17
abbrev N_ref18_ascending_d_o1 : Nat := 36
abbrev N_ref18_ascending : Nat := 10036
abbrev N_ref18_Add : Nat := 20
abbrev N_ref18_Same : Nat := 18
abbrev N_ref18_Drop : Nat := 22
abbrev N_ref18_Join : Nat := 24
abbrev N_law18_CommunityChange : Nat := 6
abbrev N_ref18_Match : Nat := 26
abbrev N_ref18_Permits : Nat := 28
abbrev N_law18_CommunityPermits : Nat := 7
abbrev N_law18_CommunitySets : Nat := 8
abbrev T_u32 : TypeId := 27
abbrev T_ar4_u32 : TypeId := 45
abbrev T_ar4_string : TypeId := 46
abbrev T_ar2_i64 : TypeId := 53
def q_community_Check : Sh := ⟨[], ⟨[], []⟩, [.tm 0 tI]⟩
/-! ### 9: routing/community.Check -/
def f_community_Check : TF := ⟨(.seq (.region (
.op (some 2) (.mv (.k tI (0 : Int))) <|
.nil)) (.seq (.seq (.region (
.op (some 4) (.mv (.tm 0)) <|
.op (some 5) (.len false (.tm 4)) <|
.op (some 6) (.bin .gtr (.tm 5) (.k tI (255 : Int))) <|
.nil)) (.cond (.tm 6) (.seq (.region (
.op (some 2) (.mv (.k tI (4 : Int))) <|
.nil)) .ret) .skip)) (.seq (.seq (.region (
.op (some 7) (.mv (.tm 0)) <|
.op (some 8) (.len false (.tm 7)) <|
.op (some 9) (.mv (.k tI (0 : Int))) <|
.nil)) (.block 0 (.loop ⟨[0, 8], ⟨[], []⟩, [.tm 9 tI]⟩ [(1, ⟨[], ⟨[], []⟩, [.tm 2 tI]⟩), (3, ⟨[], ⟨[], []⟩, []⟩)] (.seq (.region (
.op (some 10) (.bin .lss (.tm 9) (.tm 8)) <|
.nil)) (.seq (.cond (.tm 10) .skip (.exit 0)) (.seq (.block 1 (.seq (.region (
.op (some 11) (.mv (.tm 9)) <|
.op (some 3) (.mv (.tm 11)) <|
.nil)) (.seq (.draw 14 (
.op (some 12) (.mv (.tm 3)) <|
.op (some 13) (.bin .gtr (.tm 12) (.k tI (0 : Int))) <|
.op (some 14) (.mv (.tm 13)) <|
.gb 14 true (
.op (some 15) (.mv (.tm 0)) <|
.op (some 16) (.mv (.tm 3)) <|
.op (some 17) (.idxA tW (.tm 15) (.tm 16)) <|
.op (some 18) (.load tW (.tm 17)) <|
.op (some 19) (.mv (.tm 0)) <|
.op (some 20) (.mv (.tm 3)) <|
.op (some 21) (.bin .sub (.tm 20) (.k tI (1 : Int))) <|
.op (some 22) (.idxA tW (.tm 19) (.tm 21)) <|
.op (some 23) (.load tW (.tm 22)) <|
.op (some 24) (.bin .leq (.tm 18) (.tm 23)) <|
.nil) tB (.tm 24) (.k tB false) 25 <|
.nil) [[], [0], [1], [2], [2], [3, 4, 2], [5, 2], [2], [2], [8, 2], [7, 9, 2], [10, 2], [6, 11, 2], [2, 12]]) (.cond (.tm 25) (.seq (.region (
.op (some 2) (.mv (.k tI (16 : Int))) <|
.nil)) .ret) .skip)))) (.region (
.op (some 26) (.bin .add (.tm 9) (.k tI (1 : Int))) <|
.op (some 9) (.mv (.tm 26)) <|
.nil)))))))) (.seq (.region (
.op (some 2) (.mv (.k tI (0 : Int))) <|
.nil)) .ret)))), [.tm 2], 27, q_community_Check, 0⟩
def L_community_Check_0 (O : Oracle) (n : Nat) (l : (List Int)) (s : (Int × Unit)) : Option ((Int × Unit) ⊕ (Int × Unit) ⊕ Unit) :=
 bif decide (s.1 < (l.length : Int)) then
 Option.bind (bif decide (s.1 > (0 : Int)) then
 Option.bind (getI l s.1) fun v1 =>
 Option.bind (getI l (IntKind.wrap .i64 (s.1 - (1 : Int)))) fun v2 =>
 some (decide (v1 ≤ v2))
else some (false)) fun v3 =>
 bif v3 then
 some (.inr (.inl (((16 : Int), ()))))
else
 some (.inl (IntKind.wrap .i64 (s.1 + (1 : Int)), ()))
else
 some (.inr (.inr (())))
def G_community_Check (O : Oracle) (n : Nat) (l : (List Int)) : Option (Option S) :=
 bif decide ((l.length : Int) > (255 : Int)) then
 retQ q_community_Check ((4 : Int), ())
else
 Option.bind (loopN n (L_community_Check_0 O n l) ((0 : Int), ())) fun (v4 : (Int × Unit) ⊕ Unit) =>
 Sum.elim (fun v5 =>
 retQ q_community_Check (v5.1, ())) (fun v6 =>
 retQ q_community_Check ((0 : Int), ())) v4
theorem x_community_Check (O : Oracle) (n : Nat) (l : (List Int)) : evF1 O n f_community_Check [.d (.list tW) l] [] = G_community_Check O n l := by kernel_rfl

def q_ref18_Check : Sh := ⟨[], ⟨[], []⟩, [.tm 0 tI]⟩
/-! ### 10: routing/routingref18.Check -/
def f_ref18_Check : TF := ⟨(.seq (.region (
.op (some 2) (.mv (.k tI (0 : Int))) <|
.nil)) (.seq (.seq (.region (
.op (some 4) (.mv (.tm 0)) <|
.op (some 5) (.len false (.tm 4)) <|
.op (some 6) (.bin .gtr (.tm 5) (.k tI (255 : Int))) <|
.nil)) (.cond (.tm 6) (.seq (.region (
.op (some 2) (.mv (.k tI (4 : Int))) <|
.nil)) .ret) .skip)) (.seq (.seq (.region (
.op (some 3) (.mv (.k tI (1 : Int))) <|
.nil)) (.block 0 (.loop ⟨[0], ⟨[], []⟩, [.tm 3 tI]⟩ [(1, ⟨[], ⟨[], []⟩, [.tm 2 tI]⟩), (3, ⟨[], ⟨[], []⟩, []⟩)] (.seq (.seq (.region (
.op (some 7) (.mv (.tm 3)) <|
.op (some 8) (.mv (.tm 0)) <|
.op (some 9) (.len false (.tm 8)) <|
.op (some 10) (.bin .lss (.tm 7) (.tm 9)) <|
.nil)) (.cond (.tm 10) .skip (.exit 0))) (.seq (.block 1 (.seq (.draw 10 (
.op (some 13) (.mv (.tm 0)) <|
.op (some 14) (.mv (.tm 3)) <|
.op (some 15) (.idxA tW (.tm 13) (.tm 14)) <|
.op (some 16) (.load tW (.tm 15)) <|
.op (some 17) (.mv (.tm 0)) <|
.op (some 18) (.mv (.tm 3)) <|
.op (some 19) (.bin .sub (.tm 18) (.k tI (1 : Int))) <|
.op (some 20) (.idxA tW (.tm 17) (.tm 19)) <|
.op (some 21) (.load tW (.tm 20)) <|
.op (some 22) (.bin .leq (.tm 16) (.tm 21)) <|
.nil) [[], [], [0, 1], [2], [], [], [5], [4, 6], [7], [3, 8]]) (.cond (.tm 22) (.seq (.region (
.op (some 2) (.mv (.k tI (16 : Int))) <|
.nil)) .ret) .skip))) (.region (
.op (some 11) (.mv (.tm 3)) <|
.op (some 12) (.bin .add (.tm 11) (.k tI (1 : Int))) <|
.op (some 3) (.mv (.tm 12)) <|
.nil))))))) (.seq (.region (
.op (some 2) (.mv (.k tI (0 : Int))) <|
.nil)) .ret)))), [.tm 2], 23, q_ref18_Check, 0⟩
def L_ref18_Check_0 (O : Oracle) (n : Nat) (l : (List Int)) (s : (Int × Unit)) : Option ((Int × Unit) ⊕ (Int × Unit) ⊕ Unit) :=
 bif decide (s.1 < (l.length : Int)) then
 Option.bind (getI l s.1) fun v1 =>
 Option.bind (getI l (IntKind.wrap .i64 (s.1 - (1 : Int)))) fun v2 =>
 bif decide (v1 ≤ v2) then
 some (.inr (.inl (((16 : Int), ()))))
else
 some (.inl (IntKind.wrap .i64 (s.1 + (1 : Int)), ()))
else
 some (.inr (.inr (())))
def G_ref18_Check (O : Oracle) (n : Nat) (l : (List Int)) : Option (Option S) :=
 bif decide ((l.length : Int) > (255 : Int)) then
 retQ q_ref18_Check ((4 : Int), ())
else
 Option.bind (loopN n (L_ref18_Check_0 O n l) ((1 : Int), ())) fun (v3 : (Int × Unit) ⊕ Unit) =>
 Sum.elim (fun v4 =>
 retQ q_ref18_Check (v4.1, ())) (fun v5 =>
 retQ q_ref18_Check ((0 : Int), ())) v3
theorem x_ref18_Check (O : Oracle) (n : Nat) (l : (List Int)) : evF1 O n f_ref18_Check [.d (.list tW) l] [] = G_ref18_Check O n l := by kernel_rfl

def q_community_names : Sh := ⟨[], ⟨[], []⟩, [.tm 0 (pr [tW, tW, tW, tW]), .tm 1 (pr [tS, tS, tS, tS])]⟩
/-! ### 29: routing/community.names -/
def f_community_names : TF := ⟨(.seq (.region (
.op (some 0) (.alloc 45 [.d tW (0 : Int), .d tW (0 : Int), .d tW (0 : Int), .d tW (0 : Int)]) <|
.op (some 1) (.alloc 46 [.d tS ([] : List UInt8), .d tS ([] : List UInt8), .d tS ([] : List UInt8), .d tS ([] : List UInt8)]) <|
.nil)) (.seq (.region (
.op (some 2) (.build [.d tW (0 : Int), .d tW (0 : Int), .d tW (0 : Int), .d tW (0 : Int)] [(0, 1, .k tW (4294901760 : Int)), (1, 1, .k tW (4294967041 : Int)), (2, 1, .k tW (4294967042 : Int)), (3, 1, .k tW (4294967043 : Int))]) <|
.op (some 3) (.build [.d tS ([] : List UInt8), .d tS ([] : List UInt8), .d tS ([] : List UInt8), .d tS ([] : List UInt8)] [(0, 1, .k tS ([103, 114, 97, 99, 101, 102, 117, 108, 45, 115, 104, 117, 116, 100, 111, 119, 110] : List UInt8)), (1, 1, .k tS ([110, 111, 45, 101, 120, 112, 111, 114, 116] : List UInt8)), (2, 1, .k tS ([110, 111, 45, 97, 100, 118, 101, 114, 116, 105, 115, 101] : List UInt8)), (3, 1, .k tS ([110, 111, 45, 101, 120, 112, 111, 114, 116, 45, 99, 111, 110, 102, 101, 100] : List UInt8))]) <|
.op none (.store (pr [tW, tW, tW, tW]) (.tm 0) (.tm 2)) <|
.op none (.store (pr [tS, tS, tS, tS]) (.tm 1) (.tm 3)) <|
.nil)) .ret)), [.cell 0 (pr [tW, tW, tW, tW]), .cell 1 (pr [tS, tS, tS, tS])], 4, q_community_names, 0⟩
def G_community_names (O : Oracle) (n : Nat)  : Option (Option S) :=
 retQ q_community_names (((4294901760 : Int), (4294967041 : Int), (4294967042 : Int), (4294967043 : Int), ()), (([103, 114, 97, 99, 101, 102, 117, 108, 45, 115, 104, 117, 116, 100, 111, 119, 110] : List UInt8), ([110, 111, 45, 101, 120, 112, 111, 114, 116] : List UInt8), ([110, 111, 45, 97, 100, 118, 101, 114, 116, 105, 115, 101] : List UInt8), ([110, 111, 45, 101, 120, 112, 111, 114, 116, 45, 99, 111, 110, 102, 101, 100] : List UInt8), ()), ())
theorem x_community_names (O : Oracle) (n : Nat)  : evF1 O n f_community_names [] [] = G_community_names O n  := by kernel_rfl

def q_field_canonical : Sh := ⟨[], ⟨[], []⟩, [.tm 0 tB]⟩
/-! ### 38: routing/field.canonical -/
def f_field_canonical : TF := ⟨(.seq (.region (
.op (some 2) (.mv (.k tB false)) <|
.nil)) (.seq (.seq (.region (
.op (some 4) (.mv (.tm 0)) <|
.op (some 5) (.bin .eql (.tm 4) (.k tS ([] : List UInt8))) <|
.op (some 6) (.mv (.tm 5)) <|
.gb 6 false (
.op (some 7) (.mv (.tm 0)) <|
.op (some 8) (.len true (.tm 7)) <|
.op (some 9) (.bin .gtr (.tm 8) (.k tI (1 : Int))) <|
.op (some 10) (.mv (.tm 9)) <|
.gb 10 true (
.op (some 11) (.mv (.tm 0)) <|
.op (some 12) (.idxS (.tm 11) (.k tI (0 : Int))) <|
.op (some 13) (.bin .eql (.tm 12) (.k tY (48 : Int))) <|
.nil) tB (.tm 13) (.k tB false) 14 <|
.nil) tB (.tm 14) (.k tB true) 15 <|
.nil)) (.cond (.tm 15) (.seq (.region (
.op (some 2) (.mv (.k tB false)) <|
.nil)) .ret) .skip)) (.seq (.seq (.region (
.op (some 16) (.mv (.tm 0)) <|
.op (some 17) (.len true (.tm 16)) <|
.op (some 18) (.mv (.k tI (0 : Int))) <|
.nil)) (.block 0 (.loop ⟨[0, 17], ⟨[], []⟩, [.tm 18 tI]⟩ [(1, ⟨[], ⟨[], []⟩, [.tm 2 tB]⟩), (3, ⟨[], ⟨[], []⟩, []⟩)] (.seq (.region (
.op (some 19) (.bin .lss (.tm 18) (.tm 17)) <|
.nil)) (.seq (.cond (.tm 19) .skip (.exit 0)) (.seq (.block 1 (.seq (.region (
.op (some 20) (.mv (.tm 18)) <|
.op (some 3) (.mv (.tm 20)) <|
.nil)) (.seq (.region (
.op (some 21) (.mv (.tm 0)) <|
.op (some 22) (.mv (.tm 3)) <|
.op (some 23) (.idxS (.tm 21) (.tm 22)) <|
.op (some 24) (.bin .lss (.tm 23) (.k tY (48 : Int))) <|
.op (some 25) (.mv (.tm 24)) <|
.gb 25 false (
.op (some 26) (.mv (.tm 0)) <|
.op (some 27) (.mv (.tm 3)) <|
.op (some 28) (.idxS (.tm 26) (.tm 27)) <|
.op (some 29) (.bin .gtr (.tm 28) (.k tY (57 : Int))) <|
.nil) tB (.tm 29) (.k tB true) 30 <|
.nil)) (.cond (.tm 30) (.seq (.region (
.op (some 2) (.mv (.k tB false)) <|
.nil)) .ret) .skip)))) (.region (
.op (some 31) (.bin .add (.tm 18) (.k tI (1 : Int))) <|
.op (some 18) (.mv (.tm 31)) <|
.nil)))))))) (.seq (.region (
.op (some 2) (.mv (.k tB true)) <|
.nil)) .ret)))), [.tm 2], 32, q_field_canonical, 0⟩
def L_field_canonical_0 (O : Oracle) (n : Nat) (s_ : (List UInt8)) (s : (Int × Unit)) : Option ((Int × Unit) ⊕ (Bool × Unit) ⊕ Unit) :=
 bif decide (s.1 < (s_.length : Int)) then
 Option.bind (getI s_ s.1) fun v4 =>
 Option.bind (bif decide ((v4.toNat : Int) < (48 : Int)) then some (true) else
 Option.bind (getI s_ s.1) fun v5 =>
 some (decide ((v5.toNat : Int) > (57 : Int)))) fun v6 =>
 bif v6 then
 some (.inr (.inl ((false, ()))))
else
 some (.inl (IntKind.wrap .i64 (s.1 + (1 : Int)), ()))
else
 some (.inr (.inr (())))
def G_field_canonical (O : Oracle) (n : Nat) (s_ : (List UInt8)) : Option (Option S) :=
 Option.bind (bif (s_ == ([] : List UInt8)) then some (true) else
 Option.bind (bif decide ((s_.length : Int) > (1 : Int)) then
 Option.bind (getI s_ (0 : Int)) fun v =>
 some (((v.toNat : Int) == (48 : Int)))
else some (false)) fun v1 =>
 some (v1)) fun v2 =>
 bif v2 then
 retQ q_field_canonical (false, ())
else
 Option.bind (loopN n (L_field_canonical_0 O n s_) ((0 : Int), ())) fun (v7 : (Bool × Unit) ⊕ Unit) =>
 Sum.elim (fun v8 =>
 retQ q_field_canonical (v8.1, ())) (fun v9 =>
 retQ q_field_canonical (true, ())) v7
theorem x_field_canonical (O : Oracle) (n : Nat) (s_ : (List UInt8)) : evF1 O n f_field_canonical [.d tS s_] [] = G_field_canonical O n s_ := by kernel_rfl

def q_field_Number : Sh := ⟨[], ⟨[], []⟩, [.tm 0 tI, .tm 1 tI]⟩
/-! ### 31: routing/field.Number -/
def f_field_Number : TF := ⟨(.seq (.region (
.op (some 4) (.mv (.k tI (0 : Int))) <|
.op (some 5) (.mv (.k tI (0 : Int))) <|
.nil)) (.seq (.seq (.region (
.op (some 9) (.mv (.tm 0)) <|
.op (some 10) (.call false N_field_canonical [(.d tS, .tm 9)] q_field_canonical) <|
.op (some 11) (.un .not (.tm 10)) <|
.nil)) (.cond (.tm 11) (.seq (.region (
.op (some 4) (.mv (.k tI (0 : Int))) <|
.op (some 5) (.mv (.k tI (2 : Int))) <|
.nil)) .ret) .skip)) (.seq (.region (
.op (some 6) (.mv (.k tI (0 : Int))) <|
.nil)) (.seq (.seq (.region (
.op (some 12) (.mv (.tm 0)) <|
.op (some 13) (.len true (.tm 12)) <|
.op (some 14) (.mv (.k tI (0 : Int))) <|
.nil)) (.block 0 (.loop ⟨[0, 1, 13], ⟨[], []⟩, [.tm 6 tI, .tm 14 tI]⟩ [(1, ⟨[], ⟨[], []⟩, [.tm 4 tI, .tm 5 tI]⟩), (3, ⟨[1], ⟨[], []⟩, [.tm 6 tI]⟩)] (.seq (.region (
.op (some 15) (.bin .lss (.tm 14) (.tm 13)) <|
.nil)) (.seq (.cond (.tm 15) .skip (.exit 0)) (.seq (.block 1 (.seq (.region (
.op (some 16) (.mv (.tm 14)) <|
.op (some 7) (.mv (.tm 16)) <|
.nil)) (.seq (.region (
.op (some 17) (.mv (.tm 0)) <|
.op (some 18) (.mv (.tm 7)) <|
.op (some 19) (.idxS (.tm 17) (.tm 18)) <|
.op (some 20) (.bin .sub (.tm 19) (.k tY (48 : Int))) <|
.op (some 21) (.cvtI .i64 (.tm 20)) <|
.op (some 8) (.mv (.tm 21)) <|
.nil)) (.seq (.seq (.region (
.op (some 22) (.mv (.tm 6)) <|
.op (some 23) (.mv (.tm 8)) <|
.op (some 24) (.bin .sub (.k tI (9223372036854775807 : Int)) (.tm 23)) <|
.op (some 25) (.bin .quo (.tm 24) (.k tI (10 : Int))) <|
.op (some 26) (.bin .gtr (.tm 22) (.tm 25)) <|
.nil)) (.cond (.tm 26) (.seq (.region (
.op (some 4) (.mv (.k tI (0 : Int))) <|
.op (some 5) (.mv (.k tI (5 : Int))) <|
.nil)) .ret) .skip)) (.region (
.op (some 27) (.mv (.tm 6)) <|
.op (some 28) (.bin .mul (.k tI (10 : Int)) (.tm 27)) <|
.op (some 29) (.mv (.tm 8)) <|
.op (some 30) (.bin .add (.tm 28) (.tm 29)) <|
.op (some 6) (.mv (.tm 30)) <|
.nil)))))) (.region (
.op (some 31) (.bin .add (.tm 14) (.k tI (1 : Int))) <|
.op (some 14) (.mv (.tm 31)) <|
.nil)))))))) (.seq (.seq (.region (
.op (some 32) (.mv (.tm 6)) <|
.op (some 33) (.mv (.tm 1)) <|
.op (some 34) (.bin .gtr (.tm 32) (.tm 33)) <|
.nil)) (.cond (.tm 34) (.seq (.region (
.op (some 4) (.mv (.k tI (0 : Int))) <|
.op (some 5) (.mv (.k tI (5 : Int))) <|
.nil)) .ret) .skip)) (.seq (.region (
.op (some 35) (.mv (.tm 6)) <|
.op (some 4) (.mv (.tm 35)) <|
.op (some 5) (.mv (.k tI (0 : Int))) <|
.nil)) .ret)))))), [.tm 4, .tm 5], 36, q_field_Number, 0⟩
def L_field_Number_0 (O : Oracle) (n : Nat) (s_ : (List UInt8)) (s : (Int × Int × Unit)) : Option ((Int × Int × Unit) ⊕ (Int × Int × Unit) ⊕ (Int × Unit)) :=
 bif decide (s.2.1 < (s_.length : Int)) then
 Option.bind (getI s_ s.2.1) fun v2 =>
 let v3 := IntKind.wrap .i64 ((9223372036854775807 : Int) - (IntKind.wrap .i64 (IntKind.wrap .u8 ((v2.toNat : Int) - (48 : Int)))))
 guardB ((10 : Int) != 0) (
 bif decide (s.1 > IntKind.wrap .i64 (Int.tdiv v3 (10 : Int))) then
 some (.inr (.inl (((0 : Int), (5 : Int), ()))))
else
 let v4 := IntKind.wrap .i64 ((IntKind.wrap .i64 ((10 : Int) * s.1)) + (IntKind.wrap .i64 (IntKind.wrap .u8 ((v2.toNat : Int) - (48 : Int)))))
 some (.inl (v4, IntKind.wrap .i64 (s.2.1 + (1 : Int)), ())))
else
 some (.inr (.inr ((s.1, ()))))
def G_field_Number (O : Oracle) (n : Nat) (s_ : (List UInt8)) (most : Int) : Option (Option S) :=
 Option.bind (callR O N_field_canonical [.d tS s_] [] q_field_canonical) fun v =>
 bif (!v.1) then
 retQ q_field_Number ((0 : Int), (2 : Int), ())
else
 Option.bind (loopN n (L_field_Number_0 O n s_) ((0 : Int), (0 : Int), ())) fun (v5 : (Int × Int × Unit) ⊕ (Int × Unit)) =>
 Sum.elim (fun v6 =>
 retQ q_field_Number (v6.1, v6.2.1, ())) (fun v7 =>
 bif decide (v7.1 > most) then
 retQ q_field_Number ((0 : Int), (5 : Int), ())
else
 retQ q_field_Number (v7.1, (0 : Int), ())) v5
theorem x_field_Number (O : Oracle) (n : Nat) (s_ : (List UInt8)) (most : Int) : evF1 O n f_field_Number [.d tS s_, .d tI most] [] = G_field_Number O n s_ most := by kernel_rfl

def q_strconv_Itoa : Sh := ⟨[], ⟨[], []⟩, [.tm 0 tS]⟩
/-! ### 37: strconv.Itoa: by its contract -/

def q_field_Decimal : Sh := ⟨[], ⟨[], []⟩, [.tm 0 tS]⟩
/-! ### 30: routing/field.Decimal -/
def f_field_Decimal : TF := ⟨(.seq (.region (
.op (some 2) (.mv (.k tS ([] : List UInt8))) <|
.nil)) (.seq (.region (
.op (some 3) (.mv (.tm 0)) <|
.op (some 4) (.call false N_strconv_Itoa [(.d tI, .tm 3)] q_strconv_Itoa) <|
.op (some 2) (.mv (.tm 4)) <|
.nil)) .ret)), [.tm 2], 5, q_field_Decimal, 0⟩
def G_field_Decimal (O : Oracle) (n : Nat) (n_ : Int) : Option (Option S) :=
 Option.bind (callR O N_strconv_Itoa [.d tI n_] [] q_strconv_Itoa) fun v =>
 retQ q_field_Decimal (v.1, ())
theorem x_field_Decimal (O : Oracle) (n : Nat) (n_ : Int) : evF1 O n f_field_Decimal [.d tI n_] [] = G_field_Decimal O n n_ := by kernel_rfl

def q_community_Text : Sh := ⟨[], ⟨[], []⟩, [.tm 0 tS]⟩
/-! ### 12: routing/community.Text -/
def f_community_Text : TF := ⟨(.seq (.region (
.op (some 2) (.mv (.k tS ([] : List UInt8))) <|
.nil)) (.seq (.region (
.op (some 8) (.call false N_community_names [] q_community_names) <|
.op (some 7) (.mv (.tm 8)) <|
.op (some 9) (.ext (.tm 7) 0) <|
.op (some 10) (.ext (.tm 7) 1) <|
.op (some 3) (.alloc 45 [.d tW (0 : Int), .d tW (0 : Int), .d tW (0 : Int), .d tW (0 : Int)]) <|
.op (some 4) (.alloc 46 [.d tS ([] : List UInt8), .d tS ([] : List UInt8), .d tS ([] : List UInt8), .d tS ([] : List UInt8)]) <|
.op none (.store (pr [tW, tW, tW, tW]) (.tm 3) (.tm 9)) <|
.op none (.store (pr [tS, tS, tS, tS]) (.tm 4) (.tm 10)) <|
.nil)) (.seq (.seq (.region (
.op (some 11) (.load (pr [tW, tW, tW, tW]) (.tm 3)) <|
.op (some 12) (.mv (.k tI (0 : Int))) <|
.nil)) (.block 0 (.adj [.sel [1] [0, 4, 11, 12]] (.loop ⟨[0], ⟨[(4, .ptr 0 0)], [.box T_ar4_string [.any, .any, .any, .any]]⟩, [.tm 11 (pr [tW, tW, tW, tW]), .tm 12 tI, .cell 0 0 tS, .cell 0 1 tS, .cell 0 2 tS, .cell 0 3 tS]⟩ [(1, ⟨[], ⟨[], []⟩, [.tm 2 tS]⟩), (3, ⟨[0], ⟨[], []⟩, []⟩)] (.seq (.region (
.op (some 13) (.bin .lss (.tm 12) (.k tI (4 : Int))) <|
.nil)) (.seq (.cond (.tm 13) .skip (.adj [.sel [] [0]] (.exit 0))) (.seq (.block 1 (.seq (.region (
.op (some 14) (.mv (.tm 12)) <|
.op (some 15) (.idxV 4 tW (.tm 11) (.tm 12)) <|
.op (some 5) (.mv (.tm 14)) <|
.op (some 6) (.mv (.tm 15)) <|
.nil)) (.seq (.region (
.op (some 16) (.mv (.tm 0)) <|
.op (some 17) (.mv (.tm 6)) <|
.op (some 18) (.bin .eql (.tm 16) (.tm 17)) <|
.nil)) (.cond (.tm 18) (.seq (.region (
.op (some 19) (.mv (.tm 5)) <|
.op (some 20) (.idxP 4 tS (.tm 4) (.tm 19)) <|
.op (some 21) (.load tS (.tm 20)) <|
.op (some 2) (.mv (.tm 21)) <|
.nil)) (.adj [.sel [] [2]] .ret)) .skip)))) (.region (
.op (some 22) (.bin .add (.tm 12) (.k tI (1 : Int))) <|
.op (some 12) (.mv (.tm 22)) <|
.nil))))))))) (.seq (.region (
.op (some 23) (.mv (.tm 0)) <|
.op (some 24) (.bin .shr (.tm 23) (.k tQ (16 : Int))) <|
.op (some 25) (.cvtI .i64 (.tm 24)) <|
.op (some 26) (.call false N_field_Decimal [(.d tI, .tm 25)] q_field_Decimal) <|
.op (some 27) (.bin .add (.tm 26) (.k tS ([58] : List UInt8))) <|
.op (some 28) (.mv (.tm 0)) <|
.op (some 29) (.bin .and (.tm 28) (.k tW (65535 : Int))) <|
.op (some 30) (.cvtI .i64 (.tm 29)) <|
.op (some 31) (.call false N_field_Decimal [(.d tI, .tm 30)] q_field_Decimal) <|
.op (some 32) (.bin .add (.tm 27) (.tm 31)) <|
.op (some 2) (.mv (.tm 32)) <|
.nil)) .ret)))), [.tm 2], 33, q_community_Text, 0⟩
def L_community_Text_0 (O : Oracle) (n : Nat) (c_ : Int) (s : ((Int × (Int × (Int × (Int × Unit)))) × Int × (List UInt8) × (List UInt8) × (List UInt8) × (List UInt8) × Unit)) : Option (((Int × (Int × (Int × (Int × Unit)))) × Int × (List UInt8) × (List UInt8) × (List UInt8) × (List UInt8) × Unit) ⊕ ((List UInt8) × Unit) ⊕ Unit) :=
 bif decide (s.2.1 < (4 : Int)) then
 Option.bind (Ev.rowAt tW 4 (.d (pr [tW, tW, tW, tW]) s.1) s.2.1) fun v2 =>
 bif (c_ == v2) then
 guardB (decide (0 ≤ s.2.1) && decide (s.2.1 < 4)) (
 Option.bind (Ev.rowAt tS 4 (.agg [.d tS s.2.2.1, .d tS s.2.2.2.1, .d tS s.2.2.2.2.1, .d tS s.2.2.2.2.2.1]) s.2.1) fun v3 =>
 some (.inr (.inl ((v3, ())))))
else
 some (.inl (s.1, IntKind.wrap .i64 (s.2.1 + (1 : Int)), s.2.2.1, s.2.2.2.1, s.2.2.2.2.1, s.2.2.2.2.2.1, ()))
else
 some (.inr (.inr (())))
def G_community_Text (O : Oracle) (n : Nat) (c_ : Int) : Option (Option S) :=
 Option.bind (callR O N_community_names [] [] q_community_names) fun v =>
 Option.bind (loopN n (L_community_Text_0 O n c_) (v.1, (0 : Int), v.2.1.1, v.2.1.2.1, v.2.1.2.2.1, v.2.1.2.2.2.1, ())) fun (v4 : ((List UInt8) × Unit) ⊕ Unit) =>
 Sum.elim (fun v5 =>
 retQ q_community_Text (v5.1, ())) (fun v6 =>
 guardB (decide (0 ≤ (16 : Int))) (
 let v7 := IntKind.wrap .i64 (Int.fdiv c_ (2 ^ (min (Int.toNat (16 : Int)) (IntKind.bits .u32))))
 Option.bind (callR O N_field_Decimal [.d tI v7] [] q_field_Decimal) fun v8 =>
 guardB (decide (v8.1.length + ([58] : List UInt8).length ≤ 9223372036854775807)) (
 Option.bind (callR O N_field_Decimal [.d tI (IntKind.wrap .i64 (bitsI .u32 .and c_ (65535 : Int)))] [] q_field_Decimal) fun v9 =>
 guardB (decide ((v8.1 ++ ([58] : List UInt8)).length + v9.1.length ≤ 9223372036854775807)) (
 retQ q_community_Text ((v8.1 ++ ([58] : List UInt8)) ++ v9.1, ()))))) v4
theorem x_community_Text (O : Oracle) (n : Nat) (c_ : Int) : evF1 O n f_community_Text [.d tW c_] [] = G_community_Text O n c_ := by kernel_rfl

def q_community_Parse : Sh := ⟨[], ⟨[], []⟩, [.tm 0 tW, .tm 1 tI]⟩
/-! ### 13: routing/community.Parse -/
def f_community_Parse : TF := ⟨(.seq (.region (
.op (some 2) (.mv (.k tW (0 : Int))) <|
.op (some 3) (.mv (.k tI (0 : Int))) <|
.nil)) (.seq (.region (
.op (some 15) (.call false N_community_names [] q_community_names) <|
.op (some 14) (.mv (.tm 15)) <|
.op (some 16) (.ext (.tm 14) 0) <|
.op (some 17) (.ext (.tm 14) 1) <|
.op (some 4) (.alloc 45 [.d tW (0 : Int), .d tW (0 : Int), .d tW (0 : Int), .d tW (0 : Int)]) <|
.op (some 5) (.alloc 46 [.d tS ([] : List UInt8), .d tS ([] : List UInt8), .d tS ([] : List UInt8), .d tS ([] : List UInt8)]) <|
.op none (.store (pr [tW, tW, tW, tW]) (.tm 4) (.tm 16)) <|
.op none (.store (pr [tS, tS, tS, tS]) (.tm 5) (.tm 17)) <|
.nil)) (.seq (.seq (.region (
.op (some 18) (.load (pr [tS, tS, tS, tS]) (.tm 5)) <|
.op (some 19) (.mv (.k tI (0 : Int))) <|
.nil)) (.block 0 (.adj [.sel [0] [0, 4, 18, 19]] (.loop ⟨[0], ⟨[(4, .ptr 0 0)], [.box T_ar4_u32 [.any, .any, .any, .any]]⟩, [.tm 18 (pr [tS, tS, tS, tS]), .tm 19 tI, .cell 0 0 tW, .cell 0 1 tW, .cell 0 2 tW, .cell 0 3 tW]⟩ [(1, ⟨[], ⟨[], []⟩, [.tm 2 tW, .tm 3 tI]⟩), (3, ⟨[0], ⟨[], []⟩, []⟩)] (.seq (.region (
.op (some 20) (.bin .lss (.tm 19) (.k tI (4 : Int))) <|
.nil)) (.seq (.cond (.tm 20) .skip (.adj [.sel [] [0]] (.exit 0))) (.seq (.block 1 (.seq (.region (
.op (some 21) (.mv (.tm 19)) <|
.op (some 22) (.idxV 4 tS (.tm 18) (.tm 19)) <|
.op (some 6) (.mv (.tm 21)) <|
.op (some 7) (.mv (.tm 22)) <|
.nil)) (.seq (.region (
.op (some 23) (.mv (.tm 0)) <|
.op (some 24) (.mv (.tm 7)) <|
.op (some 25) (.bin .eql (.tm 23) (.tm 24)) <|
.nil)) (.cond (.tm 25) (.seq (.region (
.op (some 26) (.mv (.tm 6)) <|
.op (some 27) (.idxP 4 tW (.tm 4) (.tm 26)) <|
.op (some 28) (.load tW (.tm 27)) <|
.op (some 2) (.mv (.tm 28)) <|
.op (some 3) (.mv (.k tI (0 : Int))) <|
.nil)) (.adj [.sel [] [2, 3]] .ret)) .skip)))) (.region (
.op (some 29) (.bin .add (.tm 19) (.k tI (1 : Int))) <|
.op (some 19) (.mv (.tm 29)) <|
.nil))))))))) (.seq (.seq (.region (
.op (some 30) (.mv (.tm 0)) <|
.op (some 31) (.len true (.tm 30)) <|
.op (some 32) (.mv (.k tI (0 : Int))) <|
.nil)) (.block 2 (.loop ⟨[0, 31], ⟨[], []⟩, [.tm 32 tI]⟩ [(1, ⟨[], ⟨[], []⟩, [.tm 2 tW, .tm 3 tI]⟩), (5, ⟨[], ⟨[], []⟩, []⟩)] (.seq (.region (
.op (some 33) (.bin .lss (.tm 32) (.tm 31)) <|
.nil)) (.seq (.cond (.tm 33) .skip (.exit 2)) (.seq (.block 3 (.seq (.region (
.op (some 34) (.mv (.tm 32)) <|
.op (some 8) (.mv (.tm 34)) <|
.nil)) (.seq (.seq (.region (
.op (some 35) (.mv (.tm 0)) <|
.op (some 36) (.mv (.tm 8)) <|
.op (some 37) (.idxS (.tm 35) (.tm 36)) <|
.op (some 38) (.bin .neq (.tm 37) (.k tY (58 : Int))) <|
.nil)) (.cond (.tm 38) (.exit 3) .skip)) (.seq (.region (
.op (some 40) (.mv (.tm 0)) <|
.op (some 41) (.mv (.tm 8)) <|
.op (some 42) (.slcS (.tm 40) none (some (.tm 41))) <|
.op (some 43) (.call false N_field_Number [(.d tS, .tm 42), (.d tI, .k tI (65535 : Int))] q_field_Number) <|
.op (some 39) (.mv (.tm 43)) <|
.op (some 44) (.ext (.tm 39) 0) <|
.op (some 45) (.ext (.tm 39) 1) <|
.op (some 9) (.mv (.tm 44)) <|
.op (some 10) (.mv (.tm 45)) <|
.nil)) (.seq (.region (
.op (some 47) (.mv (.tm 0)) <|
.op (some 48) (.mv (.tm 8)) <|
.op (some 49) (.bin .add (.tm 48) (.k tI (1 : Int))) <|
.op (some 50) (.slcS (.tm 47) (some (.tm 49)) none) <|
.op (some 51) (.call false N_field_Number [(.d tS, .tm 50), (.d tI, .k tI (65535 : Int))] q_field_Number) <|
.op (some 46) (.mv (.tm 51)) <|
.op (some 52) (.ext (.tm 46) 0) <|
.op (some 53) (.ext (.tm 46) 1) <|
.op (some 11) (.mv (.tm 52)) <|
.op (some 12) (.mv (.tm 53)) <|
.nil)) (.seq (.region (
.op (some 54) (.mv (.tm 9)) <|
.op (some 55) (.cvtI .u32 (.tm 54)) <|
.op (some 56) (.bin .shl (.tm 55) (.k tQ (16 : Int))) <|
.op (some 57) (.mv (.tm 11)) <|
.op (some 58) (.cvtI .u32 (.tm 57)) <|
.op (some 59) (.bin .or (.tm 56) (.tm 58)) <|
.op (some 13) (.mv (.tm 59)) <|
.nil)) (.seq (.seq (.region (
.op (some 60) (.mv (.tm 10)) <|
.op (some 61) (.bin .neq (.tm 60) (.k tI (0 : Int))) <|
.op (some 62) (.mv (.tm 61)) <|
.gb 62 false (
.op (some 63) (.mv (.tm 12)) <|
.op (some 64) (.bin .neq (.tm 63) (.k tI (0 : Int))) <|
.nil) tB (.tm 64) (.k tB true) 65 <|
.op (some 66) (.mv (.tm 65)) <|
.gb 66 false (
.op (some 67) (.mv (.tm 13)) <|
.op (some 68) (.call false N_community_Text [(.d tW, .tm 67)] q_community_Text) <|
.op (some 69) (.mv (.tm 0)) <|
.op (some 70) (.bin .neq (.tm 68) (.tm 69)) <|
.nil) tB (.tm 70) (.k tB true) 71 <|
.nil)) (.cond (.tm 71) (.seq (.region (
.op (some 2) (.mv (.k tW (0 : Int))) <|
.op (some 3) (.mv (.k tI (2 : Int))) <|
.nil)) .ret) .skip)) (.seq (.region (
.op (some 72) (.mv (.tm 13)) <|
.op (some 2) (.mv (.tm 72)) <|
.op (some 3) (.mv (.k tI (0 : Int))) <|
.nil)) .ret)))))))) (.region (
.op (some 73) (.bin .add (.tm 32) (.k tI (1 : Int))) <|
.op (some 32) (.mv (.tm 73)) <|
.nil)))))))) (.seq (.region (
.op (some 2) (.mv (.k tW (0 : Int))) <|
.op (some 3) (.mv (.k tI (2 : Int))) <|
.nil)) .ret))))), [.tm 2, .tm 3], 74, q_community_Parse, 0⟩
def L_community_Parse_0 (O : Oracle) (n : Nat) (s_ : (List UInt8)) (s : (((List UInt8) × ((List UInt8) × ((List UInt8) × ((List UInt8) × Unit)))) × Int × Int × Int × Int × Int × Unit)) : Option ((((List UInt8) × ((List UInt8) × ((List UInt8) × ((List UInt8) × Unit)))) × Int × Int × Int × Int × Int × Unit) ⊕ (Int × Int × Unit) ⊕ Unit) :=
 bif decide (s.2.1 < (4 : Int)) then
 Option.bind (Ev.rowAt tS 4 (.d (pr [tS, tS, tS, tS]) s.1) s.2.1) fun v2 =>
 bif (s_ == v2) then
 guardB (decide (0 ≤ s.2.1) && decide (s.2.1 < 4)) (
 Option.bind (Ev.rowAt tW 4 (.agg [.d tW s.2.2.1, .d tW s.2.2.2.1, .d tW s.2.2.2.2.1, .d tW s.2.2.2.2.2.1]) s.2.1) fun v3 =>
 some (.inr (.inl ((v3, (0 : Int), ())))))
else
 some (.inl (s.1, IntKind.wrap .i64 (s.2.1 + (1 : Int)), s.2.2.1, s.2.2.2.1, s.2.2.2.2.1, s.2.2.2.2.2.1, ()))
else
 some (.inr (.inr (())))
def L_community_Parse_1 (O : Oracle) (n : Nat) (s_ : (List UInt8)) (v7 : (Int × Unit)) : Option ((Int × Unit) ⊕ (Int × Int × Unit) ⊕ Unit) :=
 bif decide (v7.1 < (s_.length : Int)) then
 Option.bind (getI s_ v7.1) fun v8 =>
 bif ((v8.toNat : Int) != (58 : Int)) then
 some (.inl (IntKind.wrap .i64 (v7.1 + (1 : Int)), ()))
else
 guardB (decide (0 ≤ v7.1)) (
 guardB (decide (0 ≤ Int.toNat v7.1) && decide (Int.toNat v7.1 ≤ s_.length)) (
 Option.bind (callR O N_field_Number [.d tS ((s_.take (Int.toNat v7.1)).drop (0)), .d tI (65535 : Int)] [] q_field_Number) fun v9 =>
 guardB (decide (0 ≤ IntKind.wrap .i64 (v7.1 + (1 : Int)))) (
 guardB (decide (Int.toNat (IntKind.wrap .i64 (v7.1 + (1 : Int))) ≤ s_.length) && decide (s_.length ≤ s_.length)) (
 let v10 := (s_.take (s_.length)).drop (Int.toNat (IntKind.wrap .i64 (v7.1 + (1 : Int))))
 Option.bind (callR O N_field_Number [.d tS v10, .d tI (65535 : Int)] [] q_field_Number) fun v11 =>
 guardB (decide (0 ≤ (16 : Int))) (
 let v12 := IntKind.wrap .u32 ((IntKind.wrap .u32 v9.1) * 2 ^ (min (Int.toNat (16 : Int)) (IntKind.bits .u32)))
 Option.bind (bif (v9.2.1 != (0 : Int)) then some (true) else
 some ((v11.2.1 != (0 : Int)))) fun v13 =>
 Option.bind (bif v13 then some (true) else
 Option.bind (callR O N_community_Text [.d tW (bitsI .u32 .or v12 (IntKind.wrap .u32 v11.1))] [] q_community_Text) fun v14 =>
 some ((!(v14.1 == s_)))) fun v15 =>
 bif v15 then
 some (.inr (.inl (((0 : Int), (2 : Int), ()))))
else
 some (.inr (.inl ((bitsI .u32 .or v12 (IntKind.wrap .u32 v11.1), (0 : Int), ())))))))))
else
 some (.inr (.inr (())))
def G_community_Parse (O : Oracle) (n : Nat) (s_ : (List UInt8)) : Option (Option S) :=
 Option.bind (callR O N_community_names [] [] q_community_names) fun v =>
 Option.bind (loopN n (L_community_Parse_0 O n s_) (v.2.1, (0 : Int), v.1.1, v.1.2.1, v.1.2.2.1, v.1.2.2.2.1, ())) fun (v4 : (Int × Int × Unit) ⊕ Unit) =>
 Sum.elim (fun v5 =>
 retQ q_community_Parse (v5.1, v5.2.1, ())) (fun v6 =>
 Option.bind (loopN n (L_community_Parse_1 O n s_) ((0 : Int), ())) fun (v16 : (Int × Int × Unit) ⊕ Unit) =>
 Sum.elim (fun v17 =>
 retQ q_community_Parse (v17.1, v17.2.1, ())) (fun v18 =>
 retQ q_community_Parse ((0 : Int), (2 : Int), ())) v16) v4
theorem x_community_Parse (O : Oracle) (n : Nat) (s_ : (List UInt8)) : evF1 O n f_community_Parse [.d tS s_] [] = G_community_Parse O n s_ := by kernel_rfl

def q_community_insert_uint32 : Sh := ⟨[], ⟨[], []⟩, [.tm 0 (.list tW)]⟩
/-! ### 35: routing/community.insert[uint32] -/
def f_community_insert_uint32 : TF := ⟨(.seq (.region (
.op (some 4) (.mv (.nil tW)) <|
.nil)) (.seq (.region (
.op (some 9) (.mv (.tm 0)) <|
.op (some 10) (.len false (.tm 9)) <|
.op (some 11) (.bin .add (.tm 10) (.k tI (1 : Int))) <|
.op (some 12) (.mslice 27 tW 4 (.k tI (0 : Int)) (.tm 11)) <|
.op (some 5) (.mv (.tm 12)) <|
.nil)) (.seq (.region (
.op (some 6) (.mv (.k tB false)) <|
.nil)) (.seq (.seq (.region (
.op (some 13) (.mv (.tm 0)) <|
.op (some 14) (.len false (.tm 13)) <|
.op (some 15) (.mv (.k tI (0 : Int))) <|
.nil)) (.block 0 (.loop ⟨[1, 13, 14], ⟨[(5, .sl 0)], [.vec T_u32 tW []]⟩, [.tm 6 tB, .tm 15 tI, .vec 0 27 tW]⟩ [(3, ⟨[1], ⟨[(5, .sl 0)], [.vec T_u32 tW []]⟩, [.tm 6 tB, .vec 0 27 tW]⟩)] (.seq (.region (
.op (some 16) (.bin .lss (.tm 15) (.tm 14)) <|
.nil)) (.seq (.cond (.tm 16) .skip (.exit 0)) (.seq (.cut [(0, ⟨[1, 13, 14, 15], ⟨[(5, .sl 0)], [.vec T_u32 tW []]⟩, [.tm 6 tB, .vec 0 27 tW]⟩)] (.block 1 (.seq (.region (
.op (some 17) (.idxA tW (.tm 13) (.tm 15)) <|
.op (some 18) (.load tW (.tm 17)) <|
.op (some 8) (.mv (.tm 18)) <|
.nil)) (.seq (.cut [(0, ⟨[1, 8, 13, 14, 15], ⟨[(5, .sl 0)], [.vec T_u32 tW []]⟩, [.tm 6 tB, .vec 0 27 tW]⟩)] (.seq (.region (
.op (some 19) (.mv (.tm 6)) <|
.op (some 20) (.un .not (.tm 19)) <|
.op (some 21) (.mv (.tm 20)) <|
.gb 21 true (
.op (some 22) (.mv (.tm 1)) <|
.op (some 23) (.mv (.tm 8)) <|
.op (some 24) (.bin .leq (.tm 22) (.tm 23)) <|
.nil) tB (.tm 24) (.k tB false) 25 <|
.nil)) (.cond (.tm 25) (.seq (.region (
.op (some 26) (.mv (.tm 5)) <|
.op (some 27) (.mv (.tm 1)) <|
.op (some 28) (.bslice false 27 tW 1 [.tm 27]) <|
.op (some 29) (.append 27 tW 4 (.tm 26) (.tm 28)) <|
.op (some 5) (.mv (.tm 29)) <|
.nil)) (.region (
.op (some 6) (.mv (.k tB true)) <|
.nil))) .skip))) (.seq (.region (
.op (some 30) (.mv (.tm 8)) <|
.op (some 31) (.mv (.tm 1)) <|
.op (some 32) (.bin .neq (.tm 30) (.tm 31)) <|
.nil)) (.cond (.tm 32) (.region (
.op (some 33) (.mv (.tm 5)) <|
.op (some 34) (.mv (.tm 8)) <|
.op (some 35) (.bslice false 27 tW 1 [.tm 34]) <|
.op (some 36) (.append 27 tW 4 (.tm 33) (.tm 35)) <|
.op (some 5) (.mv (.tm 36)) <|
.nil)) .skip)))))) (.region (
.op (some 37) (.bin .add (.tm 15) (.k tI (1 : Int))) <|
.op (some 15) (.mv (.tm 37)) <|
.nil)))))))) (.seq (.cut [(0, ⟨[], ⟨[(5, .sl 0)], [.vec T_u32 tW []]⟩, [.vec 0 27 tW]⟩)] (.seq (.region (
.op (some 38) (.mv (.tm 6)) <|
.op (some 39) (.un .not (.tm 38)) <|
.nil)) (.cond (.tm 39) (.region (
.op (some 40) (.mv (.tm 5)) <|
.op (some 41) (.mv (.tm 1)) <|
.op (some 42) (.bslice false 27 tW 1 [.tm 41]) <|
.op (some 43) (.append 27 tW 4 (.tm 40) (.tm 42)) <|
.op (some 5) (.mv (.tm 43)) <|
.nil)) .skip))) (.seq (.region (
.op (some 44) (.mv (.tm 5)) <|
.op (some 4) (.mv (.tm 44)) <|
.nil)) (.adj [.freeze 0] .ret))))))), [.tm 4], 45, q_community_insert_uint32, 0⟩
def L_community_insert_uint32_0 (O : Oracle) (n : Nat) (l : (List Int)) (x : Int) (s : (Bool × Int × (List Int) × Unit)) : Option ((Bool × Int × (List Int) × Unit) ⊕ (Bool × (List Int) × Unit)) :=
 bif decide (s.2.1 < (l.length : Int)) then
 Option.bind (
 Option.bind (getI l s.2.1) fun v1 =>
 Option.bind (
 Option.bind (bif (!s.1) then
 some (decide (x ≤ v1))
else some (false)) fun v2 =>
 bif v2 then
 guardB (decide ((s.2.2.1.length + ([x] : List Int).length) * 4 ≤ 140737488355328)) (
 some ((true, s.2.2.1 ++ ([x] : List Int), ())))
else
 some ((s.1, s.2.2.1, ()))) fun (v3 : (Bool × (List Int) × Unit)) =>
 bif (v1 != x) then
 guardB (decide ((v3.2.1.length + ([v1] : List Int).length) * 4 ≤ 140737488355328)) (
 some ((v3.1, v3.2.1 ++ ([v1] : List Int), ())))
else
 some ((v3.1, v3.2.1, ()))) fun (v4 : (Bool × (List Int) × Unit)) =>
 some (.inl (v4.1, IntKind.wrap .i64 (s.2.1 + (1 : Int)), v4.2.1, ()))
else
 some (.inr ((s.1, s.2.2.1, ())))
def G_community_insert_uint32 (O : Oracle) (n : Nat) (l : (List Int)) (x : Int) : Option (Option S) :=
 guardB (decide (0 ≤ (0 : Int)) && decide ((0 : Int) ≤ (IntKind.wrap .i64 ((l.length : Int) + (1 : Int)))) && decide ((IntKind.wrap .i64 ((l.length : Int) + (1 : Int))) ≤ 9223372036854775807) && decide (4 * (IntKind.wrap .i64 ((l.length : Int) + (1 : Int))) ≤ 281474976710656)) (
 Option.bind (loopN n (L_community_insert_uint32_0 O n l x) (false, (0 : Int), List.replicate (Int.toNat (0 : Int)) (Ty.zero tW), ())) fun (v5 : (Bool × (List Int) × Unit)) =>
 Option.bind (
 bif (!v5.1) then
 guardB (decide ((v5.2.1.length + ([x] : List Int).length) * 4 ≤ 140737488355328)) (
 some ((v5.2.1 ++ ([x] : List Int), ())))
else
 some ((v5.2.1, ()))) fun (v6 : ((List Int) × Unit)) =>
 retQ q_community_insert_uint32 (v6.1, ()))
theorem x_community_insert_uint32 (O : Oracle) (n : Nat) (l : (List Int)) (x : Int) : evF1 O n f_community_insert_uint32 [.d (.list tW) l, .d tW x] [] = G_community_insert_uint32 O n l x := by kernel_rfl

def q_community_sorted_uint32 : Sh := ⟨[], ⟨[], []⟩, [.tm 0 (.list tW)]⟩
/-! ### 34: routing/community.sorted[uint32] -/
def f_community_sorted_uint32 : TF := ⟨(.seq (.region (
.op (some 2) (.mv (.nil tW)) <|
.nil)) (.seq (.region (
.op (some 3) (.mv (.nil tW)) <|
.nil)) (.seq (.seq (.region (
.op (some 6) (.mv (.tm 0)) <|
.op (some 7) (.len false (.tm 6)) <|
.op (some 8) (.mv (.k tI (0 : Int))) <|
.nil)) (.block 0 (.loop ⟨[6, 7], ⟨[], []⟩, [.tm 3 (.list tW), .tm 8 tI]⟩ [(3, ⟨[], ⟨[], []⟩, [.tm 3 (.list tW)]⟩)] (.seq (.region (
.op (some 9) (.bin .lss (.tm 8) (.tm 7)) <|
.nil)) (.seq (.cond (.tm 9) .skip (.exit 0)) (.seq (.block 1 (.seq (.region (
.op (some 10) (.idxA tW (.tm 6) (.tm 8)) <|
.op (some 11) (.load tW (.tm 10)) <|
.op (some 5) (.mv (.tm 11)) <|
.nil)) (.region (
.op (some 12) (.mv (.tm 3)) <|
.op (some 13) (.mv (.tm 5)) <|
.op (some 14) (.call false N_community_insert_uint32 [(.d (.list tW), .tm 12), (.d tW, .tm 13)] q_community_insert_uint32) <|
.op (some 3) (.mv (.tm 14)) <|
.nil)))) (.region (
.op (some 15) (.bin .add (.tm 8) (.k tI (1 : Int))) <|
.op (some 8) (.mv (.tm 15)) <|
.nil)))))))) (.seq (.region (
.op (some 16) (.mv (.tm 3)) <|
.op (some 2) (.mv (.tm 16)) <|
.nil)) .ret)))), [.tm 2], 17, q_community_sorted_uint32, 0⟩
def L_community_sorted_uint32_0 (O : Oracle) (n : Nat) (l : (List Int)) (s : ((List Int) × Int × Unit)) : Option (((List Int) × Int × Unit) ⊕ ((List Int) × Unit)) :=
 bif decide (s.2.1 < (l.length : Int)) then
 Option.bind (getI l s.2.1) fun v1 =>
 Option.bind (callR O N_community_insert_uint32 [.d (.list tW) s.1, .d tW v1] [] q_community_insert_uint32) fun v2 =>
 some (.inl (v2.1, IntKind.wrap .i64 (s.2.1 + (1 : Int)), ()))
else
 some (.inr ((s.1, ())))
def G_community_sorted_uint32 (O : Oracle) (n : Nat) (l : (List Int)) : Option (Option S) :=
 Option.bind (loopN n (L_community_sorted_uint32_0 O n l) (([] : List Int), (0 : Int), ())) fun (v3 : ((List Int) × Unit)) =>
 retQ q_community_sorted_uint32 (v3.1, ())
theorem x_community_sorted_uint32 (O : Oracle) (n : Nat) (l : (List Int)) : evF1 O n f_community_sorted_uint32 [.d (.list tW) l] [] = G_community_sorted_uint32 O n l := by kernel_rfl

def q_community_has_uint32 : Sh := ⟨[], ⟨[], []⟩, [.tm 0 tB]⟩
/-! ### 33: routing/community.has[uint32] -/
def f_community_has_uint32 : TF := ⟨(.seq (.region (
.op (some 4) (.mv (.k tB false)) <|
.nil)) (.seq (.seq (.region (
.op (some 7) (.mv (.tm 0)) <|
.op (some 8) (.len false (.tm 7)) <|
.op (some 9) (.mv (.k tI (0 : Int))) <|
.nil)) (.block 0 (.loop ⟨[1, 7, 8], ⟨[], []⟩, [.tm 9 tI]⟩ [(1, ⟨[], ⟨[], []⟩, [.tm 4 tB]⟩), (3, ⟨[], ⟨[], []⟩, []⟩)] (.seq (.region (
.op (some 10) (.bin .lss (.tm 9) (.tm 8)) <|
.nil)) (.seq (.cond (.tm 10) .skip (.exit 0)) (.seq (.block 1 (.seq (.region (
.op (some 11) (.idxA tW (.tm 7) (.tm 9)) <|
.op (some 12) (.load tW (.tm 11)) <|
.op (some 6) (.mv (.tm 12)) <|
.nil)) (.seq (.region (
.op (some 13) (.mv (.tm 6)) <|
.op (some 14) (.mv (.tm 1)) <|
.op (some 15) (.bin .eql (.tm 13) (.tm 14)) <|
.nil)) (.cond (.tm 15) (.seq (.region (
.op (some 4) (.mv (.k tB true)) <|
.nil)) .ret) .skip)))) (.region (
.op (some 16) (.bin .add (.tm 9) (.k tI (1 : Int))) <|
.op (some 9) (.mv (.tm 16)) <|
.nil)))))))) (.seq (.region (
.op (some 4) (.mv (.k tB false)) <|
.nil)) .ret))), [.tm 4], 17, q_community_has_uint32, 0⟩
def L_community_has_uint32_0 (O : Oracle) (n : Nat) (l : (List Int)) (x : Int) (s : (Int × Unit)) : Option ((Int × Unit) ⊕ (Bool × Unit) ⊕ Unit) :=
 bif decide (s.1 < (l.length : Int)) then
 Option.bind (getI l s.1) fun v1 =>
 bif (v1 == x) then
 some (.inr (.inl ((true, ()))))
else
 some (.inl (IntKind.wrap .i64 (s.1 + (1 : Int)), ()))
else
 some (.inr (.inr (())))
def G_community_has_uint32 (O : Oracle) (n : Nat) (l : (List Int)) (x : Int) : Option (Option S) :=
 Option.bind (loopN n (L_community_has_uint32_0 O n l x) ((0 : Int), ())) fun (v2 : (Bool × Unit) ⊕ Unit) =>
 Sum.elim (fun v3 =>
 retQ q_community_has_uint32 (v3.1, ())) (fun v4 =>
 retQ q_community_has_uint32 (false, ())) v2
theorem x_community_has_uint32 (O : Oracle) (n : Nat) (l : (List Int)) (x : Int) : evF1 O n f_community_has_uint32 [.d (.list tW) l, .d tW x] [] = G_community_has_uint32 O n l x := by kernel_rfl

def q_community_Add : Sh := ⟨[], ⟨[], []⟩, [.tm 0 (.list tW)]⟩
/-! ### 19: routing/community.Add -/
def f_community_Add : TF := ⟨(.seq (.region (
.op (some 4) (.mv (.nil tW)) <|
.nil)) (.seq (.region (
.op (some 6) (.mv (.tm 0)) <|
.op (some 7) (.call false N_community_sorted_uint32 [(.d (.list tW), .tm 6)] q_community_sorted_uint32) <|
.op (some 5) (.mv (.tm 7)) <|
.nil)) (.seq (.seq (.region (
.op (some 8) (.mv (.tm 5)) <|
.op (some 9) (.len false (.tm 8)) <|
.op (some 10) (.bin .geq (.tm 9) (.k tI (255 : Int))) <|
.op (some 11) (.mv (.tm 10)) <|
.gb 11 true (
.op (some 12) (.mv (.tm 5)) <|
.op (some 13) (.mv (.tm 1)) <|
.op (some 14) (.call false N_community_has_uint32 [(.d (.list tW), .tm 12), (.d tW, .tm 13)] q_community_has_uint32) <|
.op (some 15) (.un .not (.tm 14)) <|
.nil) tB (.tm 15) (.k tB false) 16 <|
.nil)) (.cond (.tm 16) (.seq (.region (
.op (some 17) (.mv (.tm 5)) <|
.op (some 4) (.mv (.tm 17)) <|
.nil)) .ret) .skip)) (.seq (.region (
.op (some 18) (.mv (.tm 5)) <|
.op (some 19) (.mv (.tm 1)) <|
.op (some 20) (.call false N_community_insert_uint32 [(.d (.list tW), .tm 18), (.d tW, .tm 19)] q_community_insert_uint32) <|
.op (some 4) (.mv (.tm 20)) <|
.nil)) .ret)))), [.tm 4], 21, q_community_Add, 0⟩
def G_community_Add (O : Oracle) (n : Nat) (l : (List Int)) (c_ : Int) : Option (Option S) :=
 Option.bind (callR O N_community_sorted_uint32 [.d (.list tW) l] [] q_community_sorted_uint32) fun v =>
 Option.bind (bif decide ((v.1.length : Int) ≥ (255 : Int)) then
 Option.bind (callR O N_community_has_uint32 [.d (.list tW) v.1, .d tW c_] [] q_community_has_uint32) fun v1 =>
 some ((!v1.1))
else some (false)) fun v2 =>
 bif v2 then
 retQ q_community_Add (v.1, ())
else
 Option.bind (callR O N_community_insert_uint32 [.d (.list tW) v.1, .d tW c_] [] q_community_insert_uint32) fun v3 =>
 retQ q_community_Add (v3.1, ())
theorem x_community_Add (O : Oracle) (n : Nat) (l : (List Int)) (c_ : Int) : evF1 O n f_community_Add [.d (.list tW) l, .d tW c_] [] = G_community_Add O n l c_ := by kernel_rfl

def q_community_Has : Sh := ⟨[], ⟨[], []⟩, [.tm 0 tB]⟩
/-! ### 16: routing/community.Has -/
def f_community_Has : TF := ⟨(.seq (.region (
.op (some 4) (.mv (.k tB false)) <|
.nil)) (.seq (.region (
.op (some 5) (.mv (.tm 0)) <|
.op (some 6) (.mv (.tm 1)) <|
.op (some 7) (.call false N_community_has_uint32 [(.d (.list tW), .tm 5), (.d tW, .tm 6)] q_community_has_uint32) <|
.op (some 4) (.mv (.tm 7)) <|
.nil)) .ret)), [.tm 4], 8, q_community_Has, 0⟩
def G_community_Has (O : Oracle) (n : Nat) (l : (List Int)) (c_ : Int) : Option (Option S) :=
 Option.bind (callR O N_community_has_uint32 [.d (.list tW) l, .d tW c_] [] q_community_has_uint32) fun v =>
 retQ q_community_Has (v.1, ())
theorem x_community_Has (O : Oracle) (n : Nat) (l : (List Int)) (c_ : Int) : evF1 O n f_community_Has [.d (.list tW) l, .d tW c_] [] = G_community_Has O n l c_ := by kernel_rfl

def q_community_Drop : Sh := ⟨[], ⟨[], []⟩, [.tm 0 (.list tW)]⟩
/-! ### 21: routing/community.Drop -/
def f_community_Drop : TF := ⟨(.seq (.region (
.op (some 4) (.mv (.nil tW)) <|
.nil)) (.seq (.region (
.op (some 5) (.mv (.nil tW)) <|
.nil)) (.seq (.seq (.region (
.op (some 8) (.mv (.tm 0)) <|
.op (some 9) (.call false N_community_sorted_uint32 [(.d (.list tW), .tm 8)] q_community_sorted_uint32) <|
.op (some 10) (.len false (.tm 9)) <|
.op (some 11) (.mv (.k tI (0 : Int))) <|
.nil)) (.block 0 (.adj [.adopt 5 27 tW] (.loop ⟨[1, 9, 10], ⟨[(5, .sl 0)], [.vec T_u32 tW []]⟩, [.tm 11 tI, .vec 0 27 tW]⟩ [(3, ⟨[], ⟨[(5, .sl 0)], [.vec T_u32 tW []]⟩, [.vec 0 27 tW]⟩)] (.seq (.region (
.op (some 12) (.bin .lss (.tm 11) (.tm 10)) <|
.nil)) (.seq (.cond (.tm 12) .skip (.exit 0)) (.seq (.cut [(0, ⟨[1, 9, 10, 11], ⟨[(5, .sl 0)], [.vec T_u32 tW []]⟩, [.vec 0 27 tW]⟩)] (.block 1 (.seq (.region (
.op (some 13) (.idxA tW (.tm 9) (.tm 11)) <|
.op (some 14) (.load tW (.tm 13)) <|
.op (some 7) (.mv (.tm 14)) <|
.nil)) (.seq (.region (
.op (some 15) (.mv (.tm 7)) <|
.op (some 16) (.mv (.tm 1)) <|
.op (some 17) (.bin .neq (.tm 15) (.tm 16)) <|
.nil)) (.cond (.tm 17) (.region (
.op (some 18) (.mv (.tm 5)) <|
.op (some 19) (.mv (.tm 7)) <|
.op (some 20) (.bslice false 27 tW 1 [.tm 19]) <|
.op (some 21) (.append 27 tW 4 (.tm 18) (.tm 20)) <|
.op (some 5) (.mv (.tm 21)) <|
.nil)) .skip))))) (.region (
.op (some 22) (.bin .add (.tm 11) (.k tI (1 : Int))) <|
.op (some 11) (.mv (.tm 22)) <|
.nil))))))))) (.seq (.region (
.op (some 23) (.mv (.tm 5)) <|
.op (some 4) (.mv (.tm 23)) <|
.nil)) (.adj [.freeze 0] .ret))))), [.tm 4], 24, q_community_Drop, 0⟩
def L_community_Drop_0 (O : Oracle) (n : Nat) (c_ : Int) (v : ((List Int) × Unit)) (s : (Int × (List Int) × Unit)) : Option ((Int × (List Int) × Unit) ⊕ ((List Int) × Unit)) :=
 bif decide (s.1 < (v.1.length : Int)) then
 Option.bind (
 Option.bind (getI v.1 s.1) fun v2 =>
 bif (v2 != c_) then
 guardB (decide ((s.2.1.length + ([v2] : List Int).length) * 4 ≤ 140737488355328)) (
 some ((s.2.1 ++ ([v2] : List Int), ())))
else
 some ((s.2.1, ()))) fun (v3 : ((List Int) × Unit)) =>
 some (.inl (IntKind.wrap .i64 (s.1 + (1 : Int)), v3.1, ()))
else
 some (.inr ((s.2.1, ())))
def G_community_Drop (O : Oracle) (n : Nat) (l : (List Int)) (c_ : Int) : Option (Option S) :=
 Option.bind (callR O N_community_sorted_uint32 [.d (.list tW) l] [] q_community_sorted_uint32) fun v =>
 Option.bind (loopN n (L_community_Drop_0 O n c_ v) ((0 : Int), ([] : List Int), ())) fun (v4 : ((List Int) × Unit)) =>
 retQ q_community_Drop (v4.1, ())
theorem x_community_Drop (O : Oracle) (n : Nat) (l : (List Int)) (c_ : Int) : evF1 O n f_community_Drop [.d (.list tW) l, .d tW c_] [] = G_community_Drop O n l c_ := by kernel_rfl

def q_community_Join : Sh := ⟨[], ⟨[], []⟩, [.tm 0 (.list tW)]⟩
/-! ### 23: routing/community.Join -/
def f_community_Join : TF := ⟨(.seq (.region (
.op (some 4) (.mv (.nil tW)) <|
.nil)) (.seq (.region (
.op (some 8) (.mv (.tm 0)) <|
.op (some 9) (.call false N_community_sorted_uint32 [(.d (.list tW), .tm 8)] q_community_sorted_uint32) <|
.op (some 5) (.mv (.tm 9)) <|
.nil)) (.seq (.seq (.region (
.op (some 10) (.mv (.tm 1)) <|
.op (some 11) (.len false (.tm 10)) <|
.op (some 12) (.mv (.k tI (0 : Int))) <|
.nil)) (.block 0 (.loop ⟨[10, 11], ⟨[], []⟩, [.tm 5 (.list tW), .tm 12 tI]⟩ [(3, ⟨[], ⟨[], []⟩, [.tm 5 (.list tW)]⟩)] (.seq (.region (
.op (some 13) (.bin .lss (.tm 12) (.tm 11)) <|
.nil)) (.seq (.cond (.tm 13) .skip (.exit 0)) (.seq (.block 1 (.seq (.region (
.op (some 14) (.idxA tW (.tm 10) (.tm 12)) <|
.op (some 15) (.load tW (.tm 14)) <|
.op (some 7) (.mv (.tm 15)) <|
.nil)) (.region (
.op (some 16) (.mv (.tm 5)) <|
.op (some 17) (.mv (.tm 7)) <|
.op (some 18) (.call false N_community_insert_uint32 [(.d (.list tW), .tm 16), (.d tW, .tm 17)] q_community_insert_uint32) <|
.op (some 5) (.mv (.tm 18)) <|
.nil)))) (.region (
.op (some 19) (.bin .add (.tm 12) (.k tI (1 : Int))) <|
.op (some 12) (.mv (.tm 19)) <|
.nil)))))))) (.seq (.cut [(0, ⟨[], ⟨[], []⟩, [.tm 5 (.list tW)]⟩)] (.seq (.region (
.op (some 20) (.mv (.tm 5)) <|
.op (some 21) (.len false (.tm 20)) <|
.op (some 22) (.bin .gtr (.tm 21) (.k tI (255 : Int))) <|
.nil)) (.cond (.tm 22) (.region (
.op (some 23) (.mv (.tm 5)) <|
.op (some 24) (.slc false tW (.tm 23) none (some (.k tI (255 : Int))) (some (.k tI (255 : Int)))) <|
.op (some 5) (.mv (.tm 24)) <|
.nil)) .skip))) (.seq (.region (
.op (some 25) (.mv (.tm 5)) <|
.op (some 4) (.mv (.tm 25)) <|
.nil)) .ret))))), [.tm 4], 26, q_community_Join, 0⟩
def L_community_Join_0 (O : Oracle) (n : Nat) (b : (List Int)) (s : ((List Int) × Int × Unit)) : Option (((List Int) × Int × Unit) ⊕ ((List Int) × Unit)) :=
 bif decide (s.2.1 < (b.length : Int)) then
 Option.bind (getI b s.2.1) fun v2 =>
 Option.bind (callR O N_community_insert_uint32 [.d (.list tW) s.1, .d tW v2] [] q_community_insert_uint32) fun v3 =>
 some (.inl (v3.1, IntKind.wrap .i64 (s.2.1 + (1 : Int)), ()))
else
 some (.inr ((s.1, ())))
def G_community_Join (O : Oracle) (n : Nat) (a : (List Int)) (b : (List Int)) : Option (Option S) :=
 Option.bind (callR O N_community_sorted_uint32 [.d (.list tW) a] [] q_community_sorted_uint32) fun v =>
 Option.bind (loopN n (L_community_Join_0 O n b) (v.1, (0 : Int), ())) fun (v4 : ((List Int) × Unit)) =>
 Option.bind (
 bif decide ((v4.1.length : Int) > (255 : Int)) then
 guardB (decide (0 ≤ (255 : Int))) (
 guardB (decide (0 ≤ (255 : Int))) (
 guardB (decide (0 ≤ Int.toNat (255 : Int)) && decide (Int.toNat (255 : Int) ≤ Int.toNat (255 : Int)) && decide (Int.toNat (255 : Int) ≤ v4.1.length)) (
 some (((v4.1.take (Int.toNat (255 : Int))).drop (0), ())))))
else
 some ((v4.1, ()))) fun (v5 : ((List Int) × Unit)) =>
 retQ q_community_Join (v5.1, ())
theorem x_community_Join (O : Oracle) (n : Nat) (a : (List Int)) (b : (List Int)) : evF1 O n f_community_Join [.d (.list tW) a, .d (.list tW) b] [] = G_community_Join O n a b := by kernel_rfl

def q_community_Match : Sh := ⟨[], ⟨[], []⟩, [.tm 0 tB]⟩
/-! ### 25: routing/community.Match -/
def f_community_Match : TF := ⟨(.seq (.region (
.op (some 2) (.boxD 40 (pr [tB, tI, tI]) (.tm 0)) <|
.op (some 4) (.mv (.k tB false)) <|
.nil)) (.seq (.seq (.region (
.op (some 7) (.mv (.tm 1)) <|
.op (some 8) (.len false (.tm 7)) <|
.op (some 9) (.mv (.k tI (0 : Int))) <|
.nil)) (.block 0 (.loop ⟨[2, 7, 8], ⟨[], []⟩, [.tm 9 tI]⟩ [(1, ⟨[], ⟨[], []⟩, [.tm 4 tB]⟩), (3, ⟨[], ⟨[], []⟩, []⟩)] (.seq (.region (
.op (some 10) (.bin .lss (.tm 9) (.tm 8)) <|
.nil)) (.seq (.cond (.tm 10) .skip (.exit 0)) (.seq (.block 1 (.seq (.region (
.op (some 11) (.idxA tW (.tm 7) (.tm 9)) <|
.op (some 12) (.load tW (.tm 11)) <|
.op (some 6) (.mv (.tm 12)) <|
.nil)) (.seq (.region (
.op (some 13) (.fldA 1 tI (.tm 2)) <|
.op (some 14) (.load tI (.tm 13)) <|
.op (some 15) (.bin .eql (.tm 14) (.k tI (-1 : Int))) <|
.op (some 16) (.mv (.tm 15)) <|
.gb 16 false (
.op (some 17) (.fldA 1 tI (.tm 2)) <|
.op (some 18) (.load tI (.tm 17)) <|
.op (some 19) (.mv (.tm 6)) <|
.op (some 20) (.bin .shr (.tm 19) (.k tQ (16 : Int))) <|
.op (some 21) (.cvtI .i64 (.tm 20)) <|
.op (some 22) (.bin .eql (.tm 18) (.tm 21)) <|
.nil) tB (.tm 22) (.k tB true) 23 <|
.op (some 24) (.mv (.tm 23)) <|
.gb 24 true (
.op (some 25) (.fldA 2 tI (.tm 2)) <|
.op (some 26) (.load tI (.tm 25)) <|
.op (some 27) (.bin .eql (.tm 26) (.k tI (-1 : Int))) <|
.op (some 28) (.mv (.tm 27)) <|
.gb 28 false (
.op (some 29) (.fldA 2 tI (.tm 2)) <|
.op (some 30) (.load tI (.tm 29)) <|
.op (some 31) (.mv (.tm 6)) <|
.op (some 32) (.bin .and (.tm 31) (.k tW (65535 : Int))) <|
.op (some 33) (.cvtI .i64 (.tm 32)) <|
.op (some 34) (.bin .eql (.tm 30) (.tm 33)) <|
.nil) tB (.tm 34) (.k tB true) 35 <|
.nil) tB (.tm 35) (.k tB false) 36 <|
.nil)) (.cond (.tm 36) (.seq (.region (
.op (some 4) (.mv (.k tB true)) <|
.nil)) .ret) .skip)))) (.region (
.op (some 37) (.bin .add (.tm 9) (.k tI (1 : Int))) <|
.op (some 9) (.mv (.tm 37)) <|
.nil)))))))) (.seq (.region (
.op (some 4) (.mv (.k tB false)) <|
.nil)) .ret))), [.tm 4], 38, q_community_Match, 0⟩
def L_community_Match_0 (O : Oracle) (n : Nat) (r : (Bool × (Int × (Int × Unit)))) (l : (List Int)) (s : (Int × Unit)) : Option ((Int × Unit) ⊕ (Bool × Unit) ⊕ Unit) :=
 bif decide (s.1 < (l.length : Int)) then
 Option.bind (getI l s.1) fun v1 =>
 Option.bind (bif (r.2.1 == (-1 : Int)) then some (true) else
 guardB (decide (0 ≤ (16 : Int))) (
 let v2 := IntKind.wrap .i64 (Int.fdiv v1 (2 ^ (min (Int.toNat (16 : Int)) (IntKind.bits .u32))))
 some ((r.2.1 == v2)))) fun v3 =>
 Option.bind (bif v3 then
 Option.bind (bif (r.2.2.1 == (-1 : Int)) then some (true) else
 some ((r.2.2.1 == IntKind.wrap .i64 (bitsI .u32 .and v1 (65535 : Int))))) fun v4 =>
 some (v4)
else some (false)) fun v5 =>
 bif v5 then
 some (.inr (.inl ((true, ()))))
else
 some (.inl (IntKind.wrap .i64 (s.1 + (1 : Int)), ()))
else
 some (.inr (.inr (())))
def G_community_Match (O : Oracle) (n : Nat) (r : (Bool × (Int × (Int × Unit)))) (l : (List Int)) : Option (Option S) :=
 Option.bind (loopN n (L_community_Match_0 O n r l) ((0 : Int), ())) fun (v6 : (Bool × Unit) ⊕ Unit) =>
 Sum.elim (fun v7 =>
 retQ q_community_Match (v7.1, ())) (fun v8 =>
 retQ q_community_Match (false, ())) v6
theorem x_community_Match (O : Oracle) (n : Nat) (r : (Bool × (Int × (Int × Unit)))) (l : (List Int)) : evF1 O n f_community_Match [.d (pr [tB, tI, tI]) r, .d (.list tW) l] [] = G_community_Match O n r l := by kernel_rfl

def q_community_Permits : Sh := ⟨[], ⟨[], []⟩, [.tm 0 tB]⟩
/-! ### 27: routing/community.Permits -/
def f_community_Permits : TF := ⟨(.seq (.region (
.op (some 4) (.mv (.k tB false)) <|
.nil)) (.seq (.seq (.region (
.op (some 7) (.mv (.tm 0)) <|
.op (some 8) (.len false (.tm 7)) <|
.op (some 9) (.mv (.k tI (0 : Int))) <|
.nil)) (.block 0 (.loop ⟨[1, 7, 8], ⟨[], []⟩, [.tm 9 tI]⟩ [(1, ⟨[], ⟨[], []⟩, [.tm 4 tB]⟩), (3, ⟨[], ⟨[], []⟩, []⟩)] (.seq (.region (
.op (some 10) (.bin .lss (.tm 9) (.tm 8)) <|
.nil)) (.seq (.cond (.tm 10) .skip (.exit 0)) (.seq (.block 1 (.seq (.region (
.op (some 11) (.idxA (pr [tB, tI, tI]) (.tm 7) (.tm 9)) <|
.op (some 12) (.load (pr [tB, tI, tI]) (.tm 11)) <|
.op (some 6) (.alloc 40 [.d tB false, .d tI (0 : Int), .d tI (0 : Int)]) <|
.op none (.store (pr [tB, tI, tI]) (.tm 6) (.tm 12)) <|
.nil)) (.seq (.region (
.op (some 13) (.load (pr [tB, tI, tI]) (.tm 6)) <|
.op (some 14) (.mv (.tm 1)) <|
.op (some 15) (.call false N_community_Match [(.d (pr [tB, tI, tI]), .tm 13), (.d (.list tW), .tm 14)] q_community_Match) <|
.nil)) (.cond (.tm 15) (.seq (.region (
.op (some 16) (.fldA 0 tB (.tm 6)) <|
.op (some 17) (.load tB (.tm 16)) <|
.op (some 4) (.mv (.tm 17)) <|
.nil)) (.adj [.sel [] [4]] .ret)) .skip)))) (.after (.region (
.op (some 18) (.bin .add (.tm 9) (.k tI (1 : Int))) <|
.op (some 9) (.mv (.tm 18)) <|
.nil)) [.sel [] [1, 7, 8, 9]]))))))) (.seq (.region (
.op (some 4) (.mv (.k tB false)) <|
.nil)) .ret))), [.tm 4], 19, q_community_Permits, 0⟩
def L_community_Permits_0 (O : Oracle) (n : Nat) (rules : (List (Bool × (Int × (Int × Unit))))) (l : (List Int)) (s : (Int × Unit)) : Option ((Int × Unit) ⊕ (Bool × Unit) ⊕ Unit) :=
 bif decide (s.1 < (rules.length : Int)) then
 Option.bind (getI rules s.1) fun v1 =>
 Option.bind (callR O N_community_Match [.d (pr [tB, tI, tI]) v1, .d (.list tW) l] [] q_community_Match) fun v2 =>
 bif v2.1 then
 some (.inr (.inl ((v1.1, ()))))
else
 some (.inl (IntKind.wrap .i64 (s.1 + (1 : Int)), ()))
else
 some (.inr (.inr (())))
def G_community_Permits (O : Oracle) (n : Nat) (rules : (List (Bool × (Int × (Int × Unit))))) (l : (List Int)) : Option (Option S) :=
 Option.bind (loopN n (L_community_Permits_0 O n rules l) ((0 : Int), ())) fun (v3 : (Bool × Unit) ⊕ Unit) =>
 Sum.elim (fun v4 =>
 retQ q_community_Permits (v4.1, ())) (fun v5 =>
 retQ q_community_Permits (false, ())) v3
theorem x_community_Permits (O : Oracle) (n : Nat) (rules : (List (Bool × (Int × (Int × Unit))))) (l : (List Int)) : evF1 O n f_community_Permits [.d (.list (pr [tB, tI, tI])) rules, .d (.list tW) l] [] = G_community_Permits O n rules l := by kernel_rfl

def q_law18_awake : Sh := ⟨[], ⟨[], []⟩, [.tm 0 tB]⟩
/-! ### 11: routing/routinglaw18.awake -/
def f_law18_awake : TF := ⟨(.seq (.region (
.op (some 0) (.mv (.k tB false)) <|
.nil)) (.seq (.region (
.op (some 10) (.call false N_community_Parse [(.d tS, .k tS ([54, 53, 48, 48, 48, 58, 49, 48, 48] : List UInt8))] q_community_Parse) <|
.op (some 9) (.mv (.tm 10)) <|
.op (some 11) (.ext (.tm 9) 0) <|
.op (some 12) (.ext (.tm 9) 1) <|
.op (some 1) (.mv (.tm 11)) <|
.op (some 2) (.mv (.tm 12)) <|
.nil)) (.seq (.region (
.op (some 14) (.call false N_community_Parse [(.d tS, .k tS ([54, 53, 53, 51, 53, 58, 54, 53, 50, 56, 49] : List UInt8))] q_community_Parse) <|
.op (some 13) (.mv (.tm 14)) <|
.op (some 15) (.ext (.tm 13) 0) <|
.op (some 16) (.ext (.tm 13) 1) <|
.op (some 3) (.mv (.tm 15)) <|
.op (some 4) (.mv (.tm 16)) <|
.nil)) (.seq (.region (
.op (some 18) (.call false N_community_Parse [(.d tS, .k tS ([110, 111, 45, 101, 120, 112, 111, 114, 116] : List UInt8))] q_community_Parse) <|
.op (some 17) (.mv (.tm 18)) <|
.op (some 19) (.ext (.tm 17) 0) <|
.op (some 20) (.ext (.tm 17) 1) <|
.op (some 5) (.mv (.tm 19)) <|
.op (some 6) (.mv (.tm 20)) <|
.nil)) (.seq (.region (
.op (some 21) (.bslice false 27 tW 2 [.k tW (5 : Int), .k tW (3 : Int)]) <|
.op (some 22) (.call false N_community_Add [(.d (.list tW), .tm 21), (.d tW, .k tW (4 : Int))] q_community_Add) <|
.op (some 7) (.mv (.tm 22)) <|
.nil)) (.seq (.seq (.region (
.op (some 23) (.mv (.tm 2)) <|
.op (some 24) (.bin .neq (.tm 23) (.k tI (0 : Int))) <|
.op (some 25) (.mv (.tm 24)) <|
.gb 25 false (
.op (some 26) (.mv (.tm 1)) <|
.op (some 27) (.bin .neq (.tm 26) (.k tW (4259840100 : Int))) <|
.nil) tB (.tm 27) (.k tB true) 28 <|
.op (some 29) (.mv (.tm 28)) <|
.gb 29 false (
.op (some 30) (.mv (.tm 4)) <|
.op (some 31) (.bin .neq (.tm 30) (.k tI (2 : Int))) <|
.nil) tB (.tm 31) (.k tB true) 32 <|
.op (some 33) (.mv (.tm 32)) <|
.gb 33 false (
.op (some 34) (.mv (.tm 6)) <|
.op (some 35) (.bin .neq (.tm 34) (.k tI (0 : Int))) <|
.nil) tB (.tm 35) (.k tB true) 36 <|
.op (some 37) (.mv (.tm 36)) <|
.gb 37 false (
.op (some 38) (.mv (.tm 5)) <|
.op (some 39) (.bin .neq (.tm 38) (.k tW (4294967041 : Int))) <|
.nil) tB (.tm 39) (.k tB true) 40 <|
.op (some 41) (.mv (.tm 40)) <|
.gb 41 false (
.op (some 42) (.mv (.tm 7)) <|
.op (some 43) (.len false (.tm 42)) <|
.op (some 44) (.bin .neq (.tm 43) (.k tI (3 : Int))) <|
.nil) tB (.tm 44) (.k tB true) 45 <|
.op (some 46) (.mv (.tm 45)) <|
.gb 46 false (
.op (some 47) (.mv (.tm 7)) <|
.op (some 48) (.idxA tW (.tm 47) (.k tI (1 : Int))) <|
.op (some 49) (.load tW (.tm 48)) <|
.op (some 50) (.bin .neq (.tm 49) (.k tW (4 : Int))) <|
.nil) tB (.tm 50) (.k tB true) 51 <|
.op (some 52) (.mv (.tm 51)) <|
.gb 52 false (
.op (some 53) (.mv (.tm 1)) <|
.op (some 54) (.call false N_community_Text [(.d tW, .tm 53)] q_community_Text) <|
.op (some 55) (.bin .neq (.tm 54) (.k tS ([54, 53, 48, 48, 48, 58, 49, 48, 48] : List UInt8))) <|
.nil) tB (.tm 55) (.k tB true) 56 <|
.nil)) (.cond (.tm 56) (.seq (.region (
.op (some 0) (.mv (.k tB false)) <|
.nil)) .ret) .skip)) (.seq (.region (
.op (some 57) (.build [.d tB false, .d tI (0 : Int), .d tI (0 : Int)] [(0, 1, .k tB true), (1, 1, .k tI (65000 : Int)), (2, 1, .k tI (-1 : Int))]) <|
.op (some 8) (.alloc 40 [.d tB false, .d tI (0 : Int), .d tI (0 : Int)]) <|
.op none (.store (pr [tB, tI, tI]) (.tm 8) (.tm 57)) <|
.nil)) (.seq (.region (
.op (some 58) (.mv (.tm 7)) <|
.op (some 59) (.call false N_community_Check [(.d (.list tW), .tm 58)] q_community_Check) <|
.op (some 60) (.bin .eql (.tm 59) (.k tI (0 : Int))) <|
.op (some 61) (.mv (.tm 60)) <|
.gb 61 true (
.op (some 62) (.bslice false 27 tW 2 [.k tW (2 : Int), .k tW (1 : Int)]) <|
.op (some 63) (.call false N_community_Check [(.d (.list tW), .tm 62)] q_community_Check) <|
.op (some 64) (.bin .eql (.tm 63) (.k tI (16 : Int))) <|
.nil) tB (.tm 64) (.k tB false) 65 <|
.op (some 66) (.mv (.tm 65)) <|
.gb 66 true (
.op (some 67) (.mv (.tm 7)) <|
.op (some 68) (.call false N_community_Has [(.d (.list tW), .tm 67), (.d tW, .k tW (5 : Int))] q_community_Has) <|
.nil) tB (.tm 68) (.k tB false) 69 <|
.op (some 70) (.mv (.tm 69)) <|
.gb 70 true (
.op (some 71) (.mv (.tm 7)) <|
.op (some 72) (.call false N_community_Drop [(.d (.list tW), .tm 71), (.d tW, .k tW (4 : Int))] q_community_Drop) <|
.op (some 73) (.len false (.tm 72)) <|
.op (some 74) (.bin .eql (.tm 73) (.k tI (2 : Int))) <|
.nil) tB (.tm 74) (.k tB false) 75 <|
.op (some 76) (.mv (.tm 75)) <|
.gb 76 true (
.op (some 77) (.mv (.tm 7)) <|
.op (some 78) (.bslice false 27 tW 1 [.k tW (9 : Int)]) <|
.op (some 79) (.call false N_community_Join [(.d (.list tW), .tm 77), (.d (.list tW), .tm 78)] q_community_Join) <|
.op (some 80) (.len false (.tm 79)) <|
.op (some 81) (.bin .eql (.tm 80) (.k tI (4 : Int))) <|
.nil) tB (.tm 81) (.k tB false) 82 <|
.op (some 83) (.mv (.tm 82)) <|
.gb 83 true (
.op (some 84) (.load (pr [tB, tI, tI]) (.tm 8)) <|
.op (some 85) (.mv (.tm 1)) <|
.op (some 86) (.bslice false 27 tW 1 [.tm 85]) <|
.op (some 87) (.call false N_community_Match [(.d (pr [tB, tI, tI]), .tm 84), (.d (.list tW), .tm 86)] q_community_Match) <|
.nil) tB (.tm 87) (.k tB false) 88 <|
.op (some 89) (.mv (.tm 88)) <|
.gb 89 true (
.op (some 90) (.load (pr [tB, tI, tI]) (.tm 8)) <|
.op (some 91) (.bslice false 40 (pr [tB, tI, tI]) 1 [.tm 90]) <|
.op (some 92) (.mv (.tm 1)) <|
.op (some 93) (.bslice false 27 tW 1 [.tm 92]) <|
.op (some 94) (.call false N_community_Permits [(.d (.list (pr [tB, tI, tI])), .tm 91), (.d (.list tW), .tm 93)] q_community_Permits) <|
.nil) tB (.tm 94) (.k tB false) 95 <|
.op (some 96) (.mv (.tm 95)) <|
.gb 96 true (
.op (some 97) (.mv (.tm 7)) <|
.op (some 98) (.call false N_community_Permits [(.d (.list (pr [tB, tI, tI])), .nil (pr [tB, tI, tI])), (.d (.list tW), .tm 97)] q_community_Permits) <|
.op (some 99) (.un .not (.tm 98)) <|
.nil) tB (.tm 99) (.k tB false) 100 <|
.op (some 0) (.mv (.tm 100)) <|
.nil)) .ret)))))))), [.tm 0], 101, q_law18_awake, 0⟩
def G_law18_awake (O : Oracle) (n : Nat)  : Option (Option S) :=
 Option.bind (callR O N_community_Parse [.d tS ([54, 53, 48, 48, 48, 58, 49, 48, 48] : List UInt8)] [] q_community_Parse) fun v =>
 Option.bind (callR O N_community_Parse [.d tS ([54, 53, 53, 51, 53, 58, 54, 53, 50, 56, 49] : List UInt8)] [] q_community_Parse) fun v1 =>
 Option.bind (callR O N_community_Parse [.d tS ([110, 111, 45, 101, 120, 112, 111, 114, 116] : List UInt8)] [] q_community_Parse) fun v2 =>
 Option.bind (callR O N_community_Add [.d (.list tW) (([(5 : Int), (3 : Int)] : List Int)), .d tW (4 : Int)] [] q_community_Add) fun v3 =>
 Option.bind (bif (v.2.1 != (0 : Int)) then some (true) else
 some ((v.1 != (4259840100 : Int)))) fun v4 =>
 Option.bind (bif v4 then some (true) else
 some ((v1.2.1 != (2 : Int)))) fun v5 =>
 Option.bind (bif v5 then some (true) else
 some ((v2.2.1 != (0 : Int)))) fun v6 =>
 Option.bind (bif v6 then some (true) else
 some ((v2.1 != (4294967041 : Int)))) fun v7 =>
 Option.bind (bif v7 then some (true) else
 some (((v3.1.length : Int) != (3 : Int)))) fun v8 =>
 Option.bind (bif v8 then some (true) else
 Option.bind (getI v3.1 (1 : Int)) fun v9 =>
 some ((v9 != (4 : Int)))) fun v10 =>
 Option.bind (bif v10 then some (true) else
 Option.bind (callR O N_community_Text [.d tW v.1] [] q_community_Text) fun v11 =>
 some ((!(v11.1 == ([54, 53, 48, 48, 48, 58, 49, 48, 48] : List UInt8))))) fun v12 =>
 bif v12 then
 retQ q_law18_awake (false, ())
else
 Option.bind (callR O N_community_Check [.d (.list tW) v3.1] [] q_community_Check) fun v13 =>
 Option.bind (bif (v13.1 == (0 : Int)) then
 Option.bind (callR O N_community_Check [.d (.list tW) (([(2 : Int), (1 : Int)] : List Int))] [] q_community_Check) fun v14 =>
 some ((v14.1 == (16 : Int)))
else some (false)) fun v15 =>
 Option.bind (bif v15 then
 Option.bind (callR O N_community_Has [.d (.list tW) v3.1, .d tW (5 : Int)] [] q_community_Has) fun v16 =>
 some (v16.1)
else some (false)) fun v17 =>
 Option.bind (bif v17 then
 Option.bind (callR O N_community_Drop [.d (.list tW) v3.1, .d tW (4 : Int)] [] q_community_Drop) fun v18 =>
 some (((v18.1.length : Int) == (2 : Int)))
else some (false)) fun v19 =>
 Option.bind (bif v19 then
 Option.bind (callR O N_community_Join [.d (.list tW) v3.1, .d (.list tW) (([(9 : Int)] : List Int))] [] q_community_Join) fun v20 =>
 some (((v20.1.length : Int) == (4 : Int)))
else some (false)) fun v21 =>
 Option.bind (bif v21 then
 Option.bind (callR O N_community_Match [.d (pr [tB, tI, tI]) ((true, (65000 : Int), (-1 : Int), ())), .d (.list tW) ([v.1] : List Int)] [] q_community_Match) fun v22 =>
 some (v22.1)
else some (false)) fun v23 =>
 Option.bind (bif v23 then
 Option.bind (callR O N_community_Permits [.d (.list (pr [tB, tI, tI])) (([(true, (65000 : Int), (-1 : Int), ())] : List (Bool × (Int × (Int × Unit))))), .d (.list tW) ([v.1] : List Int)] [] q_community_Permits) fun v24 =>
 some (v24.1)
else some (false)) fun v25 =>
 Option.bind (bif v25 then
 Option.bind (callR O N_community_Permits [.d (.list (pr [tB, tI, tI])) (([] : List (Bool × (Int × (Int × Unit))))), .d (.list tW) v3.1] [] q_community_Permits) fun v26 =>
 some ((!v26.1))
else some (false)) fun v27 =>
 retQ q_law18_awake (v27, ())
theorem x_law18_awake (O : Oracle) (n : Nat)  : evF1 O n f_law18_awake [] [] = G_law18_awake O n  := by kernel_rfl

def q_law18_CommunityCheck : Sh := ⟨[], ⟨[], []⟩, [.tm 0 tB]⟩
/-! ### 3: routing/routinglaw18.CommunityCheck -/
def f_law18_CommunityCheck : TF := ⟨(.seq (.region (
.op (some 2) (.mv (.k tB false)) <|
.nil)) (.seq (.region (
.op (some 3) (.mv (.tm 0)) <|
.op (some 4) (.call false N_community_Check [(.d (.list tW), .tm 3)] q_community_Check) <|
.op (some 5) (.mv (.tm 0)) <|
.op (some 6) (.call false N_ref18_Check [(.d (.list tW), .tm 5)] q_ref18_Check) <|
.op (some 7) (.bin .eql (.tm 4) (.tm 6)) <|
.op (some 8) (.mv (.tm 7)) <|
.gb 8 true (
.op (some 9) (.call false N_law18_awake [] q_law18_awake) <|
.nil) tB (.tm 9) (.k tB false) 10 <|
.op (some 2) (.mv (.tm 10)) <|
.nil)) .ret)), [.tm 2], 11, q_law18_CommunityCheck, 0⟩
def G_law18_CommunityCheck (O : Oracle) (n : Nat) (l : (List Int)) : Option (Option S) :=
 Option.bind (callR O N_community_Check [.d (.list tW) l] [] q_community_Check) fun v =>
 Option.bind (callR O N_ref18_Check [.d (.list tW) l] [] q_ref18_Check) fun v1 =>
 Option.bind (bif (v.1 == v1.1) then
 Option.bind (callR O N_law18_awake [] [] q_law18_awake) fun v2 =>
 some (v2.1)
else some (false)) fun v3 =>
 retQ q_law18_CommunityCheck (v3, ())
theorem x_law18_CommunityCheck (O : Oracle) (n : Nat) (l : (List Int)) : evF1 O n f_law18_CommunityCheck [.d (.list tW) l] [] = G_law18_CommunityCheck O n l := by kernel_rfl

def q_ref03_digits : Sh := ⟨[], ⟨[], []⟩, [.tm 0 tS]⟩
/-! ### 39: routing/routingref03.digits -/
def f_ref03_digits : TF := ⟨(.seq (.region (
.op (some 2) (.mv (.k tS ([] : List UInt8))) <|
.nil)) (.seq (.region (
.op (some 4) (.mv (.tm 0)) <|
.op (some 5) (.bin .rem (.tm 4) (.k tQ (10 : Int))) <|
.op (some 6) (.bin .add (.k tQ (48 : Int)) (.tm 5)) <|
.op (some 7) (.cvtI .u8 (.tm 6)) <|
.op (some 8) (.bslice false 5 tY 1 [.tm 7]) <|
.op (some 9) (.b2s (.tm 8)) <|
.op (some 3) (.mv (.tm 9)) <|
.nil)) (.seq (.seq (.region (
.op (some 10) (.mv (.tm 0)) <|
.op (some 11) (.bin .lss (.tm 10) (.k tQ (10 : Int))) <|
.nil)) (.cond (.tm 11) (.seq (.region (
.op (some 12) (.mv (.tm 3)) <|
.op (some 2) (.mv (.tm 12)) <|
.nil)) .ret) .skip)) (.seq (.region (
.op (some 13) (.mv (.tm 0)) <|
.op (some 14) (.bin .quo (.tm 13) (.k tQ (10 : Int))) <|
.op (some 15) (.call false N_ref03_digits [(.d tQ, .tm 14)] q_ref03_digits) <|
.op (some 16) (.mv (.tm 3)) <|
.op (some 17) (.bin .add (.tm 15) (.tm 16)) <|
.op (some 2) (.mv (.tm 17)) <|
.nil)) .ret)))), [.tm 2], 18, q_ref03_digits, 0⟩
def G_ref03_digits (O : Oracle) (n : Nat) (n_ : Int) : Option (Option S) :=
 guardB ((10 : Int) != 0) (
 let v := IntKind.wrap .u8 (IntKind.wrap .u64 ((48 : Int) + (Int.tmod n_ (10 : Int))))
 bif decide (n_ < (10 : Int)) then
 retQ q_ref03_digits (([v] : List Int).map fun (n : Int) => UInt8.ofNat n.toNat, ())
else
 guardB ((10 : Int) != 0) (
 Option.bind (callR O N_ref03_digits [.d tQ (IntKind.wrap .u64 (Int.tdiv n_ (10 : Int)))] [] q_ref03_digits) fun v1 =>
 guardB (decide (v1.1.length + (([v] : List Int).map fun (n : Int) => UInt8.ofNat n.toNat).length ≤ 9223372036854775807)) (
 retQ q_ref03_digits (v1.1 ++ (([v] : List Int).map fun (n : Int) => UInt8.ofNat n.toNat), ()))))
theorem x_ref03_digits (O : Oracle) (n : Nat) (n_ : Int) : evF1 O n f_ref03_digits [.d tQ n_] [] = G_ref03_digits O n n_ := by kernel_rfl

def q_ref03_Decimal : Sh := ⟨[], ⟨[], []⟩, [.tm 0 tS]⟩
/-! ### 32: routing/routingref03.Decimal -/
def f_ref03_Decimal : TF := ⟨(.seq (.region (
.op (some 2) (.mv (.k tS ([] : List UInt8))) <|
.nil)) (.seq (.seq (.region (
.op (some 3) (.mv (.tm 0)) <|
.op (some 4) (.bin .lss (.tm 3) (.k tI (0 : Int))) <|
.nil)) (.cond (.tm 4) (.seq (.region (
.op (some 5) (.mv (.tm 0)) <|
.op (some 6) (.bin .add (.tm 5) (.k tI (1 : Int))) <|
.op (some 7) (.un .neg (.tm 6)) <|
.op (some 8) (.cvtI .u64 (.tm 7)) <|
.op (some 9) (.bin .add (.tm 8) (.k tQ (1 : Int))) <|
.op (some 10) (.call false N_ref03_digits [(.d tQ, .tm 9)] q_ref03_digits) <|
.op (some 11) (.bin .add (.k tS ([45] : List UInt8)) (.tm 10)) <|
.op (some 2) (.mv (.tm 11)) <|
.nil)) .ret) .skip)) (.seq (.region (
.op (some 12) (.mv (.tm 0)) <|
.op (some 13) (.cvtI .u64 (.tm 12)) <|
.op (some 14) (.call false N_ref03_digits [(.d tQ, .tm 13)] q_ref03_digits) <|
.op (some 2) (.mv (.tm 14)) <|
.nil)) .ret))), [.tm 2], 15, q_ref03_Decimal, 0⟩
def G_ref03_Decimal (O : Oracle) (n : Nat) (n_ : Int) : Option (Option S) :=
 bif decide (n_ < (0 : Int)) then
 let v := IntKind.wrap .u64 (IntKind.wrap .i64 (0 - IntKind.wrap .i64 (n_ + (1 : Int))))
 Option.bind (callR O N_ref03_digits [.d tQ (IntKind.wrap .u64 (v + (1 : Int)))] [] q_ref03_digits) fun v1 =>
 guardB (decide (([45] : List UInt8).length + v1.1.length ≤ 9223372036854775807)) (
 retQ q_ref03_Decimal (([45] : List UInt8) ++ v1.1, ()))
else
 Option.bind (callR O N_ref03_digits [.d tQ (IntKind.wrap .u64 n_)] [] q_ref03_digits) fun v2 =>
 retQ q_ref03_Decimal (v2.1, ())
theorem x_ref03_Decimal (O : Oracle) (n : Nat) (n_ : Int) : evF1 O n f_ref03_Decimal [.d tI n_] [] = G_ref03_Decimal O n n_ := by kernel_rfl

def q_ref18_Text : Sh := ⟨[], ⟨[], []⟩, [.tm 0 tS]⟩
/-! ### 14: routing/routingref18.Text -/
def f_ref18_Text : TF := ⟨(.seq (.region (
.op (some 2) (.mv (.k tS ([] : List UInt8))) <|
.nil)) (.seq (.seq (.region (
.op (some 3) (.mv (.tm 0)) <|
.nil)) (.block 0 (.seq (.region (
.op (some 5) (.bin .eql (.tm 3) (.k tW (4294901760 : Int))) <|
.op (some 4) (.mv (.tm 5)) <|
.nil)) (.cond (.tm 4) (.seq (.region (
.op (some 2) (.mv (.k tS ([103, 114, 97, 99, 101, 102, 117, 108, 45, 115, 104, 117, 116, 100, 111, 119, 110] : List UInt8))) <|
.nil)) .ret) (.seq (.region (
.op (some 7) (.bin .eql (.tm 3) (.k tW (4294967041 : Int))) <|
.op (some 6) (.mv (.tm 7)) <|
.nil)) (.cond (.tm 6) (.seq (.region (
.op (some 2) (.mv (.k tS ([110, 111, 45, 101, 120, 112, 111, 114, 116] : List UInt8))) <|
.nil)) .ret) (.seq (.region (
.op (some 9) (.bin .eql (.tm 3) (.k tW (4294967042 : Int))) <|
.op (some 8) (.mv (.tm 9)) <|
.nil)) (.cond (.tm 8) (.seq (.region (
.op (some 2) (.mv (.k tS ([110, 111, 45, 97, 100, 118, 101, 114, 116, 105, 115, 101] : List UInt8))) <|
.nil)) .ret) (.seq (.region (
.op (some 11) (.bin .eql (.tm 3) (.k tW (4294967043 : Int))) <|
.op (some 10) (.mv (.tm 11)) <|
.nil)) (.cond (.tm 10) (.seq (.region (
.op (some 2) (.mv (.k tS ([110, 111, 45, 101, 120, 112, 111, 114, 116, 45, 99, 111, 110, 102, 101, 100] : List UInt8))) <|
.nil)) .ret) .skip)))))))))) (.seq (.region (
.op (some 12) (.mv (.tm 0)) <|
.op (some 13) (.bin .shr (.tm 12) (.k tQ (16 : Int))) <|
.op (some 14) (.cvtI .i64 (.tm 13)) <|
.op (some 15) (.call false N_ref03_Decimal [(.d tI, .tm 14)] q_ref03_Decimal) <|
.op (some 16) (.bin .add (.tm 15) (.k tS ([58] : List UInt8))) <|
.op (some 17) (.mv (.tm 0)) <|
.op (some 18) (.bin .and (.tm 17) (.k tW (65535 : Int))) <|
.op (some 19) (.cvtI .i64 (.tm 18)) <|
.op (some 20) (.call false N_ref03_Decimal [(.d tI, .tm 19)] q_ref03_Decimal) <|
.op (some 21) (.bin .add (.tm 16) (.tm 20)) <|
.op (some 2) (.mv (.tm 21)) <|
.nil)) .ret))), [.tm 2], 22, q_ref18_Text, 0⟩
def G_ref18_Text (O : Oracle) (n : Nat) (c_ : Int) : Option (Option S) :=
 bif (c_ == (4294901760 : Int)) then
 retQ q_ref18_Text (([103, 114, 97, 99, 101, 102, 117, 108, 45, 115, 104, 117, 116, 100, 111, 119, 110] : List UInt8), ())
else
 bif (c_ == (4294967041 : Int)) then
 retQ q_ref18_Text (([110, 111, 45, 101, 120, 112, 111, 114, 116] : List UInt8), ())
else
 bif (c_ == (4294967042 : Int)) then
 retQ q_ref18_Text (([110, 111, 45, 97, 100, 118, 101, 114, 116, 105, 115, 101] : List UInt8), ())
else
 bif (c_ == (4294967043 : Int)) then
 retQ q_ref18_Text (([110, 111, 45, 101, 120, 112, 111, 114, 116, 45, 99, 111, 110, 102, 101, 100] : List UInt8), ())
else
 guardB (decide (0 ≤ (16 : Int))) (
 let v := IntKind.wrap .i64 (Int.fdiv c_ (2 ^ (min (Int.toNat (16 : Int)) (IntKind.bits .u32))))
 Option.bind (callR O N_ref03_Decimal [.d tI v] [] q_ref03_Decimal) fun v1 =>
 guardB (decide (v1.1.length + ([58] : List UInt8).length ≤ 9223372036854775807)) (
 Option.bind (callR O N_ref03_Decimal [.d tI (IntKind.wrap .i64 (bitsI .u32 .and c_ (65535 : Int)))] [] q_ref03_Decimal) fun v2 =>
 guardB (decide ((v1.1 ++ ([58] : List UInt8)).length + v2.1.length ≤ 9223372036854775807)) (
 retQ q_ref18_Text ((v1.1 ++ ([58] : List UInt8)) ++ v2.1, ()))))
theorem x_ref18_Text (O : Oracle) (n : Nat) (c_ : Int) : evF1 O n f_ref18_Text [.d tW c_] [] = G_ref18_Text O n c_ := by kernel_rfl

def q_law18_CommunityBack : Sh := ⟨[], ⟨[], []⟩, [.tm 0 tB]⟩
/-! ### 4: routing/routinglaw18.CommunityBack -/
def f_law18_CommunityBack : TF := ⟨(.seq (.region (
.op (some 2) (.mv (.k tB false)) <|
.nil)) (.seq (.region (
.op (some 6) (.mv (.tm 0)) <|
.op (some 7) (.call false N_community_Text [(.d tW, .tm 6)] q_community_Text) <|
.op (some 3) (.mv (.tm 7)) <|
.nil)) (.seq (.region (
.op (some 9) (.mv (.tm 3)) <|
.op (some 10) (.call false N_community_Parse [(.d tS, .tm 9)] q_community_Parse) <|
.op (some 8) (.mv (.tm 10)) <|
.op (some 11) (.ext (.tm 8) 0) <|
.op (some 12) (.ext (.tm 8) 1) <|
.op (some 4) (.mv (.tm 11)) <|
.op (some 5) (.mv (.tm 12)) <|
.nil)) (.seq (.region (
.op (some 13) (.mv (.tm 3)) <|
.op (some 14) (.mv (.tm 0)) <|
.op (some 15) (.call false N_ref18_Text [(.d tW, .tm 14)] q_ref18_Text) <|
.op (some 16) (.bin .eql (.tm 13) (.tm 15)) <|
.op (some 17) (.mv (.tm 16)) <|
.gb 17 true (
.op (some 18) (.mv (.tm 5)) <|
.op (some 19) (.bin .eql (.tm 18) (.k tI (0 : Int))) <|
.nil) tB (.tm 19) (.k tB false) 20 <|
.op (some 21) (.mv (.tm 20)) <|
.gb 21 true (
.op (some 22) (.mv (.tm 4)) <|
.op (some 23) (.mv (.tm 0)) <|
.op (some 24) (.bin .eql (.tm 22) (.tm 23)) <|
.nil) tB (.tm 24) (.k tB false) 25 <|
.op (some 26) (.mv (.tm 25)) <|
.gb 26 true (
.op (some 27) (.call false N_law18_awake [] q_law18_awake) <|
.nil) tB (.tm 27) (.k tB false) 28 <|
.op (some 2) (.mv (.tm 28)) <|
.nil)) .ret)))), [.tm 2], 29, q_law18_CommunityBack, 0⟩
def G_law18_CommunityBack (O : Oracle) (n : Nat) (c_ : Int) : Option (Option S) :=
 Option.bind (callR O N_community_Text [.d tW c_] [] q_community_Text) fun v =>
 Option.bind (callR O N_community_Parse [.d tS v.1] [] q_community_Parse) fun v1 =>
 Option.bind (callR O N_ref18_Text [.d tW c_] [] q_ref18_Text) fun v2 =>
 Option.bind (bif (v.1 == v2.1) then
 some ((v1.2.1 == (0 : Int)))
else some (false)) fun v3 =>
 Option.bind (bif v3 then
 some ((v1.1 == c_))
else some (false)) fun v4 =>
 Option.bind (bif v4 then
 Option.bind (callR O N_law18_awake [] [] q_law18_awake) fun v5 =>
 some (v5.1)
else some (false)) fun v6 =>
 retQ q_law18_CommunityBack (v6, ())
theorem x_law18_CommunityBack (O : Oracle) (n : Nat) (c_ : Int) : evF1 O n f_law18_CommunityBack [.d tW c_] [] = G_law18_CommunityBack O n c_ := by kernel_rfl

def q_ref18_Parse : Sh := ⟨[], ⟨[], []⟩, [.tm 0 tW, .tm 1 tI]⟩
/-! ### 15: routing/routingref18.Parse -/
def f_ref18_Parse : TF := ⟨(.seq (.region (
.op (some 2) (.mv (.k tW (0 : Int))) <|
.op (some 3) (.mv (.k tI (0 : Int))) <|
.nil)) (.seq (.seq (.region (
.op (some 10) (.bslice false 27 tW 4 [.k tW (4294901760 : Int), .k tW (4294967041 : Int), .k tW (4294967042 : Int), .k tW (4294967043 : Int)]) <|
.op (some 11) (.len false (.tm 10)) <|
.op (some 12) (.mv (.k tI (0 : Int))) <|
.nil)) (.block 0 (.loop ⟨[0, 10, 11], ⟨[], []⟩, [.tm 12 tI]⟩ [(1, ⟨[], ⟨[], []⟩, [.tm 2 tW, .tm 3 tI]⟩), (3, ⟨[0], ⟨[], []⟩, []⟩)] (.seq (.region (
.op (some 13) (.bin .lss (.tm 12) (.tm 11)) <|
.nil)) (.seq (.cond (.tm 13) .skip (.exit 0)) (.seq (.block 1 (.seq (.region (
.op (some 14) (.idxA tW (.tm 10) (.tm 12)) <|
.op (some 15) (.load tW (.tm 14)) <|
.op (some 5) (.mv (.tm 15)) <|
.nil)) (.seq (.region (
.op (some 16) (.mv (.tm 5)) <|
.op (some 17) (.call false N_ref18_Text [(.d tW, .tm 16)] q_ref18_Text) <|
.op (some 18) (.mv (.tm 0)) <|
.op (some 19) (.bin .eql (.tm 17) (.tm 18)) <|
.nil)) (.cond (.tm 19) (.seq (.region (
.op (some 20) (.mv (.tm 5)) <|
.op (some 2) (.mv (.tm 20)) <|
.op (some 3) (.mv (.k tI (0 : Int))) <|
.nil)) .ret) .skip)))) (.region (
.op (some 21) (.bin .add (.tm 12) (.k tI (1 : Int))) <|
.op (some 12) (.mv (.tm 21)) <|
.nil)))))))) (.seq (.region (
.op (some 22) (.build [.d tI (0 : Int), .d tI (0 : Int)] []) <|
.op (some 6) (.alloc 53 [.d tI (0 : Int), .d tI (0 : Int)]) <|
.op none (.store (pr [tI, tI]) (.tm 6) (.tm 22)) <|
.nil)) (.seq (.region (
.op (some 7) (.mv (.k tI (0 : Int))) <|
.nil)) (.seq (.seq (.region (
.op (some 8) (.mv (.k tI (0 : Int))) <|
.nil)) (.block 2 (.loop ⟨[0], ⟨[(6, .ptr 0 0)], [.box T_ar2_i64 [.any, .any]]⟩, [.tm 7 tI, .tm 8 tI, .cell 0 0 tI, .cell 0 1 tI]⟩ [(1, ⟨[], ⟨[], []⟩, [.tm 2 tW, .tm 3 tI]⟩), (5, ⟨[0], ⟨[(6, .ptr 0 0)], [.box T_ar2_i64 [.any, .any]]⟩, [.cell 0 0 tI, .cell 0 1 tI]⟩)] (.seq (.seq (.region (
.op (some 23) (.mv (.tm 8)) <|
.op (some 24) (.mv (.tm 0)) <|
.op (some 25) (.len true (.tm 24)) <|
.op (some 26) (.bin .lss (.tm 23) (.tm 25)) <|
.nil)) (.cond (.tm 26) .skip (.exit 2))) (.seq (.cut [(0, ⟨[0, 8], ⟨[(6, .ptr 0 0)], [.box T_ar2_i64 [.any, .any]]⟩, [.tm 7 tI, .cell 0 0 tI, .cell 0 1 tI]⟩), (1, ⟨[], ⟨[], []⟩, [.tm 2 tW, .tm 3 tI]⟩)] (.block 3 (.block 4 (.seq (.region (
.op (some 30) (.mv (.tm 0)) <|
.op (some 31) (.mv (.tm 8)) <|
.op (some 32) (.idxS (.tm 30) (.tm 31)) <|
.op (some 33) (.bin .geq (.tm 32) (.k tY (48 : Int))) <|
.op (some 34) (.mv (.tm 33)) <|
.gb 34 true (
.op (some 35) (.mv (.tm 0)) <|
.op (some 36) (.mv (.tm 8)) <|
.op (some 37) (.idxS (.tm 35) (.tm 36)) <|
.op (some 38) (.bin .leq (.tm 37) (.k tY (57 : Int))) <|
.nil) tB (.tm 38) (.k tB false) 39 <|
.op (some 40) (.mv (.tm 39)) <|
.gb 40 true (
.op (some 41) (.mv (.tm 7)) <|
.op (some 42) (.idxP 2 tI (.tm 6) (.tm 41)) <|
.op (some 43) (.load tI (.tm 42)) <|
.op (some 44) (.bin .leq (.tm 43) (.k tI (65535 : Int))) <|
.nil) tB (.tm 44) (.k tB false) 45 <|
.op (some 29) (.mv (.tm 45)) <|
.nil)) (.cond (.tm 29) (.draw 12 (
.op (some 46) (.mv (.tm 7)) <|
.op (some 47) (.mv (.tm 7)) <|
.op (some 48) (.idxP 2 tI (.tm 6) (.tm 47)) <|
.op (some 49) (.load tI (.tm 48)) <|
.op (some 50) (.bin .mul (.k tI (10 : Int)) (.tm 49)) <|
.op (some 51) (.mv (.tm 0)) <|
.op (some 52) (.mv (.tm 8)) <|
.op (some 53) (.idxS (.tm 51) (.tm 52)) <|
.op (some 54) (.bin .sub (.tm 53) (.k tY (48 : Int))) <|
.op (some 55) (.cvtI .i64 (.tm 54)) <|
.op (some 56) (.bin .add (.tm 50) (.tm 55)) <|
.op (some 57) (.idxP 2 tI (.tm 6) (.tm 46)) <|
.op none (.store tI (.tm 57) (.tm 56)) <|
.nil) [[], [], [1], [2], [3], [], [], [5, 6], [7], [8], [4, 9], [0, 0, 1, 2, 3, 4, 5, 6, 7, 8, 9, 10], [11, 10, 0, 1, 2, 3, 4, 5, 6, 7, 8, 9, 10]]) (.seq (.region (
.op (some 59) (.mv (.tm 0)) <|
.op (some 60) (.mv (.tm 8)) <|
.op (some 61) (.idxS (.tm 59) (.tm 60)) <|
.op (some 62) (.bin .eql (.tm 61) (.k tY (58 : Int))) <|
.op (some 63) (.mv (.tm 62)) <|
.gb 63 true (
.op (some 64) (.mv (.tm 7)) <|
.op (some 65) (.bin .eql (.tm 64) (.k tI (0 : Int))) <|
.nil) tB (.tm 65) (.k tB false) 66 <|
.op (some 58) (.mv (.tm 66)) <|
.nil)) (.cond (.tm 58) (.region (
.op (some 7) (.mv (.k tI (1 : Int))) <|
.nil)) (.seq (.region (
.op (some 2) (.mv (.k tW (0 : Int))) <|
.op (some 3) (.mv (.k tI (2 : Int))) <|
.nil)) (.adj [.sel [] [2, 3]] .ret))))))))) (.region (
.op (some 27) (.mv (.tm 8)) <|
.op (some 28) (.bin .add (.tm 27) (.k tI (1 : Int))) <|
.op (some 8) (.mv (.tm 28)) <|
.nil))))))) (.seq (.seq (.region (
.op (some 67) (.idxP 2 tI (.tm 6) (.k tI (0 : Int))) <|
.op (some 68) (.load tI (.tm 67)) <|
.op (some 69) (.bin .gtr (.tm 68) (.k tI (65535 : Int))) <|
.op (some 70) (.mv (.tm 69)) <|
.gb 70 false (
.op (some 71) (.idxP 2 tI (.tm 6) (.k tI (1 : Int))) <|
.op (some 72) (.load tI (.tm 71)) <|
.op (some 73) (.bin .gtr (.tm 72) (.k tI (65535 : Int))) <|
.nil) tB (.tm 73) (.k tB true) 74 <|
.nil)) (.cond (.tm 74) (.seq (.region (
.op (some 2) (.mv (.k tW (0 : Int))) <|
.op (some 3) (.mv (.k tI (2 : Int))) <|
.nil)) .ret) .skip)) (.seq (.region (
.op (some 75) (.idxP 2 tI (.tm 6) (.k tI (0 : Int))) <|
.op (some 76) (.load tI (.tm 75)) <|
.op (some 77) (.cvtI .u32 (.tm 76)) <|
.op (some 78) (.bin .shl (.tm 77) (.k tQ (16 : Int))) <|
.op (some 79) (.idxP 2 tI (.tm 6) (.k tI (1 : Int))) <|
.op (some 80) (.load tI (.tm 79)) <|
.op (some 81) (.cvtI .u32 (.tm 80)) <|
.op (some 82) (.bin .add (.tm 78) (.tm 81)) <|
.op (some 9) (.mv (.tm 82)) <|
.nil)) (.seq (.seq (.region (
.op (some 83) (.mv (.tm 9)) <|
.op (some 84) (.call false N_ref18_Text [(.d tW, .tm 83)] q_ref18_Text) <|
.op (some 85) (.mv (.tm 0)) <|
.op (some 86) (.bin .neq (.tm 84) (.tm 85)) <|
.nil)) (.cond (.tm 86) (.seq (.region (
.op (some 2) (.mv (.k tW (0 : Int))) <|
.op (some 3) (.mv (.k tI (2 : Int))) <|
.nil)) .ret) .skip)) (.seq (.region (
.op (some 87) (.mv (.tm 9)) <|
.op (some 2) (.mv (.tm 87)) <|
.op (some 3) (.mv (.k tI (0 : Int))) <|
.nil)) .ret))))))))), [.tm 2, .tm 3], 88, q_ref18_Parse, 0⟩
def L_ref18_Parse_0 (O : Oracle) (n : Nat) (s_ : (List UInt8)) (s : (Int × Unit)) : Option ((Int × Unit) ⊕ (Int × Int × Unit) ⊕ Unit) :=
 let v1 := decide (s.1 < ((([(4294901760 : Int), (4294967041 : Int), (4294967042 : Int), (4294967043 : Int)] : List Int)).length : Int))
 bif v1 then
 Option.bind (getI (([(4294901760 : Int), (4294967041 : Int), (4294967042 : Int), (4294967043 : Int)] : List Int)) s.1) fun v2 =>
 Option.bind (callR O N_ref18_Text [.d tW v2] [] q_ref18_Text) fun v3 =>
 bif (v3.1 == s_) then
 some (.inr (.inl ((v2, (0 : Int), ()))))
else
 some (.inl (IntKind.wrap .i64 (s.1 + (1 : Int)), ()))
else
 some (.inr (.inr (())))
def L_ref18_Parse_1 (O : Oracle) (n : Nat) (s_ : (List UInt8)) (v7 : (Int × Int × Int × Int × Unit)) : Option ((Int × Int × Int × Int × Unit) ⊕ (Int × Int × Unit) ⊕ (Int × Int × Unit)) :=
 bif decide (v7.2.1 < (s_.length : Int)) then
 Option.bind (
 Option.bind (getI s_ v7.2.1) fun v8 =>
 Option.bind (bif decide ((v8.toNat : Int) ≥ (48 : Int)) then
 Option.bind (getI s_ v7.2.1) fun v9 =>
 some (decide ((v9.toNat : Int) ≤ (57 : Int)))
else some (false)) fun v10 =>
 Option.bind (bif v10 then
 guardB (decide (0 ≤ v7.1) && decide (v7.1 < 2)) (
 Option.bind (Ev.rowAt tI 2 (.agg [.d tI v7.2.2.1, .d tI v7.2.2.2.1]) v7.1) fun v11 =>
 some (decide (v11 ≤ (65535 : Int))))
else some (false)) fun v12 =>
 bif v12 then
 guardB (decide (0 ≤ v7.1) && decide (v7.1 < 2)) (
 Option.bind (Ev.rowAt tI 2 (.agg [.d tI v7.2.2.1, .d tI v7.2.2.2.1]) v7.1) fun v13 =>
 Option.bind (getI s_ v7.2.1) fun v14 =>
 let v15 := IntKind.wrap .i64 ((IntKind.wrap .i64 ((10 : Int) * v13)) + (IntKind.wrap .i64 (IntKind.wrap .u8 ((v14.toNat : Int) - (48 : Int)))))
 guardB (decide (0 ≤ v7.1) && decide (v7.1 < 2)) (
 guardB (decide (0 ≤ v7.1) && decide (v7.1 < 2)) (
 some (.inl ((v7.1, (bif decide (v7.1 = 0) then v15 else v7.2.2.1), (bif decide (v7.1 - 1 = 0) then v15 else v7.2.2.2.1), ()))))))
else
 Option.bind (getI s_ v7.2.1) fun v16 =>
 Option.bind (bif ((v16.toNat : Int) == (58 : Int)) then
 some ((v7.1 == (0 : Int)))
else some (false)) fun v17 =>
 bif v17 then
 some (.inl (((1 : Int), v7.2.2.1, v7.2.2.2.1, ())))
else
 some (.inr (((0 : Int), (2 : Int), ())))) fun (v18 : (Int × Int × Int × Unit) ⊕ (Int × Int × Unit)) =>
 Sum.elim (fun v19 =>
 some (.inl (v19.1, IntKind.wrap .i64 (v7.2.1 + (1 : Int)), v19.2.1, v19.2.2.1, ()))) (fun v20 =>
 some (.inr (.inl ((v20.1, v20.2.1, ()))))) v18
else
 some (.inr (.inr ((v7.2.2.1, v7.2.2.2.1, ()))))
def G_ref18_Parse (O : Oracle) (n : Nat) (s_ : (List UInt8)) : Option (Option S) :=
 Option.bind (loopN n (L_ref18_Parse_0 O n s_) ((0 : Int), ())) fun (v4 : (Int × Int × Unit) ⊕ Unit) =>
 Sum.elim (fun v5 =>
 retQ q_ref18_Parse (v5.1, v5.2.1, ())) (fun v6 =>
 Option.bind (loopN n (L_ref18_Parse_1 O n s_) ((0 : Int), (0 : Int), (0 : Int), (0 : Int), ())) fun (v21 : (Int × Int × Unit) ⊕ (Int × Int × Unit)) =>
 Sum.elim (fun v22 =>
 retQ q_ref18_Parse (v22.1, v22.2.1, ())) (fun v23 =>
 guardB (decide (0 ≤ (0 : Int)) && decide ((0 : Int) < 2)) (
 Option.bind (bif decide (v23.1 > (65535 : Int)) then some (true) else
 guardB (decide (0 ≤ (1 : Int)) && decide ((1 : Int) < 2)) (
 some (decide (v23.2.1 > (65535 : Int))))) fun v24 =>
 bif v24 then
 retQ q_ref18_Parse ((0 : Int), (2 : Int), ())
else
 guardB (decide (0 ≤ (0 : Int)) && decide ((0 : Int) < 2)) (
 guardB (decide (0 ≤ (16 : Int))) (
 let v25 := IntKind.wrap .u32 ((IntKind.wrap .u32 v23.1) * 2 ^ (min (Int.toNat (16 : Int)) (IntKind.bits .u32)))
 guardB (decide (0 ≤ (1 : Int)) && decide ((1 : Int) < 2)) (
 Option.bind (callR O N_ref18_Text [.d tW (IntKind.wrap .u32 (v25 + (IntKind.wrap .u32 v23.2.1)))] [] q_ref18_Text) fun v26 =>
 bif (!(v26.1 == s_)) then
 retQ q_ref18_Parse ((0 : Int), (2 : Int), ())
else
 retQ q_ref18_Parse (IntKind.wrap .u32 (v25 + (IntKind.wrap .u32 v23.2.1)), (0 : Int), ())))))) v21) v4
theorem x_ref18_Parse (O : Oracle) (n : Nat) (s_ : (List UInt8)) : evF1 O n f_ref18_Parse [.d tS s_] [] = G_ref18_Parse O n s_ := by kernel_rfl

def q_law18_CommunityParse : Sh := ⟨[], ⟨[], []⟩, [.tm 0 tB]⟩
/-! ### 5: routing/routinglaw18.CommunityParse -/
def f_law18_CommunityParse : TF := ⟨(.seq (.region (
.op (some 2) (.mv (.k tB false)) <|
.nil)) (.seq (.seq (.region (
.op (some 7) (.mv (.tm 0)) <|
.op (some 8) (.len true (.tm 7)) <|
.op (some 9) (.bin .gtr (.tm 8) (.k tI (1000 : Int))) <|
.nil)) (.cond (.tm 9) (.seq (.region (
.op (some 10) (.call false N_law18_awake [] q_law18_awake) <|
.op (some 2) (.mv (.tm 10)) <|
.nil)) .ret) .skip)) (.seq (.region (
.op (some 12) (.mv (.tm 0)) <|
.op (some 13) (.call false N_community_Parse [(.d tS, .tm 12)] q_community_Parse) <|
.op (some 11) (.mv (.tm 13)) <|
.op (some 14) (.ext (.tm 11) 0) <|
.op (some 15) (.ext (.tm 11) 1) <|
.op (some 3) (.mv (.tm 14)) <|
.op (some 4) (.mv (.tm 15)) <|
.nil)) (.seq (.region (
.op (some 17) (.mv (.tm 0)) <|
.op (some 18) (.call false N_ref18_Parse [(.d tS, .tm 17)] q_ref18_Parse) <|
.op (some 16) (.mv (.tm 18)) <|
.op (some 19) (.ext (.tm 16) 0) <|
.op (some 20) (.ext (.tm 16) 1) <|
.op (some 5) (.mv (.tm 19)) <|
.op (some 6) (.mv (.tm 20)) <|
.nil)) (.seq (.region (
.op (some 21) (.mv (.tm 3)) <|
.op (some 22) (.mv (.tm 5)) <|
.op (some 23) (.bin .eql (.tm 21) (.tm 22)) <|
.op (some 24) (.mv (.tm 23)) <|
.gb 24 true (
.op (some 25) (.mv (.tm 4)) <|
.op (some 26) (.mv (.tm 6)) <|
.op (some 27) (.bin .eql (.tm 25) (.tm 26)) <|
.nil) tB (.tm 27) (.k tB false) 28 <|
.op (some 29) (.mv (.tm 28)) <|
.gb 29 true (
.op (some 30) (.mv (.tm 4)) <|
.op (some 31) (.bin .neq (.tm 30) (.k tI (0 : Int))) <|
.op (some 32) (.mv (.tm 31)) <|
.gb 32 false (
.op (some 33) (.mv (.tm 3)) <|
.op (some 34) (.call false N_community_Text [(.d tW, .tm 33)] q_community_Text) <|
.op (some 35) (.mv (.tm 0)) <|
.op (some 36) (.bin .eql (.tm 34) (.tm 35)) <|
.nil) tB (.tm 36) (.k tB true) 37 <|
.nil) tB (.tm 37) (.k tB false) 38 <|
.op (some 39) (.mv (.tm 38)) <|
.gb 39 true (
.op (some 40) (.call false N_law18_awake [] q_law18_awake) <|
.nil) tB (.tm 40) (.k tB false) 41 <|
.op (some 2) (.mv (.tm 41)) <|
.nil)) .ret))))), [.tm 2], 42, q_law18_CommunityParse, 0⟩
def G_law18_CommunityParse (O : Oracle) (n : Nat) (s_ : (List UInt8)) : Option (Option S) :=
 bif decide ((s_.length : Int) > (1000 : Int)) then
 Option.bind (callR O N_law18_awake [] [] q_law18_awake) fun v =>
 retQ q_law18_CommunityParse (v.1, ())
else
 Option.bind (callR O N_community_Parse [.d tS s_] [] q_community_Parse) fun v1 =>
 Option.bind (callR O N_ref18_Parse [.d tS s_] [] q_ref18_Parse) fun v2 =>
 Option.bind (bif (v1.1 == v2.1) then
 some ((v1.2.1 == v2.2.1))
else some (false)) fun v3 =>
 Option.bind (bif v3 then
 Option.bind (bif (v1.2.1 != (0 : Int)) then some (true) else
 Option.bind (callR O N_community_Text [.d tW v1.1] [] q_community_Text) fun v4 =>
 some ((v4.1 == s_))) fun v5 =>
 some (v5)
else some (false)) fun v6 =>
 Option.bind (bif v6 then
 Option.bind (callR O N_law18_awake [] [] q_law18_awake) fun v7 =>
 some (v7.1)
else some (false)) fun v8 =>
 retQ q_law18_CommunityParse (v8, ())
theorem x_law18_CommunityParse (O : Oracle) (n : Nat) (s_ : (List UInt8)) : evF1 O n f_law18_CommunityParse [.d tS s_] [] = G_law18_CommunityParse O n s_ := by kernel_rfl

def q_ref18_Has : Sh := ⟨[], ⟨[], []⟩, [.tm 0 tB]⟩
/-! ### 17: routing/routingref18.Has -/
def f_ref18_Has : TF := ⟨(.seq (.region (
.op (some 4) (.mv (.k tB false)) <|
.nil)) (.seq (.seq (.region (
.op (some 7) (.mv (.tm 0)) <|
.op (some 8) (.len false (.tm 7)) <|
.op (some 9) (.mv (.k tI (0 : Int))) <|
.nil)) (.block 0 (.loop ⟨[1, 7, 8], ⟨[], []⟩, [.tm 9 tI]⟩ [(1, ⟨[], ⟨[], []⟩, [.tm 4 tB]⟩), (3, ⟨[], ⟨[], []⟩, []⟩)] (.seq (.region (
.op (some 10) (.bin .lss (.tm 9) (.tm 8)) <|
.nil)) (.seq (.cond (.tm 10) .skip (.exit 0)) (.seq (.block 1 (.seq (.region (
.op (some 11) (.idxA tW (.tm 7) (.tm 9)) <|
.op (some 12) (.load tW (.tm 11)) <|
.op (some 6) (.mv (.tm 12)) <|
.nil)) (.seq (.region (
.op (some 13) (.mv (.tm 6)) <|
.op (some 14) (.mv (.tm 1)) <|
.op (some 15) (.bin .eql (.tm 13) (.tm 14)) <|
.nil)) (.cond (.tm 15) (.seq (.region (
.op (some 4) (.mv (.k tB true)) <|
.nil)) .ret) .skip)))) (.region (
.op (some 16) (.bin .add (.tm 9) (.k tI (1 : Int))) <|
.op (some 9) (.mv (.tm 16)) <|
.nil)))))))) (.seq (.region (
.op (some 4) (.mv (.k tB false)) <|
.nil)) .ret))), [.tm 4], 17, q_ref18_Has, 0⟩
def L_ref18_Has_0 (O : Oracle) (n : Nat) (l : (List Int)) (c_ : Int) (s : (Int × Unit)) : Option ((Int × Unit) ⊕ (Bool × Unit) ⊕ Unit) :=
 bif decide (s.1 < (l.length : Int)) then
 Option.bind (getI l s.1) fun v1 =>
 bif (v1 == c_) then
 some (.inr (.inl ((true, ()))))
else
 some (.inl (IntKind.wrap .i64 (s.1 + (1 : Int)), ()))
else
 some (.inr (.inr (())))
def G_ref18_Has (O : Oracle) (n : Nat) (l : (List Int)) (c_ : Int) : Option (Option S) :=
 Option.bind (loopN n (L_ref18_Has_0 O n l c_) ((0 : Int), ())) fun (v2 : (Bool × Unit) ⊕ Unit) =>
 Sum.elim (fun v3 =>
 retQ q_ref18_Has (v3.1, ())) (fun v4 =>
 retQ q_ref18_Has (false, ())) v2
theorem x_ref18_Has (O : Oracle) (n : Nat) (l : (List Int)) (c_ : Int) : evF1 O n f_ref18_Has [.d (.list tW) l, .d tW c_] [] = G_ref18_Has O n l c_ := by kernel_rfl

def q_ref18_ascending_d_o1 : Sh := ⟨[], ⟨[(0, .sl 0)], [.vec T_u32 tW []]⟩, [.vec 0 27 tW]⟩
/-! ### 36: routing/routingref18.ascending -/
def f_ref18_ascending_d_o1 : TF := ⟨(.seq (.region (
.op (some 2) (.mv (.nil tW)) <|
.nil)) (.seq (.region (
.op (some 3) (.mv (.nil tW)) <|
.nil)) (.block 0 (.adj [.adopt 3 27 tW] (.loop ⟨[0], ⟨[(3, .sl 0)], [.vec T_u32 tW []]⟩, [.vec 0 27 tW]⟩ [(1, ⟨[], ⟨[(2, .sl 0)], [.vec T_u32 tW []]⟩, [.vec 0 27 tW]⟩)] (.block 1 (.seq (.region (
.op (some 4) (.mv (.k tB false)) <|
.nil)) (.seq (.region (
.op (some 5) (.mv (.k tW (0 : Int))) <|
.nil)) (.seq (.seq (.region (
.op (some 8) (.mv (.tm 0)) <|
.op (some 9) (.len false (.tm 8)) <|
.op (some 10) (.mv (.k tI (0 : Int))) <|
.nil)) (.block 2 (.loop ⟨[0, 8, 9], ⟨[(3, .sl 0)], [.vec T_u32 tW []]⟩, [.tm 4 tB, .tm 5 tW, .tm 10 tI, .vec 0 27 tW]⟩ [(5, ⟨[0], ⟨[(3, .sl 0)], [.vec T_u32 tW []]⟩, [.tm 4 tB, .tm 5 tW, .vec 0 27 tW]⟩)] (.seq (.region (
.op (some 11) (.bin .lss (.tm 10) (.tm 9)) <|
.nil)) (.seq (.cond (.tm 11) .skip (.exit 2)) (.seq (.cut [(0, ⟨[0, 8, 9, 10], ⟨[(3, .sl 0)], [.vec T_u32 tW []]⟩, [.tm 4 tB, .tm 5 tW, .vec 0 27 tW]⟩)] (.block 3 (.seq (.region (
.op (some 12) (.idxA tW (.tm 8) (.tm 10)) <|
.op (some 13) (.load tW (.tm 12)) <|
.op (some 7) (.mv (.tm 13)) <|
.nil)) (.seq (.region (
.op (some 14) (.mv (.tm 3)) <|
.op (some 15) (.len false (.tm 14)) <|
.op (some 16) (.bin .eql (.tm 15) (.k tI (0 : Int))) <|
.op (some 17) (.mv (.tm 16)) <|
.gb 17 false (
.op (some 18) (.mv (.tm 7)) <|
.op (some 19) (.mv (.tm 3)) <|
.op (some 20) (.mv (.tm 3)) <|
.op (some 21) (.len false (.tm 20)) <|
.op (some 22) (.bin .sub (.tm 21) (.k tI (1 : Int))) <|
.op (some 23) (.idxA tW (.tm 19) (.tm 22)) <|
.op (some 24) (.load tW (.tm 23)) <|
.op (some 25) (.bin .gtr (.tm 18) (.tm 24)) <|
.nil) tB (.tm 25) (.k tB true) 26 <|
.op (some 27) (.mv (.tm 26)) <|
.gb 27 true (
.op (some 28) (.mv (.tm 4)) <|
.op (some 29) (.un .not (.tm 28)) <|
.op (some 30) (.mv (.tm 29)) <|
.gb 30 false (
.op (some 31) (.mv (.tm 7)) <|
.op (some 32) (.mv (.tm 5)) <|
.op (some 33) (.bin .lss (.tm 31) (.tm 32)) <|
.nil) tB (.tm 33) (.k tB true) 34 <|
.nil) tB (.tm 34) (.k tB false) 35 <|
.nil)) (.cond (.tm 35) (.seq (.region (
.op (some 4) (.mv (.k tB true)) <|
.nil)) (.region (
.op (some 36) (.mv (.tm 7)) <|
.op (some 5) (.mv (.tm 36)) <|
.nil))) .skip))))) (.region (
.op (some 37) (.bin .add (.tm 10) (.k tI (1 : Int))) <|
.op (some 10) (.mv (.tm 37)) <|
.nil)))))))) (.seq (.seq (.region (
.op (some 38) (.mv (.tm 4)) <|
.op (some 39) (.un .not (.tm 38)) <|
.nil)) (.cond (.tm 39) (.seq (.region (
.op (some 40) (.mv (.tm 3)) <|
.op (some 2) (.mv (.tm 40)) <|
.nil)) .ret) .skip)) (.region (
.op (some 41) (.mv (.tm 3)) <|
.op (some 42) (.mv (.tm 5)) <|
.op (some 43) (.bslice false 27 tW 1 [.tm 42]) <|
.op (some 44) (.append 27 tW 4 (.tm 41) (.tm 43)) <|
.op (some 3) (.mv (.tm 44)) <|
.nil)))))))))))), [.tm 2], 45, q_ref18_ascending_d_o1, 0⟩
def L_ref18_ascending_d_o1_0 (O : Oracle) (n : Nat) (l : (List Int)) (v1 : (Bool × Int × Int × (List Int) × Unit)) : Option ((Bool × Int × Int × (List Int) × Unit) ⊕ (Bool × Int × (List Int) × Unit)) :=
 bif decide (v1.2.2.1 < (l.length : Int)) then
 Option.bind (
 Option.bind (getI l v1.2.2.1) fun v2 =>
 Option.bind (bif ((v1.2.2.2.1.length : Int) == (0 : Int)) then some (true) else
 Option.bind (getI v1.2.2.2.1 (IntKind.wrap .i64 ((v1.2.2.2.1.length : Int) - (1 : Int)))) fun _ =>
 Option.bind v1.2.2.2.1[Int.toNat (IntKind.wrap .i64 ((v1.2.2.2.1.length : Int) - (1 : Int)))]? fun v3 =>
 some (decide (v2 > v3))) fun v4 =>
 Option.bind (bif v4 then
 Option.bind (bif (!v1.1) then some (true) else
 some (decide (v2 < v1.2.1))) fun v5 =>
 some (v5)
else some (false)) fun v6 =>
 bif v6 then
 some ((true, v2, v1.2.2.2.1, ()))
else
 some ((v1.1, v1.2.1, v1.2.2.2.1, ()))) fun (v7 : (Bool × Int × (List Int) × Unit)) =>
 some (.inl (v7.1, v7.2.1, IntKind.wrap .i64 (v1.2.2.1 + (1 : Int)), v7.2.2.1, ()))
else
 some (.inr ((v1.1, v1.2.1, v1.2.2.2.1, ())))
def L_ref18_ascending_d_o1_1 (O : Oracle) (n : Nat) (l : (List Int)) (s : ((List Int) × Unit)) : Option (((List Int) × Unit) ⊕ ((List Int) × Unit)) :=
 Option.bind (loopN n (L_ref18_ascending_d_o1_0 O n l) (false, (0 : Int), (0 : Int), s.1, ())) fun (v8 : (Bool × Int × (List Int) × Unit)) =>
 bif (!v8.1) then
 some (.inr ((v8.2.2.1, ())))
else
 guardB (decide ((v8.2.2.1.length + ([v8.2.1] : List Int).length) * 4 ≤ 140737488355328)) (
 some (.inl (v8.2.2.1 ++ ([v8.2.1] : List Int), ())))
def G_ref18_ascending_d_o1 (O : Oracle) (n : Nat) (l : (List Int)) : Option (Option S) :=
 Option.bind (loopN n (L_ref18_ascending_d_o1_1 O n l) (([] : List Int), ())) fun (v9 : ((List Int) × Unit)) =>
 retQ q_ref18_ascending_d_o1 (v9.1, ())
theorem x_ref18_ascending_d_o1 (O : Oracle) (n : Nat) (l : (List Int)) : evF1 O n f_ref18_ascending_d_o1 [.d (.list tW) l] [] = G_ref18_ascending_d_o1 O n l := by kernel_rfl

def q_ref18_ascending : Sh := ⟨[], ⟨[], []⟩, [.tm 0 (.list tW)]⟩
/-! ### 10036: routing/routingref18.ascending -/
def f_ref18_ascending : TF := ⟨(.seq (.region (
.op (some 2) (.mv (.nil tW)) <|
.nil)) (.seq (.region (
.op (some 3) (.mv (.nil tW)) <|
.nil)) (.block 0 (.adj [.adopt 3 27 tW] (.loop ⟨[0], ⟨[(3, .sl 0)], [.vec T_u32 tW []]⟩, [.vec 0 27 tW]⟩ [(1, ⟨[], ⟨[], []⟩, [.tm 2 (.list tW)]⟩)] (.block 1 (.seq (.region (
.op (some 4) (.mv (.k tB false)) <|
.nil)) (.seq (.region (
.op (some 5) (.mv (.k tW (0 : Int))) <|
.nil)) (.seq (.seq (.region (
.op (some 8) (.mv (.tm 0)) <|
.op (some 9) (.len false (.tm 8)) <|
.op (some 10) (.mv (.k tI (0 : Int))) <|
.nil)) (.block 2 (.loop ⟨[0, 8, 9], ⟨[(3, .sl 0)], [.vec T_u32 tW []]⟩, [.tm 4 tB, .tm 5 tW, .tm 10 tI, .vec 0 27 tW]⟩ [(5, ⟨[0], ⟨[(3, .sl 0)], [.vec T_u32 tW []]⟩, [.tm 4 tB, .tm 5 tW, .vec 0 27 tW]⟩)] (.seq (.region (
.op (some 11) (.bin .lss (.tm 10) (.tm 9)) <|
.nil)) (.seq (.cond (.tm 11) .skip (.exit 2)) (.seq (.cut [(0, ⟨[0, 8, 9, 10], ⟨[(3, .sl 0)], [.vec T_u32 tW []]⟩, [.tm 4 tB, .tm 5 tW, .vec 0 27 tW]⟩)] (.block 3 (.seq (.region (
.op (some 12) (.idxA tW (.tm 8) (.tm 10)) <|
.op (some 13) (.load tW (.tm 12)) <|
.op (some 7) (.mv (.tm 13)) <|
.nil)) (.seq (.region (
.op (some 14) (.mv (.tm 3)) <|
.op (some 15) (.len false (.tm 14)) <|
.op (some 16) (.bin .eql (.tm 15) (.k tI (0 : Int))) <|
.op (some 17) (.mv (.tm 16)) <|
.gb 17 false (
.op (some 18) (.mv (.tm 7)) <|
.op (some 19) (.mv (.tm 3)) <|
.op (some 20) (.mv (.tm 3)) <|
.op (some 21) (.len false (.tm 20)) <|
.op (some 22) (.bin .sub (.tm 21) (.k tI (1 : Int))) <|
.op (some 23) (.idxA tW (.tm 19) (.tm 22)) <|
.op (some 24) (.load tW (.tm 23)) <|
.op (some 25) (.bin .gtr (.tm 18) (.tm 24)) <|
.nil) tB (.tm 25) (.k tB true) 26 <|
.op (some 27) (.mv (.tm 26)) <|
.gb 27 true (
.op (some 28) (.mv (.tm 4)) <|
.op (some 29) (.un .not (.tm 28)) <|
.op (some 30) (.mv (.tm 29)) <|
.gb 30 false (
.op (some 31) (.mv (.tm 7)) <|
.op (some 32) (.mv (.tm 5)) <|
.op (some 33) (.bin .lss (.tm 31) (.tm 32)) <|
.nil) tB (.tm 33) (.k tB true) 34 <|
.nil) tB (.tm 34) (.k tB false) 35 <|
.nil)) (.cond (.tm 35) (.seq (.region (
.op (some 4) (.mv (.k tB true)) <|
.nil)) (.region (
.op (some 36) (.mv (.tm 7)) <|
.op (some 5) (.mv (.tm 36)) <|
.nil))) .skip))))) (.region (
.op (some 37) (.bin .add (.tm 10) (.k tI (1 : Int))) <|
.op (some 10) (.mv (.tm 37)) <|
.nil)))))))) (.seq (.seq (.region (
.op (some 38) (.mv (.tm 4)) <|
.op (some 39) (.un .not (.tm 38)) <|
.nil)) (.cond (.tm 39) (.seq (.region (
.op (some 40) (.mv (.tm 3)) <|
.op (some 2) (.mv (.tm 40)) <|
.nil)) (.adj [.freeze 0, .sel [] [2]] .ret)) .skip)) (.region (
.op (some 41) (.mv (.tm 3)) <|
.op (some 42) (.mv (.tm 5)) <|
.op (some 43) (.bslice false 27 tW 1 [.tm 42]) <|
.op (some 44) (.append 27 tW 4 (.tm 41) (.tm 43)) <|
.op (some 3) (.mv (.tm 44)) <|
.nil)))))))))))), [.tm 2], 45, q_ref18_ascending, 0⟩
def L_ref18_ascending_0 (O : Oracle) (n : Nat) (l : (List Int)) (v1 : (Bool × Int × Int × (List Int) × Unit)) : Option ((Bool × Int × Int × (List Int) × Unit) ⊕ (Bool × Int × (List Int) × Unit)) :=
 bif decide (v1.2.2.1 < (l.length : Int)) then
 Option.bind (
 Option.bind (getI l v1.2.2.1) fun v2 =>
 Option.bind (bif ((v1.2.2.2.1.length : Int) == (0 : Int)) then some (true) else
 Option.bind (getI v1.2.2.2.1 (IntKind.wrap .i64 ((v1.2.2.2.1.length : Int) - (1 : Int)))) fun _ =>
 Option.bind v1.2.2.2.1[Int.toNat (IntKind.wrap .i64 ((v1.2.2.2.1.length : Int) - (1 : Int)))]? fun v3 =>
 some (decide (v2 > v3))) fun v4 =>
 Option.bind (bif v4 then
 Option.bind (bif (!v1.1) then some (true) else
 some (decide (v2 < v1.2.1))) fun v5 =>
 some (v5)
else some (false)) fun v6 =>
 bif v6 then
 some ((true, v2, v1.2.2.2.1, ()))
else
 some ((v1.1, v1.2.1, v1.2.2.2.1, ()))) fun (v7 : (Bool × Int × (List Int) × Unit)) =>
 some (.inl (v7.1, v7.2.1, IntKind.wrap .i64 (v1.2.2.1 + (1 : Int)), v7.2.2.1, ()))
else
 some (.inr ((v1.1, v1.2.1, v1.2.2.2.1, ())))
def L_ref18_ascending_1 (O : Oracle) (n : Nat) (l : (List Int)) (s : ((List Int) × Unit)) : Option (((List Int) × Unit) ⊕ ((List Int) × Unit)) :=
 Option.bind (loopN n (L_ref18_ascending_0 O n l) (false, (0 : Int), (0 : Int), s.1, ())) fun (v8 : (Bool × Int × (List Int) × Unit)) =>
 bif (!v8.1) then
 some (.inr ((v8.2.2.1, ())))
else
 guardB (decide ((v8.2.2.1.length + ([v8.2.1] : List Int).length) * 4 ≤ 140737488355328)) (
 some (.inl (v8.2.2.1 ++ ([v8.2.1] : List Int), ())))
def G_ref18_ascending (O : Oracle) (n : Nat) (l : (List Int)) : Option (Option S) :=
 Option.bind (loopN n (L_ref18_ascending_1 O n l) (([] : List Int), ())) fun (v9 : ((List Int) × Unit)) =>
 retQ q_ref18_ascending (v9.1, ())
theorem x_ref18_ascending (O : Oracle) (n : Nat) (l : (List Int)) : evF1 O n f_ref18_ascending [.d (.list tW) l] [] = G_ref18_ascending O n l := by kernel_rfl

def q_ref18_Add : Sh := ⟨[], ⟨[], []⟩, [.tm 0 (.list tW)]⟩
/-! ### 20: routing/routingref18.Add -/
def f_ref18_Add : TF := ⟨(.seq (.region (
.op (some 4) (.mv (.nil tW)) <|
.nil)) (.seq (.region (
.op (some 6) (.mv (.tm 0)) <|
.op (some 7) (.callA false false [] N_ref18_ascending_d_o1 [(.d (.list tW), .tm 6)] q_ref18_ascending_d_o1) <|
.op (some 5) (.mv (.tm 7)) <|
.nil)) (.seq (.seq (.region (
.op (some 8) (.mv (.tm 5)) <|
.op (some 9) (.len false (.tm 8)) <|
.op (some 10) (.bin .geq (.tm 9) (.k tI (255 : Int))) <|
.op (some 11) (.mv (.tm 10)) <|
.gb 11 true (
.op (some 12) (.mv (.tm 5)) <|
.op (some 13) (.mv (.tm 1)) <|
.op (some 14) (.call true N_ref18_Has [(.d (.list tW), .tm 12), (.d tW, .tm 13)] q_ref18_Has) <|
.op (some 15) (.un .not (.tm 14)) <|
.nil) tB (.tm 15) (.k tB false) 16 <|
.nil)) (.cond (.tm 16) (.seq (.region (
.op (some 17) (.mv (.tm 5)) <|
.op (some 4) (.mv (.tm 17)) <|
.nil)) (.adj [.freeze 0] .ret)) .skip)) (.seq (.region (
.op (some 18) (.mv (.tm 5)) <|
.op (some 19) (.mv (.tm 1)) <|
.op (some 20) (.bslice false 27 tW 1 [.tm 19]) <|
.op (some 21) (.append 27 tW 4 (.tm 18) (.tm 20)) <|
.op (some 5) (.mv (.tm 21)) <|
.nil)) (.seq (.region (
.op (some 22) (.mv (.tm 5)) <|
.adj [.freeze 0] <|
.op (some 23) (.call false N_ref18_ascending [(.d (.list tW), .tm 22)] q_ref18_ascending) <|
.op (some 4) (.mv (.tm 23)) <|
.nil)) .ret))))), [.tm 4], 24, q_ref18_Add, 0⟩
def G_ref18_Add (O : Oracle) (n : Nat) (l : (List Int)) (c_ : Int) : Option (Option S) :=
 Option.bind (callR O N_ref18_ascending_d_o1 [.d (.list tW) l] [] q_ref18_ascending_d_o1) fun v =>
 Option.bind (bif decide ((v.1.length : Int) ≥ (255 : Int)) then
 Option.bind (callR O N_ref18_Has [.d (.list tW) v.1, .d tW c_] [] q_ref18_Has) fun v1 =>
 some ((!v1.1))
else some (false)) fun v2 =>
 bif v2 then
 retQ q_ref18_Add (v.1, ())
else
 guardB (decide ((v.1.length + ([c_] : List Int).length) * 4 ≤ 140737488355328)) (
 Option.bind (callR O N_ref18_ascending [.d (.list tW) (v.1 ++ ([c_] : List Int))] [] q_ref18_ascending) fun v3 =>
 retQ q_ref18_Add (v3.1, ()))
theorem x_ref18_Add (O : Oracle) (n : Nat) (l : (List Int)) (c_ : Int) : evF1 O n f_ref18_Add [.d (.list tW) l, .d tW c_] [] = G_ref18_Add O n l c_ := by kernel_rfl

def q_ref18_Same : Sh := ⟨[], ⟨[], []⟩, [.tm 0 tB]⟩
/-! ### 18: routing/routingref18.Same -/
def f_ref18_Same : TF := ⟨(.seq (.region (
.op (some 4) (.mv (.k tB false)) <|
.nil)) (.seq (.seq (.region (
.op (some 6) (.mv (.tm 0)) <|
.op (some 7) (.len false (.tm 6)) <|
.op (some 8) (.mv (.tm 1)) <|
.op (some 9) (.len false (.tm 8)) <|
.op (some 10) (.bin .neq (.tm 7) (.tm 9)) <|
.nil)) (.cond (.tm 10) (.seq (.region (
.op (some 4) (.mv (.k tB false)) <|
.nil)) .ret) .skip)) (.seq (.seq (.region (
.op (some 11) (.mv (.tm 0)) <|
.op (some 12) (.len false (.tm 11)) <|
.op (some 13) (.mv (.k tI (0 : Int))) <|
.nil)) (.block 0 (.loop ⟨[0, 1, 12], ⟨[], []⟩, [.tm 13 tI]⟩ [(1, ⟨[], ⟨[], []⟩, [.tm 4 tB]⟩), (3, ⟨[], ⟨[], []⟩, []⟩)] (.seq (.region (
.op (some 14) (.bin .lss (.tm 13) (.tm 12)) <|
.nil)) (.seq (.cond (.tm 14) .skip (.exit 0)) (.seq (.block 1 (.seq (.region (
.op (some 15) (.mv (.tm 13)) <|
.op (some 5) (.mv (.tm 15)) <|
.nil)) (.seq (.draw 9 (
.op (some 16) (.mv (.tm 0)) <|
.op (some 17) (.mv (.tm 5)) <|
.op (some 18) (.idxA tW (.tm 16) (.tm 17)) <|
.op (some 19) (.load tW (.tm 18)) <|
.op (some 20) (.mv (.tm 1)) <|
.op (some 21) (.mv (.tm 5)) <|
.op (some 22) (.idxA tW (.tm 20) (.tm 21)) <|
.op (some 23) (.load tW (.tm 22)) <|
.op (some 24) (.bin .neq (.tm 19) (.tm 23)) <|
.nil) [[], [], [0, 1], [2], [], [], [4, 5], [6], [3, 7]]) (.cond (.tm 24) (.seq (.region (
.op (some 4) (.mv (.k tB false)) <|
.nil)) .ret) .skip)))) (.region (
.op (some 25) (.bin .add (.tm 13) (.k tI (1 : Int))) <|
.op (some 13) (.mv (.tm 25)) <|
.nil)))))))) (.seq (.region (
.op (some 4) (.mv (.k tB true)) <|
.nil)) .ret)))), [.tm 4], 26, q_ref18_Same, 0⟩
def L_ref18_Same_0 (O : Oracle) (n : Nat) (a : (List Int)) (b : (List Int)) (s : (Int × Unit)) : Option ((Int × Unit) ⊕ (Bool × Unit) ⊕ Unit) :=
 bif decide (s.1 < (a.length : Int)) then
 Option.bind (getI a s.1) fun v1 =>
 Option.bind (getI b s.1) fun v2 =>
 bif (v1 != v2) then
 some (.inr (.inl ((false, ()))))
else
 some (.inl (IntKind.wrap .i64 (s.1 + (1 : Int)), ()))
else
 some (.inr (.inr (())))
def G_ref18_Same (O : Oracle) (n : Nat) (a : (List Int)) (b : (List Int)) : Option (Option S) :=
 bif ((a.length : Int) != (b.length : Int)) then
 retQ q_ref18_Same (false, ())
else
 Option.bind (loopN n (L_ref18_Same_0 O n a b) ((0 : Int), ())) fun (v3 : (Bool × Unit) ⊕ Unit) =>
 Sum.elim (fun v4 =>
 retQ q_ref18_Same (v4.1, ())) (fun v5 =>
 retQ q_ref18_Same (true, ())) v3
theorem x_ref18_Same (O : Oracle) (n : Nat) (a : (List Int)) (b : (List Int)) : evF1 O n f_ref18_Same [.d (.list tW) a, .d (.list tW) b] [] = G_ref18_Same O n a b := by kernel_rfl

def q_ref18_Drop : Sh := ⟨[], ⟨[], []⟩, [.tm 0 (.list tW)]⟩
/-! ### 22: routing/routingref18.Drop -/
def f_ref18_Drop : TF := ⟨(.seq (.region (
.op (some 4) (.mv (.nil tW)) <|
.nil)) (.seq (.region (
.op (some 5) (.mv (.nil tW)) <|
.nil)) (.seq (.seq (.region (
.op (some 8) (.mv (.tm 0)) <|
.op (some 9) (.call false N_ref18_ascending [(.d (.list tW), .tm 8)] q_ref18_ascending) <|
.op (some 10) (.len false (.tm 9)) <|
.op (some 11) (.mv (.k tI (0 : Int))) <|
.nil)) (.block 0 (.adj [.adopt 5 27 tW] (.loop ⟨[1, 9, 10], ⟨[(5, .sl 0)], [.vec T_u32 tW []]⟩, [.tm 11 tI, .vec 0 27 tW]⟩ [(3, ⟨[], ⟨[(5, .sl 0)], [.vec T_u32 tW []]⟩, [.vec 0 27 tW]⟩)] (.seq (.region (
.op (some 12) (.bin .lss (.tm 11) (.tm 10)) <|
.nil)) (.seq (.cond (.tm 12) .skip (.exit 0)) (.seq (.cut [(0, ⟨[1, 9, 10, 11], ⟨[(5, .sl 0)], [.vec T_u32 tW []]⟩, [.vec 0 27 tW]⟩)] (.block 1 (.seq (.region (
.op (some 13) (.idxA tW (.tm 9) (.tm 11)) <|
.op (some 14) (.load tW (.tm 13)) <|
.op (some 7) (.mv (.tm 14)) <|
.nil)) (.seq (.region (
.op (some 15) (.mv (.tm 7)) <|
.op (some 16) (.mv (.tm 1)) <|
.op (some 17) (.bin .neq (.tm 15) (.tm 16)) <|
.nil)) (.cond (.tm 17) (.region (
.op (some 18) (.mv (.tm 5)) <|
.op (some 19) (.mv (.tm 7)) <|
.op (some 20) (.bslice false 27 tW 1 [.tm 19]) <|
.op (some 21) (.append 27 tW 4 (.tm 18) (.tm 20)) <|
.op (some 5) (.mv (.tm 21)) <|
.nil)) .skip))))) (.region (
.op (some 22) (.bin .add (.tm 11) (.k tI (1 : Int))) <|
.op (some 11) (.mv (.tm 22)) <|
.nil))))))))) (.seq (.region (
.op (some 23) (.mv (.tm 5)) <|
.op (some 4) (.mv (.tm 23)) <|
.nil)) (.adj [.freeze 0] .ret))))), [.tm 4], 24, q_ref18_Drop, 0⟩
def L_ref18_Drop_0 (O : Oracle) (n : Nat) (c_ : Int) (v : ((List Int) × Unit)) (s : (Int × (List Int) × Unit)) : Option ((Int × (List Int) × Unit) ⊕ ((List Int) × Unit)) :=
 bif decide (s.1 < (v.1.length : Int)) then
 Option.bind (
 Option.bind (getI v.1 s.1) fun v2 =>
 bif (v2 != c_) then
 guardB (decide ((s.2.1.length + ([v2] : List Int).length) * 4 ≤ 140737488355328)) (
 some ((s.2.1 ++ ([v2] : List Int), ())))
else
 some ((s.2.1, ()))) fun (v3 : ((List Int) × Unit)) =>
 some (.inl (IntKind.wrap .i64 (s.1 + (1 : Int)), v3.1, ()))
else
 some (.inr ((s.2.1, ())))
def G_ref18_Drop (O : Oracle) (n : Nat) (l : (List Int)) (c_ : Int) : Option (Option S) :=
 Option.bind (callR O N_ref18_ascending [.d (.list tW) l] [] q_ref18_ascending) fun v =>
 Option.bind (loopN n (L_ref18_Drop_0 O n c_ v) ((0 : Int), ([] : List Int), ())) fun (v4 : ((List Int) × Unit)) =>
 retQ q_ref18_Drop (v4.1, ())
theorem x_ref18_Drop (O : Oracle) (n : Nat) (l : (List Int)) (c_ : Int) : evF1 O n f_ref18_Drop [.d (.list tW) l, .d tW c_] [] = G_ref18_Drop O n l c_ := by kernel_rfl

def q_ref18_Join : Sh := ⟨[], ⟨[], []⟩, [.tm 0 (.list tW)]⟩
/-! ### 24: routing/routingref18.Join -/
def f_ref18_Join : TF := ⟨(.seq (.region (
.op (some 4) (.mv (.nil tW)) <|
.nil)) (.seq (.region (
.op (some 6) (.bslice true 27 tW 0 []) <|
.op (some 7) (.mv (.tm 0)) <|
.op (some 8) (.append 27 tW 4 (.tm 6) (.tm 7)) <|
.op (some 9) (.mv (.tm 1)) <|
.op (some 10) (.append 27 tW 4 (.tm 8) (.tm 9)) <|
.adj [.freeze 0] <|
.op (some 11) (.call false N_ref18_ascending [(.d (.list tW), .tm 10)] q_ref18_ascending) <|
.op (some 5) (.mv (.tm 11)) <|
.nil)) (.seq (.cut [(0, ⟨[], ⟨[], []⟩, [.tm 5 (.list tW)]⟩)] (.seq (.region (
.op (some 12) (.mv (.tm 5)) <|
.op (some 13) (.len false (.tm 12)) <|
.op (some 14) (.bin .gtr (.tm 13) (.k tI (255 : Int))) <|
.nil)) (.cond (.tm 14) (.after (.region (
.op (some 15) (.mv (.tm 5)) <|
.op (some 16) (.slc false tW (.tm 15) none (some (.k tI (255 : Int))) none) <|
.op (some 5) (.mv (.tm 16)) <|
.nil)) [.sel [] [5]]) (.after .skip [.sel [] [5]])))) (.seq (.region (
.op (some 17) (.mv (.tm 5)) <|
.op (some 4) (.mv (.tm 17)) <|
.nil)) .ret)))), [.tm 4], 18, q_ref18_Join, 0⟩
def G_ref18_Join (O : Oracle) (n : Nat) (a : (List Int)) (b : (List Int)) : Option (Option S) :=
 guardB (decide ((([] : List Int).length + a.length) * 4 ≤ 140737488355328)) (
 guardB (decide (((([] : List Int) ++ a).length + b.length) * 4 ≤ 140737488355328)) (
 Option.bind (callR O N_ref18_ascending [.d (.list tW) ((([] : List Int) ++ a) ++ b)] [] q_ref18_ascending) fun v =>
 Option.bind (
 bif decide ((v.1.length : Int) > (255 : Int)) then
 guardB (decide (0 ≤ (255 : Int))) (
 guardB (decide (0 ≤ Int.toNat (255 : Int)) && decide (Int.toNat (255 : Int) ≤ v.1.length) && decide (v.1.length ≤ v.1.length)) (
 some (((v.1.take (Int.toNat (255 : Int))).drop (0), ()))))
else
 some ((v.1, ()))) fun (v1 : ((List Int) × Unit)) =>
 retQ q_ref18_Join (v1.1, ())))
theorem x_ref18_Join (O : Oracle) (n : Nat) (a : (List Int)) (b : (List Int)) : evF1 O n f_ref18_Join [.d (.list tW) a, .d (.list tW) b] [] = G_ref18_Join O n a b := by kernel_rfl

def q_law18_CommunityChange : Sh := ⟨[], ⟨[], []⟩, [.tm 0 tB]⟩
/-! ### 6: routing/routinglaw18.CommunityChange -/
def f_law18_CommunityChange : TF := ⟨(.seq (.region (
.op (some 6) (.mv (.k tB false)) <|
.nil)) (.seq (.seq (.region (
.op (some 7) (.mv (.tm 0)) <|
.op (some 8) (.len false (.tm 7)) <|
.op (some 9) (.bin .gtr (.tm 8) (.k tI (600 : Int))) <|
.op (some 10) (.mv (.tm 9)) <|
.gb 10 false (
.op (some 11) (.mv (.tm 1)) <|
.op (some 12) (.len false (.tm 11)) <|
.op (some 13) (.bin .gtr (.tm 12) (.k tI (600 : Int))) <|
.nil) tB (.tm 13) (.k tB true) 14 <|
.nil)) (.cond (.tm 14) (.seq (.region (
.op (some 15) (.call false N_law18_awake [] q_law18_awake) <|
.op (some 6) (.mv (.tm 15)) <|
.nil)) .ret) .skip)) (.seq (.region (
.op (some 16) (.mv (.tm 0)) <|
.op (some 17) (.mv (.tm 2)) <|
.op (some 18) (.call false N_community_Has [(.d (.list tW), .tm 16), (.d tW, .tm 17)] q_community_Has) <|
.op (some 19) (.mv (.tm 0)) <|
.op (some 20) (.mv (.tm 2)) <|
.op (some 21) (.call false N_ref18_Has [(.d (.list tW), .tm 19), (.d tW, .tm 20)] q_ref18_Has) <|
.op (some 22) (.eqB false (.tm 18) (.tm 21)) <|
.op (some 23) (.mv (.tm 22)) <|
.gb 23 true (
.op (some 24) (.mv (.tm 0)) <|
.op (some 25) (.mv (.tm 2)) <|
.op (some 26) (.call false N_community_Add [(.d (.list tW), .tm 24), (.d tW, .tm 25)] q_community_Add) <|
.op (some 27) (.mv (.tm 0)) <|
.op (some 28) (.mv (.tm 2)) <|
.op (some 29) (.call false N_ref18_Add [(.d (.list tW), .tm 27), (.d tW, .tm 28)] q_ref18_Add) <|
.op (some 30) (.call false N_ref18_Same [(.d (.list tW), .tm 26), (.d (.list tW), .tm 29)] q_ref18_Same) <|
.nil) tB (.tm 30) (.k tB false) 31 <|
.op (some 32) (.mv (.tm 31)) <|
.gb 32 true (
.op (some 33) (.mv (.tm 0)) <|
.op (some 34) (.mv (.tm 2)) <|
.op (some 35) (.call false N_community_Drop [(.d (.list tW), .tm 33), (.d tW, .tm 34)] q_community_Drop) <|
.op (some 36) (.mv (.tm 0)) <|
.op (some 37) (.mv (.tm 2)) <|
.op (some 38) (.call false N_ref18_Drop [(.d (.list tW), .tm 36), (.d tW, .tm 37)] q_ref18_Drop) <|
.op (some 39) (.call false N_ref18_Same [(.d (.list tW), .tm 35), (.d (.list tW), .tm 38)] q_ref18_Same) <|
.nil) tB (.tm 39) (.k tB false) 40 <|
.op (some 41) (.mv (.tm 40)) <|
.gb 41 true (
.op (some 42) (.mv (.tm 0)) <|
.op (some 43) (.mv (.tm 1)) <|
.op (some 44) (.call false N_community_Join [(.d (.list tW), .tm 42), (.d (.list tW), .tm 43)] q_community_Join) <|
.op (some 45) (.mv (.tm 0)) <|
.op (some 46) (.mv (.tm 1)) <|
.op (some 47) (.call false N_ref18_Join [(.d (.list tW), .tm 45), (.d (.list tW), .tm 46)] q_ref18_Join) <|
.op (some 48) (.call false N_ref18_Same [(.d (.list tW), .tm 44), (.d (.list tW), .tm 47)] q_ref18_Same) <|
.nil) tB (.tm 48) (.k tB false) 49 <|
.op (some 50) (.mv (.tm 49)) <|
.gb 50 true (
.op (some 51) (.call false N_law18_awake [] q_law18_awake) <|
.nil) tB (.tm 51) (.k tB false) 52 <|
.op (some 6) (.mv (.tm 52)) <|
.nil)) .ret))), [.tm 6], 53, q_law18_CommunityChange, 0⟩
def G_law18_CommunityChange (O : Oracle) (n : Nat) (a : (List Int)) (b : (List Int)) (c_ : Int) : Option (Option S) :=
 Option.bind (bif decide ((a.length : Int) > (600 : Int)) then some (true) else
 some (decide ((b.length : Int) > (600 : Int)))) fun v =>
 bif v then
 Option.bind (callR O N_law18_awake [] [] q_law18_awake) fun v1 =>
 retQ q_law18_CommunityChange (v1.1, ())
else
 Option.bind (callR O N_community_Has [.d (.list tW) a, .d tW c_] [] q_community_Has) fun v2 =>
 Option.bind (callR O N_ref18_Has [.d (.list tW) a, .d tW c_] [] q_ref18_Has) fun v3 =>
 Option.bind (bif (false ^^ (v2.1 == v3.1)) then
 Option.bind (callR O N_community_Add [.d (.list tW) a, .d tW c_] [] q_community_Add) fun v4 =>
 Option.bind (callR O N_ref18_Add [.d (.list tW) a, .d tW c_] [] q_ref18_Add) fun v5 =>
 Option.bind (callR O N_ref18_Same [.d (.list tW) v4.1, .d (.list tW) v5.1] [] q_ref18_Same) fun v6 =>
 some (v6.1)
else some (false)) fun v7 =>
 Option.bind (bif v7 then
 Option.bind (callR O N_community_Drop [.d (.list tW) a, .d tW c_] [] q_community_Drop) fun v8 =>
 Option.bind (callR O N_ref18_Drop [.d (.list tW) a, .d tW c_] [] q_ref18_Drop) fun v9 =>
 Option.bind (callR O N_ref18_Same [.d (.list tW) v8.1, .d (.list tW) v9.1] [] q_ref18_Same) fun v10 =>
 some (v10.1)
else some (false)) fun v11 =>
 Option.bind (bif v11 then
 Option.bind (callR O N_community_Join [.d (.list tW) a, .d (.list tW) b] [] q_community_Join) fun v12 =>
 Option.bind (callR O N_ref18_Join [.d (.list tW) a, .d (.list tW) b] [] q_ref18_Join) fun v13 =>
 Option.bind (callR O N_ref18_Same [.d (.list tW) v12.1, .d (.list tW) v13.1] [] q_ref18_Same) fun v14 =>
 some (v14.1)
else some (false)) fun v15 =>
 Option.bind (bif v15 then
 Option.bind (callR O N_law18_awake [] [] q_law18_awake) fun v16 =>
 some (v16.1)
else some (false)) fun v17 =>
 retQ q_law18_CommunityChange (v17, ())
theorem x_law18_CommunityChange (O : Oracle) (n : Nat) (a : (List Int)) (b : (List Int)) (c_ : Int) : evF1 O n f_law18_CommunityChange [.d (.list tW) a, .d (.list tW) b, .d tW c_] [] = G_law18_CommunityChange O n a b c_ := by kernel_rfl

def q_ref18_Match : Sh := ⟨[], ⟨[], []⟩, [.tm 0 tB]⟩
/-! ### 26: routing/routingref18.Match -/
def f_ref18_Match : TF := ⟨(.seq (.region (
.op (some 2) (.boxD 40 (pr [tB, tI, tI]) (.tm 0)) <|
.op (some 4) (.mv (.k tB false)) <|
.nil)) (.seq (.seq (.region (
.op (some 7) (.mv (.tm 1)) <|
.op (some 8) (.len false (.tm 7)) <|
.op (some 9) (.mv (.k tI (0 : Int))) <|
.nil)) (.block 0 (.loop ⟨[2, 7, 8], ⟨[], []⟩, [.tm 9 tI]⟩ [(1, ⟨[], ⟨[], []⟩, [.tm 4 tB]⟩), (3, ⟨[], ⟨[], []⟩, []⟩)] (.seq (.region (
.op (some 10) (.bin .lss (.tm 9) (.tm 8)) <|
.nil)) (.seq (.cond (.tm 10) .skip (.exit 0)) (.seq (.block 1 (.seq (.region (
.op (some 11) (.idxA tW (.tm 7) (.tm 9)) <|
.op (some 12) (.load tW (.tm 11)) <|
.op (some 6) (.mv (.tm 12)) <|
.nil)) (.seq (.region (
.op (some 13) (.fldA 1 tI (.tm 2)) <|
.op (some 14) (.load tI (.tm 13)) <|
.op (some 15) (.bin .eql (.tm 14) (.k tI (-1 : Int))) <|
.op (some 16) (.mv (.tm 15)) <|
.gb 16 false (
.op (some 17) (.fldA 1 tI (.tm 2)) <|
.op (some 18) (.load tI (.tm 17)) <|
.op (some 19) (.mv (.tm 6)) <|
.op (some 20) (.bin .shr (.tm 19) (.k tQ (16 : Int))) <|
.op (some 21) (.cvtI .i64 (.tm 20)) <|
.op (some 22) (.bin .eql (.tm 18) (.tm 21)) <|
.nil) tB (.tm 22) (.k tB true) 23 <|
.op (some 24) (.mv (.tm 23)) <|
.gb 24 true (
.op (some 25) (.fldA 2 tI (.tm 2)) <|
.op (some 26) (.load tI (.tm 25)) <|
.op (some 27) (.bin .eql (.tm 26) (.k tI (-1 : Int))) <|
.op (some 28) (.mv (.tm 27)) <|
.gb 28 false (
.op (some 29) (.fldA 2 tI (.tm 2)) <|
.op (some 30) (.load tI (.tm 29)) <|
.op (some 31) (.mv (.tm 6)) <|
.op (some 32) (.bin .and (.tm 31) (.k tW (65535 : Int))) <|
.op (some 33) (.cvtI .i64 (.tm 32)) <|
.op (some 34) (.bin .eql (.tm 30) (.tm 33)) <|
.nil) tB (.tm 34) (.k tB true) 35 <|
.nil) tB (.tm 35) (.k tB false) 36 <|
.nil)) (.cond (.tm 36) (.seq (.region (
.op (some 4) (.mv (.k tB true)) <|
.nil)) .ret) .skip)))) (.region (
.op (some 37) (.bin .add (.tm 9) (.k tI (1 : Int))) <|
.op (some 9) (.mv (.tm 37)) <|
.nil)))))))) (.seq (.region (
.op (some 4) (.mv (.k tB false)) <|
.nil)) .ret))), [.tm 4], 38, q_ref18_Match, 0⟩
def L_ref18_Match_0 (O : Oracle) (n : Nat) (r : (Bool × (Int × (Int × Unit)))) (l : (List Int)) (s : (Int × Unit)) : Option ((Int × Unit) ⊕ (Bool × Unit) ⊕ Unit) :=
 bif decide (s.1 < (l.length : Int)) then
 Option.bind (getI l s.1) fun v1 =>
 Option.bind (bif (r.2.1 == (-1 : Int)) then some (true) else
 guardB (decide (0 ≤ (16 : Int))) (
 let v2 := IntKind.wrap .i64 (Int.fdiv v1 (2 ^ (min (Int.toNat (16 : Int)) (IntKind.bits .u32))))
 some ((r.2.1 == v2)))) fun v3 =>
 Option.bind (bif v3 then
 Option.bind (bif (r.2.2.1 == (-1 : Int)) then some (true) else
 some ((r.2.2.1 == IntKind.wrap .i64 (bitsI .u32 .and v1 (65535 : Int))))) fun v4 =>
 some (v4)
else some (false)) fun v5 =>
 bif v5 then
 some (.inr (.inl ((true, ()))))
else
 some (.inl (IntKind.wrap .i64 (s.1 + (1 : Int)), ()))
else
 some (.inr (.inr (())))
def G_ref18_Match (O : Oracle) (n : Nat) (r : (Bool × (Int × (Int × Unit)))) (l : (List Int)) : Option (Option S) :=
 Option.bind (loopN n (L_ref18_Match_0 O n r l) ((0 : Int), ())) fun (v6 : (Bool × Unit) ⊕ Unit) =>
 Sum.elim (fun v7 =>
 retQ q_ref18_Match (v7.1, ())) (fun v8 =>
 retQ q_ref18_Match (false, ())) v6
theorem x_ref18_Match (O : Oracle) (n : Nat) (r : (Bool × (Int × (Int × Unit)))) (l : (List Int)) : evF1 O n f_ref18_Match [.d (pr [tB, tI, tI]) r, .d (.list tW) l] [] = G_ref18_Match O n r l := by kernel_rfl

def q_ref18_Permits : Sh := ⟨[], ⟨[], []⟩, [.tm 0 tB]⟩
/-! ### 28: routing/routingref18.Permits -/
def f_ref18_Permits : TF := ⟨(.seq (.region (
.op (some 4) (.mv (.k tB false)) <|
.nil)) (.seq (.seq (.region (
.op (some 7) (.mv (.tm 0)) <|
.op (some 8) (.len false (.tm 7)) <|
.op (some 9) (.mv (.k tI (0 : Int))) <|
.nil)) (.block 0 (.loop ⟨[1, 7, 8], ⟨[], []⟩, [.tm 9 tI]⟩ [(1, ⟨[], ⟨[], []⟩, [.tm 4 tB]⟩), (3, ⟨[], ⟨[], []⟩, []⟩)] (.seq (.region (
.op (some 10) (.bin .lss (.tm 9) (.tm 8)) <|
.nil)) (.seq (.cond (.tm 10) .skip (.exit 0)) (.seq (.block 1 (.seq (.region (
.op (some 11) (.idxA (pr [tB, tI, tI]) (.tm 7) (.tm 9)) <|
.op (some 12) (.load (pr [tB, tI, tI]) (.tm 11)) <|
.op (some 6) (.alloc 40 [.d tB false, .d tI (0 : Int), .d tI (0 : Int)]) <|
.op none (.store (pr [tB, tI, tI]) (.tm 6) (.tm 12)) <|
.nil)) (.seq (.region (
.op (some 13) (.load (pr [tB, tI, tI]) (.tm 6)) <|
.op (some 14) (.mv (.tm 1)) <|
.op (some 15) (.call false N_ref18_Match [(.d (pr [tB, tI, tI]), .tm 13), (.d (.list tW), .tm 14)] q_ref18_Match) <|
.nil)) (.cond (.tm 15) (.seq (.region (
.op (some 16) (.fldA 0 tB (.tm 6)) <|
.op (some 17) (.load tB (.tm 16)) <|
.op (some 4) (.mv (.tm 17)) <|
.nil)) (.adj [.sel [] [4]] .ret)) .skip)))) (.after (.region (
.op (some 18) (.bin .add (.tm 9) (.k tI (1 : Int))) <|
.op (some 9) (.mv (.tm 18)) <|
.nil)) [.sel [] [1, 7, 8, 9]]))))))) (.seq (.region (
.op (some 4) (.mv (.k tB false)) <|
.nil)) .ret))), [.tm 4], 19, q_ref18_Permits, 0⟩
def L_ref18_Permits_0 (O : Oracle) (n : Nat) (rules : (List (Bool × (Int × (Int × Unit))))) (l : (List Int)) (s : (Int × Unit)) : Option ((Int × Unit) ⊕ (Bool × Unit) ⊕ Unit) :=
 bif decide (s.1 < (rules.length : Int)) then
 Option.bind (getI rules s.1) fun v1 =>
 Option.bind (callR O N_ref18_Match [.d (pr [tB, tI, tI]) v1, .d (.list tW) l] [] q_ref18_Match) fun v2 =>
 bif v2.1 then
 some (.inr (.inl ((v1.1, ()))))
else
 some (.inl (IntKind.wrap .i64 (s.1 + (1 : Int)), ()))
else
 some (.inr (.inr (())))
def G_ref18_Permits (O : Oracle) (n : Nat) (rules : (List (Bool × (Int × (Int × Unit))))) (l : (List Int)) : Option (Option S) :=
 Option.bind (loopN n (L_ref18_Permits_0 O n rules l) ((0 : Int), ())) fun (v3 : (Bool × Unit) ⊕ Unit) =>
 Sum.elim (fun v4 =>
 retQ q_ref18_Permits (v4.1, ())) (fun v5 =>
 retQ q_ref18_Permits (false, ())) v3
theorem x_ref18_Permits (O : Oracle) (n : Nat) (rules : (List (Bool × (Int × (Int × Unit))))) (l : (List Int)) : evF1 O n f_ref18_Permits [.d (.list (pr [tB, tI, tI])) rules, .d (.list tW) l] [] = G_ref18_Permits O n rules l := by kernel_rfl

def q_law18_CommunityPermits : Sh := ⟨[], ⟨[], []⟩, [.tm 0 tB]⟩
/-! ### 7: routing/routinglaw18.CommunityPermits -/
def f_law18_CommunityPermits : TF := ⟨(.seq (.region (
.op (some 4) (.mv (.k tB false)) <|
.nil)) (.seq (.seq (.region (
.op (some 7) (.mv (.tm 0)) <|
.op (some 8) (.len false (.tm 7)) <|
.op (some 9) (.bin .gtr (.tm 8) (.k tI (200 : Int))) <|
.op (some 10) (.mv (.tm 9)) <|
.gb 10 false (
.op (some 11) (.mv (.tm 1)) <|
.op (some 12) (.len false (.tm 11)) <|
.op (some 13) (.bin .gtr (.tm 12) (.k tI (600 : Int))) <|
.nil) tB (.tm 13) (.k tB true) 14 <|
.nil)) (.cond (.tm 14) (.seq (.region (
.op (some 15) (.call false N_law18_awake [] q_law18_awake) <|
.op (some 4) (.mv (.tm 15)) <|
.nil)) .ret) .skip)) (.seq (.seq (.region (
.op (some 16) (.mv (.tm 0)) <|
.op (some 17) (.len false (.tm 16)) <|
.op (some 18) (.mv (.k tI (0 : Int))) <|
.nil)) (.block 0 (.loop ⟨[0, 1, 16, 17], ⟨[], []⟩, [.tm 18 tI]⟩ [(1, ⟨[], ⟨[], []⟩, [.tm 4 tB]⟩), (3, ⟨[0, 1], ⟨[], []⟩, []⟩)] (.seq (.region (
.op (some 19) (.bin .lss (.tm 18) (.tm 17)) <|
.nil)) (.seq (.cond (.tm 19) .skip (.exit 0)) (.seq (.block 1 (.seq (.region (
.op (some 20) (.idxA (pr [tB, tI, tI]) (.tm 16) (.tm 18)) <|
.op (some 21) (.load (pr [tB, tI, tI]) (.tm 20)) <|
.op (some 6) (.alloc 40 [.d tB false, .d tI (0 : Int), .d tI (0 : Int)]) <|
.op none (.store (pr [tB, tI, tI]) (.tm 6) (.tm 21)) <|
.nil)) (.seq (.draw 7 (
.op (some 22) (.load (pr [tB, tI, tI]) (.tm 6)) <|
.op (some 23) (.mv (.tm 1)) <|
.op (some 24) (.call false N_community_Match [(.d (pr [tB, tI, tI]), .tm 22), (.d (.list tW), .tm 23)] q_community_Match) <|
.op (some 25) (.load (pr [tB, tI, tI]) (.tm 6)) <|
.op (some 26) (.mv (.tm 1)) <|
.op (some 27) (.call false N_ref18_Match [(.d (pr [tB, tI, tI]), .tm 25), (.d (.list tW), .tm 26)] q_ref18_Match) <|
.op (some 28) (.eqB true (.tm 24) (.tm 27)) <|
.nil) [[], [], [0, 1], [], [], [3, 4, 2], [2, 5]]) (.cond (.tm 28) (.seq (.region (
.op (some 4) (.mv (.k tB false)) <|
.nil)) (.adj [.sel [] [4]] .ret)) .skip)))) (.after (.region (
.op (some 29) (.bin .add (.tm 18) (.k tI (1 : Int))) <|
.op (some 18) (.mv (.tm 29)) <|
.nil)) [.sel [] [0, 1, 16, 17, 18]]))))))) (.seq (.region (
.op (some 30) (.mv (.tm 0)) <|
.op (some 31) (.mv (.tm 1)) <|
.op (some 32) (.call false N_community_Permits [(.d (.list (pr [tB, tI, tI])), .tm 30), (.d (.list tW), .tm 31)] q_community_Permits) <|
.op (some 33) (.mv (.tm 0)) <|
.op (some 34) (.mv (.tm 1)) <|
.op (some 35) (.call false N_ref18_Permits [(.d (.list (pr [tB, tI, tI])), .tm 33), (.d (.list tW), .tm 34)] q_ref18_Permits) <|
.op (some 36) (.eqB false (.tm 32) (.tm 35)) <|
.op (some 37) (.mv (.tm 36)) <|
.gb 37 true (
.op (some 38) (.call false N_law18_awake [] q_law18_awake) <|
.nil) tB (.tm 38) (.k tB false) 39 <|
.op (some 4) (.mv (.tm 39)) <|
.nil)) .ret)))), [.tm 4], 40, q_law18_CommunityPermits, 0⟩
def L_law18_CommunityPermits_0 (O : Oracle) (n : Nat) (rules : (List (Bool × (Int × (Int × Unit))))) (l : (List Int)) (s : (Int × Unit)) : Option ((Int × Unit) ⊕ (Bool × Unit) ⊕ Unit) :=
 bif decide (s.1 < (rules.length : Int)) then
 Option.bind (getI rules s.1) fun v3 =>
 Option.bind (callR O N_community_Match [.d (pr [tB, tI, tI]) v3, .d (.list tW) l] [] q_community_Match) fun v4 =>
 Option.bind (callR O N_ref18_Match [.d (pr [tB, tI, tI]) v3, .d (.list tW) l] [] q_ref18_Match) fun v5 =>
 bif (true ^^ (v4.1 == v5.1)) then
 some (.inr (.inl ((false, ()))))
else
 some (.inl (IntKind.wrap .i64 (s.1 + (1 : Int)), ()))
else
 some (.inr (.inr (())))
def G_law18_CommunityPermits (O : Oracle) (n : Nat) (rules : (List (Bool × (Int × (Int × Unit))))) (l : (List Int)) : Option (Option S) :=
 Option.bind (bif decide ((rules.length : Int) > (200 : Int)) then some (true) else
 some (decide ((l.length : Int) > (600 : Int)))) fun v =>
 bif v then
 Option.bind (callR O N_law18_awake [] [] q_law18_awake) fun v1 =>
 retQ q_law18_CommunityPermits (v1.1, ())
else
 Option.bind (loopN n (L_law18_CommunityPermits_0 O n rules l) ((0 : Int), ())) fun (v6 : (Bool × Unit) ⊕ Unit) =>
 Sum.elim (fun v7 =>
 retQ q_law18_CommunityPermits (v7.1, ())) (fun v8 =>
 Option.bind (callR O N_community_Permits [.d (.list (pr [tB, tI, tI])) rules, .d (.list tW) l] [] q_community_Permits) fun v9 =>
 Option.bind (callR O N_ref18_Permits [.d (.list (pr [tB, tI, tI])) rules, .d (.list tW) l] [] q_ref18_Permits) fun v10 =>
 Option.bind (bif (false ^^ (v9.1 == v10.1)) then
 Option.bind (callR O N_law18_awake [] [] q_law18_awake) fun v11 =>
 some (v11.1)
else some (false)) fun v12 =>
 retQ q_law18_CommunityPermits (v12, ())) v6
theorem x_law18_CommunityPermits (O : Oracle) (n : Nat) (rules : (List (Bool × (Int × (Int × Unit))))) (l : (List Int)) : evF1 O n f_law18_CommunityPermits [.d (.list (pr [tB, tI, tI])) rules, .d (.list tW) l] [] = G_law18_CommunityPermits O n rules l := by kernel_rfl

def q_law18_CommunitySets : Sh := ⟨[], ⟨[], []⟩, [.tm 0 tB]⟩
/-! ### 8: routing/routinglaw18.CommunitySets -/
def f_law18_CommunitySets : TF := ⟨(.seq (.region (
.op (some 5) (.boxD 43 (pr [tW, tW]) (.tm 2)) <|
.op (some 6) (.mv (.k tB false)) <|
.nil)) (.seq (.draw 6 (
.op (some 12) (.idxP 2 tW (.tm 5) (.k tI (0 : Int))) <|
.op (some 13) (.load tW (.tm 12)) <|
.op (some 14) (.idxP 2 tW (.tm 5) (.k tI (1 : Int))) <|
.op (some 15) (.load tW (.tm 14)) <|
.op (some 7) (.mv (.tm 13)) <|
.op (some 8) (.mv (.tm 15)) <|
.nil) [[], [0], [], [2], [1, 0, 1], [3, 4, 0, 1, 2, 3, 4]]) (.seq (.seq (.region (
.op (some 16) (.mv (.tm 0)) <|
.op (some 17) (.len false (.tm 16)) <|
.op (some 18) (.mv (.tm 1)) <|
.op (some 19) (.len false (.tm 18)) <|
.op (some 20) (.bin .add (.tm 17) (.tm 19)) <|
.op (some 21) (.bin .geq (.tm 20) (.k tI (255 : Int))) <|
.nil)) (.cond (.tm 21) (.seq (.region (
.op (some 22) (.call false N_law18_awake [] q_law18_awake) <|
.op (some 6) (.mv (.tm 22)) <|
.nil)) .ret) .skip)) (.seq (.region (
.op (some 23) (.mv (.tm 0)) <|
.op (some 24) (.mv (.tm 7)) <|
.op (some 25) (.call false N_community_Add [(.d (.list tW), .tm 23), (.d tW, .tm 24)] q_community_Add) <|
.op (some 26) (.mv (.tm 0)) <|
.op (some 27) (.mv (.tm 7)) <|
.op (some 28) (.call false N_community_Drop [(.d (.list tW), .tm 26), (.d tW, .tm 27)] q_community_Drop) <|
.op (some 29) (.mv (.tm 0)) <|
.op (some 30) (.mv (.tm 1)) <|
.op (some 31) (.call false N_community_Join [(.d (.list tW), .tm 29), (.d (.list tW), .tm 30)] q_community_Join) <|
.op (some 9) (.mv (.tm 25)) <|
.op (some 10) (.mv (.tm 28)) <|
.op (some 11) (.mv (.tm 31)) <|
.nil)) (.seq (.seq (.region (
.op (some 32) (.mv (.tm 9)) <|
.op (some 33) (.call false N_community_Check [(.d (.list tW), .tm 32)] q_community_Check) <|
.op (some 34) (.bin .neq (.tm 33) (.k tI (0 : Int))) <|
.op (some 35) (.mv (.tm 34)) <|
.gb 35 false (
.op (some 36) (.mv (.tm 10)) <|
.op (some 37) (.call false N_community_Check [(.d (.list tW), .tm 36)] q_community_Check) <|
.op (some 38) (.bin .neq (.tm 37) (.k tI (0 : Int))) <|
.nil) tB (.tm 38) (.k tB true) 39 <|
.op (some 40) (.mv (.tm 39)) <|
.gb 40 false (
.op (some 41) (.mv (.tm 11)) <|
.op (some 42) (.call false N_community_Check [(.d (.list tW), .tm 41)] q_community_Check) <|
.op (some 43) (.bin .neq (.tm 42) (.k tI (0 : Int))) <|
.nil) tB (.tm 43) (.k tB true) 44 <|
.nil)) (.cond (.tm 44) (.seq (.region (
.op (some 6) (.mv (.k tB false)) <|
.nil)) .ret) .skip)) (.seq (.seq (.region (
.op (some 45) (.mv (.tm 9)) <|
.op (some 46) (.mv (.tm 8)) <|
.op (some 47) (.call false N_community_Has [(.d (.list tW), .tm 45), (.d tW, .tm 46)] q_community_Has) <|
.op (some 48) (.mv (.tm 0)) <|
.op (some 49) (.mv (.tm 8)) <|
.op (some 50) (.call false N_community_Has [(.d (.list tW), .tm 48), (.d tW, .tm 49)] q_community_Has) <|
.op (some 51) (.mv (.tm 50)) <|
.gb 51 false (
.op (some 52) (.mv (.tm 7)) <|
.op (some 53) (.mv (.tm 8)) <|
.op (some 54) (.bin .eql (.tm 52) (.tm 53)) <|
.nil) tB (.tm 54) (.k tB true) 55 <|
.op (some 56) (.eqB true (.tm 47) (.tm 55)) <|
.op (some 57) (.mv (.tm 56)) <|
.gb 57 false (
.op (some 58) (.mv (.tm 10)) <|
.op (some 59) (.mv (.tm 8)) <|
.op (some 60) (.call false N_community_Has [(.d (.list tW), .tm 58), (.d tW, .tm 59)] q_community_Has) <|
.op (some 61) (.mv (.tm 0)) <|
.op (some 62) (.mv (.tm 8)) <|
.op (some 63) (.call false N_community_Has [(.d (.list tW), .tm 61), (.d tW, .tm 62)] q_community_Has) <|
.op (some 64) (.mv (.tm 63)) <|
.gb 64 true (
.op (some 65) (.mv (.tm 7)) <|
.op (some 66) (.mv (.tm 8)) <|
.op (some 67) (.bin .neq (.tm 65) (.tm 66)) <|
.nil) tB (.tm 67) (.k tB false) 68 <|
.op (some 69) (.eqB true (.tm 60) (.tm 68)) <|
.nil) tB (.tm 69) (.k tB true) 70 <|
.op (some 71) (.mv (.tm 70)) <|
.gb 71 false (
.op (some 72) (.mv (.tm 11)) <|
.op (some 73) (.mv (.tm 8)) <|
.op (some 74) (.call false N_community_Has [(.d (.list tW), .tm 72), (.d tW, .tm 73)] q_community_Has) <|
.op (some 75) (.mv (.tm 0)) <|
.op (some 76) (.mv (.tm 8)) <|
.op (some 77) (.call false N_community_Has [(.d (.list tW), .tm 75), (.d tW, .tm 76)] q_community_Has) <|
.op (some 78) (.mv (.tm 77)) <|
.gb 78 false (
.op (some 79) (.mv (.tm 1)) <|
.op (some 80) (.mv (.tm 8)) <|
.op (some 81) (.call false N_community_Has [(.d (.list tW), .tm 79), (.d tW, .tm 80)] q_community_Has) <|
.nil) tB (.tm 81) (.k tB true) 82 <|
.op (some 83) (.eqB true (.tm 74) (.tm 82)) <|
.nil) tB (.tm 83) (.k tB true) 84 <|
.nil)) (.cond (.tm 84) (.seq (.region (
.op (some 6) (.mv (.k tB false)) <|
.nil)) .ret) .skip)) (.seq (.region (
.op (some 85) (.mv (.tm 11)) <|
.op (some 86) (.mv (.tm 1)) <|
.op (some 87) (.mv (.tm 0)) <|
.op (some 88) (.call false N_community_Join [(.d (.list tW), .tm 86), (.d (.list tW), .tm 87)] q_community_Join) <|
.op (some 89) (.call false N_ref18_Same [(.d (.list tW), .tm 85), (.d (.list tW), .tm 88)] q_ref18_Same) <|
.op (some 90) (.mv (.tm 89)) <|
.gb 90 true (
.op (some 91) (.mv (.tm 9)) <|
.op (some 92) (.mv (.tm 7)) <|
.op (some 93) (.call false N_community_Drop [(.d (.list tW), .tm 91), (.d tW, .tm 92)] q_community_Drop) <|
.op (some 94) (.mv (.tm 10)) <|
.op (some 95) (.call false N_ref18_Same [(.d (.list tW), .tm 93), (.d (.list tW), .tm 94)] q_ref18_Same) <|
.nil) tB (.tm 95) (.k tB false) 96 <|
.op (some 97) (.mv (.tm 96)) <|
.gb 97 true (
.op (some 98) (.call false N_law18_awake [] q_law18_awake) <|
.nil) tB (.tm 98) (.k tB false) 99 <|
.op (some 6) (.mv (.tm 99)) <|
.nil)) .ret))))))), [.tm 6], 100, q_law18_CommunitySets, 0⟩
def G_law18_CommunitySets (O : Oracle) (n : Nat) (a : (List Int)) (b : (List Int)) (x : (Int × (Int × Unit))) : Option (Option S) :=
 Option.bind (Ev.rowAt tW 2 (.d (pr [tW, tW]) x) (0 : Int)) fun v =>
 Option.bind (Ev.rowAt tW 2 (.d (pr [tW, tW]) x) (1 : Int)) fun v1 =>
 let v2 := decide (IntKind.wrap .i64 ((a.length : Int) + (b.length : Int)) ≥ (255 : Int))
 bif v2 then
 Option.bind (callR O N_law18_awake [] [] q_law18_awake) fun v3 =>
 retQ q_law18_CommunitySets (v3.1, ())
else
 Option.bind (callR O N_community_Add [.d (.list tW) a, .d tW v] [] q_community_Add) fun v4 =>
 Option.bind (callR O N_community_Drop [.d (.list tW) a, .d tW v] [] q_community_Drop) fun v5 =>
 Option.bind (callR O N_community_Join [.d (.list tW) a, .d (.list tW) b] [] q_community_Join) fun v6 =>
 Option.bind (callR O N_community_Check [.d (.list tW) v4.1] [] q_community_Check) fun v7 =>
 Option.bind (bif (v7.1 != (0 : Int)) then some (true) else
 Option.bind (callR O N_community_Check [.d (.list tW) v5.1] [] q_community_Check) fun v8 =>
 some ((v8.1 != (0 : Int)))) fun v9 =>
 Option.bind (bif v9 then some (true) else
 Option.bind (callR O N_community_Check [.d (.list tW) v6.1] [] q_community_Check) fun v10 =>
 some ((v10.1 != (0 : Int)))) fun v11 =>
 bif v11 then
 retQ q_law18_CommunitySets (false, ())
else
 Option.bind (callR O N_community_Has [.d (.list tW) v4.1, .d tW v1] [] q_community_Has) fun v12 =>
 Option.bind (callR O N_community_Has [.d (.list tW) a, .d tW v1] [] q_community_Has) fun v13 =>
 Option.bind (bif v13.1 then some (true) else
 some ((v == v1))) fun v14 =>
 Option.bind (bif (true ^^ (v12.1 == v14)) then some (true) else
 Option.bind (callR O N_community_Has [.d (.list tW) v5.1, .d tW v1] [] q_community_Has) fun v15 =>
 Option.bind (callR O N_community_Has [.d (.list tW) a, .d tW v1] [] q_community_Has) fun v16 =>
 Option.bind (bif v16.1 then
 some ((v != v1))
else some (false)) fun v17 =>
 some ((true ^^ (v15.1 == v17)))) fun v18 =>
 Option.bind (bif v18 then some (true) else
 Option.bind (callR O N_community_Has [.d (.list tW) v6.1, .d tW v1] [] q_community_Has) fun v19 =>
 Option.bind (callR O N_community_Has [.d (.list tW) a, .d tW v1] [] q_community_Has) fun v20 =>
 Option.bind (bif v20.1 then some (true) else
 Option.bind (callR O N_community_Has [.d (.list tW) b, .d tW v1] [] q_community_Has) fun v21 =>
 some (v21.1)) fun v22 =>
 some ((true ^^ (v19.1 == v22)))) fun v23 =>
 bif v23 then
 retQ q_law18_CommunitySets (false, ())
else
 Option.bind (callR O N_community_Join [.d (.list tW) b, .d (.list tW) a] [] q_community_Join) fun v24 =>
 Option.bind (callR O N_ref18_Same [.d (.list tW) v6.1, .d (.list tW) v24.1] [] q_ref18_Same) fun v25 =>
 Option.bind (bif v25.1 then
 Option.bind (callR O N_community_Drop [.d (.list tW) v4.1, .d tW v] [] q_community_Drop) fun v26 =>
 Option.bind (callR O N_ref18_Same [.d (.list tW) v26.1, .d (.list tW) v5.1] [] q_ref18_Same) fun v27 =>
 some (v27.1)
else some (false)) fun v28 =>
 Option.bind (bif v28 then
 Option.bind (callR O N_law18_awake [] [] q_law18_awake) fun v29 =>
 some (v29.1)
else some (false)) fun v30 =>
 retQ q_law18_CommunitySets (v30, ())
theorem x_law18_CommunitySets (O : Oracle) (n : Nat) (a : (List Int)) (b : (List Int)) (x : (Int × (Int × Unit))) : evF1 O n f_law18_CommunitySets [.d (.list tW) a, .d (.list tW) b, .d (pr [tW, tW]) x] [] = G_law18_CommunitySets O n a b x := by kernel_rfl

end Go.Proofs.YtfgchoifgocclaaDoor
