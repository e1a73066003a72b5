/-
  THE ABSTRACT CODE OF THE LOADED FUNCTIONS, printed by program (gen.py), each held against the loaded one by the kernel.
-/
import Derived.Test.YtfgchoifgocclaaDoorAv19
import Derived.Test.YtfgchoifgocclaaDoorRows
namespace Go.Proofs.YtfgchoifgocclaaDoor
open Go Go.Av

/-! ### routing/routinglaw18.CommunityCheck : params [22] results [4] -/
def r3_0 : List SOper := [⟨some 2, .mv (.c (.bool false)), none⟩]
def r3_1 : List SOper := [⟨some 3, .mv (.tm 0), none⟩,
  ⟨some 4, .call true 9 [.tm 3], none⟩,
  ⟨some 5, .mv (.tm 0), none⟩,
  ⟨some 6, .call true 10 [.tm 5], none⟩,
  ⟨some 7, .bin .eql (.tm 4) (.tm 6), none⟩,
  ⟨some 8, .mv (.tm 7), none⟩,
  ⟨some 9, .call true 11 [], some (8, true)⟩,
  ⟨some 10, .pick (.tm 8) (.tm 9) (.c (.bool false)), none⟩,
  ⟨some 2, .mv (.tm 10), none⟩]
def c3 : AC := (.seq (.region r3_0) (.seq (.region r3_1) .ret))
theorem e3 : Entry Tryd.prog 3 c3 [.tm 2] 11 := ⟨Tryd.f3, Tryd.func3, by kernel_rfl, by kernel_rfl, by kernel_rfl, by kernel_rfl⟩

/-! ### routing/routinglaw18.CommunityBack : params [27] results [4] -/
def r4_0 : List SOper := [⟨some 2, .mv (.c (.bool false)), none⟩]
def r4_1 : List SOper := [⟨some 6, .mv (.tm 0), none⟩,
  ⟨some 7, .call true 12 [.tm 6], none⟩,
  ⟨some 3, .mv (.tm 7), none⟩]
def r4_2 : List SOper := [⟨some 9, .mv (.tm 3), none⟩,
  ⟨some 10, .call true 13 [.tm 9], none⟩,
  ⟨some 8, .mv (.tm 10), none⟩,
  ⟨some 11, .ext (.tm 8) 0, none⟩,
  ⟨some 12, .ext (.tm 8) 1, none⟩,
  ⟨some 4, .mv (.tm 11), none⟩,
  ⟨some 5, .mv (.tm 12), none⟩]
def r4_3 : List SOper := [⟨some 13, .mv (.tm 3), none⟩,
  ⟨some 14, .mv (.tm 0), none⟩,
  ⟨some 15, .call true 14 [.tm 14], none⟩,
  ⟨some 16, .bin .eql (.tm 13) (.tm 15), none⟩,
  ⟨some 17, .mv (.tm 16), none⟩,
  ⟨some 18, .mv (.tm 5), some (17, true)⟩,
  ⟨some 19, .bin .eql (.tm 18) (.c (.int .i64 0)), some (17, true)⟩,
  ⟨some 20, .pick (.tm 17) (.tm 19) (.c (.bool false)), none⟩,
  ⟨some 21, .mv (.tm 20), none⟩,
  ⟨some 22, .mv (.tm 4), some (21, true)⟩,
  ⟨some 23, .mv (.tm 0), some (21, true)⟩,
  ⟨some 24, .bin .eql (.tm 22) (.tm 23), some (21, true)⟩,
  ⟨some 25, .pick (.tm 21) (.tm 24) (.c (.bool false)), none⟩,
  ⟨some 26, .mv (.tm 25), none⟩,
  ⟨some 27, .call true 11 [], some (26, true)⟩,
  ⟨some 28, .pick (.tm 26) (.tm 27) (.c (.bool false)), none⟩,
  ⟨some 2, .mv (.tm 28), none⟩]
def c4 : AC := (.seq (.region r4_0) (.seq (.region r4_1) (.seq (.region r4_2) (.seq (.region r4_3) .ret))))
theorem e4 : Entry Tryd.prog 4 c4 [.tm 2] 29 := ⟨Tryd.f4, Tryd.func4, by kernel_rfl, by kernel_rfl, by kernel_rfl, by kernel_rfl⟩

/-! ### routing/routinglaw18.CommunityParse : params [9] results [4] -/
def r5_0 : List SOper := [⟨some 2, .mv (.c (.bool false)), none⟩]
def r5_1 : List SOper := [⟨some 7, .mv (.tm 0), none⟩,
  ⟨some 8, .len true (.tm 7), none⟩,
  ⟨some 9, .bin .gtr (.tm 8) (.c (.int .i64 1000)), none⟩]
def r5_2 : List SOper := [⟨some 10, .call true 11 [], none⟩,
  ⟨some 2, .mv (.tm 10), none⟩]
def r5_3 : List SOper := [⟨some 12, .mv (.tm 0), none⟩,
  ⟨some 13, .call true 13 [.tm 12], none⟩,
  ⟨some 11, .mv (.tm 13), none⟩,
  ⟨some 14, .ext (.tm 11) 0, none⟩,
  ⟨some 15, .ext (.tm 11) 1, none⟩,
  ⟨some 3, .mv (.tm 14), none⟩,
  ⟨some 4, .mv (.tm 15), none⟩]
def r5_4 : List SOper := [⟨some 17, .mv (.tm 0), none⟩,
  ⟨some 18, .call true 15 [.tm 17], none⟩,
  ⟨some 16, .mv (.tm 18), none⟩,
  ⟨some 19, .ext (.tm 16) 0, none⟩,
  ⟨some 20, .ext (.tm 16) 1, none⟩,
  ⟨some 5, .mv (.tm 19), none⟩,
  ⟨some 6, .mv (.tm 20), none⟩]
def r5_5 : List SOper := [⟨some 21, .mv (.tm 3), none⟩,
  ⟨some 22, .mv (.tm 5), none⟩,
  ⟨some 23, .bin .eql (.tm 21) (.tm 22), none⟩,
  ⟨some 24, .mv (.tm 23), none⟩,
  ⟨some 25, .mv (.tm 4), some (24, true)⟩,
  ⟨some 26, .mv (.tm 6), some (24, true)⟩,
  ⟨some 27, .bin .eql (.tm 25) (.tm 26), some (24, true)⟩,
  ⟨some 28, .pick (.tm 24) (.tm 27) (.c (.bool false)), none⟩,
  ⟨some 29, .mv (.tm 28), none⟩,
  ⟨some 30, .mv (.tm 4), some (29, true)⟩,
  ⟨some 31, .bin .neq (.tm 30) (.c (.int .i64 0)), some (29, true)⟩,
  ⟨some 32, .mv (.tm 31), some (29, true)⟩,
  ⟨some 33, .mv (.tm 3), some (32, false)⟩,
  ⟨some 34, .call true 12 [.tm 33], some (32, false)⟩,
  ⟨some 35, .mv (.tm 0), some (32, false)⟩,
  ⟨some 36, .bin .eql (.tm 34) (.tm 35), some (32, false)⟩,
  ⟨some 37, .pick (.tm 32) (.c (.bool true)) (.tm 36), some (29, true)⟩,
  ⟨some 38, .pick (.tm 29) (.tm 37) (.c (.bool false)), none⟩,
  ⟨some 39, .mv (.tm 38), none⟩,
  ⟨some 40, .call true 11 [], some (39, true)⟩,
  ⟨some 41, .pick (.tm 39) (.tm 40) (.c (.bool false)), none⟩,
  ⟨some 2, .mv (.tm 41), none⟩]
def c5 : AC := (.seq (.region r5_0) (.seq (.seq (.region r5_1) (.cond (.tm 9) (.seq (.region r5_2) .ret) .skip)) (.seq (.region r5_3) (.seq (.region r5_4) (.seq (.region r5_5) .ret)))))
theorem e5 : Entry Tryd.prog 5 c5 [.tm 2] 42 := ⟨Tryd.f5, Tryd.func5, by kernel_rfl, by kernel_rfl, by kernel_rfl, by kernel_rfl⟩

/-! ### routing/routinglaw18.CommunityChange : params [22, 22, 27] results [4] -/
def r6_0 : List SOper := [⟨some 6, .mv (.c (.bool false)), none⟩]
def r6_1 : List SOper := [⟨some 7, .mv (.tm 0), none⟩,
  ⟨some 8, .len false (.tm 7), none⟩,
  ⟨some 9, .bin .gtr (.tm 8) (.c (.int .i64 600)), none⟩,
  ⟨some 10, .mv (.tm 9), none⟩,
  ⟨some 11, .mv (.tm 1), some (10, false)⟩,
  ⟨some 12, .len false (.tm 11), some (10, false)⟩,
  ⟨some 13, .bin .gtr (.tm 12) (.c (.int .i64 600)), some (10, false)⟩,
  ⟨some 14, .pick (.tm 10) (.c (.bool true)) (.tm 13), none⟩]
def r6_2 : List SOper := [⟨some 15, .call true 11 [], none⟩,
  ⟨some 6, .mv (.tm 15), none⟩]
def r6_3 : List SOper := [⟨some 16, .mv (.tm 0), none⟩,
  ⟨some 17, .mv (.tm 2), none⟩,
  ⟨some 18, .call true 16 [.tm 16, .tm 17], none⟩,
  ⟨some 19, .mv (.tm 0), none⟩,
  ⟨some 20, .mv (.tm 2), none⟩,
  ⟨some 21, .call true 17 [.tm 19, .tm 20], none⟩,
  ⟨some 22, .eqB false (.tm 18) (.tm 21), none⟩,
  ⟨some 23, .mv (.tm 22), none⟩,
  ⟨some 24, .mv (.tm 0), some (23, true)⟩,
  ⟨some 25, .mv (.tm 2), some (23, true)⟩,
  ⟨some 26, .call false 19 [.tm 24, .tm 25], some (23, true)⟩,
  ⟨some 27, .mv (.tm 0), some (23, true)⟩,
  ⟨some 28, .mv (.tm 2), some (23, true)⟩,
  ⟨some 29, .call false 20 [.tm 27, .tm 28], some (23, true)⟩,
  ⟨some 30, .call true 18 [.tm 26, .tm 29], some (23, true)⟩,
  ⟨some 31, .pick (.tm 23) (.tm 30) (.c (.bool false)), none⟩,
  ⟨some 32, .mv (.tm 31), none⟩,
  ⟨some 33, .mv (.tm 0), some (32, true)⟩,
  ⟨some 34, .mv (.tm 2), some (32, true)⟩,
  ⟨some 35, .call false 21 [.tm 33, .tm 34], some (32, true)⟩,
  ⟨some 36, .mv (.tm 0), some (32, true)⟩,
  ⟨some 37, .mv (.tm 2), some (32, true)⟩,
  ⟨some 38, .call false 22 [.tm 36, .tm 37], some (32, true)⟩,
  ⟨some 39, .call true 18 [.tm 35, .tm 38], some (32, true)⟩,
  ⟨some 40, .pick (.tm 32) (.tm 39) (.c (.bool false)), none⟩,
  ⟨some 41, .mv (.tm 40), none⟩,
  ⟨some 42, .mv (.tm 0), some (41, true)⟩,
  ⟨some 43, .mv (.tm 1), some (41, true)⟩,
  ⟨some 44, .call false 23 [.tm 42, .tm 43], some (41, true)⟩,
  ⟨some 45, .mv (.tm 0), some (41, true)⟩,
  ⟨some 46, .mv (.tm 1), some (41, true)⟩,
  ⟨some 47, .call false 24 [.tm 45, .tm 46], some (41, true)⟩,
  ⟨some 48, .call true 18 [.tm 44, .tm 47], some (41, true)⟩,
  ⟨some 49, .pick (.tm 41) (.tm 48) (.c (.bool false)), none⟩,
  ⟨some 50, .mv (.tm 49), none⟩,
  ⟨some 51, .call true 11 [], some (50, true)⟩,
  ⟨some 52, .pick (.tm 50) (.tm 51) (.c (.bool false)), none⟩,
  ⟨some 6, .mv (.tm 52), none⟩]
def c6 : AC := (.seq (.region r6_0) (.seq (.seq (.region r6_1) (.cond (.tm 14) (.seq (.region r6_2) .ret) .skip)) (.seq (.region r6_3) .ret)))
theorem e6 : Entry Tryd.prog 6 c6 [.tm 6] 53 := ⟨Tryd.f6, Tryd.func6, by kernel_rfl, by kernel_rfl, by kernel_rfl, by kernel_rfl⟩

/-! ### routing/routinglaw18.CommunityPermits : params [38, 22] results [4] -/
def r7_0 : List SOper := [⟨some 4, .mv (.c (.bool false)), none⟩]
def r7_1 : List SOper := [⟨some 7, .mv (.tm 0), none⟩,
  ⟨some 8, .len false (.tm 7), none⟩,
  ⟨some 9, .bin .gtr (.tm 8) (.c (.int .i64 200)), none⟩,
  ⟨some 10, .mv (.tm 9), none⟩,
  ⟨some 11, .mv (.tm 1), some (10, false)⟩,
  ⟨some 12, .len false (.tm 11), some (10, false)⟩,
  ⟨some 13, .bin .gtr (.tm 12) (.c (.int .i64 600)), some (10, false)⟩,
  ⟨some 14, .pick (.tm 10) (.c (.bool true)) (.tm 13), none⟩]
def r7_2 : List SOper := [⟨some 15, .call true 11 [], none⟩,
  ⟨some 4, .mv (.tm 15), none⟩]
def r7_3 : List SOper := [⟨some 16, .mv (.tm 0), none⟩,
  ⟨some 17, .len false (.tm 16), none⟩,
  ⟨some 18, .mv (.c (.int .i64 0)), none⟩]
def r7_4 : List SOper := [⟨some 19, .bin .lss (.tm 18) (.tm 17), none⟩]
def r7_5 : List SOper := [⟨some 20, .idxA 3 (.tm 16) (.tm 18), none⟩,
  ⟨some 21, .load 3 true (.tm 20), none⟩,
  ⟨some 6, .alloc 40 [.bool false, .int .i64 0, .int .i64 0], none⟩,
  ⟨none, .store 3 (.tm 6) (.tm 21), none⟩]
def r7_6 : List SOper := [⟨some 22, .load 3 true (.tm 6), none⟩,
  ⟨some 23, .mv (.tm 1), none⟩,
  ⟨some 24, .call false 25 [.tm 22, .tm 23], none⟩,
  ⟨some 25, .load 3 true (.tm 6), none⟩,
  ⟨some 26, .mv (.tm 1), none⟩,
  ⟨some 27, .call false 26 [.tm 25, .tm 26], none⟩,
  ⟨some 28, .eqB true (.tm 24) (.tm 27), none⟩]
def r7_7 : List SOper := [⟨some 4, .mv (.c (.bool false)), none⟩]
def r7_8 : List SOper := [⟨some 29, .bin .add (.tm 18) (.c (.int .i64 1)), none⟩,
  ⟨some 18, .mv (.tm 29), none⟩]
def l7_0 : AC := (.seq (.region r7_4) (.seq (.cond (.tm 19) .skip (.exit 0)) (.seq (.block 1 (.seq (.region r7_5) (.seq (.draw 7 r7_6 [[], [], [0, 1], [], [], [3, 4, 2], [2, 5]]) (.cond (.tm 28) (.seq (.region r7_7) .ret) .skip)))) (.region r7_8))))
def r7_9 : List SOper := [⟨some 30, .mv (.tm 0), none⟩,
  ⟨some 31, .mv (.tm 1), none⟩,
  ⟨some 32, .call true 27 [.tm 30, .tm 31], none⟩,
  ⟨some 33, .mv (.tm 0), none⟩,
  ⟨some 34, .mv (.tm 1), none⟩,
  ⟨some 35, .call true 28 [.tm 33, .tm 34], none⟩,
  ⟨some 36, .eqB false (.tm 32) (.tm 35), none⟩,
  ⟨some 37, .mv (.tm 36), none⟩,
  ⟨some 38, .call true 11 [], some (37, true)⟩,
  ⟨some 39, .pick (.tm 37) (.tm 38) (.c (.bool false)), none⟩,
  ⟨some 4, .mv (.tm 39), none⟩]
def c7 : AC := (.seq (.region r7_0) (.seq (.seq (.region r7_1) (.cond (.tm 14) (.seq (.region r7_2) .ret) .skip)) (.seq (.seq (.region r7_3) (.block 0 (.loop l7_0))) (.seq (.region r7_9) .ret))))
theorem e7 : Entry Tryd.prog 7 c7 [.tm 4] 40 := ⟨Tryd.f7, Tryd.func7, by kernel_rfl, by kernel_rfl, by kernel_rfl, by kernel_rfl⟩

/-! ### routing/routinglaw18.CommunitySets : params [22, 22, 43] results [4] -/
def r8_0 : List SOper := [⟨some 5, .box 43 (.tm 2), none⟩,
  ⟨some 6, .mv (.c (.bool false)), none⟩]
def r8_1 : List SOper := [⟨some 12, .idxP 2 1 (.tm 5) (.c (.int .i64 0)), none⟩,
  ⟨some 13, .load 1 false (.tm 12), none⟩,
  ⟨some 14, .idxP 2 1 (.tm 5) (.c (.int .i64 1)), none⟩,
  ⟨some 15, .load 1 false (.tm 14), none⟩,
  ⟨some 7, .mv (.tm 13), none⟩,
  ⟨some 8, .mv (.tm 15), none⟩]
def r8_2 : List SOper := [⟨some 16, .mv (.tm 0), none⟩,
  ⟨some 17, .len false (.tm 16), none⟩,
  ⟨some 18, .mv (.tm 1), none⟩,
  ⟨some 19, .len false (.tm 18), none⟩,
  ⟨some 20, .bin .add (.tm 17) (.tm 19), none⟩,
  ⟨some 21, .bin .geq (.tm 20) (.c (.int .i64 255)), none⟩]
def r8_3 : List SOper := [⟨some 22, .call true 11 [], none⟩,
  ⟨some 6, .mv (.tm 22), none⟩]
def r8_4 : List SOper := [⟨some 23, .mv (.tm 0), none⟩,
  ⟨some 24, .mv (.tm 7), none⟩,
  ⟨some 25, .call false 19 [.tm 23, .tm 24], none⟩,
  ⟨some 26, .mv (.tm 0), none⟩,
  ⟨some 27, .mv (.tm 7), none⟩,
  ⟨some 28, .call false 21 [.tm 26, .tm 27], none⟩,
  ⟨some 29, .mv (.tm 0), none⟩,
  ⟨some 30, .mv (.tm 1), none⟩,
  ⟨some 31, .call false 23 [.tm 29, .tm 30], none⟩,
  ⟨some 9, .mv (.tm 25), none⟩,
  ⟨some 10, .mv (.tm 28), none⟩,
  ⟨some 11, .mv (.tm 31), none⟩]
def r8_5 : List SOper := [⟨some 32, .mv (.tm 9), none⟩,
  ⟨some 33, .call true 9 [.tm 32], none⟩,
  ⟨some 34, .bin .neq (.tm 33) (.c (.int .i64 0)), none⟩,
  ⟨some 35, .mv (.tm 34), none⟩,
  ⟨some 36, .mv (.tm 10), some (35, false)⟩,
  ⟨some 37, .call true 9 [.tm 36], some (35, false)⟩,
  ⟨some 38, .bin .neq (.tm 37) (.c (.int .i64 0)), some (35, false)⟩,
  ⟨some 39, .pick (.tm 35) (.c (.bool true)) (.tm 38), none⟩,
  ⟨some 40, .mv (.tm 39), none⟩,
  ⟨some 41, .mv (.tm 11), some (40, false)⟩,
  ⟨some 42, .call true 9 [.tm 41], some (40, false)⟩,
  ⟨some 43, .bin .neq (.tm 42) (.c (.int .i64 0)), some (40, false)⟩,
  ⟨some 44, .pick (.tm 40) (.c (.bool true)) (.tm 43), none⟩]
def r8_6 : List SOper := [⟨some 6, .mv (.c (.bool false)), none⟩]
def r8_7 : List SOper := [⟨some 45, .mv (.tm 9), none⟩,
  ⟨some 46, .mv (.tm 8), none⟩,
  ⟨some 47, .call true 16 [.tm 45, .tm 46], none⟩,
  ⟨some 48, .mv (.tm 0), none⟩,
  ⟨some 49, .mv (.tm 8), none⟩,
  ⟨some 50, .call true 16 [.tm 48, .tm 49], none⟩,
  ⟨some 51, .mv (.tm 50), none⟩,
  ⟨some 52, .mv (.tm 7), some (51, false)⟩,
  ⟨some 53, .mv (.tm 8), some (51, false)⟩,
  ⟨some 54, .bin .eql (.tm 52) (.tm 53), some (51, false)⟩,
  ⟨some 55, .pick (.tm 51) (.c (.bool true)) (.tm 54), none⟩,
  ⟨some 56, .eqB true (.tm 47) (.tm 55), none⟩,
  ⟨some 57, .mv (.tm 56), none⟩,
  ⟨some 58, .mv (.tm 10), some (57, false)⟩,
  ⟨some 59, .mv (.tm 8), some (57, false)⟩,
  ⟨some 60, .call true 16 [.tm 58, .tm 59], some (57, false)⟩,
  ⟨some 61, .mv (.tm 0), some (57, false)⟩,
  ⟨some 62, .mv (.tm 8), some (57, false)⟩,
  ⟨some 63, .call true 16 [.tm 61, .tm 62], some (57, false)⟩,
  ⟨some 64, .mv (.tm 63), some (57, false)⟩,
  ⟨some 65, .mv (.tm 7), some (64, true)⟩,
  ⟨some 66, .mv (.tm 8), some (64, true)⟩,
  ⟨some 67, .bin .neq (.tm 65) (.tm 66), some (64, true)⟩,
  ⟨some 68, .pick (.tm 64) (.tm 67) (.c (.bool false)), some (57, false)⟩,
  ⟨some 69, .eqB true (.tm 60) (.tm 68), some (57, false)⟩,
  ⟨some 70, .pick (.tm 57) (.c (.bool true)) (.tm 69), none⟩,
  ⟨some 71, .mv (.tm 70), none⟩,
  ⟨some 72, .mv (.tm 11), some (71, false)⟩,
  ⟨some 73, .mv (.tm 8), some (71, false)⟩,
  ⟨some 74, .call true 16 [.tm 72, .tm 73], some (71, false)⟩,
  ⟨some 75, .mv (.tm 0), some (71, false)⟩,
  ⟨some 76, .mv (.tm 8), some (71, false)⟩,
  ⟨some 77, .call true 16 [.tm 75, .tm 76], some (71, false)⟩,
  ⟨some 78, .mv (.tm 77), some (71, false)⟩,
  ⟨some 79, .mv (.tm 1), some (78, false)⟩,
  ⟨some 80, .mv (.tm 8), some (78, false)⟩,
  ⟨some 81, .call true 16 [.tm 79, .tm 80], some (78, false)⟩,
  ⟨some 82, .pick (.tm 78) (.c (.bool true)) (.tm 81), some (71, false)⟩,
  ⟨some 83, .eqB true (.tm 74) (.tm 82), some (71, false)⟩,
  ⟨some 84, .pick (.tm 71) (.c (.bool true)) (.tm 83), none⟩]
def r8_8 : List SOper := [⟨some 6, .mv (.c (.bool false)), none⟩]
def r8_9 : List SOper := [⟨some 85, .mv (.tm 11), none⟩,
  ⟨some 86, .mv (.tm 1), none⟩,
  ⟨some 87, .mv (.tm 0), none⟩,
  ⟨some 88, .call false 23 [.tm 86, .tm 87], none⟩,
  ⟨some 89, .call true 18 [.tm 85, .tm 88], none⟩,
  ⟨some 90, .mv (.tm 89), none⟩,
  ⟨some 91, .mv (.tm 9), some (90, true)⟩,
  ⟨some 92, .mv (.tm 7), some (90, true)⟩,
  ⟨some 93, .call false 21 [.tm 91, .tm 92], some (90, true)⟩,
  ⟨some 94, .mv (.tm 10), some (90, true)⟩,
  ⟨some 95, .call true 18 [.tm 93, .tm 94], some (90, true)⟩,
  ⟨some 96, .pick (.tm 90) (.tm 95) (.c (.bool false)), none⟩,
  ⟨some 97, .mv (.tm 96), none⟩,
  ⟨some 98, .call true 11 [], some (97, true)⟩,
  ⟨some 99, .pick (.tm 97) (.tm 98) (.c (.bool false)), none⟩,
  ⟨some 6, .mv (.tm 99), none⟩]
def c8 : AC := (.seq (.region r8_0) (.seq (.draw 6 r8_1 [[], [0], [], [2], [1, 0, 1], [3, 4, 0, 1, 2, 3, 4]]) (.seq (.seq (.region r8_2) (.cond (.tm 21) (.seq (.region r8_3) .ret) .skip)) (.seq (.region r8_4) (.seq (.seq (.region r8_5) (.cond (.tm 44) (.seq (.region r8_6) .ret) .skip)) (.seq (.seq (.region r8_7) (.cond (.tm 84) (.seq (.region r8_8) .ret) .skip)) (.seq (.region r8_9) .ret)))))))
theorem e8 : Entry Tryd.prog 8 c8 [.tm 6] 100 := ⟨Tryd.f8, Tryd.func8, by kernel_rfl, by kernel_rfl, by kernel_rfl, by kernel_rfl⟩

/-! ### routing/community.Check : params [22] results [23] -/
def r9_0 : List SOper := [⟨some 2, .mv (.c (.int .i64 0)), none⟩]
def r9_1 : List SOper := [⟨some 4, .mv (.tm 0), none⟩,
  ⟨some 5, .len false (.tm 4), none⟩,
  ⟨some 6, .bin .gtr (.tm 5) (.c (.int .i64 255)), none⟩]
def r9_2 : List SOper := [⟨some 2, .mv (.c (.int .i64 4)), none⟩]
def r9_3 : List SOper := [⟨some 7, .mv (.tm 0), none⟩,
  ⟨some 8, .len false (.tm 7), none⟩,
  ⟨some 9, .mv (.c (.int .i64 0)), none⟩]
def r9_4 : List SOper := [⟨some 10, .bin .lss (.tm 9) (.tm 8), none⟩]
def r9_5 : List SOper := [⟨some 11, .mv (.tm 9), none⟩,
  ⟨some 3, .mv (.tm 11), none⟩]
def r9_6 : List SOper := [⟨some 12, .mv (.tm 3), none⟩,
  ⟨some 13, .bin .gtr (.tm 12) (.c (.int .i64 0)), none⟩,
  ⟨some 14, .mv (.tm 13), none⟩,
  ⟨some 15, .mv (.tm 0), some (14, true)⟩,
  ⟨some 16, .mv (.tm 3), some (14, true)⟩,
  ⟨some 17, .idxA 1 (.tm 15) (.tm 16), some (14, true)⟩,
  ⟨some 18, .load 1 false (.tm 17), some (14, true)⟩,
  ⟨some 19, .mv (.tm 0), some (14, true)⟩,
  ⟨some 20, .mv (.tm 3), some (14, true)⟩,
  ⟨some 21, .bin .sub (.tm 20) (.c (.int .i64 1)), some (14, true)⟩,
  ⟨some 22, .idxA 1 (.tm 19) (.tm 21), some (14, true)⟩,
  ⟨some 23, .load 1 false (.tm 22), some (14, true)⟩,
  ⟨some 24, .bin .leq (.tm 18) (.tm 23), some (14, true)⟩,
  ⟨some 25, .pick (.tm 14) (.tm 24) (.c (.bool false)), none⟩]
def r9_7 : List SOper := [⟨some 2, .mv (.c (.int .i64 16)), none⟩]
def r9_8 : List SOper := [⟨some 26, .bin .add (.tm 9) (.c (.int .i64 1)), none⟩,
  ⟨some 9, .mv (.tm 26), none⟩]
def l9_0 : AC := (.seq (.region r9_4) (.seq (.cond (.tm 10) .skip (.exit 0)) (.seq (.block 1 (.seq (.region r9_5) (.seq (.draw 14 r9_6 [[], [0], [1], [2], [2], [3, 4, 2], [5, 2], [2], [2], [8, 2], [7, 9, 2], [10, 2], [6, 11, 2], [2, 12]]) (.cond (.tm 25) (.seq (.region r9_7) .ret) .skip)))) (.region r9_8))))
def r9_9 : List SOper := [⟨some 2, .mv (.c (.int .i64 0)), none⟩]
def c9 : AC := (.seq (.region r9_0) (.seq (.seq (.region r9_1) (.cond (.tm 6) (.seq (.region r9_2) .ret) .skip)) (.seq (.seq (.region r9_3) (.block 0 (.loop l9_0))) (.seq (.region r9_9) .ret))))
theorem e9 : Entry Tryd.prog 9 c9 [.tm 2] 27 := ⟨Tryd.f9, Tryd.func9, by kernel_rfl, by kernel_rfl, by kernel_rfl, by kernel_rfl⟩

/-! ### routing/routingref18.Check : params [22] results [23] -/
def r10_0 : List SOper := [⟨some 2, .mv (.c (.int .i64 0)), none⟩]
def r10_1 : List SOper := [⟨some 4, .mv (.tm 0), none⟩,
  ⟨some 5, .len false (.tm 4), none⟩,
  ⟨some 6, .bin .gtr (.tm 5) (.c (.int .i64 255)), none⟩]
def r10_2 : List SOper := [⟨some 2, .mv (.c (.int .i64 4)), none⟩]
def r10_3 : List SOper := [⟨some 3, .mv (.c (.int .i64 1)), none⟩]
def r10_4 : List SOper := [⟨some 7, .mv (.tm 3), none⟩,
  ⟨some 8, .mv (.tm 0), none⟩,
  ⟨some 9, .len false (.tm 8), none⟩,
  ⟨some 10, .bin .lss (.tm 7) (.tm 9), none⟩]
def r10_5 : List SOper := [⟨some 13, .mv (.tm 0), none⟩,
  ⟨some 14, .mv (.tm 3), none⟩,
  ⟨some 15, .idxA 1 (.tm 13) (.tm 14), none⟩,
  ⟨some 16, .load 1 false (.tm 15), none⟩,
  ⟨some 17, .mv (.tm 0), none⟩,
  ⟨some 18, .mv (.tm 3), none⟩,
  ⟨some 19, .bin .sub (.tm 18) (.c (.int .i64 1)), none⟩,
  ⟨some 20, .idxA 1 (.tm 17) (.tm 19), none⟩,
  ⟨some 21, .load 1 false (.tm 20), none⟩,
  ⟨some 22, .bin .leq (.tm 16) (.tm 21), none⟩]
def r10_6 : List SOper := [⟨some 2, .mv (.c (.int .i64 16)), none⟩]
def r10_7 : List SOper := [⟨some 11, .mv (.tm 3), none⟩,
  ⟨some 12, .bin .add (.tm 11) (.c (.int .i64 1)), none⟩,
  ⟨some 3, .mv (.tm 12), none⟩]
def l10_0 : AC := (.seq (.seq (.region r10_4) (.cond (.tm 10) .skip (.exit 0))) (.seq (.block 1 (.seq (.draw 10 r10_5 [[], [], [0, 1], [2], [], [], [5], [4, 6], [7], [3, 8]]) (.cond (.tm 22) (.seq (.region r10_6) .ret) .skip))) (.region r10_7)))
def r10_8 : List SOper := [⟨some 2, .mv (.c (.int .i64 0)), none⟩]
def c10 : AC := (.seq (.region r10_0) (.seq (.seq (.region r10_1) (.cond (.tm 6) (.seq (.region r10_2) .ret) .skip)) (.seq (.seq (.region r10_3) (.block 0 (.loop l10_0))) (.seq (.region r10_8) .ret))))
theorem e10 : Entry Tryd.prog 10 c10 [.tm 2] 23 := ⟨Tryd.f10, Tryd.func10, by kernel_rfl, by kernel_rfl, by kernel_rfl, by kernel_rfl⟩

/-! ### routing/routinglaw18.awake : params [] results [4] -/
def r11_0 : List SOper := [⟨some 0, .mv (.c (.bool false)), none⟩]
def r11_1 : List SOper := [⟨some 10, .call true 13 [.c (.string ⟨#[54, 53, 48, 48, 48, 58, 49, 48, 48]⟩)], none⟩,
  ⟨some 9, .mv (.tm 10), none⟩,
  ⟨some 11, .ext (.tm 9) 0, none⟩,
  ⟨some 12, .ext (.tm 9) 1, none⟩,
  ⟨some 1, .mv (.tm 11), none⟩,
  ⟨some 2, .mv (.tm 12), none⟩]
def r11_2 : List SOper := [⟨some 14, .call true 13 [.c (.string ⟨#[54, 53, 53, 51, 53, 58, 54, 53, 50, 56, 49]⟩)], none⟩,
  ⟨some 13, .mv (.tm 14), none⟩,
  ⟨some 15, .ext (.tm 13) 0, none⟩,
  ⟨some 16, .ext (.tm 13) 1, none⟩,
  ⟨some 3, .mv (.tm 15), none⟩,
  ⟨some 4, .mv (.tm 16), none⟩]
def r11_3 : List SOper := [⟨some 18, .call true 13 [.c (.string ⟨#[110, 111, 45, 101, 120, 112, 111, 114, 116]⟩)], none⟩,
  ⟨some 17, .mv (.tm 18), none⟩,
  ⟨some 19, .ext (.tm 17) 0, none⟩,
  ⟨some 20, .ext (.tm 17) 1, none⟩,
  ⟨some 5, .mv (.tm 19), none⟩,
  ⟨some 6, .mv (.tm 20), none⟩]
def r11_4 : List SOper := [⟨some 21, .bslice false 27 1 2 [.c (.int .u32 5), .c (.int .u32 3)], none⟩,
  ⟨some 22, .call false 19 [.tm 21, .c (.int .u32 4)], none⟩,
  ⟨some 7, .mv (.tm 22), none⟩]
def r11_5 : List SOper := [⟨some 23, .mv (.tm 2), none⟩,
  ⟨some 24, .bin .neq (.tm 23) (.c (.int .i64 0)), none⟩,
  ⟨some 25, .mv (.tm 24), none⟩,
  ⟨some 26, .mv (.tm 1), some (25, false)⟩,
  ⟨some 27, .bin .neq (.tm 26) (.c (.int .u32 4259840100)), some (25, false)⟩,
  ⟨some 28, .pick (.tm 25) (.c (.bool true)) (.tm 27), none⟩,
  ⟨some 29, .mv (.tm 28), none⟩,
  ⟨some 30, .mv (.tm 4), some (29, false)⟩,
  ⟨some 31, .bin .neq (.tm 30) (.c (.int .i64 2)), some (29, false)⟩,
  ⟨some 32, .pick (.tm 29) (.c (.bool true)) (.tm 31), none⟩,
  ⟨some 33, .mv (.tm 32), none⟩,
  ⟨some 34, .mv (.tm 6), some (33, false)⟩,
  ⟨some 35, .bin .neq (.tm 34) (.c (.int .i64 0)), some (33, false)⟩,
  ⟨some 36, .pick (.tm 33) (.c (.bool true)) (.tm 35), none⟩,
  ⟨some 37, .mv (.tm 36), none⟩,
  ⟨some 38, .mv (.tm 5), some (37, false)⟩,
  ⟨some 39, .bin .neq (.tm 38) (.c (.int .u32 4294967041)), some (37, false)⟩,
  ⟨some 40, .pick (.tm 37) (.c (.bool true)) (.tm 39), none⟩,
  ⟨some 41, .mv (.tm 40), none⟩,
  ⟨some 42, .mv (.tm 7), some (41, false)⟩,
  ⟨some 43, .len false (.tm 42), some (41, false)⟩,
  ⟨some 44, .bin .neq (.tm 43) (.c (.int .i64 3)), some (41, false)⟩,
  ⟨some 45, .pick (.tm 41) (.c (.bool true)) (.tm 44), none⟩,
  ⟨some 46, .mv (.tm 45), none⟩,
  ⟨some 47, .mv (.tm 7), some (46, false)⟩,
  ⟨some 48, .idxA 1 (.tm 47) (.c (.int .i64 1)), some (46, false)⟩,
  ⟨some 49, .load 1 false (.tm 48), some (46, false)⟩,
  ⟨some 50, .bin .neq (.tm 49) (.c (.int .u32 4)), some (46, false)⟩,
  ⟨some 51, .pick (.tm 46) (.c (.bool true)) (.tm 50), none⟩,
  ⟨some 52, .mv (.tm 51), none⟩,
  ⟨some 53, .mv (.tm 1), some (52, false)⟩,
  ⟨some 54, .call true 12 [.tm 53], some (52, false)⟩,
  ⟨some 55, .bin .neq (.tm 54) (.c (.string ⟨#[54, 53, 48, 48, 48, 58, 49, 48, 48]⟩)), some (52, false)⟩,
  ⟨some 56, .pick (.tm 52) (.c (.bool true)) (.tm 55), none⟩]
def r11_6 : List SOper := [⟨some 0, .mv (.c (.bool false)), none⟩]
def r11_7 : List SOper := [⟨some 57, .build [.bool false, .int .i64 0, .int .i64 0] [(0, 1, .c (.bool true)), (1, 1, .c (.int .i64 65000)), (2, 1, .c (.int .i64 (-1)))], none⟩,
  ⟨some 8, .alloc 40 [.bool false, .int .i64 0, .int .i64 0], none⟩,
  ⟨none, .store 3 (.tm 8) (.tm 57), none⟩]
def r11_8 : List SOper := [⟨some 58, .mv (.tm 7), none⟩,
  ⟨some 59, .call true 9 [.tm 58], none⟩,
  ⟨some 60, .bin .eql (.tm 59) (.c (.int .i64 0)), none⟩,
  ⟨some 61, .mv (.tm 60), none⟩,
  ⟨some 62, .bslice false 27 1 2 [.c (.int .u32 2), .c (.int .u32 1)], some (61, true)⟩,
  ⟨some 63, .call true 9 [.tm 62], some (61, true)⟩,
  ⟨some 64, .bin .eql (.tm 63) (.c (.int .i64 16)), some (61, true)⟩,
  ⟨some 65, .pick (.tm 61) (.tm 64) (.c (.bool false)), none⟩,
  ⟨some 66, .mv (.tm 65), none⟩,
  ⟨some 67, .mv (.tm 7), some (66, true)⟩,
  ⟨some 68, .call true 16 [.tm 67, .c (.int .u32 5)], some (66, true)⟩,
  ⟨some 69, .pick (.tm 66) (.tm 68) (.c (.bool false)), none⟩,
  ⟨some 70, .mv (.tm 69), none⟩,
  ⟨some 71, .mv (.tm 7), some (70, true)⟩,
  ⟨some 72, .call false 21 [.tm 71, .c (.int .u32 4)], some (70, true)⟩,
  ⟨some 73, .len false (.tm 72), some (70, true)⟩,
  ⟨some 74, .bin .eql (.tm 73) (.c (.int .i64 2)), some (70, true)⟩,
  ⟨some 75, .pick (.tm 70) (.tm 74) (.c (.bool false)), none⟩,
  ⟨some 76, .mv (.tm 75), none⟩,
  ⟨some 77, .mv (.tm 7), some (76, true)⟩,
  ⟨some 78, .bslice false 27 1 1 [.c (.int .u32 9)], some (76, true)⟩,
  ⟨some 79, .call false 23 [.tm 77, .tm 78], some (76, true)⟩,
  ⟨some 80, .len false (.tm 79), some (76, true)⟩,
  ⟨some 81, .bin .eql (.tm 80) (.c (.int .i64 4)), some (76, true)⟩,
  ⟨some 82, .pick (.tm 76) (.tm 81) (.c (.bool false)), none⟩,
  ⟨some 83, .mv (.tm 82), none⟩,
  ⟨some 84, .load 3 true (.tm 8), some (83, true)⟩,
  ⟨some 85, .mv (.tm 1), some (83, true)⟩,
  ⟨some 86, .bslice false 27 1 1 [.tm 85], some (83, true)⟩,
  ⟨some 87, .call true 25 [.tm 84, .tm 86], some (83, true)⟩,
  ⟨some 88, .pick (.tm 83) (.tm 87) (.c (.bool false)), none⟩,
  ⟨some 89, .mv (.tm 88), none⟩,
  ⟨some 90, .load 3 true (.tm 8), some (89, true)⟩,
  ⟨some 91, .bslice false 40 3 1 [.tm 90], some (89, true)⟩,
  ⟨some 92, .mv (.tm 1), some (89, true)⟩,
  ⟨some 93, .bslice false 27 1 1 [.tm 92], some (89, true)⟩,
  ⟨some 94, .call true 27 [.tm 91, .tm 93], some (89, true)⟩,
  ⟨some 95, .pick (.tm 89) (.tm 94) (.c (.bool false)), none⟩,
  ⟨some 96, .mv (.tm 95), none⟩,
  ⟨some 97, .mv (.tm 7), some (96, true)⟩,
  ⟨some 98, .call true 27 [.c (.slice none 0 0), .tm 97], some (96, true)⟩,
  ⟨some 99, .un .not (.tm 98), some (96, true)⟩,
  ⟨some 100, .pick (.tm 96) (.tm 99) (.c (.bool false)), none⟩,
  ⟨some 0, .mv (.tm 100), none⟩]
def c11 : AC := (.seq (.region r11_0) (.seq (.region r11_1) (.seq (.region r11_2) (.seq (.region r11_3) (.seq (.region r11_4) (.seq (.seq (.region r11_5) (.cond (.tm 56) (.seq (.region r11_6) .ret) .skip)) (.seq (.region r11_7) (.seq (.region r11_8) .ret))))))))
theorem e11 : Entry Tryd.prog 11 c11 [.tm 0] 101 := ⟨Tryd.f11, Tryd.func11, by kernel_rfl, by kernel_rfl, by kernel_rfl, by kernel_rfl⟩

/-! ### routing/community.Text : params [27] results [9] -/
def r12_0 : List SOper := [⟨some 2, .mv (.c (.string ⟨#[]⟩)), none⟩]
def r12_1 : List SOper := [⟨some 8, .call false 29 [], none⟩,
  ⟨some 7, .mv (.tm 8), none⟩,
  ⟨some 9, .ext (.tm 7) 0, none⟩,
  ⟨some 10, .ext (.tm 7) 1, none⟩,
  ⟨some 3, .alloc 45 [.int .u32 0, .int .u32 0, .int .u32 0, .int .u32 0], none⟩,
  ⟨some 4, .alloc 46 [.string ⟨#[]⟩, .string ⟨#[]⟩, .string ⟨#[]⟩, .string ⟨#[]⟩], none⟩,
  ⟨none, .store 4 (.tm 3) (.tm 9), none⟩,
  ⟨none, .store 4 (.tm 4) (.tm 10), none⟩]
def r12_2 : List SOper := [⟨some 11, .load 4 true (.tm 3), none⟩,
  ⟨some 12, .mv (.c (.int .i64 0)), none⟩]
def r12_3 : List SOper := [⟨some 13, .bin .lss (.tm 12) (.c (.int .i64 4)), none⟩]
def r12_4 : List SOper := [⟨some 14, .mv (.tm 12), none⟩,
  ⟨some 15, .idxV 4 1 false (.tm 11) (.tm 12), none⟩,
  ⟨some 5, .mv (.tm 14), none⟩,
  ⟨some 6, .mv (.tm 15), none⟩]
def r12_5 : List SOper := [⟨some 16, .mv (.tm 0), none⟩,
  ⟨some 17, .mv (.tm 6), none⟩,
  ⟨some 18, .bin .eql (.tm 16) (.tm 17), none⟩]
def r12_6 : List SOper := [⟨some 19, .mv (.tm 5), none⟩,
  ⟨some 20, .idxP 4 1 (.tm 4) (.tm 19), none⟩,
  ⟨some 21, .load 1 false (.tm 20), none⟩,
  ⟨some 2, .mv (.tm 21), none⟩]
def r12_7 : List SOper := [⟨some 22, .bin .add (.tm 12) (.c (.int .i64 1)), none⟩,
  ⟨some 12, .mv (.tm 22), none⟩]
def l12_0 : AC := (.seq (.region r12_3) (.seq (.cond (.tm 13) .skip (.exit 0)) (.seq (.block 1 (.seq (.region r12_4) (.seq (.region r12_5) (.cond (.tm 18) (.seq (.region r12_6) .ret) .skip)))) (.region r12_7))))
def r12_8 : List SOper := [⟨some 23, .mv (.tm 0), none⟩,
  ⟨some 24, .bin .shr (.tm 23) (.c (.int .u64 16)), none⟩,
  ⟨some 25, .cvtI .i64 (.tm 24), none⟩,
  ⟨some 26, .call true 30 [.tm 25], none⟩,
  ⟨some 27, .bin .add (.tm 26) (.c (.string ⟨#[58]⟩)), none⟩,
  ⟨some 28, .mv (.tm 0), none⟩,
  ⟨some 29, .bin .and (.tm 28) (.c (.int .u32 65535)), none⟩,
  ⟨some 30, .cvtI .i64 (.tm 29), none⟩,
  ⟨some 31, .call true 30 [.tm 30], none⟩,
  ⟨some 32, .bin .add (.tm 27) (.tm 31), none⟩,
  ⟨some 2, .mv (.tm 32), none⟩]
def c12 : AC := (.seq (.region r12_0) (.seq (.region r12_1) (.seq (.seq (.region r12_2) (.block 0 (.loop l12_0))) (.seq (.region r12_8) .ret))))
theorem e12 : Entry Tryd.prog 12 c12 [.tm 2] 33 := ⟨Tryd.f12, Tryd.func12, by kernel_rfl, by kernel_rfl, by kernel_rfl, by kernel_rfl⟩

/-! ### routing/community.Parse : params [9] results [27, 23] -/
def r13_0 : List SOper := [⟨some 2, .mv (.c (.int .u32 0)), none⟩,
  ⟨some 3, .mv (.c (.int .i64 0)), none⟩]
def r13_1 : List SOper := [⟨some 15, .call false 29 [], none⟩,
  ⟨some 14, .mv (.tm 15), none⟩,
  ⟨some 16, .ext (.tm 14) 0, none⟩,
  ⟨some 17, .ext (.tm 14) 1, none⟩,
  ⟨some 4, .alloc 45 [.int .u32 0, .int .u32 0, .int .u32 0, .int .u32 0], none⟩,
  ⟨some 5, .alloc 46 [.string ⟨#[]⟩, .string ⟨#[]⟩, .string ⟨#[]⟩, .string ⟨#[]⟩], none⟩,
  ⟨none, .store 4 (.tm 4) (.tm 16), none⟩,
  ⟨none, .store 4 (.tm 5) (.tm 17), none⟩]
def r13_2 : List SOper := [⟨some 18, .load 4 true (.tm 5), none⟩,
  ⟨some 19, .mv (.c (.int .i64 0)), none⟩]
def r13_3 : List SOper := [⟨some 20, .bin .lss (.tm 19) (.c (.int .i64 4)), none⟩]
def r13_4 : List SOper := [⟨some 21, .mv (.tm 19), none⟩,
  ⟨some 22, .idxV 4 1 false (.tm 18) (.tm 19), none⟩,
  ⟨some 6, .mv (.tm 21), none⟩,
  ⟨some 7, .mv (.tm 22), none⟩]
def r13_5 : List SOper := [⟨some 23, .mv (.tm 0), none⟩,
  ⟨some 24, .mv (.tm 7), none⟩,
  ⟨some 25, .bin .eql (.tm 23) (.tm 24), none⟩]
def r13_6 : List SOper := [⟨some 26, .mv (.tm 6), none⟩,
  ⟨some 27, .idxP 4 1 (.tm 4) (.tm 26), none⟩,
  ⟨some 28, .load 1 false (.tm 27), none⟩,
  ⟨some 2, .mv (.tm 28), none⟩,
  ⟨some 3, .mv (.c (.int .i64 0)), none⟩]
def r13_7 : List SOper := [⟨some 29, .bin .add (.tm 19) (.c (.int .i64 1)), none⟩,
  ⟨some 19, .mv (.tm 29), none⟩]
def l13_0 : AC := (.seq (.region r13_3) (.seq (.cond (.tm 20) .skip (.exit 0)) (.seq (.block 1 (.seq (.region r13_4) (.seq (.region r13_5) (.cond (.tm 25) (.seq (.region r13_6) .ret) .skip)))) (.region r13_7))))
def r13_8 : List SOper := [⟨some 30, .mv (.tm 0), none⟩,
  ⟨some 31, .len true (.tm 30), none⟩,
  ⟨some 32, .mv (.c (.int .i64 0)), none⟩]
def r13_9 : List SOper := [⟨some 33, .bin .lss (.tm 32) (.tm 31), none⟩]
def r13_10 : List SOper := [⟨some 34, .mv (.tm 32), none⟩,
  ⟨some 8, .mv (.tm 34), none⟩]
def r13_11 : List SOper := [⟨some 35, .mv (.tm 0), none⟩,
  ⟨some 36, .mv (.tm 8), none⟩,
  ⟨some 37, .idxS (.tm 35) (.tm 36), none⟩,
  ⟨some 38, .bin .neq (.tm 37) (.c (.int .u8 58)), none⟩]
def r13_12 : List SOper := [⟨some 40, .mv (.tm 0), none⟩,
  ⟨some 41, .mv (.tm 8), none⟩,
  ⟨some 42, .slcS (.tm 40) none (some (.tm 41)), none⟩,
  ⟨some 43, .call true 31 [.tm 42, .c (.int .i64 65535)], none⟩,
  ⟨some 39, .mv (.tm 43), none⟩,
  ⟨some 44, .ext (.tm 39) 0, none⟩,
  ⟨some 45, .ext (.tm 39) 1, none⟩,
  ⟨some 9, .mv (.tm 44), none⟩,
  ⟨some 10, .mv (.tm 45), none⟩]
def r13_13 : List SOper := [⟨some 47, .mv (.tm 0), none⟩,
  ⟨some 48, .mv (.tm 8), none⟩,
  ⟨some 49, .bin .add (.tm 48) (.c (.int .i64 1)), none⟩,
  ⟨some 50, .slcS (.tm 47) (some (.tm 49)) none, none⟩,
  ⟨some 51, .call true 31 [.tm 50, .c (.int .i64 65535)], none⟩,
  ⟨some 46, .mv (.tm 51), none⟩,
  ⟨some 52, .ext (.tm 46) 0, none⟩,
  ⟨some 53, .ext (.tm 46) 1, none⟩,
  ⟨some 11, .mv (.tm 52), none⟩,
  ⟨some 12, .mv (.tm 53), none⟩]
def r13_14 : List SOper := [⟨some 54, .mv (.tm 9), none⟩,
  ⟨some 55, .cvtI .u32 (.tm 54), none⟩,
  ⟨some 56, .bin .shl (.tm 55) (.c (.int .u64 16)), none⟩,
  ⟨some 57, .mv (.tm 11), none⟩,
  ⟨some 58, .cvtI .u32 (.tm 57), none⟩,
  ⟨some 59, .bin .or (.tm 56) (.tm 58), none⟩,
  ⟨some 13, .mv (.tm 59), none⟩]
def r13_15 : List SOper := [⟨some 60, .mv (.tm 10), none⟩,
  ⟨some 61, .bin .neq (.tm 60) (.c (.int .i64 0)), none⟩,
  ⟨some 62, .mv (.tm 61), none⟩,
  ⟨some 63, .mv (.tm 12), some (62, false)⟩,
  ⟨some 64, .bin .neq (.tm 63) (.c (.int .i64 0)), some (62, false)⟩,
  ⟨some 65, .pick (.tm 62) (.c (.bool true)) (.tm 64), none⟩,
  ⟨some 66, .mv (.tm 65), none⟩,
  ⟨some 67, .mv (.tm 13), some (66, false)⟩,
  ⟨some 68, .call true 12 [.tm 67], some (66, false)⟩,
  ⟨some 69, .mv (.tm 0), some (66, false)⟩,
  ⟨some 70, .bin .neq (.tm 68) (.tm 69), some (66, false)⟩,
  ⟨some 71, .pick (.tm 66) (.c (.bool true)) (.tm 70), none⟩]
def r13_16 : List SOper := [⟨some 2, .mv (.c (.int .u32 0)), none⟩,
  ⟨some 3, .mv (.c (.int .i64 2)), none⟩]
def r13_17 : List SOper := [⟨some 72, .mv (.tm 13), none⟩,
  ⟨some 2, .mv (.tm 72), none⟩,
  ⟨some 3, .mv (.c (.int .i64 0)), none⟩]
def r13_18 : List SOper := [⟨some 73, .bin .add (.tm 32) (.c (.int .i64 1)), none⟩,
  ⟨some 32, .mv (.tm 73), none⟩]
def l13_1 : AC := (.seq (.region r13_9) (.seq (.cond (.tm 33) .skip (.exit 2)) (.seq (.block 3 (.seq (.region r13_10) (.seq (.seq (.region r13_11) (.cond (.tm 38) (.exit 3) .skip)) (.seq (.region r13_12) (.seq (.region r13_13) (.seq (.region r13_14) (.seq (.seq (.region r13_15) (.cond (.tm 71) (.seq (.region r13_16) .ret) .skip)) (.seq (.region r13_17) .ret)))))))) (.region r13_18))))
def r13_19 : List SOper := [⟨some 2, .mv (.c (.int .u32 0)), none⟩,
  ⟨some 3, .mv (.c (.int .i64 2)), none⟩]
def c13 : AC := (.seq (.region r13_0) (.seq (.region r13_1) (.seq (.seq (.region r13_2) (.block 0 (.loop l13_0))) (.seq (.seq (.region r13_8) (.block 2 (.loop l13_1))) (.seq (.region r13_19) .ret)))))
theorem e13 : Entry Tryd.prog 13 c13 [.tm 2, .tm 3] 74 := ⟨Tryd.f13, Tryd.func13, by kernel_rfl, by kernel_rfl, by kernel_rfl, by kernel_rfl⟩

/-! ### routing/routingref18.Text : params [27] results [9] -/
def r14_0 : List SOper := [⟨some 2, .mv (.c (.string ⟨#[]⟩)), none⟩]
def r14_1 : List SOper := [⟨some 3, .mv (.tm 0), none⟩]
def r14_2 : List SOper := [⟨some 5, .bin .eql (.tm 3) (.c (.int .u32 4294901760)), none⟩,
  ⟨some 4, .mv (.tm 5), none⟩]
def r14_3 : List SOper := [⟨some 2, .mv (.c (.string ⟨#[103, 114, 97, 99, 101, 102, 117, 108, 45, 115, 104, 117, 116, 100, 111, 119, 110]⟩)), none⟩]
def r14_4 : List SOper := [⟨some 7, .bin .eql (.tm 3) (.c (.int .u32 4294967041)), none⟩,
  ⟨some 6, .mv (.tm 7), none⟩]
def r14_5 : List SOper := [⟨some 2, .mv (.c (.string ⟨#[110, 111, 45, 101, 120, 112, 111, 114, 116]⟩)), none⟩]
def r14_6 : List SOper := [⟨some 9, .bin .eql (.tm 3) (.c (.int .u32 4294967042)), none⟩,
  ⟨some 8, .mv (.tm 9), none⟩]
def r14_7 : List SOper := [⟨some 2, .mv (.c (.string ⟨#[110, 111, 45, 97, 100, 118, 101, 114, 116, 105, 115, 101]⟩)), none⟩]
def r14_8 : List SOper := [⟨some 11, .bin .eql (.tm 3) (.c (.int .u32 4294967043)), none⟩,
  ⟨some 10, .mv (.tm 11), none⟩]
def r14_9 : List SOper := [⟨some 2, .mv (.c (.string ⟨#[110, 111, 45, 101, 120, 112, 111, 114, 116, 45, 99, 111, 110, 102, 101, 100]⟩)), none⟩]
def r14_10 : List SOper := [⟨some 12, .mv (.tm 0), none⟩,
  ⟨some 13, .bin .shr (.tm 12) (.c (.int .u64 16)), none⟩,
  ⟨some 14, .cvtI .i64 (.tm 13), none⟩,
  ⟨some 15, .call true 32 [.tm 14], none⟩,
  ⟨some 16, .bin .add (.tm 15) (.c (.string ⟨#[58]⟩)), none⟩,
  ⟨some 17, .mv (.tm 0), none⟩,
  ⟨some 18, .bin .and (.tm 17) (.c (.int .u32 65535)), none⟩,
  ⟨some 19, .cvtI .i64 (.tm 18), none⟩,
  ⟨some 20, .call true 32 [.tm 19], none⟩,
  ⟨some 21, .bin .add (.tm 16) (.tm 20), none⟩,
  ⟨some 2, .mv (.tm 21), none⟩]
def c14 : AC := (.seq (.region r14_0) (.seq (.seq (.region r14_1) (.block 0 (.seq (.region r14_2) (.cond (.tm 4) (.seq (.region r14_3) .ret) (.seq (.region r14_4) (.cond (.tm 6) (.seq (.region r14_5) .ret) (.seq (.region r14_6) (.cond (.tm 8) (.seq (.region r14_7) .ret) (.seq (.region r14_8) (.cond (.tm 10) (.seq (.region r14_9) .ret) .skip)))))))))) (.seq (.region r14_10) .ret)))
theorem e14 : Entry Tryd.prog 14 c14 [.tm 2] 22 := ⟨Tryd.f14, Tryd.func14, by kernel_rfl, by kernel_rfl, by kernel_rfl, by kernel_rfl⟩

/-! ### routing/routingref18.Parse : params [9] results [27, 23] -/
def r15_0 : List SOper := [⟨some 2, .mv (.c (.int .u32 0)), none⟩,
  ⟨some 3, .mv (.c (.int .i64 0)), none⟩]
def r15_1 : List SOper := [⟨some 10, .bslice false 27 1 4 [.c (.int .u32 4294901760), .c (.int .u32 4294967041), .c (.int .u32 4294967042), .c (.int .u32 4294967043)], none⟩,
  ⟨some 11, .len false (.tm 10), none⟩,
  ⟨some 12, .mv (.c (.int .i64 0)), none⟩]
def r15_2 : List SOper := [⟨some 13, .bin .lss (.tm 12) (.tm 11), none⟩]
def r15_3 : List SOper := [⟨some 14, .idxA 1 (.tm 10) (.tm 12), none⟩,
  ⟨some 15, .load 1 false (.tm 14), none⟩,
  ⟨some 5, .mv (.tm 15), none⟩]
def r15_4 : List SOper := [⟨some 16, .mv (.tm 5), none⟩,
  ⟨some 17, .call true 14 [.tm 16], none⟩,
  ⟨some 18, .mv (.tm 0), none⟩,
  ⟨some 19, .bin .eql (.tm 17) (.tm 18), none⟩]
def r15_5 : List SOper := [⟨some 20, .mv (.tm 5), none⟩,
  ⟨some 2, .mv (.tm 20), none⟩,
  ⟨some 3, .mv (.c (.int .i64 0)), none⟩]
def r15_6 : List SOper := [⟨some 21, .bin .add (.tm 12) (.c (.int .i64 1)), none⟩,
  ⟨some 12, .mv (.tm 21), none⟩]
def l15_0 : AC := (.seq (.region r15_2) (.seq (.cond (.tm 13) .skip (.exit 0)) (.seq (.block 1 (.seq (.region r15_3) (.seq (.region r15_4) (.cond (.tm 19) (.seq (.region r15_5) .ret) .skip)))) (.region r15_6))))
def r15_7 : List SOper := [⟨some 22, .build [.int .i64 0, .int .i64 0] [], none⟩,
  ⟨some 6, .alloc 53 [.int .i64 0, .int .i64 0], none⟩,
  ⟨none, .store 2 (.tm 6) (.tm 22), none⟩]
def r15_8 : List SOper := [⟨some 7, .mv (.c (.int .i64 0)), none⟩]
def r15_9 : List SOper := [⟨some 8, .mv (.c (.int .i64 0)), none⟩]
def r15_10 : List SOper := [⟨some 23, .mv (.tm 8), none⟩,
  ⟨some 24, .mv (.tm 0), none⟩,
  ⟨some 25, .len true (.tm 24), none⟩,
  ⟨some 26, .bin .lss (.tm 23) (.tm 25), none⟩]
def r15_11 : List SOper := [⟨some 30, .mv (.tm 0), none⟩,
  ⟨some 31, .mv (.tm 8), none⟩,
  ⟨some 32, .idxS (.tm 30) (.tm 31), none⟩,
  ⟨some 33, .bin .geq (.tm 32) (.c (.int .u8 48)), none⟩,
  ⟨some 34, .mv (.tm 33), none⟩,
  ⟨some 35, .mv (.tm 0), some (34, true)⟩,
  ⟨some 36, .mv (.tm 8), some (34, true)⟩,
  ⟨some 37, .idxS (.tm 35) (.tm 36), some (34, true)⟩,
  ⟨some 38, .bin .leq (.tm 37) (.c (.int .u8 57)), some (34, true)⟩,
  ⟨some 39, .pick (.tm 34) (.tm 38) (.c (.bool false)), none⟩,
  ⟨some 40, .mv (.tm 39), none⟩,
  ⟨some 41, .mv (.tm 7), some (40, true)⟩,
  ⟨some 42, .idxP 2 1 (.tm 6) (.tm 41), some (40, true)⟩,
  ⟨some 43, .load 1 false (.tm 42), some (40, true)⟩,
  ⟨some 44, .bin .leq (.tm 43) (.c (.int .i64 65535)), some (40, true)⟩,
  ⟨some 45, .pick (.tm 40) (.tm 44) (.c (.bool false)), none⟩,
  ⟨some 29, .mv (.tm 45), none⟩]
def r15_12 : List SOper := [⟨some 46, .mv (.tm 7), none⟩,
  ⟨some 47, .mv (.tm 7), none⟩,
  ⟨some 48, .idxP 2 1 (.tm 6) (.tm 47), none⟩,
  ⟨some 49, .load 1 false (.tm 48), none⟩,
  ⟨some 50, .bin .mul (.c (.int .i64 10)) (.tm 49), none⟩,
  ⟨some 51, .mv (.tm 0), none⟩,
  ⟨some 52, .mv (.tm 8), none⟩,
  ⟨some 53, .idxS (.tm 51) (.tm 52), none⟩,
  ⟨some 54, .bin .sub (.tm 53) (.c (.int .u8 48)), none⟩,
  ⟨some 55, .cvtI .i64 (.tm 54), none⟩,
  ⟨some 56, .bin .add (.tm 50) (.tm 55), none⟩,
  ⟨some 57, .idxP 2 1 (.tm 6) (.tm 46), none⟩,
  ⟨none, .store 1 (.tm 57) (.tm 56), none⟩]
def r15_13 : List SOper := [⟨some 59, .mv (.tm 0), none⟩,
  ⟨some 60, .mv (.tm 8), none⟩,
  ⟨some 61, .idxS (.tm 59) (.tm 60), none⟩,
  ⟨some 62, .bin .eql (.tm 61) (.c (.int .u8 58)), none⟩,
  ⟨some 63, .mv (.tm 62), none⟩,
  ⟨some 64, .mv (.tm 7), some (63, true)⟩,
  ⟨some 65, .bin .eql (.tm 64) (.c (.int .i64 0)), some (63, true)⟩,
  ⟨some 66, .pick (.tm 63) (.tm 65) (.c (.bool false)), none⟩,
  ⟨some 58, .mv (.tm 66), none⟩]
def r15_14 : List SOper := [⟨some 7, .mv (.c (.int .i64 1)), none⟩]
def r15_15 : List SOper := [⟨some 2, .mv (.c (.int .u32 0)), none⟩,
  ⟨some 3, .mv (.c (.int .i64 2)), none⟩]
def r15_16 : List SOper := [⟨some 27, .mv (.tm 8), none⟩,
  ⟨some 28, .bin .add (.tm 27) (.c (.int .i64 1)), none⟩,
  ⟨some 8, .mv (.tm 28), none⟩]
def l15_1 : AC := (.seq (.seq (.region r15_10) (.cond (.tm 26) .skip (.exit 2))) (.seq (.block 3 (.block 4 (.seq (.region r15_11) (.cond (.tm 29) (.draw 12 r15_12 [[], [], [1], [2], [3], [], [], [5, 6], [7], [8], [4, 9], [0, 0, 1, 2, 3, 4, 5, 6, 7, 8, 9, 10], [11, 10, 0, 1, 2, 3, 4, 5, 6, 7, 8, 9, 10]]) (.seq (.region r15_13) (.cond (.tm 58) (.region r15_14) (.seq (.region r15_15) .ret))))))) (.region r15_16)))
def r15_17 : List SOper := [⟨some 67, .idxP 2 1 (.tm 6) (.c (.int .i64 0)), none⟩,
  ⟨some 68, .load 1 false (.tm 67), none⟩,
  ⟨some 69, .bin .gtr (.tm 68) (.c (.int .i64 65535)), none⟩,
  ⟨some 70, .mv (.tm 69), none⟩,
  ⟨some 71, .idxP 2 1 (.tm 6) (.c (.int .i64 1)), some (70, false)⟩,
  ⟨some 72, .load 1 false (.tm 71), some (70, false)⟩,
  ⟨some 73, .bin .gtr (.tm 72) (.c (.int .i64 65535)), some (70, false)⟩,
  ⟨some 74, .pick (.tm 70) (.c (.bool true)) (.tm 73), none⟩]
def r15_18 : List SOper := [⟨some 2, .mv (.c (.int .u32 0)), none⟩,
  ⟨some 3, .mv (.c (.int .i64 2)), none⟩]
def r15_19 : List SOper := [⟨some 75, .idxP 2 1 (.tm 6) (.c (.int .i64 0)), none⟩,
  ⟨some 76, .load 1 false (.tm 75), none⟩,
  ⟨some 77, .cvtI .u32 (.tm 76), none⟩,
  ⟨some 78, .bin .shl (.tm 77) (.c (.int .u64 16)), none⟩,
  ⟨some 79, .idxP 2 1 (.tm 6) (.c (.int .i64 1)), none⟩,
  ⟨some 80, .load 1 false (.tm 79), none⟩,
  ⟨some 81, .cvtI .u32 (.tm 80), none⟩,
  ⟨some 82, .bin .add (.tm 78) (.tm 81), none⟩,
  ⟨some 9, .mv (.tm 82), none⟩]
def r15_20 : List SOper := [⟨some 83, .mv (.tm 9), none⟩,
  ⟨some 84, .call true 14 [.tm 83], none⟩,
  ⟨some 85, .mv (.tm 0), none⟩,
  ⟨some 86, .bin .neq (.tm 84) (.tm 85), none⟩]
def r15_21 : List SOper := [⟨some 2, .mv (.c (.int .u32 0)), none⟩,
  ⟨some 3, .mv (.c (.int .i64 2)), none⟩]
def r15_22 : List SOper := [⟨some 87, .mv (.tm 9), none⟩,
  ⟨some 2, .mv (.tm 87), none⟩,
  ⟨some 3, .mv (.c (.int .i64 0)), none⟩]
def c15 : AC := (.seq (.region r15_0) (.seq (.seq (.region r15_1) (.block 0 (.loop l15_0))) (.seq (.region r15_7) (.seq (.region r15_8) (.seq (.seq (.region r15_9) (.block 2 (.loop l15_1))) (.seq (.seq (.region r15_17) (.cond (.tm 74) (.seq (.region r15_18) .ret) .skip)) (.seq (.region r15_19) (.seq (.seq (.region r15_20) (.cond (.tm 86) (.seq (.region r15_21) .ret) .skip)) (.seq (.region r15_22) .ret)))))))))
theorem e15 : Entry Tryd.prog 15 c15 [.tm 2, .tm 3] 88 := ⟨Tryd.f15, Tryd.func15, by kernel_rfl, by kernel_rfl, by kernel_rfl, by kernel_rfl⟩

/-! ### routing/community.Has : params [22, 27] results [4] -/
def r16_0 : List SOper := [⟨some 4, .mv (.c (.bool false)), none⟩]
def r16_1 : List SOper := [⟨some 5, .mv (.tm 0), none⟩,
  ⟨some 6, .mv (.tm 1), none⟩,
  ⟨some 7, .call true 33 [.tm 5, .tm 6], none⟩,
  ⟨some 4, .mv (.tm 7), none⟩]
def c16 : AC := (.seq (.region r16_0) (.seq (.region r16_1) .ret))
theorem e16 : Entry Tryd.prog 16 c16 [.tm 4] 8 := ⟨Tryd.f16, Tryd.func16, by kernel_rfl, by kernel_rfl, by kernel_rfl, by kernel_rfl⟩

/-! ### routing/routingref18.Has : params [22, 27] results [4] -/
def r17_0 : List SOper := [⟨some 4, .mv (.c (.bool false)), none⟩]
def r17_1 : List SOper := [⟨some 7, .mv (.tm 0), none⟩,
  ⟨some 8, .len false (.tm 7), none⟩,
  ⟨some 9, .mv (.c (.int .i64 0)), none⟩]
def r17_2 : List SOper := [⟨some 10, .bin .lss (.tm 9) (.tm 8), none⟩]
def r17_3 : List SOper := [⟨some 11, .idxA 1 (.tm 7) (.tm 9), none⟩,
  ⟨some 12, .load 1 false (.tm 11), none⟩,
  ⟨some 6, .mv (.tm 12), none⟩]
def r17_4 : List SOper := [⟨some 13, .mv (.tm 6), none⟩,
  ⟨some 14, .mv (.tm 1), none⟩,
  ⟨some 15, .bin .eql (.tm 13) (.tm 14), none⟩]
def r17_5 : List SOper := [⟨some 4, .mv (.c (.bool true)), none⟩]
def r17_6 : List SOper := [⟨some 16, .bin .add (.tm 9) (.c (.int .i64 1)), none⟩,
  ⟨some 9, .mv (.tm 16), none⟩]
def l17_0 : AC := (.seq (.region r17_2) (.seq (.cond (.tm 10) .skip (.exit 0)) (.seq (.block 1 (.seq (.region r17_3) (.seq (.region r17_4) (.cond (.tm 15) (.seq (.region r17_5) .ret) .skip)))) (.region r17_6))))
def r17_7 : List SOper := [⟨some 4, .mv (.c (.bool false)), none⟩]
def c17 : AC := (.seq (.region r17_0) (.seq (.seq (.region r17_1) (.block 0 (.loop l17_0))) (.seq (.region r17_7) .ret)))
theorem e17 : Entry Tryd.prog 17 c17 [.tm 4] 17 := ⟨Tryd.f17, Tryd.func17, by kernel_rfl, by kernel_rfl, by kernel_rfl, by kernel_rfl⟩

/-! ### routing/routingref18.Same : params [22, 22] results [4] -/
def r18_0 : List SOper := [⟨some 4, .mv (.c (.bool false)), none⟩]
def r18_1 : List SOper := [⟨some 6, .mv (.tm 0), none⟩,
  ⟨some 7, .len false (.tm 6), none⟩,
  ⟨some 8, .mv (.tm 1), none⟩,
  ⟨some 9, .len false (.tm 8), none⟩,
  ⟨some 10, .bin .neq (.tm 7) (.tm 9), none⟩]
def r18_2 : List SOper := [⟨some 4, .mv (.c (.bool false)), none⟩]
def r18_3 : List SOper := [⟨some 11, .mv (.tm 0), none⟩,
  ⟨some 12, .len false (.tm 11), none⟩,
  ⟨some 13, .mv (.c (.int .i64 0)), none⟩]
def r18_4 : List SOper := [⟨some 14, .bin .lss (.tm 13) (.tm 12), none⟩]
def r18_5 : List SOper := [⟨some 15, .mv (.tm 13), none⟩,
  ⟨some 5, .mv (.tm 15), none⟩]
def r18_6 : List SOper := [⟨some 16, .mv (.tm 0), none⟩,
  ⟨some 17, .mv (.tm 5), none⟩,
  ⟨some 18, .idxA 1 (.tm 16) (.tm 17), none⟩,
  ⟨some 19, .load 1 false (.tm 18), none⟩,
  ⟨some 20, .mv (.tm 1), none⟩,
  ⟨some 21, .mv (.tm 5), none⟩,
  ⟨some 22, .idxA 1 (.tm 20) (.tm 21), none⟩,
  ⟨some 23, .load 1 false (.tm 22), none⟩,
  ⟨some 24, .bin .neq (.tm 19) (.tm 23), none⟩]
def r18_7 : List SOper := [⟨some 4, .mv (.c (.bool false)), none⟩]
def r18_8 : List SOper := [⟨some 25, .bin .add (.tm 13) (.c (.int .i64 1)), none⟩,
  ⟨some 13, .mv (.tm 25), none⟩]
def l18_0 : AC := (.seq (.region r18_4) (.seq (.cond (.tm 14) .skip (.exit 0)) (.seq (.block 1 (.seq (.region r18_5) (.seq (.draw 9 r18_6 [[], [], [0, 1], [2], [], [], [4, 5], [6], [3, 7]]) (.cond (.tm 24) (.seq (.region r18_7) .ret) .skip)))) (.region r18_8))))
def r18_9 : List SOper := [⟨some 4, .mv (.c (.bool true)), none⟩]
def c18 : AC := (.seq (.region r18_0) (.seq (.seq (.region r18_1) (.cond (.tm 10) (.seq (.region r18_2) .ret) .skip)) (.seq (.seq (.region r18_3) (.block 0 (.loop l18_0))) (.seq (.region r18_9) .ret))))
theorem e18 : Entry Tryd.prog 18 c18 [.tm 4] 26 := ⟨Tryd.f18, Tryd.func18, by kernel_rfl, by kernel_rfl, by kernel_rfl, by kernel_rfl⟩

/-! ### routing/community.Add : params [22, 27] results [22] -/
def r19_0 : List SOper := [⟨some 4, .mv (.c (.slice none 0 0)), none⟩]
def r19_1 : List SOper := [⟨some 6, .mv (.tm 0), none⟩,
  ⟨some 7, .call false 34 [.tm 6], none⟩,
  ⟨some 5, .mv (.tm 7), none⟩]
def r19_2 : List SOper := [⟨some 8, .mv (.tm 5), none⟩,
  ⟨some 9, .len false (.tm 8), none⟩,
  ⟨some 10, .bin .geq (.tm 9) (.c (.int .i64 255)), none⟩,
  ⟨some 11, .mv (.tm 10), none⟩,
  ⟨some 12, .mv (.tm 5), some (11, true)⟩,
  ⟨some 13, .mv (.tm 1), some (11, true)⟩,
  ⟨some 14, .call true 33 [.tm 12, .tm 13], some (11, true)⟩,
  ⟨some 15, .un .not (.tm 14), some (11, true)⟩,
  ⟨some 16, .pick (.tm 11) (.tm 15) (.c (.bool false)), none⟩]
def r19_3 : List SOper := [⟨some 17, .mv (.tm 5), none⟩,
  ⟨some 4, .mv (.tm 17), none⟩]
def r19_4 : List SOper := [⟨some 18, .mv (.tm 5), none⟩,
  ⟨some 19, .mv (.tm 1), none⟩,
  ⟨some 20, .call false 35 [.tm 18, .tm 19], none⟩,
  ⟨some 4, .mv (.tm 20), none⟩]
def c19 : AC := (.seq (.region r19_0) (.seq (.region r19_1) (.seq (.seq (.region r19_2) (.cond (.tm 16) (.seq (.region r19_3) .ret) .skip)) (.seq (.region r19_4) .ret))))
theorem e19 : Entry Tryd.prog 19 c19 [.tm 4] 21 := ⟨Tryd.f19, Tryd.func19, by kernel_rfl, by kernel_rfl, by kernel_rfl, by kernel_rfl⟩

/-! ### routing/routingref18.Add : params [22, 27] results [22] -/
def r20_0 : List SOper := [⟨some 4, .mv (.c (.slice none 0 0)), none⟩]
def r20_1 : List SOper := [⟨some 6, .mv (.tm 0), none⟩,
  ⟨some 7, .callO false 27 1 36 [.tm 6], none⟩,
  ⟨some 5, .mv (.tm 7), none⟩]
def r20_2 : List SOper := [⟨some 8, .mv (.tm 5), none⟩,
  ⟨some 9, .len false (.tm 8), none⟩,
  ⟨some 10, .bin .geq (.tm 9) (.c (.int .i64 255)), none⟩,
  ⟨some 11, .mv (.tm 10), none⟩,
  ⟨some 12, .mv (.tm 5), some (11, true)⟩,
  ⟨some 13, .mv (.tm 1), some (11, true)⟩,
  ⟨some 14, .call true 17 [.tm 12, .tm 13], some (11, true)⟩,
  ⟨some 15, .un .not (.tm 14), some (11, true)⟩,
  ⟨some 16, .pick (.tm 11) (.tm 15) (.c (.bool false)), none⟩]
def r20_3 : List SOper := [⟨some 17, .mv (.tm 5), none⟩,
  ⟨some 4, .mv (.tm 17), none⟩]
def r20_4 : List SOper := [⟨some 18, .mv (.tm 5), none⟩,
  ⟨some 19, .mv (.tm 1), none⟩,
  ⟨some 20, .bslice false 27 1 1 [.tm 19], none⟩,
  ⟨some 21, .append 27 1 4 (.tm 18) (.tm 20), none⟩,
  ⟨some 5, .mv (.tm 21), none⟩]
def r20_5 : List SOper := [⟨some 22, .mv (.tm 5), none⟩,
  ⟨some 23, .callO true 27 1 36 [.tm 22], none⟩,
  ⟨some 4, .mv (.tm 23), none⟩]
def c20 : AC := (.seq (.region r20_0) (.seq (.region r20_1) (.seq (.seq (.region r20_2) (.cond (.tm 16) (.seq (.region r20_3) .ret) .skip)) (.seq (.region r20_4) (.seq (.region r20_5) .ret)))))
theorem e20 : Entry Tryd.prog 20 c20 [.tm 4] 24 := ⟨Tryd.f20, Tryd.func20, by kernel_rfl, by kernel_rfl, by kernel_rfl, by kernel_rfl⟩

/-! ### routing/community.Drop : params [22, 27] results [22] -/
def r21_0 : List SOper := [⟨some 4, .mv (.c (.slice none 0 0)), none⟩]
def r21_1 : List SOper := [⟨some 5, .mv (.c (.slice none 0 0)), none⟩]
def r21_2 : List SOper := [⟨some 8, .mv (.tm 0), none⟩,
  ⟨some 9, .call false 34 [.tm 8], none⟩,
  ⟨some 10, .len false (.tm 9), none⟩,
  ⟨some 11, .mv (.c (.int .i64 0)), none⟩]
def r21_3 : List SOper := [⟨some 12, .bin .lss (.tm 11) (.tm 10), none⟩]
def r21_4 : List SOper := [⟨some 13, .idxA 1 (.tm 9) (.tm 11), none⟩,
  ⟨some 14, .load 1 false (.tm 13), none⟩,
  ⟨some 7, .mv (.tm 14), none⟩]
def r21_5 : List SOper := [⟨some 15, .mv (.tm 7), none⟩,
  ⟨some 16, .mv (.tm 1), none⟩,
  ⟨some 17, .bin .neq (.tm 15) (.tm 16), none⟩]
def r21_6 : List SOper := [⟨some 18, .mv (.tm 5), none⟩,
  ⟨some 19, .mv (.tm 7), none⟩,
  ⟨some 20, .bslice false 27 1 1 [.tm 19], none⟩,
  ⟨some 21, .append 27 1 4 (.tm 18) (.tm 20), none⟩,
  ⟨some 5, .mv (.tm 21), none⟩]
def r21_7 : List SOper := [⟨some 22, .bin .add (.tm 11) (.c (.int .i64 1)), none⟩,
  ⟨some 11, .mv (.tm 22), none⟩]
def l21_0 : AC := (.seq (.region r21_3) (.seq (.cond (.tm 12) .skip (.exit 0)) (.seq (.block 1 (.seq (.region r21_4) (.seq (.region r21_5) (.cond (.tm 17) (.region r21_6) .skip)))) (.region r21_7))))
def r21_8 : List SOper := [⟨some 23, .mv (.tm 5), none⟩,
  ⟨some 4, .mv (.tm 23), none⟩]
def c21 : AC := (.seq (.region r21_0) (.seq (.region r21_1) (.seq (.seq (.region r21_2) (.block 0 (.loop l21_0))) (.seq (.region r21_8) .ret))))
theorem e21 : Entry Tryd.prog 21 c21 [.tm 4] 24 := ⟨Tryd.f21, Tryd.func21, by kernel_rfl, by kernel_rfl, by kernel_rfl, by kernel_rfl⟩

/-! ### routing/routingref18.Drop : params [22, 27] results [22] -/
def r22_0 : List SOper := [⟨some 4, .mv (.c (.slice none 0 0)), none⟩]
def r22_1 : List SOper := [⟨some 5, .mv (.c (.slice none 0 0)), none⟩]
def r22_2 : List SOper := [⟨some 8, .mv (.tm 0), none⟩,
  ⟨some 9, .call false 36 [.tm 8], none⟩,
  ⟨some 10, .len false (.tm 9), none⟩,
  ⟨some 11, .mv (.c (.int .i64 0)), none⟩]
def r22_3 : List SOper := [⟨some 12, .bin .lss (.tm 11) (.tm 10), none⟩]
def r22_4 : List SOper := [⟨some 13, .idxA 1 (.tm 9) (.tm 11), none⟩,
  ⟨some 14, .load 1 false (.tm 13), none⟩,
  ⟨some 7, .mv (.tm 14), none⟩]
def r22_5 : List SOper := [⟨some 15, .mv (.tm 7), none⟩,
  ⟨some 16, .mv (.tm 1), none⟩,
  ⟨some 17, .bin .neq (.tm 15) (.tm 16), none⟩]
def r22_6 : List SOper := [⟨some 18, .mv (.tm 5), none⟩,
  ⟨some 19, .mv (.tm 7), none⟩,
  ⟨some 20, .bslice false 27 1 1 [.tm 19], none⟩,
  ⟨some 21, .append 27 1 4 (.tm 18) (.tm 20), none⟩,
  ⟨some 5, .mv (.tm 21), none⟩]
def r22_7 : List SOper := [⟨some 22, .bin .add (.tm 11) (.c (.int .i64 1)), none⟩,
  ⟨some 11, .mv (.tm 22), none⟩]
def l22_0 : AC := (.seq (.region r22_3) (.seq (.cond (.tm 12) .skip (.exit 0)) (.seq (.block 1 (.seq (.region r22_4) (.seq (.region r22_5) (.cond (.tm 17) (.region r22_6) .skip)))) (.region r22_7))))
def r22_8 : List SOper := [⟨some 23, .mv (.tm 5), none⟩,
  ⟨some 4, .mv (.tm 23), none⟩]
def c22 : AC := (.seq (.region r22_0) (.seq (.region r22_1) (.seq (.seq (.region r22_2) (.block 0 (.loop l22_0))) (.seq (.region r22_8) .ret))))
theorem e22 : Entry Tryd.prog 22 c22 [.tm 4] 24 := ⟨Tryd.f22, Tryd.func22, by kernel_rfl, by kernel_rfl, by kernel_rfl, by kernel_rfl⟩

/-! ### routing/community.Join : params [22, 22] results [22] -/
def r23_0 : List SOper := [⟨some 4, .mv (.c (.slice none 0 0)), none⟩]
def r23_1 : List SOper := [⟨some 8, .mv (.tm 0), none⟩,
  ⟨some 9, .call false 34 [.tm 8], none⟩,
  ⟨some 5, .mv (.tm 9), none⟩]
def r23_2 : List SOper := [⟨some 10, .mv (.tm 1), none⟩,
  ⟨some 11, .len false (.tm 10), none⟩,
  ⟨some 12, .mv (.c (.int .i64 0)), none⟩]
def r23_3 : List SOper := [⟨some 13, .bin .lss (.tm 12) (.tm 11), none⟩]
def r23_4 : List SOper := [⟨some 14, .idxA 1 (.tm 10) (.tm 12), none⟩,
  ⟨some 15, .load 1 false (.tm 14), none⟩,
  ⟨some 7, .mv (.tm 15), none⟩]
def r23_5 : List SOper := [⟨some 16, .mv (.tm 5), none⟩,
  ⟨some 17, .mv (.tm 7), none⟩,
  ⟨some 18, .call false 35 [.tm 16, .tm 17], none⟩,
  ⟨some 5, .mv (.tm 18), none⟩]
def r23_6 : List SOper := [⟨some 19, .bin .add (.tm 12) (.c (.int .i64 1)), none⟩,
  ⟨some 12, .mv (.tm 19), none⟩]
def l23_0 : AC := (.seq (.region r23_3) (.seq (.cond (.tm 13) .skip (.exit 0)) (.seq (.block 1 (.seq (.region r23_4) (.region r23_5))) (.region r23_6))))
def r23_7 : List SOper := [⟨some 20, .mv (.tm 5), none⟩,
  ⟨some 21, .len false (.tm 20), none⟩,
  ⟨some 22, .bin .gtr (.tm 21) (.c (.int .i64 255)), none⟩]
def r23_8 : List SOper := [⟨some 23, .mv (.tm 5), none⟩,
  ⟨some 24, .slc 1 (.tm 23) none (some (.c (.int .i64 255))) (some (.c (.int .i64 255))), none⟩,
  ⟨some 5, .mv (.tm 24), none⟩]
def r23_9 : List SOper := [⟨some 25, .mv (.tm 5), none⟩,
  ⟨some 4, .mv (.tm 25), none⟩]
def c23 : AC := (.seq (.region r23_0) (.seq (.region r23_1) (.seq (.seq (.region r23_2) (.block 0 (.loop l23_0))) (.seq (.seq (.region r23_7) (.cond (.tm 22) (.region r23_8) .skip)) (.seq (.region r23_9) .ret)))))
theorem e23 : Entry Tryd.prog 23 c23 [.tm 4] 26 := ⟨Tryd.f23, Tryd.func23, by kernel_rfl, by kernel_rfl, by kernel_rfl, by kernel_rfl⟩

/-! ### routing/routingref18.Join : params [22, 22] results [22] -/
def r24_0 : List SOper := [⟨some 4, .mv (.c (.slice none 0 0)), none⟩]
def r24_1 : List SOper := [⟨some 6, .bslice true 27 1 0 [], none⟩,
  ⟨some 7, .mv (.tm 0), none⟩,
  ⟨some 8, .append 27 1 4 (.tm 6) (.tm 7), none⟩,
  ⟨some 9, .mv (.tm 1), none⟩,
  ⟨some 10, .append 27 1 4 (.tm 8) (.tm 9), none⟩,
  ⟨some 11, .callO true 27 1 36 [.tm 10], none⟩,
  ⟨some 5, .mv (.tm 11), none⟩]
def r24_2 : List SOper := [⟨some 12, .mv (.tm 5), none⟩,
  ⟨some 13, .len false (.tm 12), none⟩,
  ⟨some 14, .bin .gtr (.tm 13) (.c (.int .i64 255)), none⟩]
def r24_3 : List SOper := [⟨some 15, .mv (.tm 5), none⟩,
  ⟨some 16, .slc 1 (.tm 15) none (some (.c (.int .i64 255))) none, none⟩,
  ⟨some 5, .mv (.tm 16), none⟩]
def r24_4 : List SOper := [⟨some 17, .mv (.tm 5), none⟩,
  ⟨some 4, .mv (.tm 17), none⟩]
def c24 : AC := (.seq (.region r24_0) (.seq (.region r24_1) (.seq (.seq (.region r24_2) (.cond (.tm 14) (.region r24_3) .skip)) (.seq (.region r24_4) .ret))))
theorem e24 : Entry Tryd.prog 24 c24 [.tm 4] 18 := ⟨Tryd.f24, Tryd.func24, by kernel_rfl, by kernel_rfl, by kernel_rfl, by kernel_rfl⟩

/-! ### routing/community.Match : params [40, 22] results [4] -/
def r25_0 : List SOper := [⟨some 2, .box 40 (.tm 0), none⟩,
  ⟨some 4, .mv (.c (.bool false)), none⟩]
def r25_1 : List SOper := [⟨some 7, .mv (.tm 1), none⟩,
  ⟨some 8, .len false (.tm 7), none⟩,
  ⟨some 9, .mv (.c (.int .i64 0)), none⟩]
def r25_2 : List SOper := [⟨some 10, .bin .lss (.tm 9) (.tm 8), none⟩]
def r25_3 : List SOper := [⟨some 11, .idxA 1 (.tm 7) (.tm 9), none⟩,
  ⟨some 12, .load 1 false (.tm 11), none⟩,
  ⟨some 6, .mv (.tm 12), none⟩]
def r25_4 : List SOper := [⟨some 13, .fldA 1 1 false (.tm 2), none⟩,
  ⟨some 14, .load 1 false (.tm 13), none⟩,
  ⟨some 15, .bin .eql (.tm 14) (.c (.int .i64 (-1))), none⟩,
  ⟨some 16, .mv (.tm 15), none⟩,
  ⟨some 17, .fldA 1 1 false (.tm 2), some (16, false)⟩,
  ⟨some 18, .load 1 false (.tm 17), some (16, false)⟩,
  ⟨some 19, .mv (.tm 6), some (16, false)⟩,
  ⟨some 20, .bin .shr (.tm 19) (.c (.int .u64 16)), some (16, false)⟩,
  ⟨some 21, .cvtI .i64 (.tm 20), some (16, false)⟩,
  ⟨some 22, .bin .eql (.tm 18) (.tm 21), some (16, false)⟩,
  ⟨some 23, .pick (.tm 16) (.c (.bool true)) (.tm 22), none⟩,
  ⟨some 24, .mv (.tm 23), none⟩,
  ⟨some 25, .fldA 2 1 false (.tm 2), some (24, true)⟩,
  ⟨some 26, .load 1 false (.tm 25), some (24, true)⟩,
  ⟨some 27, .bin .eql (.tm 26) (.c (.int .i64 (-1))), some (24, true)⟩,
  ⟨some 28, .mv (.tm 27), some (24, true)⟩,
  ⟨some 29, .fldA 2 1 false (.tm 2), some (28, false)⟩,
  ⟨some 30, .load 1 false (.tm 29), some (28, false)⟩,
  ⟨some 31, .mv (.tm 6), some (28, false)⟩,
  ⟨some 32, .bin .and (.tm 31) (.c (.int .u32 65535)), some (28, false)⟩,
  ⟨some 33, .cvtI .i64 (.tm 32), some (28, false)⟩,
  ⟨some 34, .bin .eql (.tm 30) (.tm 33), some (28, false)⟩,
  ⟨some 35, .pick (.tm 28) (.c (.bool true)) (.tm 34), some (24, true)⟩,
  ⟨some 36, .pick (.tm 24) (.tm 35) (.c (.bool false)), none⟩]
def r25_5 : List SOper := [⟨some 4, .mv (.c (.bool true)), none⟩]
def r25_6 : List SOper := [⟨some 37, .bin .add (.tm 9) (.c (.int .i64 1)), none⟩,
  ⟨some 9, .mv (.tm 37), none⟩]
def l25_0 : AC := (.seq (.region r25_2) (.seq (.cond (.tm 10) .skip (.exit 0)) (.seq (.block 1 (.seq (.region r25_3) (.seq (.region r25_4) (.cond (.tm 36) (.seq (.region r25_5) .ret) .skip)))) (.region r25_6))))
def r25_7 : List SOper := [⟨some 4, .mv (.c (.bool false)), none⟩]
def c25 : AC := (.seq (.region r25_0) (.seq (.seq (.region r25_1) (.block 0 (.loop l25_0))) (.seq (.region r25_7) .ret)))
theorem e25 : Entry Tryd.prog 25 c25 [.tm 4] 38 := ⟨Tryd.f25, Tryd.func25, by kernel_rfl, by kernel_rfl, by kernel_rfl, by kernel_rfl⟩

/-! ### routing/routingref18.Match : params [40, 22] results [4] -/
def r26_0 : List SOper := [⟨some 2, .box 40 (.tm 0), none⟩,
  ⟨some 4, .mv (.c (.bool false)), none⟩]
def r26_1 : List SOper := [⟨some 7, .mv (.tm 1), none⟩,
  ⟨some 8, .len false (.tm 7), none⟩,
  ⟨some 9, .mv (.c (.int .i64 0)), none⟩]
def r26_2 : List SOper := [⟨some 10, .bin .lss (.tm 9) (.tm 8), none⟩]
def r26_3 : List SOper := [⟨some 11, .idxA 1 (.tm 7) (.tm 9), none⟩,
  ⟨some 12, .load 1 false (.tm 11), none⟩,
  ⟨some 6, .mv (.tm 12), none⟩]
def r26_4 : List SOper := [⟨some 13, .fldA 1 1 false (.tm 2), none⟩,
  ⟨some 14, .load 1 false (.tm 13), none⟩,
  ⟨some 15, .bin .eql (.tm 14) (.c (.int .i64 (-1))), none⟩,
  ⟨some 16, .mv (.tm 15), none⟩,
  ⟨some 17, .fldA 1 1 false (.tm 2), some (16, false)⟩,
  ⟨some 18, .load 1 false (.tm 17), some (16, false)⟩,
  ⟨some 19, .mv (.tm 6), some (16, false)⟩,
  ⟨some 20, .bin .shr (.tm 19) (.c (.int .u64 16)), some (16, false)⟩,
  ⟨some 21, .cvtI .i64 (.tm 20), some (16, false)⟩,
  ⟨some 22, .bin .eql (.tm 18) (.tm 21), some (16, false)⟩,
  ⟨some 23, .pick (.tm 16) (.c (.bool true)) (.tm 22), none⟩,
  ⟨some 24, .mv (.tm 23), none⟩,
  ⟨some 25, .fldA 2 1 false (.tm 2), some (24, true)⟩,
  ⟨some 26, .load 1 false (.tm 25), some (24, true)⟩,
  ⟨some 27, .bin .eql (.tm 26) (.c (.int .i64 (-1))), some (24, true)⟩,
  ⟨some 28, .mv (.tm 27), some (24, true)⟩,
  ⟨some 29, .fldA 2 1 false (.tm 2), some (28, false)⟩,
  ⟨some 30, .load 1 false (.tm 29), some (28, false)⟩,
  ⟨some 31, .mv (.tm 6), some (28, false)⟩,
  ⟨some 32, .bin .and (.tm 31) (.c (.int .u32 65535)), some (28, false)⟩,
  ⟨some 33, .cvtI .i64 (.tm 32), some (28, false)⟩,
  ⟨some 34, .bin .eql (.tm 30) (.tm 33), some (28, false)⟩,
  ⟨some 35, .pick (.tm 28) (.c (.bool true)) (.tm 34), some (24, true)⟩,
  ⟨some 36, .pick (.tm 24) (.tm 35) (.c (.bool false)), none⟩]
def r26_5 : List SOper := [⟨some 4, .mv (.c (.bool true)), none⟩]
def r26_6 : List SOper := [⟨some 37, .bin .add (.tm 9) (.c (.int .i64 1)), none⟩,
  ⟨some 9, .mv (.tm 37), none⟩]
def l26_0 : AC := (.seq (.region r26_2) (.seq (.cond (.tm 10) .skip (.exit 0)) (.seq (.block 1 (.seq (.region r26_3) (.seq (.region r26_4) (.cond (.tm 36) (.seq (.region r26_5) .ret) .skip)))) (.region r26_6))))
def r26_7 : List SOper := [⟨some 4, .mv (.c (.bool false)), none⟩]
def c26 : AC := (.seq (.region r26_0) (.seq (.seq (.region r26_1) (.block 0 (.loop l26_0))) (.seq (.region r26_7) .ret)))
theorem e26 : Entry Tryd.prog 26 c26 [.tm 4] 38 := ⟨Tryd.f26, Tryd.func26, by kernel_rfl, by kernel_rfl, by kernel_rfl, by kernel_rfl⟩

/-! ### routing/community.Permits : params [38, 22] results [4] -/
def r27_0 : List SOper := [⟨some 4, .mv (.c (.bool false)), none⟩]
def r27_1 : List SOper := [⟨some 7, .mv (.tm 0), none⟩,
  ⟨some 8, .len false (.tm 7), none⟩,
  ⟨some 9, .mv (.c (.int .i64 0)), none⟩]
def r27_2 : List SOper := [⟨some 10, .bin .lss (.tm 9) (.tm 8), none⟩]
def r27_3 : List SOper := [⟨some 11, .idxA 3 (.tm 7) (.tm 9), none⟩,
  ⟨some 12, .load 3 true (.tm 11), none⟩,
  ⟨some 6, .alloc 40 [.bool false, .int .i64 0, .int .i64 0], none⟩,
  ⟨none, .store 3 (.tm 6) (.tm 12), none⟩]
def r27_4 : List SOper := [⟨some 13, .load 3 true (.tm 6), none⟩,
  ⟨some 14, .mv (.tm 1), none⟩,
  ⟨some 15, .call true 25 [.tm 13, .tm 14], none⟩]
def r27_5 : List SOper := [⟨some 16, .fldA 0 1 false (.tm 6), none⟩,
  ⟨some 17, .load 1 false (.tm 16), none⟩,
  ⟨some 4, .mv (.tm 17), none⟩]
def r27_6 : List SOper := [⟨some 18, .bin .add (.tm 9) (.c (.int .i64 1)), none⟩,
  ⟨some 9, .mv (.tm 18), none⟩]
def l27_0 : AC := (.seq (.region r27_2) (.seq (.cond (.tm 10) .skip (.exit 0)) (.seq (.block 1 (.seq (.region r27_3) (.seq (.region r27_4) (.cond (.tm 15) (.seq (.region r27_5) .ret) .skip)))) (.region r27_6))))
def r27_7 : List SOper := [⟨some 4, .mv (.c (.bool false)), none⟩]
def c27 : AC := (.seq (.region r27_0) (.seq (.seq (.region r27_1) (.block 0 (.loop l27_0))) (.seq (.region r27_7) .ret)))
theorem e27 : Entry Tryd.prog 27 c27 [.tm 4] 19 := ⟨Tryd.f27, Tryd.func27, by kernel_rfl, by kernel_rfl, by kernel_rfl, by kernel_rfl⟩

/-! ### routing/routingref18.Permits : params [38, 22] results [4] -/
def r28_0 : List SOper := [⟨some 4, .mv (.c (.bool false)), none⟩]
def r28_1 : List SOper := [⟨some 7, .mv (.tm 0), none⟩,
  ⟨some 8, .len false (.tm 7), none⟩,
  ⟨some 9, .mv (.c (.int .i64 0)), none⟩]
def r28_2 : List SOper := [⟨some 10, .bin .lss (.tm 9) (.tm 8), none⟩]
def r28_3 : List SOper := [⟨some 11, .idxA 3 (.tm 7) (.tm 9), none⟩,
  ⟨some 12, .load 3 true (.tm 11), none⟩,
  ⟨some 6, .alloc 40 [.bool false, .int .i64 0, .int .i64 0], none⟩,
  ⟨none, .store 3 (.tm 6) (.tm 12), none⟩]
def r28_4 : List SOper := [⟨some 13, .load 3 true (.tm 6), none⟩,
  ⟨some 14, .mv (.tm 1), none⟩,
  ⟨some 15, .call true 26 [.tm 13, .tm 14], none⟩]
def r28_5 : List SOper := [⟨some 16, .fldA 0 1 false (.tm 6), none⟩,
  ⟨some 17, .load 1 false (.tm 16), none⟩,
  ⟨some 4, .mv (.tm 17), none⟩]
def r28_6 : List SOper := [⟨some 18, .bin .add (.tm 9) (.c (.int .i64 1)), none⟩,
  ⟨some 9, .mv (.tm 18), none⟩]
def l28_0 : AC := (.seq (.region r28_2) (.seq (.cond (.tm 10) .skip (.exit 0)) (.seq (.block 1 (.seq (.region r28_3) (.seq (.region r28_4) (.cond (.tm 15) (.seq (.region r28_5) .ret) .skip)))) (.region r28_6))))
def r28_7 : List SOper := [⟨some 4, .mv (.c (.bool false)), none⟩]
def c28 : AC := (.seq (.region r28_0) (.seq (.seq (.region r28_1) (.block 0 (.loop l28_0))) (.seq (.region r28_7) .ret)))
theorem e28 : Entry Tryd.prog 28 c28 [.tm 4] 19 := ⟨Tryd.f28, Tryd.func28, by kernel_rfl, by kernel_rfl, by kernel_rfl, by kernel_rfl⟩

/-! ### routing/community.names : params [] results [45, 46] -/
def r29_0 : List SOper := [⟨some 0, .alloc 45 [.int .u32 0, .int .u32 0, .int .u32 0, .int .u32 0], none⟩,
  ⟨some 1, .alloc 46 [.string ⟨#[]⟩, .string ⟨#[]⟩, .string ⟨#[]⟩, .string ⟨#[]⟩], none⟩]
def r29_1 : List SOper := [⟨some 2, .build [.int .u32 0, .int .u32 0, .int .u32 0, .int .u32 0] [(0, 1, .c (.int .u32 4294901760)), (1, 1, .c (.int .u32 4294967041)), (2, 1, .c (.int .u32 4294967042)), (3, 1, .c (.int .u32 4294967043))], none⟩,
  ⟨some 3, .build [.string ⟨#[]⟩, .string ⟨#[]⟩, .string ⟨#[]⟩, .string ⟨#[]⟩] [(0, 1, .c (.string ⟨#[103, 114, 97, 99, 101, 102, 117, 108, 45, 115, 104, 117, 116, 100, 111, 119, 110]⟩)), (1, 1, .c (.string ⟨#[110, 111, 45, 101, 120, 112, 111, 114, 116]⟩)), (2, 1, .c (.string ⟨#[110, 111, 45, 97, 100, 118, 101, 114, 116, 105, 115, 101]⟩)), (3, 1, .c (.string ⟨#[110, 111, 45, 101, 120, 112, 111, 114, 116, 45, 99, 111, 110, 102, 101, 100]⟩))], none⟩,
  ⟨none, .store 4 (.tm 0) (.tm 2), none⟩,
  ⟨none, .store 4 (.tm 1) (.tm 3), none⟩]
def c29 : AC := (.seq (.region r29_0) (.seq (.region r29_1) .ret))
theorem e29 : Entry Tryd.prog 29 c29 [.cell 0 4 true, .cell 1 4 true] 4 := ⟨Tryd.f29, Tryd.func29, by kernel_rfl, by kernel_rfl, by kernel_rfl, by kernel_rfl⟩

/-! ### routing/field.Decimal : params [3] results [9] -/
def r30_0 : List SOper := [⟨some 2, .mv (.c (.string ⟨#[]⟩)), none⟩]
def r30_1 : List SOper := [⟨some 3, .mv (.tm 0), none⟩,
  ⟨some 4, .call true 37 [.tm 3], none⟩,
  ⟨some 2, .mv (.tm 4), none⟩]
def c30 : AC := (.seq (.region r30_0) (.seq (.region r30_1) .ret))
theorem e30 : Entry Tryd.prog 30 c30 [.tm 2] 5 := ⟨Tryd.f30, Tryd.func30, by kernel_rfl, by kernel_rfl, by kernel_rfl, by kernel_rfl⟩

/-! ### routing/field.Number : params [9, 3] results [3, 23] -/
def r31_0 : List SOper := [⟨some 4, .mv (.c (.int .i64 0)), none⟩,
  ⟨some 5, .mv (.c (.int .i64 0)), none⟩]
def r31_1 : List SOper := [⟨some 9, .mv (.tm 0), none⟩,
  ⟨some 10, .call true 38 [.tm 9], none⟩,
  ⟨some 11, .un .not (.tm 10), none⟩]
def r31_2 : List SOper := [⟨some 4, .mv (.c (.int .i64 0)), none⟩,
  ⟨some 5, .mv (.c (.int .i64 2)), none⟩]
def r31_3 : List SOper := [⟨some 6, .mv (.c (.int .i64 0)), none⟩]
def r31_4 : List SOper := [⟨some 12, .mv (.tm 0), none⟩,
  ⟨some 13, .len true (.tm 12), none⟩,
  ⟨some 14, .mv (.c (.int .i64 0)), none⟩]
def r31_5 : List SOper := [⟨some 15, .bin .lss (.tm 14) (.tm 13), none⟩]
def r31_6 : List SOper := [⟨some 16, .mv (.tm 14), none⟩,
  ⟨some 7, .mv (.tm 16), none⟩]
def r31_7 : List SOper := [⟨some 17, .mv (.tm 0), none⟩,
  ⟨some 18, .mv (.tm 7), none⟩,
  ⟨some 19, .idxS (.tm 17) (.tm 18), none⟩,
  ⟨some 20, .bin .sub (.tm 19) (.c (.int .u8 48)), none⟩,
  ⟨some 21, .cvtI .i64 (.tm 20), none⟩,
  ⟨some 8, .mv (.tm 21), none⟩]
def r31_8 : List SOper := [⟨some 22, .mv (.tm 6), none⟩,
  ⟨some 23, .mv (.tm 8), none⟩,
  ⟨some 24, .bin .sub (.c (.int .i64 9223372036854775807)) (.tm 23), none⟩,
  ⟨some 25, .bin .quo (.tm 24) (.c (.int .i64 10)), none⟩,
  ⟨some 26, .bin .gtr (.tm 22) (.tm 25), none⟩]
def r31_9 : List SOper := [⟨some 4, .mv (.c (.int .i64 0)), none⟩,
  ⟨some 5, .mv (.c (.int .i64 5)), none⟩]
def r31_10 : List SOper := [⟨some 27, .mv (.tm 6), none⟩,
  ⟨some 28, .bin .mul (.c (.int .i64 10)) (.tm 27), none⟩,
  ⟨some 29, .mv (.tm 8), none⟩,
  ⟨some 30, .bin .add (.tm 28) (.tm 29), none⟩,
  ⟨some 6, .mv (.tm 30), none⟩]
def r31_11 : List SOper := [⟨some 31, .bin .add (.tm 14) (.c (.int .i64 1)), none⟩,
  ⟨some 14, .mv (.tm 31), none⟩]
def l31_0 : AC := (.seq (.region r31_5) (.seq (.cond (.tm 15) .skip (.exit 0)) (.seq (.block 1 (.seq (.region r31_6) (.seq (.region r31_7) (.seq (.seq (.region r31_8) (.cond (.tm 26) (.seq (.region r31_9) .ret) .skip)) (.region r31_10))))) (.region r31_11))))
def r31_12 : List SOper := [⟨some 32, .mv (.tm 6), none⟩,
  ⟨some 33, .mv (.tm 1), none⟩,
  ⟨some 34, .bin .gtr (.tm 32) (.tm 33), none⟩]
def r31_13 : List SOper := [⟨some 4, .mv (.c (.int .i64 0)), none⟩,
  ⟨some 5, .mv (.c (.int .i64 5)), none⟩]
def r31_14 : List SOper := [⟨some 35, .mv (.tm 6), none⟩,
  ⟨some 4, .mv (.tm 35), none⟩,
  ⟨some 5, .mv (.c (.int .i64 0)), none⟩]
def c31 : AC := (.seq (.region r31_0) (.seq (.seq (.region r31_1) (.cond (.tm 11) (.seq (.region r31_2) .ret) .skip)) (.seq (.region r31_3) (.seq (.seq (.region r31_4) (.block 0 (.loop l31_0))) (.seq (.seq (.region r31_12) (.cond (.tm 34) (.seq (.region r31_13) .ret) .skip)) (.seq (.region r31_14) .ret))))))
theorem e31 : Entry Tryd.prog 31 c31 [.tm 4, .tm 5] 36 := ⟨Tryd.f31, Tryd.func31, by kernel_rfl, by kernel_rfl, by kernel_rfl, by kernel_rfl⟩

/-! ### routing/routingref03.Decimal : params [3] results [9] -/
def r32_0 : List SOper := [⟨some 2, .mv (.c (.string ⟨#[]⟩)), none⟩]
def r32_1 : List SOper := [⟨some 3, .mv (.tm 0), none⟩,
  ⟨some 4, .bin .lss (.tm 3) (.c (.int .i64 0)), none⟩]
def r32_2 : List SOper := [⟨some 5, .mv (.tm 0), none⟩,
  ⟨some 6, .bin .add (.tm 5) (.c (.int .i64 1)), none⟩,
  ⟨some 7, .un .neg (.tm 6), none⟩,
  ⟨some 8, .cvtI .u64 (.tm 7), none⟩,
  ⟨some 9, .bin .add (.tm 8) (.c (.int .u64 1)), none⟩,
  ⟨some 10, .call true 39 [.tm 9], none⟩,
  ⟨some 11, .bin .add (.c (.string ⟨#[45]⟩)) (.tm 10), none⟩,
  ⟨some 2, .mv (.tm 11), none⟩]
def r32_3 : List SOper := [⟨some 12, .mv (.tm 0), none⟩,
  ⟨some 13, .cvtI .u64 (.tm 12), none⟩,
  ⟨some 14, .call true 39 [.tm 13], none⟩,
  ⟨some 2, .mv (.tm 14), none⟩]
def c32 : AC := (.seq (.region r32_0) (.seq (.seq (.region r32_1) (.cond (.tm 4) (.seq (.region r32_2) .ret) .skip)) (.seq (.region r32_3) .ret)))
theorem e32 : Entry Tryd.prog 32 c32 [.tm 2] 15 := ⟨Tryd.f32, Tryd.func32, by kernel_rfl, by kernel_rfl, by kernel_rfl, by kernel_rfl⟩

/-! ### routing/community.has[uint32] : params [22, 27] results [4] -/
def r33_0 : List SOper := [⟨some 4, .mv (.c (.bool false)), none⟩]
def r33_1 : List SOper := [⟨some 7, .mv (.tm 0), none⟩,
  ⟨some 8, .len false (.tm 7), none⟩,
  ⟨some 9, .mv (.c (.int .i64 0)), none⟩]
def r33_2 : List SOper := [⟨some 10, .bin .lss (.tm 9) (.tm 8), none⟩]
def r33_3 : List SOper := [⟨some 11, .idxA 1 (.tm 7) (.tm 9), none⟩,
  ⟨some 12, .load 1 false (.tm 11), none⟩,
  ⟨some 6, .mv (.tm 12), none⟩]
def r33_4 : List SOper := [⟨some 13, .mv (.tm 6), none⟩,
  ⟨some 14, .mv (.tm 1), none⟩,
  ⟨some 15, .bin .eql (.tm 13) (.tm 14), none⟩]
def r33_5 : List SOper := [⟨some 4, .mv (.c (.bool true)), none⟩]
def r33_6 : List SOper := [⟨some 16, .bin .add (.tm 9) (.c (.int .i64 1)), none⟩,
  ⟨some 9, .mv (.tm 16), none⟩]
def l33_0 : AC := (.seq (.region r33_2) (.seq (.cond (.tm 10) .skip (.exit 0)) (.seq (.block 1 (.seq (.region r33_3) (.seq (.region r33_4) (.cond (.tm 15) (.seq (.region r33_5) .ret) .skip)))) (.region r33_6))))
def r33_7 : List SOper := [⟨some 4, .mv (.c (.bool false)), none⟩]
def c33 : AC := (.seq (.region r33_0) (.seq (.seq (.region r33_1) (.block 0 (.loop l33_0))) (.seq (.region r33_7) .ret)))
theorem e33 : Entry Tryd.prog 33 c33 [.tm 4] 17 := ⟨Tryd.f33, Tryd.func33, by kernel_rfl, by kernel_rfl, by kernel_rfl, by kernel_rfl⟩

/-! ### routing/community.sorted[uint32] : params [22] results [22] -/
def r34_0 : List SOper := [⟨some 2, .mv (.c (.slice none 0 0)), none⟩]
def r34_1 : List SOper := [⟨some 3, .mv (.c (.slice none 0 0)), none⟩]
def r34_2 : List SOper := [⟨some 6, .mv (.tm 0), none⟩,
  ⟨some 7, .len false (.tm 6), none⟩,
  ⟨some 8, .mv (.c (.int .i64 0)), none⟩]
def r34_3 : List SOper := [⟨some 9, .bin .lss (.tm 8) (.tm 7), none⟩]
def r34_4 : List SOper := [⟨some 10, .idxA 1 (.tm 6) (.tm 8), none⟩,
  ⟨some 11, .load 1 false (.tm 10), none⟩,
  ⟨some 5, .mv (.tm 11), none⟩]
def r34_5 : List SOper := [⟨some 12, .mv (.tm 3), none⟩,
  ⟨some 13, .mv (.tm 5), none⟩,
  ⟨some 14, .call false 35 [.tm 12, .tm 13], none⟩,
  ⟨some 3, .mv (.tm 14), none⟩]
def r34_6 : List SOper := [⟨some 15, .bin .add (.tm 8) (.c (.int .i64 1)), none⟩,
  ⟨some 8, .mv (.tm 15), none⟩]
def l34_0 : AC := (.seq (.region r34_3) (.seq (.cond (.tm 9) .skip (.exit 0)) (.seq (.block 1 (.seq (.region r34_4) (.region r34_5))) (.region r34_6))))
def r34_7 : List SOper := [⟨some 16, .mv (.tm 3), none⟩,
  ⟨some 2, .mv (.tm 16), none⟩]
def c34 : AC := (.seq (.region r34_0) (.seq (.region r34_1) (.seq (.seq (.region r34_2) (.block 0 (.loop l34_0))) (.seq (.region r34_7) .ret))))
theorem e34 : Entry Tryd.prog 34 c34 [.tm 2] 17 := ⟨Tryd.f34, Tryd.func34, by kernel_rfl, by kernel_rfl, by kernel_rfl, by kernel_rfl⟩

/-! ### routing/community.insert[uint32] : params [22, 27] results [22] -/
def r35_0 : List SOper := [⟨some 4, .mv (.c (.slice none 0 0)), none⟩]
def r35_1 : List SOper := [⟨some 9, .mv (.tm 0), none⟩,
  ⟨some 10, .len false (.tm 9), none⟩,
  ⟨some 11, .bin .add (.tm 10) (.c (.int .i64 1)), none⟩,
  ⟨some 12, .mslice 27 1 4 (.int .u32 0) (.c (.int .i64 0)) (.tm 11), none⟩,
  ⟨some 5, .mv (.tm 12), none⟩]
def r35_2 : List SOper := [⟨some 6, .mv (.c (.bool false)), none⟩]
def r35_3 : List SOper := [⟨some 13, .mv (.tm 0), none⟩,
  ⟨some 14, .len false (.tm 13), none⟩,
  ⟨some 15, .mv (.c (.int .i64 0)), none⟩]
def r35_4 : List SOper := [⟨some 16, .bin .lss (.tm 15) (.tm 14), none⟩]
def r35_5 : List SOper := [⟨some 17, .idxA 1 (.tm 13) (.tm 15), none⟩,
  ⟨some 18, .load 1 false (.tm 17), none⟩,
  ⟨some 8, .mv (.tm 18), none⟩]
def r35_6 : List SOper := [⟨some 19, .mv (.tm 6), none⟩,
  ⟨some 20, .un .not (.tm 19), none⟩,
  ⟨some 21, .mv (.tm 20), none⟩,
  ⟨some 22, .mv (.tm 1), some (21, true)⟩,
  ⟨some 23, .mv (.tm 8), some (21, true)⟩,
  ⟨some 24, .bin .leq (.tm 22) (.tm 23), some (21, true)⟩,
  ⟨some 25, .pick (.tm 21) (.tm 24) (.c (.bool false)), none⟩]
def r35_7 : List SOper := [⟨some 26, .mv (.tm 5), none⟩,
  ⟨some 27, .mv (.tm 1), none⟩,
  ⟨some 28, .bslice false 27 1 1 [.tm 27], none⟩,
  ⟨some 29, .append 27 1 4 (.tm 26) (.tm 28), none⟩,
  ⟨some 5, .mv (.tm 29), none⟩]
def r35_8 : List SOper := [⟨some 6, .mv (.c (.bool true)), none⟩]
def r35_9 : List SOper := [⟨some 30, .mv (.tm 8), none⟩,
  ⟨some 31, .mv (.tm 1), none⟩,
  ⟨some 32, .bin .neq (.tm 30) (.tm 31), none⟩]
def r35_10 : List SOper := [⟨some 33, .mv (.tm 5), none⟩,
  ⟨some 34, .mv (.tm 8), none⟩,
  ⟨some 35, .bslice false 27 1 1 [.tm 34], none⟩,
  ⟨some 36, .append 27 1 4 (.tm 33) (.tm 35), none⟩,
  ⟨some 5, .mv (.tm 36), none⟩]
def r35_11 : List SOper := [⟨some 37, .bin .add (.tm 15) (.c (.int .i64 1)), none⟩,
  ⟨some 15, .mv (.tm 37), none⟩]
def l35_0 : AC := (.seq (.region r35_4) (.seq (.cond (.tm 16) .skip (.exit 0)) (.seq (.block 1 (.seq (.region r35_5) (.seq (.seq (.region r35_6) (.cond (.tm 25) (.seq (.region r35_7) (.region r35_8)) .skip)) (.seq (.region r35_9) (.cond (.tm 32) (.region r35_10) .skip))))) (.region r35_11))))
def r35_12 : List SOper := [⟨some 38, .mv (.tm 6), none⟩,
  ⟨some 39, .un .not (.tm 38), none⟩]
def r35_13 : List SOper := [⟨some 40, .mv (.tm 5), none⟩,
  ⟨some 41, .mv (.tm 1), none⟩,
  ⟨some 42, .bslice false 27 1 1 [.tm 41], none⟩,
  ⟨some 43, .append 27 1 4 (.tm 40) (.tm 42), none⟩,
  ⟨some 5, .mv (.tm 43), none⟩]
def r35_14 : List SOper := [⟨some 44, .mv (.tm 5), none⟩,
  ⟨some 4, .mv (.tm 44), none⟩]
def c35 : AC := (.seq (.region r35_0) (.seq (.region r35_1) (.seq (.region r35_2) (.seq (.seq (.region r35_3) (.block 0 (.loop l35_0))) (.seq (.seq (.region r35_12) (.cond (.tm 39) (.region r35_13) .skip)) (.seq (.region r35_14) .ret))))))
theorem e35 : Entry Tryd.prog 35 c35 [.tm 4] 45 := ⟨Tryd.f35, Tryd.func35, by kernel_rfl, by kernel_rfl, by kernel_rfl, by kernel_rfl⟩

/-! ### routing/routingref18.ascending : params [22] results [22] -/
def r36_0 : List SOper := [⟨some 2, .mv (.c (.slice none 0 0)), none⟩]
def r36_1 : List SOper := [⟨some 3, .mv (.c (.slice none 0 0)), none⟩]
def r36_2 : List SOper := [⟨some 4, .mv (.c (.bool false)), none⟩]
def r36_3 : List SOper := [⟨some 5, .mv (.c (.int .u32 0)), none⟩]
def r36_4 : List SOper := [⟨some 8, .mv (.tm 0), none⟩,
  ⟨some 9, .len false (.tm 8), none⟩,
  ⟨some 10, .mv (.c (.int .i64 0)), none⟩]
def r36_5 : List SOper := [⟨some 11, .bin .lss (.tm 10) (.tm 9), none⟩]
def r36_6 : List SOper := [⟨some 12, .idxA 1 (.tm 8) (.tm 10), none⟩,
  ⟨some 13, .load 1 false (.tm 12), none⟩,
  ⟨some 7, .mv (.tm 13), none⟩]
def r36_7 : List SOper := [⟨some 14, .mv (.tm 3), none⟩,
  ⟨some 15, .len false (.tm 14), none⟩,
  ⟨some 16, .bin .eql (.tm 15) (.c (.int .i64 0)), none⟩,
  ⟨some 17, .mv (.tm 16), none⟩,
  ⟨some 18, .mv (.tm 7), some (17, false)⟩,
  ⟨some 19, .mv (.tm 3), some (17, false)⟩,
  ⟨some 20, .mv (.tm 3), some (17, false)⟩,
  ⟨some 21, .len false (.tm 20), some (17, false)⟩,
  ⟨some 22, .bin .sub (.tm 21) (.c (.int .i64 1)), some (17, false)⟩,
  ⟨some 23, .idxA 1 (.tm 19) (.tm 22), some (17, false)⟩,
  ⟨some 24, .load 1 false (.tm 23), some (17, false)⟩,
  ⟨some 25, .bin .gtr (.tm 18) (.tm 24), some (17, false)⟩,
  ⟨some 26, .pick (.tm 17) (.c (.bool true)) (.tm 25), none⟩,
  ⟨some 27, .mv (.tm 26), none⟩,
  ⟨some 28, .mv (.tm 4), some (27, true)⟩,
  ⟨some 29, .un .not (.tm 28), some (27, true)⟩,
  ⟨some 30, .mv (.tm 29), some (27, true)⟩,
  ⟨some 31, .mv (.tm 7), some (30, false)⟩,
  ⟨some 32, .mv (.tm 5), some (30, false)⟩,
  ⟨some 33, .bin .lss (.tm 31) (.tm 32), some (30, false)⟩,
  ⟨some 34, .pick (.tm 30) (.c (.bool true)) (.tm 33), some (27, true)⟩,
  ⟨some 35, .pick (.tm 27) (.tm 34) (.c (.bool false)), none⟩]
def r36_8 : List SOper := [⟨some 4, .mv (.c (.bool true)), none⟩]
def r36_9 : List SOper := [⟨some 36, .mv (.tm 7), none⟩,
  ⟨some 5, .mv (.tm 36), none⟩]
def r36_10 : List SOper := [⟨some 37, .bin .add (.tm 10) (.c (.int .i64 1)), none⟩,
  ⟨some 10, .mv (.tm 37), none⟩]
def l36_0 : AC := (.seq (.region r36_5) (.seq (.cond (.tm 11) .skip (.exit 2)) (.seq (.block 3 (.seq (.region r36_6) (.seq (.region r36_7) (.cond (.tm 35) (.seq (.region r36_8) (.region r36_9)) .skip)))) (.region r36_10))))
def r36_11 : List SOper := [⟨some 38, .mv (.tm 4), none⟩,
  ⟨some 39, .un .not (.tm 38), none⟩]
def r36_12 : List SOper := [⟨some 40, .mv (.tm 3), none⟩,
  ⟨some 2, .mv (.tm 40), none⟩]
def r36_13 : List SOper := [⟨some 41, .mv (.tm 3), none⟩,
  ⟨some 42, .mv (.tm 5), none⟩,
  ⟨some 43, .bslice false 27 1 1 [.tm 42], none⟩,
  ⟨some 44, .append 27 1 4 (.tm 41) (.tm 43), none⟩,
  ⟨some 3, .mv (.tm 44), none⟩]
def l36_1 : AC := (.block 1 (.seq (.region r36_2) (.seq (.region r36_3) (.seq (.seq (.region r36_4) (.block 2 (.loop l36_0))) (.seq (.seq (.region r36_11) (.cond (.tm 39) (.seq (.region r36_12) .ret) .skip)) (.region r36_13))))))
def c36 : AC := (.seq (.region r36_0) (.seq (.region r36_1) (.block 0 (.loop l36_1))))
theorem e36 : Entry Tryd.prog 36 c36 [.tm 2] 45 := ⟨Tryd.f36, Tryd.func36, by kernel_rfl, by kernel_rfl, by kernel_rfl, by kernel_rfl⟩

/-! ### routing/field.canonical : params [9] results [4] -/
def r38_0 : List SOper := [⟨some 2, .mv (.c (.bool false)), none⟩]
def r38_1 : List SOper := [⟨some 4, .mv (.tm 0), none⟩,
  ⟨some 5, .bin .eql (.tm 4) (.c (.string ⟨#[]⟩)), none⟩,
  ⟨some 6, .mv (.tm 5), none⟩,
  ⟨some 7, .mv (.tm 0), some (6, false)⟩,
  ⟨some 8, .len true (.tm 7), some (6, false)⟩,
  ⟨some 9, .bin .gtr (.tm 8) (.c (.int .i64 1)), some (6, false)⟩,
  ⟨some 10, .mv (.tm 9), some (6, false)⟩,
  ⟨some 11, .mv (.tm 0), some (10, true)⟩,
  ⟨some 12, .idxS (.tm 11) (.c (.int .i64 0)), some (10, true)⟩,
  ⟨some 13, .bin .eql (.tm 12) (.c (.int .u8 48)), some (10, true)⟩,
  ⟨some 14, .pick (.tm 10) (.tm 13) (.c (.bool false)), some (6, false)⟩,
  ⟨some 15, .pick (.tm 6) (.c (.bool true)) (.tm 14), none⟩]
def r38_2 : List SOper := [⟨some 2, .mv (.c (.bool false)), none⟩]
def r38_3 : List SOper := [⟨some 16, .mv (.tm 0), none⟩,
  ⟨some 17, .len true (.tm 16), none⟩,
  ⟨some 18, .mv (.c (.int .i64 0)), none⟩]
def r38_4 : List SOper := [⟨some 19, .bin .lss (.tm 18) (.tm 17), none⟩]
def r38_5 : List SOper := [⟨some 20, .mv (.tm 18), none⟩,
  ⟨some 3, .mv (.tm 20), none⟩]
def r38_6 : List SOper := [⟨some 21, .mv (.tm 0), none⟩,
  ⟨some 22, .mv (.tm 3), none⟩,
  ⟨some 23, .idxS (.tm 21) (.tm 22), none⟩,
  ⟨some 24, .bin .lss (.tm 23) (.c (.int .u8 48)), none⟩,
  ⟨some 25, .mv (.tm 24), none⟩,
  ⟨some 26, .mv (.tm 0), some (25, false)⟩,
  ⟨some 27, .mv (.tm 3), some (25, false)⟩,
  ⟨some 28, .idxS (.tm 26) (.tm 27), some (25, false)⟩,
  ⟨some 29, .bin .gtr (.tm 28) (.c (.int .u8 57)), some (25, false)⟩,
  ⟨some 30, .pick (.tm 25) (.c (.bool true)) (.tm 29), none⟩]
def r38_7 : List SOper := [⟨some 2, .mv (.c (.bool false)), none⟩]
def r38_8 : List SOper := [⟨some 31, .bin .add (.tm 18) (.c (.int .i64 1)), none⟩,
  ⟨some 18, .mv (.tm 31), none⟩]
def l38_0 : AC := (.seq (.region r38_4) (.seq (.cond (.tm 19) .skip (.exit 0)) (.seq (.block 1 (.seq (.region r38_5) (.seq (.region r38_6) (.cond (.tm 30) (.seq (.region r38_7) .ret) .skip)))) (.region r38_8))))
def r38_9 : List SOper := [⟨some 2, .mv (.c (.bool true)), none⟩]
def c38 : AC := (.seq (.region r38_0) (.seq (.seq (.region r38_1) (.cond (.tm 15) (.seq (.region r38_2) .ret) .skip)) (.seq (.seq (.region r38_3) (.block 0 (.loop l38_0))) (.seq (.region r38_9) .ret))))
theorem e38 : Entry Tryd.prog 38 c38 [.tm 2] 32 := ⟨Tryd.f38, Tryd.func38, by kernel_rfl, by kernel_rfl, by kernel_rfl, by kernel_rfl⟩

/-! ### routing/routingref03.digits : params [56] results [9] -/
def r39_0 : List SOper := [⟨some 2, .mv (.c (.string ⟨#[]⟩)), none⟩]
def r39_1 : List SOper := [⟨some 4, .mv (.tm 0), none⟩,
  ⟨some 5, .bin .rem (.tm 4) (.c (.int .u64 10)), none⟩,
  ⟨some 6, .bin .add (.c (.int .u64 48)) (.tm 5), none⟩,
  ⟨some 7, .cvtI .u8 (.tm 6), none⟩,
  ⟨some 8, .bslice false 5 1 1 [.tm 7], none⟩,
  ⟨some 9, .b2s (.tm 8), none⟩,
  ⟨some 3, .mv (.tm 9), none⟩]
def r39_2 : List SOper := [⟨some 10, .mv (.tm 0), none⟩,
  ⟨some 11, .bin .lss (.tm 10) (.c (.int .u64 10)), none⟩]
def r39_3 : List SOper := [⟨some 12, .mv (.tm 3), none⟩,
  ⟨some 2, .mv (.tm 12), none⟩]
def r39_4 : List SOper := [⟨some 13, .mv (.tm 0), none⟩,
  ⟨some 14, .bin .quo (.tm 13) (.c (.int .u64 10)), none⟩,
  ⟨some 15, .call true 39 [.tm 14], none⟩,
  ⟨some 16, .mv (.tm 3), none⟩,
  ⟨some 17, .bin .add (.tm 15) (.tm 16), none⟩,
  ⟨some 2, .mv (.tm 17), none⟩]
def c39 : AC := (.seq (.region r39_0) (.seq (.region r39_1) (.seq (.seq (.region r39_2) (.cond (.tm 11) (.seq (.region r39_3) .ret) .skip)) (.seq (.region r39_4) .ret))))
theorem e39 : Entry Tryd.prog 39 c39 [.tm 2] 18 := ⟨Tryd.f39, Tryd.func39, by kernel_rfl, by kernel_rfl, by kernel_rfl, by kernel_rfl⟩

end Go.Proofs.YtfgchoifgocclaaDoor
