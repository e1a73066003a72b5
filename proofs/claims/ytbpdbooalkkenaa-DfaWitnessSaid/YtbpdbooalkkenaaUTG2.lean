/-
  THE LOADED FUNCTIONS AS TYPED CODE AND AS PLAIN FUNCTIONS, printed by program; each pair held by the kernel.
-/
import Derived.Test.YtbpdbooalkkenaaUTG1
set_option linter.unusedVariables false
set_option linter.unusedSimpArgs false
namespace Go.Proofs.Ytbpdbooalkkenaa
open Go Go.Av Go.Ev
def q_dfa_multiply_dddf_v1 : Sh := ⟨[], ⟨[(0, .ptr 0 0)], [.box T_str_dfa_product [.any, .sl 1, .sl 2, .sl 3, .sl 4], .vec T_str_dfa_pair (pr [tI, tI]) [], .vec T_i64 tI [], .vec T_i64 tI [], .vec T_sl_i64 (.list tI) []]⟩, [.tm 1 tB, .cell 0 0 (.list tI), .vec 1 73 (pr [tI, tI]), .vec 2 3 tI, .vec 3 3 tI, .vec 4 22 (.list tI)]⟩
def f_dfa_multiply_dddf_v1 : TF := ⟨(.seq (.region (
.op (some 4) (.boxD 26 (pr [(.list tI), (.list (.list tI)), (.list tB), tI]) (.tm 0)) <|
.op (some 5) (.boxD 26 (pr [(.list tI), (.list (.list tI)), (.list tB), tI]) (.tm 1)) <|
.op (some 8) (.mv (.raw (.pointer none))) <|
.op (some 9) (.mv (.k tB false)) <|
.nil)) (.seq (.draw2 3 [
 mkPO 0 true [] (some 19) (.fldA 0 (.list tI) (.tm 4)),
 mkPO 1 true [] (some 20) (.load (.list tI) (.tm 19)),
 mkPO 2 true [0, 1] (some 21) (.fldA 0 (.list tI) (.tm 5)),
 mkPO 3 true [0, 1] (some 22) (.load (.list tI) (.tm 21)),
 mkPO 4 true [] (some 23) (.call false N_dfa_merge [(.d (.list tI), .tm 20), (.d (.list tI), .tm 22)] q_dfa_merge),
 mkPO 5 true [0, 1, 2, 3, 4] (some 24) (.fldA 3 tI (.tm 4)),
 mkPO 6 true [0, 1, 2, 3, 4] (some 25) (.load tI (.tm 24)),
 mkPO 7 true [0, 1, 2, 3, 4, 5, 6] (some 26) (.fldA 3 tI (.tm 5)),
 mkPO 8 true [0, 1, 2, 3, 4, 5, 6] (some 27) (.load tI (.tm 26)),
 mkPO 9 true [0, 1, 2, 3, 4] (some 28) (.build [.d tI (0 : Int), .d tI (0 : Int)] [(0, 1, .tm 25), (1, 1, .tm 27)]),
 mkPO 10 true [0, 1, 2, 3, 4] (some 29) (.atq 0 (.bslice true 73 (pr [tI, tI]) 1 [.tm 28])),
 mkPO 11 true [0, 1, 2, 3, 4, 5, 6, 7, 8, 9, 10] (some 30) (.atq 1 (.bslice true 3 tI 1 [.k tI (-1 : Int)])),
 mkPO 12 true [0, 1, 2, 3, 4, 5, 6, 7, 8, 9, 10, 11] (some 31) (.atq 2 (.bslice true 3 tI 1 [.k tI (0 : Int)]))] (
.op (some 32) (.build [.nil tI, .nil (pr [tI, tI]), .nil tI, .nil tI, .nil (.list tI)] [(0, 1, .tm 23), (1, 1, .tm 29), (2, 1, .tm 30), (3, 1, .tm 31)]) <|
.op (some 33) (.box 77 (.tm 32)) <|
.op (some 10) (.mv (.tm 33)) <|
.nil) [[], [0], [], [2], [1, 3], [], [5], [], [7], [6, 8], [9], [], [], [4, 10, 11, 12], [13], [14, 4, 0, 1, 2, 3, 4, 5, 6, 7, 8, 9, 10, 11, 12, 13, 14]]) (.seq (.region (
.op (some 34) (.mkmap 73 3 (pr [tI, tI]) tI) <|
.op (some 35) (.mv (.tm 10)) <|
.op (some 36) (.nilc (.tm 35)) <|
.op (some 37) (.fldA 1 (.list (pr [tI, tI])) (.tm 36)) <|
.op (some 38) (.load (.list (pr [tI, tI])) (.tm 37)) <|
.op (some 39) (.idxA (pr [tI, tI]) (.tm 38) (.k tI (0 : Int))) <|
.op (some 40) (.load (pr [tI, tI]) (.tm 39)) <|
.op none (.mapset 73 3 (pr [tI, tI]) tI (.tm 34) (.tm 40) (.k tI (0 : Int))) <|
.op (some 41) (.mv (.tm 34)) <|
.op (some 11) (.mv (.tm 41)) <|
.nil)) (.seq (.seq (.region (
.op (some 42) (.mv (.tm 3)) <|
.op (some 43) (.mv (.tm 10)) <|
.op (some 44) (.nilc (.tm 43)) <|
.op (some 45) (.fldA 1 (.list (pr [tI, tI])) (.tm 44)) <|
.op (some 46) (.load (.list (pr [tI, tI])) (.tm 45)) <|
.op (some 47) (.idxA (pr [tI, tI]) (.tm 46) (.k tI (0 : Int))) <|
.op (some 48) (.load (pr [tI, tI]) (.tm 47)) <|
.op (some 49) (.callp false N_dfa_Both_1 (.tm 42) [(.d (pr [tI, tI]), .tm 48)] q_dfa_Both_1) <|
.nil)) (.cond (.tm 49) (.seq (.region (
.op (some 50) (.mv (.tm 10)) <|
.op (some 8) (.mv (.tm 50)) <|
.op (some 9) (.mv (.k tB true)) <|
.nil)) (.adj [.adoptC 3 4 22 (.list tI), .sel [3, 0, 1, 2, 5] [8, 9]] .ret)) .skip)) (.seq (.seq (.region (
.op (some 12) (.mv (.k tI (0 : Int))) <|
.nil)) (.block 0 (.adj [.adoptC 3 4 22 (.list tI), .sel [3, 0, 1, 2, 5, 4] [2, 3, 4, 5, 10, 11, 12]] (.loop ⟨[2, 3, 4, 5], ⟨[(10, .ptr 0 0), (11, .mp 5)], [.box T_str_dfa_product [.any, .sl 1, .sl 2, .sl 3, .sl 4], .vec T_str_dfa_pair (pr [tI, tI]) [], .vec T_i64 tI [], .vec T_i64 tI [], .vec T_sl_i64 (.list tI) [], .map T_str_dfa_pair T_i64 (pr [tI, tI]) tI []]⟩, [.tm 12 tI, .cell 0 0 (.list tI), .vec 1 73 (pr [tI, tI]), .vec 2 3 tI, .vec 3 3 tI, .vec 4 22 (.list tI), .map 5 73 3 (pr [tI, tI]) tI]⟩ [(1, ⟨[], ⟨[(8, .ptr 0 0)], [.box T_str_dfa_product [.any, .sl 1, .sl 2, .sl 3, .sl 4], .vec T_str_dfa_pair (pr [tI, tI]) [], .vec T_i64 tI [], .vec T_i64 tI [], .vec T_sl_i64 (.list tI) []]⟩, [.tm 9 tB, .cell 0 0 (.list tI), .vec 1 73 (pr [tI, tI]), .vec 2 3 tI, .vec 3 3 tI, .vec 4 22 (.list tI)]⟩), (3, ⟨[], ⟨[(10, .ptr 0 0)], [.box T_str_dfa_product [.any, .sl 1, .sl 2, .sl 3, .sl 4], .vec T_str_dfa_pair (pr [tI, tI]) [], .vec T_i64 tI [], .vec T_i64 tI [], .vec T_sl_i64 (.list tI) []]⟩, [.cell 0 0 (.list tI), .vec 1 73 (pr [tI, tI]), .vec 2 3 tI, .vec 3 3 tI, .vec 4 22 (.list tI)]⟩)] (.seq (.seq (.region (
.op (some 51) (.mv (.tm 12)) <|
.op (some 52) (.mv (.tm 10)) <|
.op (some 53) (.nilc (.tm 52)) <|
.op (some 54) (.fldA 1 (.list (pr [tI, tI])) (.tm 53)) <|
.op (some 55) (.load (.list (pr [tI, tI])) (.tm 54)) <|
.op (some 56) (.len false (.tm 55)) <|
.op (some 57) (.bin .lss (.tm 51) (.tm 56)) <|
.nil)) (.cond (.tm 57) .skip (.adj [.sel [0, 1, 2, 3, 4] [10]] (.exit 0)))) (.seq (.block 1 (.seq (.region (
.op (some 60) (.mv (.tm 10)) <|
.op (some 61) (.nilc (.tm 60)) <|
.op (some 62) (.fldA 0 (.list tI) (.tm 61)) <|
.op (some 63) (.load (.list tI) (.tm 62)) <|
.op (some 64) (.len false (.tm 63)) <|
.op (some 65) (.mslice 3 tI 8 (.tm 64) (.tm 64)) <|
.op (some 13) (.mv (.tm 65)) <|
.nil)) (.seq (.seq (.region (
.op (some 66) (.mv (.tm 10)) <|
.op (some 67) (.nilc (.tm 66)) <|
.op (some 68) (.fldA 0 (.list tI) (.tm 67)) <|
.op (some 69) (.load (.list tI) (.tm 68)) <|
.op (some 70) (.len false (.tm 69)) <|
.op (some 71) (.mv (.k tI (0 : Int))) <|
.nil)) (.block 2 (.loop ⟨[2, 3, 4, 5, 12, 69, 70], ⟨[(10, .ptr 0 0), (11, .mp 5), (13, .sl 6)], [.box T_str_dfa_product [.any, .sl 1, .sl 2, .sl 3, .sl 4], .vec T_str_dfa_pair (pr [tI, tI]) [], .vec T_i64 tI [], .vec T_i64 tI [], .vec T_sl_i64 (.list tI) [], .map T_str_dfa_pair T_i64 (pr [tI, tI]) tI [], .vec T_i64 tI []]⟩, [.tm 71 tI, .cell 0 0 (.list tI), .vec 1 73 (pr [tI, tI]), .vec 2 3 tI, .vec 3 3 tI, .vec 4 22 (.list tI), .map 5 73 3 (pr [tI, tI]) tI, .vec 6 3 tI]⟩ [(1, ⟨[], ⟨[(8, .ptr 0 0)], [.box T_str_dfa_product [.any, .sl 1, .sl 2, .sl 3, .sl 4], .vec T_str_dfa_pair (pr [tI, tI]) [], .vec T_i64 tI [], .vec T_i64 tI [], .vec T_sl_i64 (.list tI) []]⟩, [.tm 9 tB, .cell 0 0 (.list tI), .vec 1 73 (pr [tI, tI]), .vec 2 3 tI, .vec 3 3 tI, .vec 4 22 (.list tI)]⟩), (5, ⟨[2, 3, 4, 5, 12], ⟨[(10, .ptr 0 0), (11, .mp 5), (13, .sl 6)], [.box T_str_dfa_product [.any, .sl 1, .sl 2, .sl 3, .sl 4], .vec T_str_dfa_pair (pr [tI, tI]) [], .vec T_i64 tI [], .vec T_i64 tI [], .vec T_sl_i64 (.list tI) [], .map T_str_dfa_pair T_i64 (pr [tI, tI]) tI [], .vec T_i64 tI []]⟩, [.cell 0 0 (.list tI), .vec 1 73 (pr [tI, tI]), .vec 2 3 tI, .vec 3 3 tI, .vec 4 22 (.list tI), .map 5 73 3 (pr [tI, tI]) tI, .vec 6 3 tI]⟩)] (.seq (.region (
.op (some 72) (.bin .lss (.tm 71) (.tm 70)) <|
.nil)) (.seq (.cond (.tm 72) .skip (.exit 2)) (.seq (.block 3 (.seq (.region (
.op (some 73) (.mv (.tm 71)) <|
.op (some 74) (.idxA tI (.tm 69) (.tm 71)) <|
.op (some 75) (.load tI (.tm 74)) <|
.op (some 14) (.mv (.tm 73)) <|
.op (some 15) (.mv (.tm 75)) <|
.nil)) (.seq (.draw2 1 [
 mkPO 0 true [] (some 76) (.fldA 1 (.list (.list tI)) (.tm 4)),
 mkPO 1 true [] (some 77) (.load (.list (.list tI)) (.tm 76)),
 mkPO 2 true [0, 1] (some 78) (.mv (.tm 10)),
 mkPO 3 true [0, 1] (some 79) (.nilc (.tm 78)),
 mkPO 4 true [0, 1] (some 80) (.fldA 1 (.list (pr [tI, tI])) (.tm 79)),
 mkPO 5 true [0, 1] (some 81) (.load (.list (pr [tI, tI])) (.tm 80)),
 mkPO 6 true [0, 1, 2, 3, 4, 5] (some 82) (.mv (.tm 12)),
 mkPO 7 true [0, 1] (some 83) (.idxA (pr [tI, tI]) (.tm 81) (.tm 82)),
 mkPO 8 true [0, 1] (some 84) (.fldA 0 tI (.tm 83)),
 mkPO 9 true [0, 1] (some 85) (.load tI (.tm 84)),
 mkPO 10 true [] (some 86) (.idxA (.list tI) (.tm 77) (.tm 85)),
 mkPO 11 true [] (some 87) (.load (.list tI) (.tm 86)),
 mkPO 12 true [0, 1, 2, 3, 4, 5, 6, 7, 8, 9, 10, 11] (some 88) (.fldA 0 (.list tI) (.tm 4)),
 mkPO 13 true [0, 1, 2, 3, 4, 5, 6, 7, 8, 9, 10, 11] (some 89) (.load (.list tI) (.tm 88)),
 mkPO 14 true [0, 1, 2, 3, 4, 5, 6, 7, 8, 9, 10, 11, 12, 13] (some 90) (.mv (.tm 15)),
 mkPO 15 true [0, 1, 2, 3, 4, 5, 6, 7, 8, 9, 10, 11] (some 91) (.call false N_dfa_class [(.d (.list tI), .tm 89), (.d tI, .tm 90)] q_dfa_class),
 mkPO 16 true [] (some 92) (.idxA tI (.tm 87) (.tm 91)),
 mkPO 17 true [] (some 93) (.load tI (.tm 92)),
 mkPO 18 true [0, 1, 2, 3, 4, 5, 6, 7, 8, 9, 10, 11, 12, 13, 14, 15, 16, 17] (some 94) (.fldA 1 (.list (.list tI)) (.tm 5)),
 mkPO 19 true [0, 1, 2, 3, 4, 5, 6, 7, 8, 9, 10, 11, 12, 13, 14, 15, 16, 17] (some 95) (.load (.list (.list tI)) (.tm 94)),
 mkPO 20 true [0, 1, 2, 3, 4, 5, 6, 7, 8, 9, 10, 11, 12, 13, 14, 15, 16, 17, 18, 19] (some 96) (.mv (.tm 10)),
 mkPO 21 true [0, 1, 2, 3, 4, 5, 6, 7, 8, 9, 10, 11, 12, 13, 14, 15, 16, 17, 18, 19] (some 97) (.nilc (.tm 96)),
 mkPO 22 true [0, 1, 2, 3, 4, 5, 6, 7, 8, 9, 10, 11, 12, 13, 14, 15, 16, 17, 18, 19] (some 98) (.fldA 1 (.list (pr [tI, tI])) (.tm 97)),
 mkPO 23 true [0, 1, 2, 3, 4, 5, 6, 7, 8, 9, 10, 11, 12, 13, 14, 15, 16, 17, 18, 19] (some 99) (.load (.list (pr [tI, tI])) (.tm 98)),
 mkPO 24 true [0, 1, 2, 3, 4, 5, 6, 7, 8, 9, 10, 11, 12, 13, 14, 15, 16, 17, 18, 19, 20, 21, 22, 23] (some 100) (.mv (.tm 12)),
 mkPO 25 true [0, 1, 2, 3, 4, 5, 6, 7, 8, 9, 10, 11, 12, 13, 14, 15, 16, 17, 18, 19] (some 101) (.idxA (pr [tI, tI]) (.tm 99) (.tm 100)),
 mkPO 26 true [0, 1, 2, 3, 4, 5, 6, 7, 8, 9, 10, 11, 12, 13, 14, 15, 16, 17, 18, 19] (some 102) (.fldA 1 tI (.tm 101)),
 mkPO 27 true [0, 1, 2, 3, 4, 5, 6, 7, 8, 9, 10, 11, 12, 13, 14, 15, 16, 17, 18, 19] (some 103) (.load tI (.tm 102)),
 mkPO 28 true [0, 1, 2, 3, 4, 5, 6, 7, 8, 9, 10, 11, 12, 13, 14, 15, 16, 17] (some 104) (.idxA (.list tI) (.tm 95) (.tm 103)),
 mkPO 29 true [0, 1, 2, 3, 4, 5, 6, 7, 8, 9, 10, 11, 12, 13, 14, 15, 16, 17] (some 105) (.load (.list tI) (.tm 104)),
 mkPO 30 true [0, 1, 2, 3, 4, 5, 6, 7, 8, 9, 10, 11, 12, 13, 14, 15, 16, 17, 18, 19, 20, 21, 22, 23, 24, 25, 26, 27, 28, 29] (some 106) (.fldA 0 (.list tI) (.tm 5)),
 mkPO 31 true [0, 1, 2, 3, 4, 5, 6, 7, 8, 9, 10, 11, 12, 13, 14, 15, 16, 17, 18, 19, 20, 21, 22, 23, 24, 25, 26, 27, 28, 29] (some 107) (.load (.list tI) (.tm 106)),
 mkPO 32 true [0, 1, 2, 3, 4, 5, 6, 7, 8, 9, 10, 11, 12, 13, 14, 15, 16, 17, 18, 19, 20, 21, 22, 23, 24, 25, 26, 27, 28, 29, 30, 31] (some 108) (.mv (.tm 15)),
 mkPO 33 true [0, 1, 2, 3, 4, 5, 6, 7, 8, 9, 10, 11, 16, 17, 18, 19, 20, 21, 22, 23, 24, 25, 26, 27, 28, 29] (some 109) (.call false N_dfa_class [(.d (.list tI), .tm 107), (.d tI, .tm 108)] q_dfa_class),
 mkPO 34 true [0, 1, 2, 3, 4, 5, 6, 7, 8, 9, 10, 11, 16, 17] (some 110) (.idxA tI (.tm 105) (.tm 109)),
 mkPO 35 true [0, 1, 2, 3, 4, 5, 6, 7, 8, 9, 10, 11, 16, 17] (some 111) (.load tI (.tm 110)),
 mkPO 36 true [] (some 112) (.build [.d tI (0 : Int), .d tI (0 : Int)] [(0, 1, .tm 93), (1, 1, .tm 111)]),
 mkPO 37 true [0, 1, 2, 3, 4, 5, 6, 7, 8, 9, 10, 11, 12, 13, 14, 15, 16, 17, 18, 19, 20, 21, 22, 23, 24, 25, 26, 27, 28, 29, 30, 31, 32, 33, 34, 35, 36] (some 16) (.atq 7 (.alloc 73 [.d tI (0 : Int), .d tI (0 : Int)]))] (
.op none (.store (pr [tI, tI]) (.tm 16) (.tm 112)) <|
.nil) [[], [0], [], [2], [3], [4], [], [5, 6], [7], [8], [1, 9], [10], [], [12], [], [13, 14], [11, 15], [16], [], [18], [], [20], [21], [22], [], [23, 24], [25], [26], [19, 27], [28], [], [30], [], [31, 32, 15], [29, 33], [34], [17, 35], [], [37, 36, 33, 0, 1, 2, 3, 4, 5, 6, 7, 8, 9, 10, 11, 12, 13, 14, 15, 16, 17, 18, 19, 20, 21, 22, 23, 24, 25, 26, 27, 28, 29, 30, 31, 32, 33, 34, 35, 36, 37]]) (.seq (.region (
.op (some 114) (.mv (.tm 11)) <|
.op (some 115) (.load (pr [tI, tI]) (.tm 16)) <|
.op (some 116) (.lookup 73 3 true (pr [tI, tI]) tI (.tm 114) (.tm 115)) <|
.op (some 113) (.mv (.tm 116)) <|
.op (some 117) (.ext (.tm 113) 0) <|
.op (some 118) (.ext (.tm 113) 1) <|
.op (some 17) (.mv (.tm 117)) <|
.op (some 18) (.mv (.tm 118)) <|
.nil)) (.seq (.cut [(0, ⟨[2, 3, 4, 5, 12, 14, 69, 70, 71], ⟨[(10, .ptr 0 0), (11, .mp 5), (13, .sl 6)], [.box T_str_dfa_product [.any, .sl 1, .sl 2, .sl 3, .sl 4], .vec T_str_dfa_pair (pr [tI, tI]) [], .vec T_i64 tI [], .vec T_i64 tI [], .vec T_sl_i64 (.list tI) [], .map T_str_dfa_pair T_i64 (pr [tI, tI]) tI [], .vec T_i64 tI []]⟩, [.tm 17 tI, .cell 0 0 (.list tI), .vec 1 73 (pr [tI, tI]), .vec 2 3 tI, .vec 3 3 tI, .vec 4 22 (.list tI), .map 5 73 3 (pr [tI, tI]) tI, .vec 6 3 tI]⟩), (1, ⟨[], ⟨[(8, .ptr 0 0)], [.box T_str_dfa_product [.any, .sl 1, .sl 2, .sl 3, .sl 4], .vec T_str_dfa_pair (pr [tI, tI]) [], .vec T_i64 tI [], .vec T_i64 tI [], .vec T_sl_i64 (.list tI) []]⟩, [.tm 9 tB, .cell 0 0 (.list tI), .vec 1 73 (pr [tI, tI]), .vec 2 3 tI, .vec 3 3 tI, .vec 4 22 (.list tI)]⟩)] (.seq (.region (
.op (some 119) (.mv (.tm 18)) <|
.op (some 120) (.un .not (.tm 119)) <|
.nil)) (.cond (.tm 120) (.seq (.region (
.op (some 121) (.mv (.tm 10)) <|
.op (some 122) (.nilc (.tm 121)) <|
.op (some 123) (.fldA 1 (.list (pr [tI, tI])) (.tm 122)) <|
.op (some 124) (.load (.list (pr [tI, tI])) (.tm 123)) <|
.op (some 125) (.len false (.tm 124)) <|
.op (some 17) (.mv (.tm 125)) <|
.nil)) (.seq (.region (
.op (some 126) (.mv (.tm 11)) <|
.op (some 127) (.load (pr [tI, tI]) (.tm 16)) <|
.op (some 128) (.mv (.tm 17)) <|
.op none (.mapset 73 3 (pr [tI, tI]) tI (.tm 126) (.tm 127) (.tm 128)) <|
.nil)) (.seq (.draw2 0 [
 mkPO 0 true [] (some 129) (.mv (.tm 10)),
 mkPO 1 true [0] (some 130) (.mv (.tm 10)),
 mkPO 2 true [0] (some 131) (.nilc (.tm 130)),
 mkPO 3 true [0] (some 132) (.fldA 1 (.list (pr [tI, tI])) (.tm 131)),
 mkPO 4 true [0] (some 133) (.load (.list (pr [tI, tI])) (.tm 132)),
 mkPO 5 true [0, 1, 2, 3, 4] (some 134) (.load (pr [tI, tI]) (.tm 16)),
 mkPO 6 true [0, 1, 2, 3, 4] (some 135) (.bslice false 73 (pr [tI, tI]) 1 [.tm 134]),
 mkPO 7 false [0] (some 136) (.append 73 (pr [tI, tI]) 16 (.tm 133) (.tm 135))] (
.op (some 137) (.nilc (.tm 129)) <|
.op (some 138) (.fldA 1 (.list (pr [tI, tI])) (.tm 137)) <|
.op none (.store (.list (pr [tI, tI])) (.tm 138) (.tm 136)) <|
.nil) [[], [], [1], [2], [3], [], [5], [4, 6], [0, 0, 1, 2, 3, 4, 5, 6, 7], [8, 0, 1, 2, 3, 4, 5, 6, 7], [9, 7, 7, 0, 1, 2, 3, 4, 5, 6, 7]]) (.seq (.region (
.op (some 139) (.mv (.tm 10)) <|
.op (some 140) (.mv (.tm 10)) <|
.op (some 141) (.nilc (.tm 140)) <|
.op (some 142) (.fldA 2 (.list tI) (.tm 141)) <|
.op (some 143) (.load (.list tI) (.tm 142)) <|
.op (some 144) (.mv (.tm 12)) <|
.op (some 145) (.bslice false 3 tI 1 [.tm 144]) <|
.op (some 146) (.append 3 tI 8 (.tm 143) (.tm 145)) <|
.op (some 147) (.nilc (.tm 139)) <|
.op (some 148) (.fldA 2 (.list tI) (.tm 147)) <|
.op none (.store (.list tI) (.tm 148) (.tm 146)) <|
.nil)) (.seq (.region (
.op (some 149) (.mv (.tm 10)) <|
.op (some 150) (.mv (.tm 10)) <|
.op (some 151) (.nilc (.tm 150)) <|
.op (some 152) (.fldA 3 (.list tI) (.tm 151)) <|
.op (some 153) (.load (.list tI) (.tm 152)) <|
.op (some 154) (.mv (.tm 15)) <|
.op (some 155) (.bslice false 3 tI 1 [.tm 154]) <|
.op (some 156) (.append 3 tI 8 (.tm 153) (.tm 155)) <|
.op (some 157) (.nilc (.tm 149)) <|
.op (some 158) (.fldA 3 (.list tI) (.tm 157)) <|
.op none (.store (.list tI) (.tm 158) (.tm 156)) <|
.nil)) (.seq (.region (
.op (some 159) (.mv (.tm 17)) <|
.op (some 160) (.mv (.tm 2)) <|
.op (some 161) (.bin .geq (.tm 159) (.tm 160)) <|
.op (some 162) (.mv (.tm 161)) <|
.gb 162 false (
.op (some 163) (.mv (.tm 3)) <|
.op (some 164) (.load (pr [tI, tI]) (.tm 16)) <|
.op (some 165) (.callp false N_dfa_Both_1 (.tm 163) [(.d (pr [tI, tI]), .tm 164)] q_dfa_Both_1) <|
.nil) tB (.tm 165) (.k tB true) 166 <|
.nil)) (.cond (.tm 166) (.seq (.region (
.op (some 167) (.mv (.tm 10)) <|
.op (some 8) (.mv (.tm 167)) <|
.op (some 9) (.mv (.k tB true)) <|
.nil)) (.adj [.sel [0, 1, 2, 3, 4] [8, 9]] .ret)) (.after .skip [.sel [0, 1, 2, 3, 4, 5, 6] [2, 3, 4, 5, 10, 11, 12, 13, 14, 17, 69, 70, 71]])))))))) (.after .skip [.sel [0, 1, 2, 3, 4, 5, 6] [2, 3, 4, 5, 10, 11, 12, 13, 14, 17, 69, 70, 71]])))) (.region (
.op (some 168) (.mv (.tm 13)) <|
.op (some 169) (.mv (.tm 14)) <|
.op (some 170) (.mv (.tm 17)) <|
.op (some 171) (.idxA tI (.tm 168) (.tm 169)) <|
.op none (.store tI (.tm 171) (.tm 170)) <|
.nil))))))) (.region (
.op (some 172) (.bin .add (.tm 71) (.k tI (1 : Int))) <|
.op (some 71) (.mv (.tm 172)) <|
.nil)))))))) (.region (
.op (some 173) (.mv (.tm 10)) <|
.op (some 174) (.mv (.tm 10)) <|
.op (some 175) (.nilc (.tm 174)) <|
.op (some 176) (.fldA 4 (.list (.list tI)) (.tm 175)) <|
.op (some 177) (.load (.list (.list tI)) (.tm 176)) <|
.op (some 178) (.mv (.tm 13)) <|
.adj [.freeze 6] <|
.op (some 179) (.bslice false 22 (.list tI) 1 [.tm 178]) <|
.op (some 180) (.append 22 (.list tI) 24 (.tm 177) (.tm 179)) <|
.op (some 181) (.nilc (.tm 173)) <|
.op (some 182) (.fldA 4 (.list (.list tI)) (.tm 181)) <|
.op none (.store (.list (.list tI)) (.tm 182) (.tm 180)) <|
.nil))))) (.after (.region (
.op (some 58) (.mv (.tm 12)) <|
.op (some 59) (.bin .add (.tm 58) (.k tI (1 : Int))) <|
.op (some 12) (.mv (.tm 59)) <|
.nil)) [.sel [0, 1, 2, 3, 4, 5] [2, 3, 4, 5, 10, 11, 12]]))))))) (.seq (.region (
.op (some 183) (.mv (.tm 10)) <|
.op (some 8) (.mv (.tm 183)) <|
.op (some 9) (.mv (.k tB false)) <|
.nil)) .ret)))))), [.tm 8, .tm 9], 184, q_dfa_multiply_dddf_v1, 0⟩
def q_dfa_Both : Sh := ⟨[], ⟨[], []⟩, [.tm 0 (pr [(.list tI), (.list (.list tI)), (.list tB), tI]), .tm 1 tI]⟩
def f_dfa_Both : TF := ⟨(.seq (.region (
.op (some 2) (.boxD 26 (pr [(.list tI), (.list (.list tI)), (.list tB), tI]) (.tm 0)) <|
.op (some 3) (.boxD 26 (pr [(.list tI), (.list (.list tI)), (.list tB), tI]) (.tm 1)) <|
.op (some 4) (.alloc 26 [.nil tI, .nil (.list tI), .nil tB, .d tI (0 : Int)]) <|
.op (some 5) (.mv (.k tI (0 : Int))) <|
.nil)) (.seq (.seq (.region (
.op (some 14) (.load (pr [(.list tI), (.list (.list tI)), (.list tB), tI]) (.tm 2)) <|
.op (some 15) (.call false N_dfa_Check [(.d (pr [(.list tI), (.list (.list tI)), (.list tB), tI]), .tm 14)] q_dfa_Check) <|
.op (some 6) (.mv (.tm 15)) <|
.nil)) (.seq (.region (
.op (some 16) (.mv (.tm 6)) <|
.op (some 17) (.bin .neq (.tm 16) (.k tI (0 : Int))) <|
.nil)) (.cond (.tm 17) (.seq (.region (
.op (some 18) (.build [.nil tI, .nil (.list tI), .nil tB, .d tI (0 : Int)] []) <|
.op (some 19) (.mv (.tm 6)) <|
.op none (.store (pr [(.list tI), (.list (.list tI)), (.list tB), tI]) (.tm 4) (.tm 18)) <|
.op (some 5) (.mv (.tm 19)) <|
.nil)) .ret) .skip))) (.seq (.seq (.region (
.op (some 20) (.load (pr [(.list tI), (.list (.list tI)), (.list tB), tI]) (.tm 3)) <|
.op (some 21) (.call false N_dfa_Check [(.d (pr [(.list tI), (.list (.list tI)), (.list tB), tI]), .tm 20)] q_dfa_Check) <|
.op (some 7) (.mv (.tm 21)) <|
.nil)) (.seq (.region (
.op (some 22) (.mv (.tm 7)) <|
.op (some 23) (.bin .neq (.tm 22) (.k tI (0 : Int))) <|
.nil)) (.cond (.tm 23) (.seq (.region (
.op (some 24) (.build [.nil tI, .nil (.list tI), .nil tB, .d tI (0 : Int)] []) <|
.op (some 25) (.mv (.tm 7)) <|
.op none (.store (pr [(.list tI), (.list (.list tI)), (.list tB), tI]) (.tm 4) (.tm 24)) <|
.op (some 5) (.mv (.tm 25)) <|
.nil)) .ret) .skip))) (.seq (.region (
.op (some 27) (.load (pr [(.list tI), (.list (.list tI)), (.list tB), tI]) (.tm 2)) <|
.op (some 28) (.load (pr [(.list tI), (.list (.list tI)), (.list tB), tI]) (.tm 3)) <|
.op (some 29) (.callA false false [] N_dfa_multiply_dddf_v1 [(.d (pr [(.list tI), (.list (.list tI)), (.list tB), tI]), .tm 27), (.d (pr [(.list tI), (.list (.list tI)), (.list tB), tI]), .tm 28), (.d tI, .k tI (4096 : Int)), (.x, .f F_dfa_Both_1)] q_dfa_multiply_dddf_v1) <|
.op (some 26) (.mv (.tm 29)) <|
.op (some 30) (.ext (.tm 26) 0) <|
.op (some 31) (.ext (.tm 26) 1) <|
.op (some 8) (.mv (.tm 30)) <|
.op (some 9) (.mv (.tm 31)) <|
.nil)) (.seq (.seq (.region (
.op (some 32) (.mv (.tm 9)) <|
.nil)) (.cond (.tm 32) (.seq (.region (
.op (some 33) (.build [.nil tI, .nil (.list tI), .nil tB, .d tI (0 : Int)] []) <|
.op none (.store (pr [(.list tI), (.list (.list tI)), (.list tB), tI]) (.tm 4) (.tm 33)) <|
.op (some 5) (.mv (.k tI (8 : Int))) <|
.nil)) .ret) .skip)) (.seq (.draw2 1 [
 mkPO 0 true [] (some 34) (.mv (.tm 8)),
 mkPO 1 true [] (some 35) (.nilc (.tm 34)),
 mkPO 2 true [] (some 36) (.fldA 0 (.list tI) (.tm 35)),
 mkPO 3 true [] (some 37) (.load (.list tI) (.tm 36)),
 mkPO 4 true [0, 1, 2, 3] (some 38) (.mv (.tm 8)),
 mkPO 5 true [0, 1, 2, 3] (some 39) (.nilc (.tm 38)),
 mkPO 6 true [0, 1, 2, 3] (some 40) (.fldA 4 (.list (.list tI)) (.tm 39)),
 mkPO 7 true [0, 1, 2, 3] (some 41) (.load (.list (.list tI)) (.tm 40)),
 mkPO 8 true [] (some 42) (.build [.nil tI, .nil (.list tI), .nil tB, .d tI (0 : Int)] [(0, 1, .tm 37), (1, 1, .tm 41)]),
 mkPO 9 true [0, 1, 2, 3, 4, 5, 6, 7, 8] (some 10) (.atq 6 (.alloc 26 [.nil tI, .nil (.list tI), .nil tB, .d tI (0 : Int)]))] (
.op none (.store (pr [(.list tI), (.list (.list tI)), (.list tB), tI]) (.tm 10) (.tm 42)) <|
.nil) [[], [0], [1], [2], [], [4], [5], [6], [3, 7], [], [9, 8, 0, 1, 2, 3, 4, 5, 6, 7, 8, 9]]) (.seq (.seq (.region (
.op (some 43) (.mv (.tm 8)) <|
.op (some 44) (.nilc (.tm 43)) <|
.op (some 45) (.fldA 1 (.list (pr [tI, tI])) (.tm 44)) <|
.op (some 46) (.load (.list (pr [tI, tI])) (.tm 45)) <|
.op (some 47) (.len false (.tm 46)) <|
.op (some 48) (.mv (.k tI (0 : Int))) <|
.nil)) (.block 0 (.adj [.adoptC 6 2 4 tB, .sel [0, 6, 5, 7, 2] [2, 3, 4, 10, 46, 47, 48]] (.loop ⟨[2, 3, 47], ⟨[(4, .ptr 0 0), (10, .ptr 1 0), (46, .sl 4)], [.box T_str_api_DFA [.nil tI, .nil (.list tI), .nil tB, .any], .box T_str_api_DFA [.any, .sl 2, .sl 3, .any], .vec T_sl_i64 (.list tI) [], .vec T_bool tB [], .vec T_str_dfa_pair (pr [tI, tI]) []]⟩, [.tm 48 tI, .cell 0 3 tI, .cell 1 0 (.list tI), .cell 1 3 tI, .vec 2 22 (.list tI), .vec 3 4 tB, .vec 4 73 (pr [tI, tI])]⟩ [(3, ⟨[], ⟨[(4, .ptr 0 0), (10, .ptr 1 0)], [.box T_str_api_DFA [.nil tI, .nil (.list tI), .nil tB, .any], .box T_str_api_DFA [.any, .sl 2, .sl 3, .any], .vec T_sl_i64 (.list tI) [], .vec T_bool tB []]⟩, [.cell 0 3 tI, .cell 1 0 (.list tI), .cell 1 3 tI, .vec 2 22 (.list tI), .vec 3 4 tB]⟩)] (.seq (.region (
.op (some 49) (.bin .lss (.tm 48) (.tm 47)) <|
.nil)) (.seq (.cond (.tm 49) .skip (.adj [.sel [0, 1, 2, 3] [4, 10]] (.exit 0))) (.seq (.block 1 (.seq (.region (
.op (some 50) (.idxA (pr [tI, tI]) (.tm 46) (.tm 48)) <|
.op (some 51) (.load (pr [tI, tI]) (.tm 50)) <|
.op (some 12) (.alloc 73 [.d tI (0 : Int), .d tI (0 : Int)]) <|
.op none (.store (pr [tI, tI]) (.tm 12) (.tm 51)) <|
.nil)) (.draw 17 (
.op (some 52) (.fldA 2 (.list tB) (.tm 10)) <|
.op (some 53) (.load (.list tB) (.tm 52)) <|
.op (some 54) (.fldA 2 (.list tB) (.tm 2)) <|
.op (some 55) (.load (.list tB) (.tm 54)) <|
.op (some 56) (.fldA 0 tI (.tm 12)) <|
.op (some 57) (.load tI (.tm 56)) <|
.op (some 58) (.idxA tB (.tm 55) (.tm 57)) <|
.op (some 59) (.load tB (.tm 58)) <|
.op (some 60) (.mv (.tm 59)) <|
.gb 60 true (
.op (some 61) (.fldA 2 (.list tB) (.tm 3)) <|
.op (some 62) (.load (.list tB) (.tm 61)) <|
.op (some 63) (.fldA 1 tI (.tm 12)) <|
.op (some 64) (.load tI (.tm 63)) <|
.op (some 65) (.idxA tB (.tm 62) (.tm 64)) <|
.op (some 66) (.load tB (.tm 65)) <|
.nil) tB (.tm 66) (.k tB false) 67 <|
.op (some 68) (.bslice false 4 tB 1 [.tm 67]) <|
.op (some 69) (.append 4 tB 1 (.tm 53) (.tm 68)) <|
.op (some 70) (.fldA 2 (.list tB) (.tm 10)) <|
.op none (.store (.list tB) (.tm 70) (.tm 69)) <|
.nil) [[], [0], [], [2], [], [4], [3, 5], [6], [7], [8], [9, 8], [8], [11, 8], [10, 12, 8], [13, 8], [8, 14], [15], [1, 16, 8], [0, 1, 2, 3, 4, 5, 6, 7, 8, 9, 10, 11, 12, 13, 14, 15, 16, 17], [18, 17, 17, 0, 1, 2, 3, 4, 5, 6, 7, 8, 9, 10, 11, 12, 13, 14, 15, 16, 17]]))) (.after (.region (
.op (some 71) (.bin .add (.tm 48) (.k tI (1 : Int))) <|
.op (some 48) (.mv (.tm 71)) <|
.nil)) [.sel [0, 1, 2, 3, 4] [2, 3, 4, 10, 46, 47, 48]])))))))) (.seq (.region (
.op (some 72) (.load (pr [(.list tI), (.list (.list tI)), (.list tB), tI]) (.tm 10)) <|
.adj [.freeze 2, .freeze 3] <|
.op (some 73) (.call false N_dfa_minimal [(.d (pr [(.list tI), (.list (.list tI)), (.list tB), tI]), .tm 72)] q_dfa_minimal) <|
.op (some 13) (.alloc 26 [.nil tI, .nil (.list tI), .nil tB, .d tI (0 : Int)]) <|
.op none (.store (pr [(.list tI), (.list (.list tI)), (.list tB), tI]) (.tm 13) (.tm 73)) <|
.nil)) (.seq (.seq (.region (
.op (some 74) (.fldA 0 (.list tI) (.tm 13)) <|
.op (some 75) (.load (.list tI) (.tm 74)) <|
.op (some 76) (.len false (.tm 75)) <|
.op (some 77) (.bin .gtr (.tm 76) (.k tI (2000 : Int))) <|
.nil)) (.cond (.tm 77) (.seq (.region (
.op (some 78) (.build [.nil tI, .nil (.list tI), .nil tB, .d tI (0 : Int)] []) <|
.op none (.store (pr [(.list tI), (.list (.list tI)), (.list tB), tI]) (.tm 4) (.tm 78)) <|
.op (some 5) (.mv (.k tI (8 : Int))) <|
.nil)) .ret) .skip)) (.seq (.region (
.op (some 79) (.load (pr [(.list tI), (.list (.list tI)), (.list tB), tI]) (.tm 13)) <|
.op none (.store (pr [(.list tI), (.list (.list tI)), (.list tB), tI]) (.tm 4) (.tm 79)) <|
.op (some 5) (.mv (.k tI (0 : Int))) <|
.nil)) .ret)))))))))), [.cell 4 (pr [(.list tI), (.list (.list tI)), (.list tB), tI]), .tm 5], 80, q_dfa_Both, 0⟩
def q_ref16_equal : Sh := ⟨[], ⟨[], []⟩, [.tm 0 tB]⟩
def f_ref16_equal : TF := ⟨(.seq (.region (
.op (some 4) (.mv (.k tB false)) <|
.nil)) (.seq (.seq (.region (
.op (some 6) (.mv (.tm 0)) <|
.op (some 7) (.len false (.tm 6)) <|
.op (some 8) (.mv (.tm 1)) <|
.op (some 9) (.len false (.tm 8)) <|
.op (some 10) (.bin .neq (.tm 7) (.tm 9)) <|
.nil)) (.cond (.tm 10) (.seq (.region (
.op (some 4) (.mv (.k tB false)) <|
.nil)) .ret) .skip)) (.seq (.seq (.region (
.op (some 11) (.mv (.tm 0)) <|
.op (some 12) (.len false (.tm 11)) <|
.op (some 13) (.mv (.k tI (0 : Int))) <|
.nil)) (.block 0 (.loop ⟨[0, 1, 12], ⟨[], []⟩, [.tm 13 tI]⟩ [(1, ⟨[], ⟨[], []⟩, [.tm 4 tB]⟩), (3, ⟨[], ⟨[], []⟩, []⟩)] (.seq (.region (
.op (some 14) (.bin .lss (.tm 13) (.tm 12)) <|
.nil)) (.seq (.cond (.tm 14) .skip (.exit 0)) (.seq (.block 1 (.seq (.region (
.op (some 15) (.mv (.tm 13)) <|
.op (some 5) (.mv (.tm 15)) <|
.nil)) (.seq (.draw 9 (
.op (some 16) (.mv (.tm 0)) <|
.op (some 17) (.mv (.tm 5)) <|
.op (some 18) (.idxA tI (.tm 16) (.tm 17)) <|
.op (some 19) (.load tI (.tm 18)) <|
.op (some 20) (.mv (.tm 1)) <|
.op (some 21) (.mv (.tm 5)) <|
.op (some 22) (.idxA tI (.tm 20) (.tm 21)) <|
.op (some 23) (.load tI (.tm 22)) <|
.op (some 24) (.bin .neq (.tm 19) (.tm 23)) <|
.nil) [[], [], [0, 1], [2], [], [], [4, 5], [6], [3, 7]]) (.cond (.tm 24) (.seq (.region (
.op (some 4) (.mv (.k tB false)) <|
.nil)) .ret) .skip)))) (.region (
.op (some 25) (.bin .add (.tm 13) (.k tI (1 : Int))) <|
.op (some 13) (.mv (.tm 25)) <|
.nil)))))))) (.seq (.region (
.op (some 4) (.mv (.k tB true)) <|
.nil)) .ret)))), [.tm 4], 26, q_ref16_equal, 0⟩
def L_ref16_equal_0 (O : Oracle) (n : Nat) (a : (List Int)) (b : (List Int)) (s : (Int × Unit)) : Option ((Int × Unit) ⊕ (Bool × Unit) ⊕ Unit) :=
 bif decide (s.1 < (a.length : Int)) then
 Option.bind (getI a s.1) fun v1 =>
 Option.bind (getI b s.1) fun v2 =>
 bif (v1 != v2) then
 some (.inr (.inl ((false, ()))))
else
 some (.inl (IntKind.wrap .i64 (s.1 + (1 : Int)), ()))
else
 some (.inr (.inr (())))
def G_ref16_equal (O : Oracle) (n : Nat) (a : (List Int)) (b : (List Int)) : Option (Option S) :=
 bif ((a.length : Int) != (b.length : Int)) then
 retQ q_ref16_equal (false, ())
else
 Option.bind (loopN n (L_ref16_equal_0 O n a b) ((0 : Int), ())) fun (v3 : (Bool × Unit) ⊕ Unit) =>
 Sum.elim (fun v4 =>
 retQ q_ref16_equal (v4.1, ())) (fun v5 =>
 retQ q_ref16_equal (true, ())) v3
theorem x_ref16_equal (O : Oracle) (n : Nat) (a : (List Int)) (b : (List Int)) : evF1 O n f_ref16_equal [.d (.list tI) a, .d (.list tI) b] [] = G_ref16_equal O n a b := by kernel_rfl
def q_ref16_Equal : Sh := ⟨[], ⟨[], []⟩, [.tm 0 tB]⟩
def f_ref16_Equal : TF := ⟨(.seq (.region (
.op (some 2) (.boxD 26 (pr [(.list tI), (.list (.list tI)), (.list tB), tI]) (.tm 0)) <|
.op (some 3) (.boxD 26 (pr [(.list tI), (.list (.list tI)), (.list tB), tI]) (.tm 1)) <|
.op (some 4) (.mv (.k tB false)) <|
.nil)) (.seq (.seq (.region (
.op (some 7) (.fldA 0 (.list tI) (.tm 2)) <|
.op (some 8) (.load (.list tI) (.tm 7)) <|
.op (some 9) (.fldA 0 (.list tI) (.tm 3)) <|
.op (some 10) (.load (.list tI) (.tm 9)) <|
.op (some 11) (.call false N_ref16_equal [(.d (.list tI), .tm 8), (.d (.list tI), .tm 10)] q_ref16_equal) <|
.op (some 12) (.un .not (.tm 11)) <|
.op (some 13) (.mv (.tm 12)) <|
.gb 13 false (
.op (some 14) (.fldA 1 (.list (.list tI)) (.tm 2)) <|
.op (some 15) (.load (.list (.list tI)) (.tm 14)) <|
.op (some 16) (.len false (.tm 15)) <|
.op (some 17) (.fldA 1 (.list (.list tI)) (.tm 3)) <|
.op (some 18) (.load (.list (.list tI)) (.tm 17)) <|
.op (some 19) (.len false (.tm 18)) <|
.op (some 20) (.bin .neq (.tm 16) (.tm 19)) <|
.nil) tB (.tm 20) (.k tB true) 21 <|
.op (some 22) (.mv (.tm 21)) <|
.gb 22 false (
.op (some 23) (.fldA 2 (.list tB) (.tm 2)) <|
.op (some 24) (.load (.list tB) (.tm 23)) <|
.op (some 25) (.len false (.tm 24)) <|
.op (some 26) (.fldA 2 (.list tB) (.tm 3)) <|
.op (some 27) (.load (.list tB) (.tm 26)) <|
.op (some 28) (.len false (.tm 27)) <|
.op (some 29) (.bin .neq (.tm 25) (.tm 28)) <|
.nil) tB (.tm 29) (.k tB true) 30 <|
.op (some 31) (.mv (.tm 30)) <|
.gb 31 false (
.op (some 32) (.fldA 3 tI (.tm 2)) <|
.op (some 33) (.load tI (.tm 32)) <|
.op (some 34) (.fldA 3 tI (.tm 3)) <|
.op (some 35) (.load tI (.tm 34)) <|
.op (some 36) (.bin .neq (.tm 33) (.tm 35)) <|
.nil) tB (.tm 36) (.k tB true) 37 <|
.nil)) (.cond (.tm 37) (.seq (.region (
.op (some 4) (.mv (.k tB false)) <|
.nil)) .ret) .skip)) (.seq (.seq (.region (
.op (some 38) (.fldA 1 (.list (.list tI)) (.tm 2)) <|
.op (some 39) (.load (.list (.list tI)) (.tm 38)) <|
.op (some 40) (.len false (.tm 39)) <|
.op (some 41) (.mv (.k tI (0 : Int))) <|
.nil)) (.block 0 (.loop ⟨[2, 3, 40], ⟨[], []⟩, [.tm 41 tI]⟩ [(1, ⟨[], ⟨[], []⟩, [.tm 4 tB]⟩), (3, ⟨[2, 3], ⟨[], []⟩, []⟩)] (.seq (.region (
.op (some 42) (.bin .lss (.tm 41) (.tm 40)) <|
.nil)) (.seq (.cond (.tm 42) .skip (.exit 0)) (.seq (.block 1 (.seq (.region (
.op (some 43) (.mv (.tm 41)) <|
.op (some 5) (.mv (.tm 43)) <|
.nil)) (.seq (.draw 12 (
.op (some 44) (.fldA 1 (.list (.list tI)) (.tm 2)) <|
.op (some 45) (.load (.list (.list tI)) (.tm 44)) <|
.op (some 46) (.mv (.tm 5)) <|
.op (some 47) (.idxA (.list tI) (.tm 45) (.tm 46)) <|
.op (some 48) (.load (.list tI) (.tm 47)) <|
.op (some 49) (.fldA 1 (.list (.list tI)) (.tm 3)) <|
.op (some 50) (.load (.list (.list tI)) (.tm 49)) <|
.op (some 51) (.mv (.tm 5)) <|
.op (some 52) (.idxA (.list tI) (.tm 50) (.tm 51)) <|
.op (some 53) (.load (.list tI) (.tm 52)) <|
.op (some 54) (.call false N_ref16_equal [(.d (.list tI), .tm 48), (.d (.list tI), .tm 53)] q_ref16_equal) <|
.op (some 55) (.un .not (.tm 54)) <|
.nil) [[], [0], [], [1, 2], [3], [], [5], [], [6, 7], [8], [4, 9], [10]]) (.cond (.tm 55) (.seq (.region (
.op (some 4) (.mv (.k tB false)) <|
.nil)) .ret) .skip)))) (.region (
.op (some 56) (.bin .add (.tm 41) (.k tI (1 : Int))) <|
.op (some 41) (.mv (.tm 56)) <|
.nil)))))))) (.seq (.seq (.region (
.op (some 57) (.fldA 2 (.list tB) (.tm 2)) <|
.op (some 58) (.load (.list tB) (.tm 57)) <|
.op (some 59) (.len false (.tm 58)) <|
.op (some 60) (.mv (.k tI (0 : Int))) <|
.nil)) (.block 2 (.loop ⟨[2, 3, 59], ⟨[], []⟩, [.tm 60 tI]⟩ [(1, ⟨[], ⟨[], []⟩, [.tm 4 tB]⟩), (5, ⟨[], ⟨[], []⟩, []⟩)] (.seq (.region (
.op (some 61) (.bin .lss (.tm 60) (.tm 59)) <|
.nil)) (.seq (.cond (.tm 61) .skip (.exit 2)) (.seq (.block 3 (.seq (.region (
.op (some 62) (.mv (.tm 60)) <|
.op (some 6) (.mv (.tm 62)) <|
.nil)) (.seq (.draw 11 (
.op (some 63) (.fldA 2 (.list tB) (.tm 2)) <|
.op (some 64) (.load (.list tB) (.tm 63)) <|
.op (some 65) (.mv (.tm 6)) <|
.op (some 66) (.idxA tB (.tm 64) (.tm 65)) <|
.op (some 67) (.load tB (.tm 66)) <|
.op (some 68) (.fldA 2 (.list tB) (.tm 3)) <|
.op (some 69) (.load (.list tB) (.tm 68)) <|
.op (some 70) (.mv (.tm 6)) <|
.op (some 71) (.idxA tB (.tm 69) (.tm 70)) <|
.op (some 72) (.load tB (.tm 71)) <|
.op (some 73) (.eqB true (.tm 67) (.tm 72)) <|
.nil) [[], [0], [], [1, 2], [3], [], [5], [], [6, 7], [8], [4, 9]]) (.cond (.tm 73) (.seq (.region (
.op (some 4) (.mv (.k tB false)) <|
.nil)) .ret) .skip)))) (.region (
.op (some 74) (.bin .add (.tm 60) (.k tI (1 : Int))) <|
.op (some 60) (.mv (.tm 74)) <|
.nil)))))))) (.seq (.region (
.op (some 4) (.mv (.k tB true)) <|
.nil)) .ret))))), [.tm 4], 75, q_ref16_Equal, 0⟩
def L_ref16_Equal_0 (O : Oracle) (n : Nat) (a : ((List Int) × ((List (List Int)) × ((List Bool) × (Int × Unit))))) (b : ((List Int) × ((List (List Int)) × ((List Bool) × (Int × Unit))))) (s : (Int × Unit)) : Option ((Int × Unit) ⊕ (Bool × Unit) ⊕ Unit) :=
 bif decide (s.1 < (a.2.1.length : Int)) then
 Option.bind (getI a.2.1 s.1) fun v5 =>
 Option.bind (getI b.2.1 s.1) fun v6 =>
 Option.bind (callR O N_ref16_equal [.d (.list tI) v5, .d (.list tI) v6] [] q_ref16_equal) fun v7 =>
 bif (!v7.1) then
 some (.inr (.inl ((false, ()))))
else
 some (.inl (IntKind.wrap .i64 (s.1 + (1 : Int)), ()))
else
 some (.inr (.inr (())))
def L_ref16_Equal_1 (O : Oracle) (n : Nat) (a : ((List Int) × ((List (List Int)) × ((List Bool) × (Int × Unit))))) (b : ((List Int) × ((List (List Int)) × ((List Bool) × (Int × Unit))))) (v11 : (Int × Unit)) : Option ((Int × Unit) ⊕ (Bool × Unit) ⊕ Unit) :=
 bif decide (v11.1 < (a.2.2.1.length : Int)) then
 Option.bind (getI a.2.2.1 v11.1) fun v12 =>
 Option.bind (getI b.2.2.1 v11.1) fun v13 =>
 bif (true ^^ (v12 == v13)) then
 some (.inr (.inl ((false, ()))))
else
 some (.inl (IntKind.wrap .i64 (v11.1 + (1 : Int)), ()))
else
 some (.inr (.inr (())))
def G_ref16_Equal (O : Oracle) (n : Nat) (a : ((List Int) × ((List (List Int)) × ((List Bool) × (Int × Unit))))) (b : ((List Int) × ((List (List Int)) × ((List Bool) × (Int × Unit))))) : Option (Option S) :=
 Option.bind (callR O N_ref16_equal [.d (.list tI) a.1, .d (.list tI) b.1] [] q_ref16_equal) fun v =>
 Option.bind (bif (!v.1) then some (true) else
 some (((a.2.1.length : Int) != (b.2.1.length : Int)))) fun v1 =>
 Option.bind (bif v1 then some (true) else
 some (((a.2.2.1.length : Int) != (b.2.2.1.length : Int)))) fun v2 =>
 Option.bind (bif v2 then some (true) else
 some ((a.2.2.2.1 != b.2.2.2.1))) fun v3 =>
 bif v3 then
 retQ q_ref16_Equal (false, ())
else
 Option.bind (loopN n (L_ref16_Equal_0 O n a b) ((0 : Int), ())) fun (v8 : (Bool × Unit) ⊕ Unit) =>
 Sum.elim (fun v9 =>
 retQ q_ref16_Equal (v9.1, ())) (fun v10 =>
 Option.bind (loopN n (L_ref16_Equal_1 O n a b) ((0 : Int), ())) fun (v14 : (Bool × Unit) ⊕ Unit) =>
 Sum.elim (fun v15 =>
 retQ q_ref16_Equal (v15.1, ())) (fun v16 =>
 retQ q_ref16_Equal (true, ())) v14) v8
theorem x_ref16_Equal (O : Oracle) (n : Nat) (a : ((List Int) × ((List (List Int)) × ((List Bool) × (Int × Unit))))) (b : ((List Int) × ((List (List Int)) × ((List Bool) × (Int × Unit))))) : evF1 O n f_ref16_Equal [.d (pr [(.list tI), (.list (.list tI)), (.list tB), tI]) a, .d (pr [(.list tI), (.list (.list tI)), (.list tB), tI]) b] [] = G_ref16_Equal O n a b := by kernel_rfl
def q_dfa_equal : Sh := ⟨[], ⟨[], []⟩, [.tm 0 tB]⟩
def f_dfa_equal : TF := ⟨(.seq (.region (
.op (some 4) (.mv (.k tB false)) <|
.nil)) (.seq (.seq (.region (
.op (some 6) (.mv (.tm 0)) <|
.op (some 7) (.len false (.tm 6)) <|
.op (some 8) (.mv (.tm 1)) <|
.op (some 9) (.len false (.tm 8)) <|
.op (some 10) (.bin .neq (.tm 7) (.tm 9)) <|
.nil)) (.cond (.tm 10) (.seq (.region (
.op (some 4) (.mv (.k tB false)) <|
.nil)) .ret) .skip)) (.seq (.seq (.region (
.op (some 11) (.mv (.tm 0)) <|
.op (some 12) (.len false (.tm 11)) <|
.op (some 13) (.mv (.k tI (0 : Int))) <|
.nil)) (.block 0 (.loop ⟨[0, 1, 12], ⟨[], []⟩, [.tm 13 tI]⟩ [(1, ⟨[], ⟨[], []⟩, [.tm 4 tB]⟩), (3, ⟨[], ⟨[], []⟩, []⟩)] (.seq (.region (
.op (some 14) (.bin .lss (.tm 13) (.tm 12)) <|
.nil)) (.seq (.cond (.tm 14) .skip (.exit 0)) (.seq (.block 1 (.seq (.region (
.op (some 15) (.mv (.tm 13)) <|
.op (some 5) (.mv (.tm 15)) <|
.nil)) (.seq (.draw 9 (
.op (some 16) (.mv (.tm 0)) <|
.op (some 17) (.mv (.tm 5)) <|
.op (some 18) (.idxA tI (.tm 16) (.tm 17)) <|
.op (some 19) (.load tI (.tm 18)) <|
.op (some 20) (.mv (.tm 1)) <|
.op (some 21) (.mv (.tm 5)) <|
.op (some 22) (.idxA tI (.tm 20) (.tm 21)) <|
.op (some 23) (.load tI (.tm 22)) <|
.op (some 24) (.bin .neq (.tm 19) (.tm 23)) <|
.nil) [[], [], [0, 1], [2], [], [], [4, 5], [6], [3, 7]]) (.cond (.tm 24) (.seq (.region (
.op (some 4) (.mv (.k tB false)) <|
.nil)) .ret) .skip)))) (.region (
.op (some 25) (.bin .add (.tm 13) (.k tI (1 : Int))) <|
.op (some 13) (.mv (.tm 25)) <|
.nil)))))))) (.seq (.region (
.op (some 4) (.mv (.k tB true)) <|
.nil)) .ret)))), [.tm 4], 26, q_dfa_equal, 0⟩
def L_dfa_equal_0 (O : Oracle) (n : Nat) (a : (List Int)) (b : (List Int)) (s : (Int × Unit)) : Option ((Int × Unit) ⊕ (Bool × Unit) ⊕ Unit) :=
 bif decide (s.1 < (a.length : Int)) then
 Option.bind (getI a s.1) fun v1 =>
 Option.bind (getI b s.1) fun v2 =>
 bif (v1 != v2) then
 some (.inr (.inl ((false, ()))))
else
 some (.inl (IntKind.wrap .i64 (s.1 + (1 : Int)), ()))
else
 some (.inr (.inr (())))
def G_dfa_equal (O : Oracle) (n : Nat) (a : (List Int)) (b : (List Int)) : Option (Option S) :=
 bif ((a.length : Int) != (b.length : Int)) then
 retQ q_dfa_equal (false, ())
else
 Option.bind (loopN n (L_dfa_equal_0 O n a b) ((0 : Int), ())) fun (v3 : (Bool × Unit) ⊕ Unit) =>
 Sum.elim (fun v4 =>
 retQ q_dfa_equal (v4.1, ())) (fun v5 =>
 retQ q_dfa_equal (true, ())) v3
theorem x_dfa_equal (O : Oracle) (n : Nat) (a : (List Int)) (b : (List Int)) : evF1 O n f_dfa_equal [.d (.list tI) a, .d (.list tI) b] [] = G_dfa_equal O n a b := by kernel_rfl
def q_dfa_Equal : Sh := ⟨[], ⟨[], []⟩, [.tm 0 tB]⟩
def f_dfa_Equal : TF := ⟨(.seq (.region (
.op (some 2) (.boxD 26 (pr [(.list tI), (.list (.list tI)), (.list tB), tI]) (.tm 0)) <|
.op (some 3) (.boxD 26 (pr [(.list tI), (.list (.list tI)), (.list tB), tI]) (.tm 1)) <|
.op (some 4) (.mv (.k tB false)) <|
.nil)) (.seq (.seq (.region (
.op (some 7) (.fldA 3 tI (.tm 2)) <|
.op (some 8) (.load tI (.tm 7)) <|
.op (some 9) (.fldA 3 tI (.tm 3)) <|
.op (some 10) (.load tI (.tm 9)) <|
.op (some 11) (.bin .neq (.tm 8) (.tm 10)) <|
.op (some 12) (.mv (.tm 11)) <|
.gb 12 false (
.op (some 13) (.fldA 0 (.list tI) (.tm 2)) <|
.op (some 14) (.load (.list tI) (.tm 13)) <|
.op (some 15) (.fldA 0 (.list tI) (.tm 3)) <|
.op (some 16) (.load (.list tI) (.tm 15)) <|
.op (some 17) (.call false N_dfa_equal [(.d (.list tI), .tm 14), (.d (.list tI), .tm 16)] q_dfa_equal) <|
.op (some 18) (.un .not (.tm 17)) <|
.nil) tB (.tm 18) (.k tB true) 19 <|
.op (some 20) (.mv (.tm 19)) <|
.gb 20 false (
.op (some 21) (.fldA 1 (.list (.list tI)) (.tm 2)) <|
.op (some 22) (.load (.list (.list tI)) (.tm 21)) <|
.op (some 23) (.len false (.tm 22)) <|
.op (some 24) (.fldA 1 (.list (.list tI)) (.tm 3)) <|
.op (some 25) (.load (.list (.list tI)) (.tm 24)) <|
.op (some 26) (.len false (.tm 25)) <|
.op (some 27) (.bin .neq (.tm 23) (.tm 26)) <|
.nil) tB (.tm 27) (.k tB true) 28 <|
.op (some 29) (.mv (.tm 28)) <|
.gb 29 false (
.op (some 30) (.fldA 2 (.list tB) (.tm 2)) <|
.op (some 31) (.load (.list tB) (.tm 30)) <|
.op (some 32) (.len false (.tm 31)) <|
.op (some 33) (.fldA 2 (.list tB) (.tm 3)) <|
.op (some 34) (.load (.list tB) (.tm 33)) <|
.op (some 35) (.len false (.tm 34)) <|
.op (some 36) (.bin .neq (.tm 32) (.tm 35)) <|
.nil) tB (.tm 36) (.k tB true) 37 <|
.nil)) (.cond (.tm 37) (.seq (.region (
.op (some 4) (.mv (.k tB false)) <|
.nil)) .ret) .skip)) (.seq (.seq (.region (
.op (some 38) (.fldA 1 (.list (.list tI)) (.tm 2)) <|
.op (some 39) (.load (.list (.list tI)) (.tm 38)) <|
.op (some 40) (.len false (.tm 39)) <|
.op (some 41) (.mv (.k tI (0 : Int))) <|
.nil)) (.block 0 (.loop ⟨[2, 3, 40], ⟨[], []⟩, [.tm 41 tI]⟩ [(1, ⟨[], ⟨[], []⟩, [.tm 4 tB]⟩), (3, ⟨[2, 3], ⟨[], []⟩, []⟩)] (.seq (.region (
.op (some 42) (.bin .lss (.tm 41) (.tm 40)) <|
.nil)) (.seq (.cond (.tm 42) .skip (.exit 0)) (.seq (.block 1 (.seq (.region (
.op (some 43) (.mv (.tm 41)) <|
.op (some 5) (.mv (.tm 43)) <|
.nil)) (.seq (.draw 12 (
.op (some 44) (.fldA 1 (.list (.list tI)) (.tm 2)) <|
.op (some 45) (.load (.list (.list tI)) (.tm 44)) <|
.op (some 46) (.mv (.tm 5)) <|
.op (some 47) (.idxA (.list tI) (.tm 45) (.tm 46)) <|
.op (some 48) (.load (.list tI) (.tm 47)) <|
.op (some 49) (.fldA 1 (.list (.list tI)) (.tm 3)) <|
.op (some 50) (.load (.list (.list tI)) (.tm 49)) <|
.op (some 51) (.mv (.tm 5)) <|
.op (some 52) (.idxA (.list tI) (.tm 50) (.tm 51)) <|
.op (some 53) (.load (.list tI) (.tm 52)) <|
.op (some 54) (.call false N_dfa_equal [(.d (.list tI), .tm 48), (.d (.list tI), .tm 53)] q_dfa_equal) <|
.op (some 55) (.un .not (.tm 54)) <|
.nil) [[], [0], [], [1, 2], [3], [], [5], [], [6, 7], [8], [4, 9], [10]]) (.cond (.tm 55) (.seq (.region (
.op (some 4) (.mv (.k tB false)) <|
.nil)) .ret) .skip)))) (.region (
.op (some 56) (.bin .add (.tm 41) (.k tI (1 : Int))) <|
.op (some 41) (.mv (.tm 56)) <|
.nil)))))))) (.seq (.seq (.region (
.op (some 57) (.fldA 2 (.list tB) (.tm 2)) <|
.op (some 58) (.load (.list tB) (.tm 57)) <|
.op (some 59) (.len false (.tm 58)) <|
.op (some 60) (.mv (.k tI (0 : Int))) <|
.nil)) (.block 2 (.loop ⟨[2, 3, 59], ⟨[], []⟩, [.tm 60 tI]⟩ [(1, ⟨[], ⟨[], []⟩, [.tm 4 tB]⟩), (5, ⟨[], ⟨[], []⟩, []⟩)] (.seq (.region (
.op (some 61) (.bin .lss (.tm 60) (.tm 59)) <|
.nil)) (.seq (.cond (.tm 61) .skip (.exit 2)) (.seq (.block 3 (.seq (.region (
.op (some 62) (.mv (.tm 60)) <|
.op (some 6) (.mv (.tm 62)) <|
.nil)) (.seq (.draw 11 (
.op (some 63) (.fldA 2 (.list tB) (.tm 2)) <|
.op (some 64) (.load (.list tB) (.tm 63)) <|
.op (some 65) (.mv (.tm 6)) <|
.op (some 66) (.idxA tB (.tm 64) (.tm 65)) <|
.op (some 67) (.load tB (.tm 66)) <|
.op (some 68) (.fldA 2 (.list tB) (.tm 3)) <|
.op (some 69) (.load (.list tB) (.tm 68)) <|
.op (some 70) (.mv (.tm 6)) <|
.op (some 71) (.idxA tB (.tm 69) (.tm 70)) <|
.op (some 72) (.load tB (.tm 71)) <|
.op (some 73) (.eqB true (.tm 67) (.tm 72)) <|
.nil) [[], [0], [], [1, 2], [3], [], [5], [], [6, 7], [8], [4, 9]]) (.cond (.tm 73) (.seq (.region (
.op (some 4) (.mv (.k tB false)) <|
.nil)) .ret) .skip)))) (.region (
.op (some 74) (.bin .add (.tm 60) (.k tI (1 : Int))) <|
.op (some 60) (.mv (.tm 74)) <|
.nil)))))))) (.seq (.region (
.op (some 4) (.mv (.k tB true)) <|
.nil)) .ret))))), [.tm 4], 75, q_dfa_Equal, 0⟩
def L_dfa_Equal_0 (O : Oracle) (n : Nat) (a : ((List Int) × ((List (List Int)) × ((List Bool) × (Int × Unit))))) (b : ((List Int) × ((List (List Int)) × ((List Bool) × (Int × Unit))))) (s : (Int × Unit)) : Option ((Int × Unit) ⊕ (Bool × Unit) ⊕ Unit) :=
 bif decide (s.1 < (a.2.1.length : Int)) then
 Option.bind (getI a.2.1 s.1) fun v5 =>
 Option.bind (getI b.2.1 s.1) fun v6 =>
 Option.bind (callR O N_dfa_equal [.d (.list tI) v5, .d (.list tI) v6] [] q_dfa_equal) fun v7 =>
 bif (!v7.1) then
 some (.inr (.inl ((false, ()))))
else
 some (.inl (IntKind.wrap .i64 (s.1 + (1 : Int)), ()))
else
 some (.inr (.inr (())))
def L_dfa_Equal_1 (O : Oracle) (n : Nat) (a : ((List Int) × ((List (List Int)) × ((List Bool) × (Int × Unit))))) (b : ((List Int) × ((List (List Int)) × ((List Bool) × (Int × Unit))))) (v11 : (Int × Unit)) : Option ((Int × Unit) ⊕ (Bool × Unit) ⊕ Unit) :=
 bif decide (v11.1 < (a.2.2.1.length : Int)) then
 Option.bind (getI a.2.2.1 v11.1) fun v12 =>
 Option.bind (getI b.2.2.1 v11.1) fun v13 =>
 bif (true ^^ (v12 == v13)) then
 some (.inr (.inl ((false, ()))))
else
 some (.inl (IntKind.wrap .i64 (v11.1 + (1 : Int)), ()))
else
 some (.inr (.inr (())))
def G_dfa_Equal (O : Oracle) (n : Nat) (a : ((List Int) × ((List (List Int)) × ((List Bool) × (Int × Unit))))) (b : ((List Int) × ((List (List Int)) × ((List Bool) × (Int × Unit))))) : Option (Option S) :=
 Option.bind (bif (a.2.2.2.1 != b.2.2.2.1) then some (true) else
 Option.bind (callR O N_dfa_equal [.d (.list tI) a.1, .d (.list tI) b.1] [] q_dfa_equal) fun v =>
 some ((!v.1))) fun v1 =>
 Option.bind (bif v1 then some (true) else
 some (((a.2.1.length : Int) != (b.2.1.length : Int)))) fun v2 =>
 Option.bind (bif v2 then some (true) else
 some (((a.2.2.1.length : Int) != (b.2.2.1.length : Int)))) fun v3 =>
 bif v3 then
 retQ q_dfa_Equal (false, ())
else
 Option.bind (loopN n (L_dfa_Equal_0 O n a b) ((0 : Int), ())) fun (v8 : (Bool × Unit) ⊕ Unit) =>
 Sum.elim (fun v9 =>
 retQ q_dfa_Equal (v9.1, ())) (fun v10 =>
 Option.bind (loopN n (L_dfa_Equal_1 O n a b) ((0 : Int), ())) fun (v14 : (Bool × Unit) ⊕ Unit) =>
 Sum.elim (fun v15 =>
 retQ q_dfa_Equal (v15.1, ())) (fun v16 =>
 retQ q_dfa_Equal (true, ())) v14) v8
theorem x_dfa_Equal (O : Oracle) (n : Nat) (a : ((List Int) × ((List (List Int)) × ((List Bool) × (Int × Unit))))) (b : ((List Int) × ((List (List Int)) × ((List Bool) × (Int × Unit))))) : evF1 O n f_dfa_Equal [.d (pr [(.list tI), (.list (.list tI)), (.list tB), tI]) a, .d (pr [(.list tI), (.list (.list tI)), (.list tB), tI]) b] [] = G_dfa_Equal O n a b := by kernel_rfl
def q_dfa_Match : Sh := ⟨[], ⟨[], []⟩, [.tm 0 tB]⟩
def f_dfa_Match : TF := ⟨(.seq (.region (
.op (some 2) (.boxD 26 (pr [(.list tI), (.list (.list tI)), (.list tB), tI]) (.tm 0)) <|
.op (some 4) (.mv (.k tB false)) <|
.nil)) (.seq (.seq (.region (
.op (some 8) (.load (pr [(.list tI), (.list (.list tI)), (.list tB), tI]) (.tm 2)) <|
.op (some 9) (.call false N_dfa_Check [(.d (pr [(.list tI), (.list (.list tI)), (.list tB), tI]), .tm 8)] q_dfa_Check) <|
.op (some 10) (.bin .neq (.tm 9) (.k tI (0 : Int))) <|
.nil)) (.cond (.tm 10) (.seq (.region (
.op (some 4) (.mv (.k tB false)) <|
.nil)) .ret) .skip)) (.seq (.region (
.op (some 11) (.fldA 3 tI (.tm 2)) <|
.op (some 12) (.load tI (.tm 11)) <|
.op (some 5) (.mv (.tm 12)) <|
.nil)) (.seq (.seq (.region (
.op (some 13) (.mv (.tm 1)) <|
.op (some 14) (.len false (.tm 13)) <|
.op (some 15) (.mv (.k tI (0 : Int))) <|
.nil)) (.block 0 (.loop ⟨[2, 13, 14], ⟨[], []⟩, [.tm 5 tI, .tm 15 tI]⟩ [(1, ⟨[], ⟨[], []⟩, [.tm 4 tB]⟩), (3, ⟨[2], ⟨[], []⟩, [.tm 5 tI]⟩)] (.seq (.region (
.op (some 16) (.bin .lss (.tm 15) (.tm 14)) <|
.nil)) (.seq (.cond (.tm 16) .skip (.exit 0)) (.seq (.block 1 (.seq (.region (
.op (some 17) (.idxA tI (.tm 13) (.tm 15)) <|
.op (some 18) (.load tI (.tm 17)) <|
.op (some 7) (.mv (.tm 18)) <|
.nil)) (.seq (.seq (.region (
.op (some 19) (.mv (.tm 7)) <|
.op (some 20) (.bin .lss (.tm 19) (.k tI (0 : Int))) <|
.op (some 21) (.mv (.tm 20)) <|
.gb 21 false (
.op (some 22) (.mv (.tm 7)) <|
.op (some 23) (.bin .gtr (.tm 22) (.k tI (4294967295 : Int))) <|
.nil) tB (.tm 23) (.k tB true) 24 <|
.nil)) (.cond (.tm 24) (.seq (.region (
.op (some 4) (.mv (.k tB false)) <|
.nil)) .ret) .skip)) (.draw 12 (
.op (some 25) (.fldA 1 (.list (.list tI)) (.tm 2)) <|
.op (some 26) (.load (.list (.list tI)) (.tm 25)) <|
.op (some 27) (.mv (.tm 5)) <|
.op (some 28) (.idxA (.list tI) (.tm 26) (.tm 27)) <|
.op (some 29) (.load (.list tI) (.tm 28)) <|
.op (some 30) (.fldA 0 (.list tI) (.tm 2)) <|
.op (some 31) (.load (.list tI) (.tm 30)) <|
.op (some 32) (.mv (.tm 7)) <|
.op (some 33) (.call false N_dfa_class [(.d (.list tI), .tm 31), (.d tI, .tm 32)] q_dfa_class) <|
.op (some 34) (.idxA tI (.tm 29) (.tm 33)) <|
.op (some 35) (.load tI (.tm 34)) <|
.op (some 5) (.mv (.tm 35)) <|
.nil) [[], [0], [], [1, 2], [3], [], [5], [], [6, 7], [4, 8], [9], [10, 8, 0, 1, 2, 3, 4, 5, 6, 7, 8, 9, 10]])))) (.region (
.op (some 36) (.bin .add (.tm 15) (.k tI (1 : Int))) <|
.op (some 15) (.mv (.tm 36)) <|
.nil)))))))) (.seq (.region (
.op (some 37) (.fldA 2 (.list tB) (.tm 2)) <|
.op (some 38) (.load (.list tB) (.tm 37)) <|
.op (some 39) (.mv (.tm 5)) <|
.op (some 40) (.idxA tB (.tm 38) (.tm 39)) <|
.op (some 41) (.load tB (.tm 40)) <|
.op (some 4) (.mv (.tm 41)) <|
.nil)) .ret))))), [.tm 4], 42, q_dfa_Match, 0⟩
def L_dfa_Match_0 (O : Oracle) (n : Nat) (d : ((List Int) × ((List (List Int)) × ((List Bool) × (Int × Unit))))) (path : (List Int)) (s : (Int × Int × Unit)) : Option ((Int × Int × Unit) ⊕ (Bool × Unit) ⊕ (Int × Unit)) :=
 bif decide (s.2.1 < (path.length : Int)) then
 Option.bind (getI path s.2.1) fun v2 =>
 Option.bind (bif decide (v2 < (0 : Int)) then some (true) else
 some (decide (v2 > (4294967295 : Int)))) fun v3 =>
 bif v3 then
 some (.inr (.inl ((false, ()))))
else
 Option.bind (getI d.2.1 s.1) fun v4 =>
 Option.bind (callR O N_dfa_class [.d (.list tI) d.1, .d tI v2] [] q_dfa_class) fun v5 =>
 Option.bind (getI v4 v5.1) fun v6 =>
 some (.inl (v6, IntKind.wrap .i64 (s.2.1 + (1 : Int)), ()))
else
 some (.inr (.inr ((s.1, ()))))
def G_dfa_Match (O : Oracle) (n : Nat) (d : ((List Int) × ((List (List Int)) × ((List Bool) × (Int × Unit))))) (path : (List Int)) : Option (Option S) :=
 Option.bind (callR O N_dfa_Check [.d (pr [(.list tI), (.list (.list tI)), (.list tB), tI]) d] [] q_dfa_Check) fun v =>
 bif (v.1 != (0 : Int)) then
 retQ q_dfa_Match (false, ())
else
 Option.bind (loopN n (L_dfa_Match_0 O n d path) (d.2.2.2.1, (0 : Int), ())) fun (v7 : (Bool × Unit) ⊕ (Int × Unit)) =>
 Sum.elim (fun v8 =>
 retQ q_dfa_Match (v8.1, ())) (fun v9 =>
 Option.bind (getI d.2.2.1 v9.1) fun v10 =>
 retQ q_dfa_Match (v10, ())) v7
theorem x_dfa_Match (O : Oracle) (n : Nat) (d : ((List Int) × ((List (List Int)) × ((List Bool) × (Int × Unit))))) (path : (List Int)) : evF1 O n f_dfa_Match [.d (pr [(.list tI), (.list (.list tI)), (.list tB), tI]) d, .d (.list tI) path] [] = G_dfa_Match O n d path := by kernel_rfl
def q_dfa_Same : Sh := ⟨[], ⟨[], []⟩, [.tm 0 tB]⟩
def f_dfa_Same : TF := ⟨(.seq (.region (
.op (some 2) (.boxD 26 (pr [(.list tI), (.list (.list tI)), (.list tB), tI]) (.tm 0)) <|
.op (some 3) (.boxD 26 (pr [(.list tI), (.list (.list tI)), (.list tB), tI]) (.tm 1)) <|
.op (some 4) (.mv (.k tB false)) <|
.nil)) (.seq (.seq (.region (
.op (some 7) (.load (pr [(.list tI), (.list (.list tI)), (.list tB), tI]) (.tm 2)) <|
.op (some 8) (.call false N_dfa_Check [(.d (pr [(.list tI), (.list (.list tI)), (.list tB), tI]), .tm 7)] q_dfa_Check) <|
.op (some 9) (.bin .neq (.tm 8) (.k tI (0 : Int))) <|
.op (some 10) (.mv (.tm 9)) <|
.gb 10 false (
.op (some 11) (.load (pr [(.list tI), (.list (.list tI)), (.list tB), tI]) (.tm 3)) <|
.op (some 12) (.call false N_dfa_Check [(.d (pr [(.list tI), (.list (.list tI)), (.list tB), tI]), .tm 11)] q_dfa_Check) <|
.op (some 13) (.bin .neq (.tm 12) (.k tI (0 : Int))) <|
.nil) tB (.tm 13) (.k tB true) 14 <|
.nil)) (.cond (.tm 14) (.seq (.region (
.op (some 4) (.mv (.k tB false)) <|
.nil)) .ret) .skip)) (.seq (.region (
.op (some 16) (.load (pr [(.list tI), (.list (.list tI)), (.list tB), tI]) (.tm 2)) <|
.op (some 17) (.load (pr [(.list tI), (.list (.list tI)), (.list tB), tI]) (.tm 3)) <|
.op (some 18) (.call false N_dfa_Witness [(.d (pr [(.list tI), (.list (.list tI)), (.list tB), tI]), .tm 16), (.d (pr [(.list tI), (.list (.list tI)), (.list tB), tI]), .tm 17)] q_dfa_Witness) <|
.op (some 15) (.mv (.tm 18)) <|
.op (some 19) (.ext (.tm 15) 0) <|
.op (some 20) (.ext (.tm 15) 1) <|
.op (some 5) (.mv (.tm 19)) <|
.op (some 6) (.mv (.tm 20)) <|
.nil)) (.seq (.region (
.op (some 21) (.mv (.tm 6)) <|
.op (some 22) (.un .not (.tm 21)) <|
.op (some 4) (.mv (.tm 22)) <|
.nil)) .ret)))), [.tm 4], 23, q_dfa_Same, 0⟩
def G_dfa_Same (O : Oracle) (n : Nat) (a : ((List Int) × ((List (List Int)) × ((List Bool) × (Int × Unit))))) (b : ((List Int) × ((List (List Int)) × ((List Bool) × (Int × Unit))))) : Option (Option S) :=
 Option.bind (callR O N_dfa_Check [.d (pr [(.list tI), (.list (.list tI)), (.list tB), tI]) a] [] q_dfa_Check) fun v =>
 Option.bind (bif (v.1 != (0 : Int)) then some (true) else
 Option.bind (callR O N_dfa_Check [.d (pr [(.list tI), (.list (.list tI)), (.list tB), tI]) b] [] q_dfa_Check) fun v1 =>
 some ((v1.1 != (0 : Int)))) fun v2 =>
 bif v2 then
 retQ q_dfa_Same (false, ())
else
 Option.bind (callR O N_dfa_Witness [.d (pr [(.list tI), (.list (.list tI)), (.list tB), tI]) a, .d (pr [(.list tI), (.list (.list tI)), (.list tB), tI]) b] [] q_dfa_Witness) fun v3 =>
 retQ q_dfa_Same ((!v3.2.1), ())
theorem x_dfa_Same (O : Oracle) (n : Nat) (a : ((List Int) × ((List (List Int)) × ((List Bool) × (Int × Unit))))) (b : ((List Int) × ((List (List Int)) × ((List Bool) × (Int × Unit))))) : evF1 O n f_dfa_Same [.d (pr [(.list tI), (.list (.list tI)), (.list tB), tI]) a, .d (pr [(.list tI), (.list (.list tI)), (.list tB), tI]) b] [] = G_dfa_Same O n a b := by kernel_rfl
def q_law16_awake : Sh := ⟨[], ⟨[], []⟩, [.tm 0 tB]⟩
def f_law16_awake : TF := ⟨(.seq (.region (
.op (some 0) (.mv (.k tB false)) <|
.nil)) (.seq (.region (
.op (some 13) (.call false N_law16_first [] q_law16_first) <|
.op (some 14) (.call false N_dfa_Build [(.d .rx, .tm 13)] q_dfa_Build) <|
.op (some 12) (.mv (.tm 14)) <|
.op (some 15) (.ext (.tm 12) 0) <|
.op (some 16) (.ext (.tm 12) 1) <|
.op (some 1) (.alloc 26 [.nil tI, .nil (.list tI), .nil tB, .d tI (0 : Int)]) <|
.op none (.store (pr [(.list tI), (.list (.list tI)), (.list tB), tI]) (.tm 1) (.tm 15)) <|
.op (some 2) (.mv (.tm 16)) <|
.nil)) (.seq (.region (
.op (some 17) (.bslice false 3 tI 3 [.k tI (0 : Int), .k tI (65001 : Int), .k tI (65002 : Int)]) <|
.op (some 18) (.bslice false 3 tI 3 [.k tI (1 : Int), .k tI (2 : Int), .k tI (1 : Int)]) <|
.op (some 19) (.bslice false 3 tI 3 [.k tI (1 : Int), .k tI (1 : Int), .k tI (1 : Int)]) <|
.op (some 20) (.bslice false 3 tI 3 [.k tI (2 : Int), .k tI (2 : Int), .k tI (2 : Int)]) <|
.op (some 21) (.bslice false 22 (.list tI) 3 [.tm 18, .tm 19, .tm 20]) <|
.op (some 22) (.bslice false 4 tB 3 [.k tB false, .k tB false, .k tB true]) <|
.op (some 23) (.build [.nil tI, .nil (.list tI), .nil tB, .d tI (0 : Int)] [(0, 1, .tm 17), (1, 1, .tm 21), (2, 1, .tm 22)]) <|
.op (some 3) (.alloc 26 [.nil tI, .nil (.list tI), .nil tB, .d tI (0 : Int)]) <|
.op none (.store (pr [(.list tI), (.list (.list tI)), (.list tB), tI]) (.tm 3) (.tm 23)) <|
.nil)) (.seq (.region (
.op (some 25) (.build [.d tI (0 : Int), .d tI (0 : Int), .d tI (0 : Int), .nil .rx] [(0, 1, .k tI (2 : Int))]) <|
.op (some 26) (.call false N_dfa_Build [(.d .rx, .tm 25)] q_dfa_Build) <|
.op (some 24) (.mv (.tm 26)) <|
.op (some 27) (.ext (.tm 24) 0) <|
.op (some 28) (.ext (.tm 24) 1) <|
.op (some 4) (.alloc 26 [.nil tI, .nil (.list tI), .nil tB, .d tI (0 : Int)]) <|
.op none (.store (pr [(.list tI), (.list (.list tI)), (.list tB), tI]) (.tm 4) (.tm 27)) <|
.op (some 5) (.mv (.tm 28)) <|
.nil)) (.seq (.region (
.op (some 30) (.call false N_law16_first [] q_law16_first) <|
.op (some 31) (.fld 3 (.list .rx) (.tm 30)) <|
.op (some 32) (.idxA .rx (.tm 31) (.k tI (0 : Int))) <|
.op (some 33) (.load .rx (.tm 32)) <|
.op (some 34) (.call false N_dfa_Build [(.d .rx, .tm 33)] q_dfa_Build) <|
.op (some 29) (.mv (.tm 34)) <|
.op (some 35) (.ext (.tm 29) 0) <|
.op (some 36) (.ext (.tm 29) 1) <|
.op (some 6) (.alloc 26 [.nil tI, .nil (.list tI), .nil tB, .d tI (0 : Int)]) <|
.op none (.store (pr [(.list tI), (.list (.list tI)), (.list tB), tI]) (.tm 6) (.tm 35)) <|
.op (some 7) (.mv (.tm 36)) <|
.nil)) (.seq (.region (
.op (some 38) (.load (pr [(.list tI), (.list (.list tI)), (.list tB), tI]) (.tm 4)) <|
.op (some 39) (.load (pr [(.list tI), (.list (.list tI)), (.list tB), tI]) (.tm 6)) <|
.op (some 40) (.call false N_dfa_Witness [(.d (pr [(.list tI), (.list (.list tI)), (.list tB), tI]), .tm 38), (.d (pr [(.list tI), (.list (.list tI)), (.list tB), tI]), .tm 39)] q_dfa_Witness) <|
.op (some 37) (.mv (.tm 40)) <|
.op (some 41) (.ext (.tm 37) 0) <|
.op (some 42) (.ext (.tm 37) 1) <|
.op (some 8) (.mv (.tm 41)) <|
.op (some 9) (.mv (.tm 42)) <|
.nil)) (.seq (.draw2 1 [
 mkPO 0 true [] (some 44) (.load (pr [(.list tI), (.list (.list tI)), (.list tB), tI]) (.tm 4)),
 mkPO 1 true [0] (some 45) (.load (pr [(.list tI), (.list (.list tI)), (.list tB), tI]) (.tm 4)),
 mkPO 2 true [0] (some 46) (.call false N_dfa_Not [(.d (pr [(.list tI), (.list (.list tI)), (.list tB), tI]), .tm 45)] q_dfa_Not),
 mkPO 3 true [] (some 47) (.call false N_dfa_Both [(.d (pr [(.list tI), (.list (.list tI)), (.list tB), tI]), .tm 44), (.d (pr [(.list tI), (.list (.list tI)), (.list tB), tI]), .tm 46)] q_dfa_Both),
 mkPO 4 true [] (some 43) (.mv (.tm 47)),
 mkPO 5 true [] (some 48) (.ext (.tm 43) 0),
 mkPO 6 true [5] (some 49) (.ext (.tm 43) 1),
 mkPO 7 true [0, 1, 2, 3, 4, 5, 6] (some 10) (.atq 4 (.alloc 26 [.nil tI, .nil (.list tI), .nil tB, .d tI (0 : Int)])),
 mkPO 8 false [6] none (.store (pr [(.list tI), (.list (.list tI)), (.list tB), tI]) (.tm 10) (.tm 48))] (
.op (some 11) (.mv (.tm 49)) <|
.nil) [[], [], [1], [0, 2, 2], [3], [4], [4], [], [7, 5, 3, 0, 1, 2, 3, 4, 5, 7], [6, 8, 0, 1, 2, 3, 4, 5, 6, 7, 8]]) (.seq (.seq (.region (
.op (some 50) (.mv (.tm 2)) <|
.op (some 51) (.bin .neq (.tm 50) (.k tI (0 : Int))) <|
.op (some 52) (.mv (.tm 51)) <|
.gb 52 false (
.op (some 53) (.mv (.tm 5)) <|
.op (some 54) (.bin .neq (.tm 53) (.k tI (0 : Int))) <|
.nil) tB (.tm 54) (.k tB true) 55 <|
.op (some 56) (.mv (.tm 55)) <|
.gb 56 false (
.op (some 57) (.mv (.tm 7)) <|
.op (some 58) (.bin .neq (.tm 57) (.k tI (0 : Int))) <|
.nil) tB (.tm 58) (.k tB true) 59 <|
.op (some 60) (.mv (.tm 59)) <|
.gb 60 false (
.op (some 61) (.mv (.tm 11)) <|
.op (some 62) (.bin .neq (.tm 61) (.k tI (0 : Int))) <|
.nil) tB (.tm 62) (.k tB true) 63 <|
.op (some 64) (.mv (.tm 63)) <|
.gb 64 false (
.op (some 65) (.load (pr [(.list tI), (.list (.list tI)), (.list tB), tI]) (.tm 1)) <|
.op (some 66) (.load (pr [(.list tI), (.list (.list tI)), (.list tB), tI]) (.tm 3)) <|
.op (some 67) (.call false N_ref16_Equal [(.d (pr [(.list tI), (.list (.list tI)), (.list tB), tI]), .tm 65), (.d (pr [(.list tI), (.list (.list tI)), (.list tB), tI]), .tm 66)] q_ref16_Equal) <|
.op (some 68) (.un .not (.tm 67)) <|
.nil) tB (.tm 68) (.k tB true) 69 <|
.op (some 70) (.mv (.tm 69)) <|
.gb 70 false (
.op (some 71) (.load (pr [(.list tI), (.list (.list tI)), (.list tB), tI]) (.tm 1)) <|
.op (some 72) (.load (pr [(.list tI), (.list (.list tI)), (.list tB), tI]) (.tm 3)) <|
.op (some 73) (.call false N_dfa_Equal [(.d (pr [(.list tI), (.list (.list tI)), (.list tB), tI]), .tm 71), (.d (pr [(.list tI), (.list (.list tI)), (.list tB), tI]), .tm 72)] q_dfa_Equal) <|
.op (some 74) (.un .not (.tm 73)) <|
.nil) tB (.tm 74) (.k tB true) 75 <|
.op (some 76) (.mv (.tm 75)) <|
.gb 76 false (
.op (some 77) (.mv (.tm 9)) <|
.op (some 78) (.un .not (.tm 77)) <|
.nil) tB (.tm 78) (.k tB true) 79 <|
.op (some 80) (.mv (.tm 79)) <|
.gb 80 false (
.op (some 81) (.mv (.tm 8)) <|
.op (some 82) (.len false (.tm 81)) <|
.op (some 83) (.bin .neq (.tm 82) (.k tI (1 : Int))) <|
.nil) tB (.tm 83) (.k tB true) 84 <|
.op (some 85) (.mv (.tm 84)) <|
.gb 85 false (
.op (some 86) (.mv (.tm 8)) <|
.op (some 87) (.idxA tI (.tm 86) (.k tI (0 : Int))) <|
.op (some 88) (.load tI (.tm 87)) <|
.op (some 89) (.bin .neq (.tm 88) (.k tI (0 : Int))) <|
.nil) tB (.tm 89) (.k tB true) 90 <|
.op (some 91) (.mv (.tm 90)) <|
.gb 91 false (
.op (some 92) (.fldA 1 (.list (.list tI)) (.tm 10)) <|
.op (some 93) (.load (.list (.list tI)) (.tm 92)) <|
.op (some 94) (.len false (.tm 93)) <|
.op (some 95) (.bin .neq (.tm 94) (.k tI (1 : Int))) <|
.nil) tB (.tm 95) (.k tB true) 96 <|
.nil)) (.cond (.tm 96) (.seq (.region (
.op (some 0) (.mv (.k tB false)) <|
.nil)) .ret) .skip)) (.seq (.region (
.op (some 97) (.load (pr [(.list tI), (.list (.list tI)), (.list tB), tI]) (.tm 1)) <|
.op (some 98) (.call false N_dfa_Check [(.d (pr [(.list tI), (.list (.list tI)), (.list tB), tI]), .tm 97)] q_dfa_Check) <|
.op (some 99) (.bin .eql (.tm 98) (.k tI (0 : Int))) <|
.op (some 100) (.mv (.tm 99)) <|
.gb 100 true (
.op (some 101) (.build [.nil tI, .nil (.list tI), .nil tB, .d tI (0 : Int)] []) <|
.op (some 102) (.call false N_dfa_Check [(.d (pr [(.list tI), (.list (.list tI)), (.list tB), tI]), .tm 101)] q_dfa_Check) <|
.op (some 103) (.bin .eql (.tm 102) (.k tI (16 : Int))) <|
.nil) tB (.tm 103) (.k tB false) 104 <|
.op (some 105) (.mv (.tm 104)) <|
.gb 105 true (
.op (some 106) (.load (pr [(.list tI), (.list (.list tI)), (.list tB), tI]) (.tm 1)) <|
.op (some 107) (.bslice false 3 tI 2 [.k tI (65001 : Int), .k tI (7 : Int)]) <|
.op (some 108) (.call false N_dfa_Match [(.d (pr [(.list tI), (.list (.list tI)), (.list tB), tI]), .tm 106), (.d (.list tI), .tm 107)] q_dfa_Match) <|
.nil) tB (.tm 108) (.k tB false) 109 <|
.op (some 110) (.mv (.tm 109)) <|
.gb 110 true (
.op (some 111) (.load (pr [(.list tI), (.list (.list tI)), (.list tB), tI]) (.tm 1)) <|
.op (some 112) (.call false N_dfa_Match [(.d (pr [(.list tI), (.list (.list tI)), (.list tB), tI]), .tm 111), (.d (.list tI), .nil tI)] q_dfa_Match) <|
.op (some 113) (.un .not (.tm 112)) <|
.nil) tB (.tm 113) (.k tB false) 114 <|
.op (some 115) (.mv (.tm 114)) <|
.gb 115 true (
.op (some 116) (.load (pr [(.list tI), (.list (.list tI)), (.list tB), tI]) (.tm 1)) <|
.op (some 117) (.call false N_dfa_Not [(.d (pr [(.list tI), (.list (.list tI)), (.list tB), tI]), .tm 116)] q_dfa_Not) <|
.op (some 118) (.call false N_dfa_Match [(.d (pr [(.list tI), (.list (.list tI)), (.list tB), tI]), .tm 117), (.d (.list tI), .nil tI)] q_dfa_Match) <|
.nil) tB (.tm 118) (.k tB false) 119 <|
.op (some 120) (.mv (.tm 119)) <|
.gb 120 true (
.op (some 121) (.load (pr [(.list tI), (.list (.list tI)), (.list tB), tI]) (.tm 1)) <|
.op (some 122) (.load (pr [(.list tI), (.list (.list tI)), (.list tB), tI]) (.tm 3)) <|
.op (some 123) (.call false N_dfa_Same [(.d (pr [(.list tI), (.list (.list tI)), (.list tB), tI]), .tm 121), (.d (pr [(.list tI), (.list (.list tI)), (.list tB), tI]), .tm 122)] q_dfa_Same) <|
.nil) tB (.tm 123) (.k tB false) 124 <|
.op (some 125) (.mv (.tm 124)) <|
.gb 125 true (
.op (some 126) (.load (pr [(.list tI), (.list (.list tI)), (.list tB), tI]) (.tm 4)) <|
.op (some 127) (.load (pr [(.list tI), (.list (.list tI)), (.list tB), tI]) (.tm 6)) <|
.op (some 128) (.call false N_dfa_Same [(.d (pr [(.list tI), (.list (.list tI)), (.list tB), tI]), .tm 126), (.d (pr [(.list tI), (.list (.list tI)), (.list tB), tI]), .tm 127)] q_dfa_Same) <|
.op (some 129) (.un .not (.tm 128)) <|
.nil) tB (.tm 129) (.k tB false) 130 <|
.op (some 0) (.mv (.tm 130)) <|
.nil)) .ret))))))))), [.tm 0], 131, q_law16_awake, 0⟩
def q_law16_DfaCheck : Sh := ⟨[], ⟨[], []⟩, [.tm 0 tB]⟩
def f_law16_DfaCheck : TF := ⟨(.seq (.region (
.op (some 1) (.boxD 26 (pr [(.list tI), (.list (.list tI)), (.list tB), tI]) (.tm 0)) <|
.op (some 2) (.mv (.k tB false)) <|
.nil)) (.seq (.draw 9 (
.op (some 3) (.load (pr [(.list tI), (.list (.list tI)), (.list tB), tI]) (.tm 1)) <|
.op (some 4) (.call false N_dfa_Check [(.d (pr [(.list tI), (.list (.list tI)), (.list tB), tI]), .tm 3)] q_dfa_Check) <|
.op (some 5) (.load (pr [(.list tI), (.list (.list tI)), (.list tB), tI]) (.tm 1)) <|
.op (some 6) (.call false N_ref16_Check [(.d (pr [(.list tI), (.list (.list tI)), (.list tB), tI]), .tm 5)] q_ref16_Check) <|
.op (some 7) (.bin .eql (.tm 4) (.tm 6)) <|
.op (some 8) (.mv (.tm 7)) <|
.gb 8 true (
.op (some 9) (.call false N_law16_awake [] q_law16_awake) <|
.nil) tB (.tm 9) (.k tB false) 10 <|
.op (some 2) (.mv (.tm 10)) <|
.nil) [[], [0], [], [2, 1], [1, 3], [4, 3], [5, 5], [5, 6], [7, 6, 0, 1, 2, 3, 4, 5, 6, 7]]) .ret)), [.tm 2], 11, q_law16_DfaCheck, 0⟩
def G_law16_DfaCheck (O : Oracle) (n : Nat) (d : ((List Int) × ((List (List Int)) × ((List Bool) × (Int × Unit))))) : Option (Option S) :=
 Option.bind (callR O N_dfa_Check [.d (pr [(.list tI), (.list (.list tI)), (.list tB), tI]) d] [] q_dfa_Check) fun v =>
 Option.bind (callR O N_ref16_Check [.d (pr [(.list tI), (.list (.list tI)), (.list tB), tI]) d] [] q_ref16_Check) fun v1 =>
 Option.bind (bif (v.1 == v1.1) then
 Option.bind (callR O N_law16_awake [] [] q_law16_awake) fun v2 =>
 some (v2.1)
else some (false)) fun v3 =>
 retQ q_law16_DfaCheck (v3, ())
theorem x_law16_DfaCheck (O : Oracle) (n : Nat) (d : ((List Int) × ((List (List Int)) × ((List Bool) × (Int × Unit))))) : evF1 O n f_law16_DfaCheck [.d (pr [(.list tI), (.list (.list tI)), (.list tB), tI]) d] [] = G_law16_DfaCheck O n d := by kernel_rfl
def q_ref16_sorted : Sh := ⟨[], ⟨[], []⟩, [.tm 0 (.list tI)]⟩
def f_ref16_sorted : TF := ⟨(.seq (.region (
.op (some 2) (.mv (.nil tI)) <|
.nil)) (.seq (.region (
.op (some 3) (.mv (.nil tI)) <|
.nil)) (.seq (.seq (.region (
.op (some 8) (.mv (.tm 0)) <|
.op (some 9) (.len false (.tm 8)) <|
.op (some 10) (.mv (.k tI (0 : Int))) <|
.nil)) (.block 0 (.adj [.adopt 3 3 tI] (.loop ⟨[8, 9], ⟨[(3, .sl 0)], [.vec T_i64 tI []]⟩, [.tm 10 tI, .vec 0 3 tI]⟩ [(3, ⟨[], ⟨[(3, .sl 0)], [.vec T_i64 tI []]⟩, [.vec 0 3 tI]⟩)] (.seq (.region (
.op (some 11) (.bin .lss (.tm 10) (.tm 9)) <|
.nil)) (.seq (.cond (.tm 11) .skip (.exit 0)) (.seq (.cut [(0, ⟨[8, 9, 10], ⟨[(3, .sl 0)], [.vec T_i64 tI []]⟩, [.vec 0 3 tI]⟩)] (.block 1 (.seq (.region (
.op (some 12) (.idxA tI (.tm 8) (.tm 10)) <|
.op (some 13) (.load tI (.tm 12)) <|
.op (some 5) (.mv (.tm 13)) <|
.nil)) (.seq (.region (
.op (some 6) (.mv (.k tI (0 : Int))) <|
.nil)) (.seq (.block 2 (.loop ⟨[5, 8, 9, 10], ⟨[(3, .sl 0)], [.vec T_i64 tI []]⟩, [.tm 6 tI, .vec 0 3 tI]⟩ [(5, ⟨[5, 8, 9, 10], ⟨[(3, .sl 0)], [.vec T_i64 tI []]⟩, [.tm 6 tI, .vec 0 3 tI]⟩)] (.seq (.seq (.region (
.op (some 14) (.mv (.tm 6)) <|
.op (some 15) (.mv (.tm 3)) <|
.op (some 16) (.len false (.tm 15)) <|
.op (some 17) (.bin .lss (.tm 14) (.tm 16)) <|
.op (some 18) (.mv (.tm 17)) <|
.gb 18 true (
.op (some 19) (.mv (.tm 3)) <|
.op (some 20) (.mv (.tm 6)) <|
.op (some 21) (.idxA tI (.tm 19) (.tm 20)) <|
.op (some 22) (.load tI (.tm 21)) <|
.op (some 23) (.mv (.tm 5)) <|
.op (some 24) (.bin .lss (.tm 22) (.tm 23)) <|
.nil) tB (.tm 24) (.k tB false) 25 <|
.nil)) (.cond (.tm 25) .skip (.exit 2))) (.block 3 (.region (
.op (some 26) (.mv (.tm 6)) <|
.op (some 27) (.bin .add (.tm 26) (.k tI (1 : Int))) <|
.op (some 6) (.mv (.tm 27)) <|
.nil)))))) (.seq (.seq (.region (
.op (some 28) (.mv (.tm 6)) <|
.op (some 29) (.mv (.tm 3)) <|
.op (some 30) (.len false (.tm 29)) <|
.op (some 31) (.bin .lss (.tm 28) (.tm 30)) <|
.op (some 32) (.mv (.tm 31)) <|
.gb 32 true (
.op (some 33) (.mv (.tm 3)) <|
.op (some 34) (.mv (.tm 6)) <|
.op (some 35) (.idxA tI (.tm 33) (.tm 34)) <|
.op (some 36) (.load tI (.tm 35)) <|
.op (some 37) (.mv (.tm 5)) <|
.op (some 38) (.bin .eql (.tm 36) (.tm 37)) <|
.nil) tB (.tm 38) (.k tB false) 39 <|
.nil)) (.cond (.tm 39) (.exit 1) .skip)) (.seq (.region (
.op (some 40) (.mv (.tm 3)) <|
.op (some 41) (.bslice false 3 tI 1 [.k tI (0 : Int)]) <|
.op (some 42) (.append 3 tI 8 (.tm 40) (.tm 41)) <|
.op (some 3) (.mv (.tm 42)) <|
.nil)) (.seq (.seq (.region (
.op (some 43) (.mv (.tm 3)) <|
.op (some 44) (.len false (.tm 43)) <|
.op (some 45) (.bin .sub (.tm 44) (.k tI (1 : Int))) <|
.op (some 7) (.mv (.tm 45)) <|
.nil)) (.block 4 (.loop ⟨[5, 6, 8, 9, 10], ⟨[(3, .sl 0)], [.vec T_i64 tI []]⟩, [.tm 7 tI, .vec 0 3 tI]⟩ [(7, ⟨[5, 6, 8, 9, 10], ⟨[(3, .sl 0)], [.vec T_i64 tI []]⟩, [.vec 0 3 tI]⟩)] (.seq (.seq (.region (
.op (some 46) (.mv (.tm 7)) <|
.op (some 47) (.mv (.tm 6)) <|
.op (some 48) (.bin .gtr (.tm 46) (.tm 47)) <|
.nil)) (.cond (.tm 48) .skip (.exit 4))) (.seq (.block 5 (.region (
.op (some 51) (.mv (.tm 3)) <|
.op (some 52) (.mv (.tm 7)) <|
.op (some 53) (.mv (.tm 3)) <|
.op (some 54) (.mv (.tm 7)) <|
.op (some 55) (.bin .sub (.tm 54) (.k tI (1 : Int))) <|
.op (some 56) (.idxA tI (.tm 53) (.tm 55)) <|
.op (some 57) (.load tI (.tm 56)) <|
.op (some 58) (.idxA tI (.tm 51) (.tm 52)) <|
.op none (.store tI (.tm 58) (.tm 57)) <|
.nil))) (.region (
.op (some 49) (.mv (.tm 7)) <|
.op (some 50) (.bin .sub (.tm 49) (.k tI (1 : Int))) <|
.op (some 7) (.mv (.tm 50)) <|
.nil))))))) (.region (
.op (some 59) (.mv (.tm 3)) <|
.op (some 60) (.mv (.tm 6)) <|
.op (some 61) (.mv (.tm 5)) <|
.op (some 62) (.idxA tI (.tm 59) (.tm 60)) <|
.op none (.store tI (.tm 62) (.tm 61)) <|
.nil)))))))))) (.region (
.op (some 63) (.bin .add (.tm 10) (.k tI (1 : Int))) <|
.op (some 10) (.mv (.tm 63)) <|
.nil))))))))) (.seq (.region (
.op (some 64) (.mv (.tm 3)) <|
.op (some 2) (.mv (.tm 64)) <|
.nil)) (.adj [.freeze 0] .ret))))), [.tm 2], 65, q_ref16_sorted, 0⟩
def L_ref16_sorted_0 (O : Oracle) (n : Nat) (v1 : Int) (v2 : (Int × (List Int) × Unit)) : Option ((Int × (List Int) × Unit) ⊕ (Int × (List Int) × Unit)) :=
 Option.bind (bif decide (v2.1 < (v2.2.1.length : Int)) then
 Option.bind (getI v2.2.1 v2.1) fun _ =>
 Option.bind v2.2.1[Int.toNat v2.1]? fun v3 =>
 some (decide (v3 < v1))
else some (false)) fun v4 =>
 bif v4 then
 some (.inl (IntKind.wrap .i64 (v2.1 + (1 : Int)), v2.2.1, ()))
else
 some (.inr ((v2.1, v2.2.1, ())))
def L_ref16_sorted_1 (O : Oracle) (n : Nat) (v5 : (Int × (List Int) × Unit)) (v9 : (Int × (List Int) × Unit)) : Option ((Int × (List Int) × Unit) ⊕ ((List Int) × Unit)) :=
 bif decide (v9.1 > v5.1) then
 Option.bind (getI v9.2.1 (IntKind.wrap .i64 (v9.1 - (1 : Int)))) fun _ =>
 Option.bind v9.2.1[Int.toNat (IntKind.wrap .i64 (v9.1 - (1 : Int)))]? fun v10 =>
 Option.bind (getI v9.2.1 v9.1) fun _ =>
 Option.bind v9.2.1[Int.toNat v9.1]? fun v11 =>
 some (.inl (IntKind.wrap .i64 (v9.1 - (1 : Int)), v9.2.1.set (Int.toNat v9.1) v10, ()))
else
 some (.inr ((v9.2.1, ())))
def L_ref16_sorted_2 (O : Oracle) (n : Nat) (l : (List Int)) (s : (Int × (List Int) × Unit)) : Option ((Int × (List Int) × Unit) ⊕ ((List Int) × Unit)) :=
 bif decide (s.1 < (l.length : Int)) then
 Option.bind (
 Option.bind (getI l s.1) fun v1 =>
 Option.bind (loopN n (L_ref16_sorted_0 O n v1) ((0 : Int), s.2.1, ())) fun (v5 : (Int × (List Int) × Unit)) =>
 Option.bind (bif decide (v5.1 < (v5.2.1.length : Int)) then
 Option.bind (getI v5.2.1 v5.1) fun _ =>
 Option.bind v5.2.1[Int.toNat v5.1]? fun v6 =>
 some ((v6 == v1))
else some (false)) fun v7 =>
 bif v7 then
 some ((v5.2.1, ()))
else
 guardB (decide ((v5.2.1.length + (([(0 : Int)] : List Int)).length) * 8 ≤ 140737488355328)) (
 let v8 := IntKind.wrap .i64 ((((v5.2.1 ++ (([(0 : Int)] : List Int))).length : Int)) - (1 : Int))
 Option.bind (loopN n (L_ref16_sorted_1 O n v5) (v8, v5.2.1 ++ (([(0 : Int)] : List Int)), ())) fun (v12 : ((List Int) × Unit)) =>
 Option.bind (getI v12.1 v5.1) fun _ =>
 Option.bind v12.1[Int.toNat v5.1]? fun v13 =>
 some ((v12.1.set (Int.toNat v5.1) v1, ())))) fun (v14 : ((List Int) × Unit)) =>
 some (.inl (IntKind.wrap .i64 (s.1 + (1 : Int)), v14.1, ()))
else
 some (.inr ((s.2.1, ())))
def G_ref16_sorted (O : Oracle) (n : Nat) (l : (List Int)) : Option (Option S) :=
 Option.bind (loopN n (L_ref16_sorted_2 O n l) ((0 : Int), ([] : List Int), ())) fun (v15 : ((List Int) × Unit)) =>
 retQ q_ref16_sorted (v15.1, ())
theorem x_ref16_sorted (O : Oracle) (n : Nat) (l : (List Int)) : evF1 O n f_ref16_sorted [.d (.list tI) l] [] = G_ref16_sorted O n l := by kernel_rfl
end Go.Proofs.Ytbpdbooalkkenaa
