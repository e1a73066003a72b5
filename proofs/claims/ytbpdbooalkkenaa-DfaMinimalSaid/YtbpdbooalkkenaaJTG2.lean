/-
  THE LOADED FUNCTIONS AS TYPED CODE AND AS PLAIN FUNCTIONS, printed by program; each pair held by the kernel.
-/
import Derived.Test.YtbpdbooalkkenaaJTG1
set_option linter.unusedVariables false
set_option linter.unusedSimpArgs false
namespace Go.Proofs.Ytbpdbooalkkenaa
open Go Go.Av Go.Ev
open Z
def q_dfa_multiply_dddf_v1 : Sh := ⟨[], ⟨[(0, .ptr 0 0)], [.box T_str_dfa_product [.any, .sl 1, .sl 2, .sl 3, .sl 4], .vec T_str_dfa_pair (pr [tI, tI]) [], .vec T_i64 tI [], .vec T_i64 tI [], .vec T_sl_i64 (.list tI) []]⟩, [.tm 1 tB, .cell 0 0 (.list tI), .vec 1 73 (pr [tI, tI]), .vec 2 3 tI, .vec 3 3 tI, .vec 4 22 (.list tI)]⟩
def f_dfa_multiply_dddf_v1 : TF := ⟨(.seq (.region (
 o 4 (.boxD 26 pD (t 0))<|
 o 5 (.boxD 26 pD (t 1))<|
 o 8 (.mv (.raw (.pointer none)))<|
 o 9 (.mv yF)<|
.nil)) (.seq (.draw2 3 [
 mkPO 0 true [] (some 19) (.fldA 0 lI (t 4)),
 mkPO 1 true [] (some 20) (.load lI (t 19)),
 mkPO 2 true [0, 1] (some 21) (.fldA 0 lI (t 5)),
 mkPO 3 true [0, 1] (some 22) (.load lI (t 21)),
 mkPO 4 true [] (some 23) (.call false N_dfa_merge [(.d lI, .tm 20), (.d lI, .tm 22)] q_dfa_merge),
 mkPO 5 true [0, 1, 2, 3, 4] (some 24) (.fldA 3 tI (t 4)),
 mkPO 6 true [0, 1, 2, 3, 4] (some 25) (.load tI (t 24)),
 mkPO 7 true [0, 1, 2, 3, 4, 5, 6] (some 26) (.fldA 3 tI (t 5)),
 mkPO 8 true [0, 1, 2, 3, 4, 5, 6] (some 27) (.load tI (t 26)),
 mkPO 9 true [0, 1, 2, 3, 4] (some 28) (.build [.d tI (0 : Int), .d tI (0 : Int)] [(0, 1, .tm 25), (1, 1, .tm 27)]),
 mkPO 10 true [0, 1, 2, 3, 4] (some 29) (.atq 0 (.bslice true 73 pI 1 [.tm 28])),
 mkPO 11 true [0, 1, 2, 3, 4, 5, 6, 7, 8, 9, 10] (some 30) (.atq 1 (.bslice true 3 tI 1 [.k tI (-1 : Int)])),
 mkPO 12 true [0, 1, 2, 3, 4, 5, 6, 7, 8, 9, 10, 11] (some 31) (.atq 2 (.bslice true 3 tI 1 [.k tI (0 : Int)]))] (
 o 32 (.build [.nil tI, .nil pI, .nil tI, .nil tI, .nil lI] [(0, 1, .tm 23), (1, 1, .tm 29), (2, 1, .tm 30), (3, 1, .tm 31)])<|
 o 33 (.box 77 (t 32))<|
 o 10 (m 33)<|
.nil) [[], [0], [], [2], [1, 3], [], [5], [], [7], [6, 8], [9], [], [], [4, 10, 11, 12], [13], [14, 4, 0, 1, 2, 3, 4, 5, 6, 7, 8, 9, 10, 11, 12, 13, 14]]) (.seq (.region (
 o 34 (.mkmap 73 3 pI tI)<|
 o 35 (m 10)<|
 o 36 (.nilc (t 35))<|
 o 37 (.fldA 1 (.list pI) (t 36))<|
 o 38 (.load (.list pI) (t 37))<|
 o 39 (.idxA pI (t 38) (i 0))<|
 o 40 (.load pI (t 39))<|
.op none (.mapset 73 3 pI tI (t 34) (t 40) (i 0))<|
 o 41 (m 34)<|
 o 11 (m 41)<|
.nil)) (.seq (.seq (.region (
 o 42 (m 3)<|
 o 43 (m 10)<|
 o 44 (.nilc (t 43))<|
 o 45 (.fldA 1 (.list pI) (t 44))<|
 o 46 (.load (.list pI) (t 45))<|
 o 47 (.idxA pI (t 46) (i 0))<|
 o 48 (.load pI (t 47))<|
 o 49 (.callp false N_dfa_Both_1 (t 42) [(.d pI, .tm 48)] q_dfa_Both_1)<|
.nil)) (.cond (t 49) (.seq (.region (
 o 50 (m 10)<|
 o 8 (m 50)<|
 o 9 (.mv yT)<|
.nil)) (.adj [.adoptC 3 4 22 lI, .sel [3, 0, 1, 2, 5] [8, 9]] .ret)) .skip)) (.seq (.seq (.region (
 o 12 (.mv (i 0))<|
.nil)) (.block 0 (.adj [.adoptC 3 4 22 lI, .sel [3, 0, 1, 2, 5, 4] [2, 3, 4, 5, 10, 11, 12]] (.loop ⟨[2, 3, 4, 5], ⟨[(10, .ptr 0 0), (11, .mp 5)], [.box T_str_dfa_product [.any, .sl 1, .sl 2, .sl 3, .sl 4], .vec T_str_dfa_pair pI [], .vec T_i64 tI [], .vec T_i64 tI [], .vec T_sl_i64 lI [], .map T_str_dfa_pair T_i64 pI tI []]⟩, [.tm 12 tI, .cell 0 0 lI, .vec 1 73 pI, .vec 2 3 tI, .vec 3 3 tI, .vec 4 22 lI, .map 5 73 3 pI tI]⟩ [(1, ⟨[], ⟨[(8, .ptr 0 0)], [.box T_str_dfa_product [.any, .sl 1, .sl 2, .sl 3, .sl 4], .vec T_str_dfa_pair pI [], .vec T_i64 tI [], .vec T_i64 tI [], .vec T_sl_i64 lI []]⟩, [.tm 9 tB, .cell 0 0 lI, .vec 1 73 pI, .vec 2 3 tI, .vec 3 3 tI, .vec 4 22 lI]⟩), (3, ⟨[], ⟨[(10, .ptr 0 0)], [.box T_str_dfa_product [.any, .sl 1, .sl 2, .sl 3, .sl 4], .vec T_str_dfa_pair pI [], .vec T_i64 tI [], .vec T_i64 tI [], .vec T_sl_i64 lI []]⟩, [.cell 0 0 lI, .vec 1 73 pI, .vec 2 3 tI, .vec 3 3 tI, .vec 4 22 lI]⟩)] (.seq (.seq (.region (
 o 51 (m 12)<|
 o 52 (m 10)<|
 o 53 (.nilc (t 52))<|
 o 54 (.fldA 1 (.list pI) (t 53))<|
 o 55 (.load (.list pI) (t 54))<|
 o 56 (.len false (t 55))<|
 o 57 (.bin .lss (t 51) (t 56))<|
.nil)) (.cond (t 57) .skip (.adj [.sel [0, 1, 2, 3, 4] [10]] (.exit 0)))) (.seq (.block 1 (.seq (.region (
 o 60 (m 10)<|
 o 61 (.nilc (t 60))<|
 q 62 0 lI 61<|
 o 64 (.len false (t 63))<|
 o 65 (.mslice 3 tI 8 (t 64) (t 64))<|
 o 13 (m 65)<|
.nil)) (.seq (.seq (.region (
 o 66 (m 10)<|
 o 67 (.nilc (t 66))<|
 q 68 0 lI 67<|
 o 70 (.len false (t 69))<|
 o 71 (.mv (i 0))<|
.nil)) (.block 2 (.loop ⟨[2, 3, 4, 5, 12, 69, 70], ⟨[(10, .ptr 0 0), (11, .mp 5), (13, .sl 6)], [.box T_str_dfa_product [.any, .sl 1, .sl 2, .sl 3, .sl 4], .vec T_str_dfa_pair pI [], .vec T_i64 tI [], .vec T_i64 tI [], .vec T_sl_i64 lI [], .map T_str_dfa_pair T_i64 pI tI [], .vec T_i64 tI []]⟩, [.tm 71 tI, .cell 0 0 lI, .vec 1 73 pI, .vec 2 3 tI, .vec 3 3 tI, .vec 4 22 lI, .map 5 73 3 pI tI, .vec 6 3 tI]⟩ [(1, ⟨[], ⟨[(8, .ptr 0 0)], [.box T_str_dfa_product [.any, .sl 1, .sl 2, .sl 3, .sl 4], .vec T_str_dfa_pair pI [], .vec T_i64 tI [], .vec T_i64 tI [], .vec T_sl_i64 lI []]⟩, [.tm 9 tB, .cell 0 0 lI, .vec 1 73 pI, .vec 2 3 tI, .vec 3 3 tI, .vec 4 22 lI]⟩), (5, ⟨[2, 3, 4, 5, 12], ⟨[(10, .ptr 0 0), (11, .mp 5), (13, .sl 6)], [.box T_str_dfa_product [.any, .sl 1, .sl 2, .sl 3, .sl 4], .vec T_str_dfa_pair pI [], .vec T_i64 tI [], .vec T_i64 tI [], .vec T_sl_i64 lI [], .map T_str_dfa_pair T_i64 pI tI [], .vec T_i64 tI []]⟩, [.cell 0 0 lI, .vec 1 73 pI, .vec 2 3 tI, .vec 3 3 tI, .vec 4 22 lI, .map 5 73 3 pI tI, .vec 6 3 tI]⟩)] (.seq (.region (
 o 72 (.bin .lss (t 71) (t 70))<|
.nil)) (.seq (.cond (t 72) .skip (.exit 2)) (.seq (.block 3 (.seq (.region (
 o 73 (m 71)<|
 o 74 (.idxA tI (t 69) (t 71))<|
 o 75 (.load tI (t 74))<|
 o 14 (m 73)<|
 o 15 (m 75)<|
.nil)) (.seq (.draw2 1 [
 mkPO 0 true [] (some 76) (.fldA 1 lL (t 4)),
 mkPO 1 true [] (some 77) (.load lL (t 76)),
 mkPO 2 true [0, 1] (some 78) (m 10),
 mkPO 3 true [0, 1] (some 79) (.nilc (t 78)),
 mkPO 4 true [0, 1] (some 80) (.fldA 1 (.list pI) (t 79)),
 mkPO 5 true [0, 1] (some 81) (.load (.list pI) (t 80)),
 mkPO 6 true [0, 1, 2, 3, 4, 5] (some 82) (m 12),
 mkPO 7 true [0, 1] (some 83) (.idxA pI (t 81) (t 82)),
 mkPO 8 true [0, 1] (some 84) (.fldA 0 tI (t 83)),
 mkPO 9 true [0, 1] (some 85) (.load tI (t 84)),
 mkPO 10 true [] (some 86) (.idxA lI (t 77) (t 85)),
 mkPO 11 true [] (some 87) (.load lI (t 86)),
 mkPO 12 true [0, 1, 2, 3, 4, 5, 6, 7, 8, 9, 10, 11] (some 88) (.fldA 0 lI (t 4)),
 mkPO 13 true [0, 1, 2, 3, 4, 5, 6, 7, 8, 9, 10, 11] (some 89) (.load lI (t 88)),
 mkPO 14 true [0, 1, 2, 3, 4, 5, 6, 7, 8, 9, 10, 11, 12, 13] (some 90) (m 15),
 mkPO 15 true [0, 1, 2, 3, 4, 5, 6, 7, 8, 9, 10, 11] (some 91) (.call false N_dfa_class [(.d lI, .tm 89), (.d tI, .tm 90)] q_dfa_class),
 mkPO 16 true [] (some 92) (.idxA tI (t 87) (t 91)),
 mkPO 17 true [] (some 93) (.load tI (t 92)),
 mkPO 18 true [0, 1, 2, 3, 4, 5, 6, 7, 8, 9, 10, 11, 12, 13, 14, 15, 16, 17] (some 94) (.fldA 1 lL (t 5)),
 mkPO 19 true [0, 1, 2, 3, 4, 5, 6, 7, 8, 9, 10, 11, 12, 13, 14, 15, 16, 17] (some 95) (.load lL (t 94)),
 mkPO 20 true [0, 1, 2, 3, 4, 5, 6, 7, 8, 9, 10, 11, 12, 13, 14, 15, 16, 17, 18, 19] (some 96) (m 10),
 mkPO 21 true [0, 1, 2, 3, 4, 5, 6, 7, 8, 9, 10, 11, 12, 13, 14, 15, 16, 17, 18, 19] (some 97) (.nilc (t 96)),
 mkPO 22 true [0, 1, 2, 3, 4, 5, 6, 7, 8, 9, 10, 11, 12, 13, 14, 15, 16, 17, 18, 19] (some 98) (.fldA 1 (.list pI) (t 97)),
 mkPO 23 true [0, 1, 2, 3, 4, 5, 6, 7, 8, 9, 10, 11, 12, 13, 14, 15, 16, 17, 18, 19] (some 99) (.load (.list pI) (t 98)),
 mkPO 24 true [0, 1, 2, 3, 4, 5, 6, 7, 8, 9, 10, 11, 12, 13, 14, 15, 16, 17, 18, 19, 20, 21, 22, 23] (some 100) (m 12),
 mkPO 25 true [0, 1, 2, 3, 4, 5, 6, 7, 8, 9, 10, 11, 12, 13, 14, 15, 16, 17, 18, 19] (some 101) (.idxA pI (t 99) (t 100)),
 mkPO 26 true [0, 1, 2, 3, 4, 5, 6, 7, 8, 9, 10, 11, 12, 13, 14, 15, 16, 17, 18, 19] (some 102) (.fldA 1 tI (t 101)),
 mkPO 27 true [0, 1, 2, 3, 4, 5, 6, 7, 8, 9, 10, 11, 12, 13, 14, 15, 16, 17, 18, 19] (some 103) (.load tI (t 102)),
 mkPO 28 true [0, 1, 2, 3, 4, 5, 6, 7, 8, 9, 10, 11, 12, 13, 14, 15, 16, 17] (some 104) (.idxA lI (t 95) (t 103)),
 mkPO 29 true [0, 1, 2, 3, 4, 5, 6, 7, 8, 9, 10, 11, 12, 13, 14, 15, 16, 17] (some 105) (.load lI (t 104)),
 mkPO 30 true [0, 1, 2, 3, 4, 5, 6, 7, 8, 9, 10, 11, 12, 13, 14, 15, 16, 17, 18, 19, 20, 21, 22, 23, 24, 25, 26, 27, 28, 29] (some 106) (.fldA 0 lI (t 5)),
 mkPO 31 true [0, 1, 2, 3, 4, 5, 6, 7, 8, 9, 10, 11, 12, 13, 14, 15, 16, 17, 18, 19, 20, 21, 22, 23, 24, 25, 26, 27, 28, 29] (some 107) (.load lI (t 106)),
 mkPO 32 true [0, 1, 2, 3, 4, 5, 6, 7, 8, 9, 10, 11, 12, 13, 14, 15, 16, 17, 18, 19, 20, 21, 22, 23, 24, 25, 26, 27, 28, 29, 30, 31] (some 108) (m 15),
 mkPO 33 true [0, 1, 2, 3, 4, 5, 6, 7, 8, 9, 10, 11, 16, 17, 18, 19, 20, 21, 22, 23, 24, 25, 26, 27, 28, 29] (some 109) (.call false N_dfa_class [(.d lI, .tm 107), (.d tI, .tm 108)] q_dfa_class),
 mkPO 34 true [0, 1, 2, 3, 4, 5, 6, 7, 8, 9, 10, 11, 16, 17] (some 110) (.idxA tI (t 105) (t 109)),
 mkPO 35 true [0, 1, 2, 3, 4, 5, 6, 7, 8, 9, 10, 11, 16, 17] (some 111) (.load tI (t 110)),
 mkPO 36 true [] (some 112) (.build [.d tI (0 : Int), .d tI (0 : Int)] [(0, 1, .tm 93), (1, 1, .tm 111)]),
 mkPO 37 true [0, 1, 2, 3, 4, 5, 6, 7, 8, 9, 10, 11, 12, 13, 14, 15, 16, 17, 18, 19, 20, 21, 22, 23, 24, 25, 26, 27, 28, 29, 30, 31, 32, 33, 34, 35, 36] (some 16) (.atq 7 (.alloc 73 [.d tI (0 : Int), .d tI (0 : Int)]))] (
.op none (.store pI (t 16) (t 112))<|
.nil) [[], [0], [], [2], [3], [4], [], [5, 6], [7], [8], [1, 9], [10], [], [12], [], [13, 14], [11, 15], [16], [], [18], [], [20], [21], [22], [], [23, 24], [25], [26], [19, 27], [28], [], [30], [], [31, 32, 15], [29, 33], [34], [17, 35], [], [37, 36, 33, 0, 1, 2, 3, 4, 5, 6, 7, 8, 9, 10, 11, 12, 13, 14, 15, 16, 17, 18, 19, 20, 21, 22, 23, 24, 25, 26, 27, 28, 29, 30, 31, 32, 33, 34, 35, 36, 37]]) (.seq (.region (
 o 114 (m 11)<|
 o 115 (.load pI (t 16))<|
 o 116 (.lookup 73 3 true pI tI (t 114) (t 115))<|
 o 113 (m 116)<|
 o 117 (.ext (t 113) 0)<|
 o 118 (.ext (t 113) 1)<|
 o 17 (m 117)<|
 o 18 (m 118)<|
.nil)) (.seq (.cut [(0, ⟨[2, 3, 4, 5, 12, 14, 69, 70, 71], ⟨[(10, .ptr 0 0), (11, .mp 5), (13, .sl 6)], [.box T_str_dfa_product [.any, .sl 1, .sl 2, .sl 3, .sl 4], .vec T_str_dfa_pair pI [], .vec T_i64 tI [], .vec T_i64 tI [], .vec T_sl_i64 lI [], .map T_str_dfa_pair T_i64 pI tI [], .vec T_i64 tI []]⟩, [.tm 17 tI, .cell 0 0 lI, .vec 1 73 pI, .vec 2 3 tI, .vec 3 3 tI, .vec 4 22 lI, .map 5 73 3 pI tI, .vec 6 3 tI]⟩), (1, ⟨[], ⟨[(8, .ptr 0 0)], [.box T_str_dfa_product [.any, .sl 1, .sl 2, .sl 3, .sl 4], .vec T_str_dfa_pair pI [], .vec T_i64 tI [], .vec T_i64 tI [], .vec T_sl_i64 lI []]⟩, [.tm 9 tB, .cell 0 0 lI, .vec 1 73 pI, .vec 2 3 tI, .vec 3 3 tI, .vec 4 22 lI]⟩)] (.seq (.region (
 o 119 (m 18)<|
 o 120 (.un .not (t 119))<|
.nil)) (.cond (t 120) (.seq (.region (
 o 121 (m 10)<|
 o 122 (.nilc (t 121))<|
 o 123 (.fldA 1 (.list pI) (t 122))<|
 o 124 (.load (.list pI) (t 123))<|
 o 125 (.len false (t 124))<|
 o 17 (m 125)<|
.nil)) (.seq (.region (
 o 126 (m 11)<|
 o 127 (.load pI (t 16))<|
 o 128 (m 17)<|
.op none (.mapset 73 3 pI tI (t 126) (t 127) (t 128))<|
.nil)) (.seq (.draw2 0 [
 mkPO 0 true [] (some 129) (m 10),
 mkPO 1 true [0] (some 130) (m 10),
 mkPO 2 true [0] (some 131) (.nilc (t 130)),
 mkPO 3 true [0] (some 132) (.fldA 1 (.list pI) (t 131)),
 mkPO 4 true [0] (some 133) (.load (.list pI) (t 132)),
 mkPO 5 true [0, 1, 2, 3, 4] (some 134) (.load pI (t 16)),
 mkPO 6 true [0, 1, 2, 3, 4] (some 135) (.bslice false 73 pI 1 [.tm 134]),
 mkPO 7 false [0] (some 136) (.append 73 pI 16 (t 133) (t 135))] (
 o 137 (.nilc (t 129))<|
 o 138 (.fldA 1 (.list pI) (t 137))<|
.op none (.store (.list pI) (t 138) (t 136))<|
.nil) [[], [], [1], [2], [3], [], [5], [4, 6], [0, 0, 1, 2, 3, 4, 5, 6, 7], [8, 0, 1, 2, 3, 4, 5, 6, 7], [9, 7, 7, 0, 1, 2, 3, 4, 5, 6, 7]]) (.seq (.region (
 o 139 (m 10)<|
 o 140 (m 10)<|
 o 141 (.nilc (t 140))<|
 q 142 2 lI 141<|
 o 144 (m 12)<|
 o 145 (.bslice false 3 tI 1 [.tm 144])<|
 o 146 (.append 3 tI 8 (t 143) (t 145))<|
 o 147 (.nilc (t 139))<|
 o 148 (.fldA 2 lI (t 147))<|
.op none (.store lI (t 148) (t 146))<|
.nil)) (.seq (.region (
 o 149 (m 10)<|
 o 150 (m 10)<|
 o 151 (.nilc (t 150))<|
 q 152 3 lI 151<|
 o 154 (m 15)<|
 o 155 (.bslice false 3 tI 1 [.tm 154])<|
 o 156 (.append 3 tI 8 (t 153) (t 155))<|
 o 157 (.nilc (t 149))<|
 o 158 (.fldA 3 lI (t 157))<|
.op none (.store lI (t 158) (t 156))<|
.nil)) (.seq (.region (
 o 159 (m 17)<|
 o 160 (m 2)<|
 o 161 (.bin .geq (t 159) (t 160))<|
 o 162 (m 161)<|
.gb 162 false (
 o 163 (m 3)<|
 o 164 (.load pI (t 16))<|
 o 165 (.callp false N_dfa_Both_1 (t 163) [(.d pI, .tm 164)] q_dfa_Both_1)<|
.nil) tB (t 165) yT 166 <|
.nil)) (.cond (t 166) (.seq (.region (
 o 167 (m 10)<|
 o 8 (m 167)<|
 o 9 (.mv yT)<|
.nil)) (.adj [.sel [0, 1, 2, 3, 4] [8, 9]] .ret)) (.after .skip [.sel [0, 1, 2, 3, 4, 5, 6] [2, 3, 4, 5, 10, 11, 12, 13, 14, 17, 69, 70, 71]])))))))) (.after .skip [.sel [0, 1, 2, 3, 4, 5, 6] [2, 3, 4, 5, 10, 11, 12, 13, 14, 17, 69, 70, 71]])))) (.region (
 o 168 (m 13)<|
 o 169 (m 14)<|
 o 170 (m 17)<|
 o 171 (.idxA tI (t 168) (t 169))<|
.op none (.store tI (t 171) (t 170))<|
.nil))))))) (.region (
 o 172 (.bin .add (t 71) (i 1))<|
 o 71 (m 172)<|
.nil)))))))) (.region (
 o 173 (m 10)<|
 o 174 (m 10)<|
 o 175 (.nilc (t 174))<|
 q 176 4 lL 175<|
 o 178 (m 13)<|
.adj [.freeze 6] <|
 o 179 (.bslice false 22 lI 1 [.tm 178])<|
 o 180 (.append 22 lI 24 (t 177) (t 179))<|
 o 181 (.nilc (t 173))<|
 o 182 (.fldA 4 lL (t 181))<|
.op none (.store lL (t 182) (t 180))<|
.nil))))) (.after (.region (
 o 58 (m 12)<|
 o 59 (.bin .add (t 58) (i 1))<|
 o 12 (m 59)<|
.nil)) [.sel [0, 1, 2, 3, 4, 5] [2, 3, 4, 5, 10, 11, 12]]))))))) (.seq (.region (
 o 183 (m 10)<|
 o 8 (m 183)<|
 o 9 (.mv yF)<|
.nil)) .ret)))))), [.tm 8, .tm 9], 184, q_dfa_multiply_dddf_v1, 0⟩
def q_dfa_Both : Sh := ⟨[], ⟨[], []⟩, [.tm 0 (pr [(.list tI), (.list (.list tI)), (.list tB), tI]), .tm 1 tI]⟩
def f_dfa_Both : TF := ⟨(.seq (.region (
 o 2 (.boxD 26 pD (t 0))<|
 o 3 (.boxD 26 pD (t 1))<|
 o 4 (.alloc 26 [.nil tI, .nil lI, .nil tB, .d tI (0 : Int)])<|
 o 5 (.mv (i 0))<|
.nil)) (.seq (.seq (.region (
 o 14 (.load pD (t 2))<|
 o 15 (.call false N_dfa_Check [(.d pD, .tm 14)] q_dfa_Check)<|
 o 6 (m 15)<|
.nil)) (.seq (.region (
 o 16 (m 6)<|
 o 17 (.bin .neq (t 16) (i 0))<|
.nil)) (.cond (t 17) (.seq (.region (
 o 18 (.build [.nil tI, .nil lI, .nil tB, .d tI (0 : Int)] [])<|
 o 19 (m 6)<|
.op none (.store pD (t 4) (t 18))<|
 o 5 (m 19)<|
.nil)) .ret) .skip))) (.seq (.seq (.region (
 o 20 (.load pD (t 3))<|
 o 21 (.call false N_dfa_Check [(.d pD, .tm 20)] q_dfa_Check)<|
 o 7 (m 21)<|
.nil)) (.seq (.region (
 o 22 (m 7)<|
 o 23 (.bin .neq (t 22) (i 0))<|
.nil)) (.cond (t 23) (.seq (.region (
 o 24 (.build [.nil tI, .nil lI, .nil tB, .d tI (0 : Int)] [])<|
 o 25 (m 7)<|
.op none (.store pD (t 4) (t 24))<|
 o 5 (m 25)<|
.nil)) .ret) .skip))) (.seq (.region (
 o 27 (.load pD (t 2))<|
 o 28 (.load pD (t 3))<|
 o 29 (.callA false false [] N_dfa_multiply_dddf_v1 [(.d pD, .tm 27), (.d pD, .tm 28), (.d tI, .k tI (4096 : Int)), (.x, .f F_dfa_Both_1)] q_dfa_multiply_dddf_v1)<|
 o 26 (m 29)<|
 o 30 (.ext (t 26) 0)<|
 o 31 (.ext (t 26) 1)<|
 o 8 (m 30)<|
 o 9 (m 31)<|
.nil)) (.seq (.seq (.region (
 o 32 (m 9)<|
.nil)) (.cond (t 32) (.seq (.region (
 o 33 (.build [.nil tI, .nil lI, .nil tB, .d tI (0 : Int)] [])<|
.op none (.store pD (t 4) (t 33))<|
 o 5 (.mv (i 8))<|
.nil)) .ret) .skip)) (.seq (.draw2 1 [
 mkPO 0 true [] (some 34) (m 8),
 mkPO 1 true [] (some 35) (.nilc (t 34)),
 mkPO 2 true [] (some 36) (.fldA 0 lI (t 35)),
 mkPO 3 true [] (some 37) (.load lI (t 36)),
 mkPO 4 true [0, 1, 2, 3] (some 38) (m 8),
 mkPO 5 true [0, 1, 2, 3] (some 39) (.nilc (t 38)),
 mkPO 6 true [0, 1, 2, 3] (some 40) (.fldA 4 lL (t 39)),
 mkPO 7 true [0, 1, 2, 3] (some 41) (.load lL (t 40)),
 mkPO 8 true [] (some 42) (.build [.nil tI, .nil lI, .nil tB, .d tI (0 : Int)] [(0, 1, .tm 37), (1, 1, .tm 41)]),
 mkPO 9 true [0, 1, 2, 3, 4, 5, 6, 7, 8] (some 10) (.atq 6 (.alloc 26 [.nil tI, .nil lI, .nil tB, .d tI (0 : Int)]))] (
.op none (.store pD (t 10) (t 42))<|
.nil) [[], [0], [1], [2], [], [4], [5], [6], [3, 7], [], [9, 8, 0, 1, 2, 3, 4, 5, 6, 7, 8, 9]]) (.seq (.seq (.region (
 o 43 (m 8)<|
 o 44 (.nilc (t 43))<|
 o 45 (.fldA 1 (.list pI) (t 44))<|
 o 46 (.load (.list pI) (t 45))<|
 o 47 (.len false (t 46))<|
 o 48 (.mv (i 0))<|
.nil)) (.block 0 (.adj [.adoptC 6 2 4 tB, .sel [0, 6, 5, 7, 2] [2, 3, 4, 10, 46, 47, 48]] (.loop ⟨[2, 3, 47], ⟨[(4, .ptr 0 0), (10, .ptr 1 0), (46, .sl 4)], [.box T_str_api_DFA [.nil tI, .nil lI, .nil tB, .any], .box T_str_api_DFA [.any, .sl 2, .sl 3, .any], .vec T_sl_i64 lI [], .vec T_bool tB [], .vec T_str_dfa_pair pI []]⟩, [.tm 48 tI, .cell 0 3 tI, .cell 1 0 lI, .cell 1 3 tI, .vec 2 22 lI, .vec 3 4 tB, .vec 4 73 pI]⟩ [(3, ⟨[], ⟨[(4, .ptr 0 0), (10, .ptr 1 0)], [.box T_str_api_DFA [.nil tI, .nil lI, .nil tB, .any], .box T_str_api_DFA [.any, .sl 2, .sl 3, .any], .vec T_sl_i64 lI [], .vec T_bool tB []]⟩, [.cell 0 3 tI, .cell 1 0 lI, .cell 1 3 tI, .vec 2 22 lI, .vec 3 4 tB]⟩)] (.seq (.region (
 o 49 (.bin .lss (t 48) (t 47))<|
.nil)) (.seq (.cond (t 49) .skip (.adj [.sel [0, 1, 2, 3] [4, 10]] (.exit 0))) (.seq (.block 1 (.seq (.region (
 o 50 (.idxA pI (t 46) (t 48))<|
 o 51 (.load pI (t 50))<|
 o 12 (.alloc 73 [.d tI (0 : Int), .d tI (0 : Int)])<|
.op none (.store pI (t 12) (t 51))<|
.nil)) (.draw 17 (
 q 52 2 lB 10<|
 q 54 2 lB 2<|
 q 56 0 tI 12<|
 o 58 (.idxA tB (t 55) (t 57))<|
 o 59 (.load tB (t 58))<|
 o 60 (m 59)<|
.gb 60 true (
 q 61 2 lB 3<|
 q 63 1 tI 12<|
 o 65 (.idxA tB (t 62) (t 64))<|
 o 66 (.load tB (t 65))<|
.nil) tB (t 66) yF 67 <|
 o 68 (.bslice false 4 tB 1 [.tm 67])<|
 o 69 (.append 4 tB 1 (t 53) (t 68))<|
 o 70 (.fldA 2 lB (t 10))<|
.op none (.store lB (t 70) (t 69))<|
.nil) [[], [0], [], [2], [], [4], [3, 5], [6], [7], [8], [9, 8], [8], [11, 8], [10, 12, 8], [13, 8], [8, 14], [15], [1, 16, 8], [0, 1, 2, 3, 4, 5, 6, 7, 8, 9, 10, 11, 12, 13, 14, 15, 16, 17], [18, 17, 17, 0, 1, 2, 3, 4, 5, 6, 7, 8, 9, 10, 11, 12, 13, 14, 15, 16, 17]]))) (.after (.region (
 o 71 (.bin .add (t 48) (i 1))<|
 o 48 (m 71)<|
.nil)) [.sel [0, 1, 2, 3, 4] [2, 3, 4, 10, 46, 47, 48]])))))))) (.seq (.region (
 o 72 (.load pD (t 10))<|
.adj [.freeze 2, .freeze 3] <|
 o 73 (.call false N_dfa_minimal [(.d pD, .tm 72)] q_dfa_minimal)<|
 o 13 (.alloc 26 [.nil tI, .nil lI, .nil tB, .d tI (0 : Int)])<|
.op none (.store pD (t 13) (t 73))<|
.nil)) (.seq (.seq (.region (
 q 74 0 lI 13<|
 o 76 (.len false (t 75))<|
 o 77 (.bin .gtr (t 76) (i 2000))<|
.nil)) (.cond (t 77) (.seq (.region (
 o 78 (.build [.nil tI, .nil lI, .nil tB, .d tI (0 : Int)] [])<|
.op none (.store pD (t 4) (t 78))<|
 o 5 (.mv (i 8))<|
.nil)) .ret) .skip)) (.seq (.region (
 o 79 (.load pD (t 13))<|
.op none (.store pD (t 4) (t 79))<|
 o 5 (.mv (i 0))<|
.nil)) .ret)))))))))), [.cell 4 pD, .tm 5], 80, q_dfa_Both, 0⟩
def q_ref16_equal : Sh := ⟨[], ⟨[], []⟩, [.tm 0 tB]⟩
def f_ref16_equal : TF := ⟨(.seq (.region (
 o 4 (.mv yF)<|
.nil)) (.seq (.seq (.region (
 o 6 (m 0)<|
 o 7 (.len false (t 6))<|
 o 8 (m 1)<|
 o 9 (.len false (t 8))<|
 o 10 (.bin .neq (t 7) (t 9))<|
.nil)) (.cond (t 10) (.seq (.region (
 o 4 (.mv yF)<|
.nil)) .ret) .skip)) (.seq (.seq (.region (
 o 11 (m 0)<|
 o 12 (.len false (t 11))<|
 o 13 (.mv (i 0))<|
.nil)) (.block 0 (.loop ⟨[0, 1, 12], ⟨[], []⟩, [.tm 13 tI]⟩ [(1, ⟨[], ⟨[], []⟩, [.tm 4 tB]⟩), (3, ⟨[], ⟨[], []⟩, []⟩)] (.seq (.region (
 o 14 (.bin .lss (t 13) (t 12))<|
.nil)) (.seq (.cond (t 14) .skip (.exit 0)) (.seq (.block 1 (.seq (.region (
 o 15 (m 13)<|
 o 5 (m 15)<|
.nil)) (.seq (.draw 9 (
 o 16 (m 0)<|
 o 17 (m 5)<|
 o 18 (.idxA tI (t 16) (t 17))<|
 o 19 (.load tI (t 18))<|
 o 20 (m 1)<|
 o 21 (m 5)<|
 o 22 (.idxA tI (t 20) (t 21))<|
 o 23 (.load tI (t 22))<|
 o 24 (.bin .neq (t 19) (t 23))<|
.nil) [[], [], [0, 1], [2], [], [], [4, 5], [6], [3, 7]]) (.cond (t 24) (.seq (.region (
 o 4 (.mv yF)<|
.nil)) .ret) .skip)))) (.region (
 o 25 (.bin .add (t 13) (i 1))<|
 o 13 (m 25)<|
.nil)))))))) (.seq (.region (
 o 4 (.mv yT)<|
.nil)) .ret)))), [.tm 4], 26, q_ref16_equal, 0⟩
def L_ref16_equal_0 (O : Oracle) (n : Nat) (a : (List Int)) (b : (List Int)) (s : (Int × Unit)) : Option ((Int × Unit) ⊕ (Bool × Unit) ⊕ Unit) :=
 bif decide (s.1 < (a.length : Int)) then
 Option.bind (getI a s.1) fun v1 =>
 Option.bind (getI b s.1) fun v2 =>
 bif (v1 != v2) then
 some (.inr (.inl ((false, ()))))
else
 some (.inl (IntKind.wrap .i64 (s.1 + (1 : Int)), ()))
else
 some (.inr (.inr (())))
def G_ref16_equal (O : Oracle) (n : Nat) (a : (List Int)) (b : (List Int)) : Option (Option S) :=
 bif ((a.length : Int) != (b.length : Int)) then
 retQ q_ref16_equal (false, ())
else
 Option.bind (loopN n (L_ref16_equal_0 O n a b) ((0 : Int), ())) fun (v3 : (Bool × Unit) ⊕ Unit) =>
 Sum.elim (fun v4 =>
 retQ q_ref16_equal (v4.1, ())) (fun v5 =>
 retQ q_ref16_equal (true, ())) v3
theorem x_ref16_equal (O : Oracle) (n : Nat) (a : (List Int)) (b : (List Int)) : evF1 O n f_ref16_equal [.d (.list tI) a, .d (.list tI) b] [] = G_ref16_equal O n a b := by kernel_rfl
def q_ref16_Equal : Sh := ⟨[], ⟨[], []⟩, [.tm 0 tB]⟩
def f_ref16_Equal : TF := ⟨(.seq (.region (
 o 2 (.boxD 26 pD (t 0))<|
 o 3 (.boxD 26 pD (t 1))<|
 o 4 (.mv yF)<|
.nil)) (.seq (.seq (.region (
 q 7 0 lI 2<|
 q 9 0 lI 3<|
 o 11 (.call false N_ref16_equal [(.d lI, .tm 8), (.d lI, .tm 10)] q_ref16_equal)<|
 o 12 (.un .not (t 11))<|
 o 13 (m 12)<|
.gb 13 false (
 q 14 1 lL 2<|
 o 16 (.len false (t 15))<|
 q 17 1 lL 3<|
 o 19 (.len false (t 18))<|
 o 20 (.bin .neq (t 16) (t 19))<|
.nil) tB (t 20) yT 21 <|
 o 22 (m 21)<|
.gb 22 false (
 q 23 2 lB 2<|
 o 25 (.len false (t 24))<|
 q 26 2 lB 3<|
 o 28 (.len false (t 27))<|
 o 29 (.bin .neq (t 25) (t 28))<|
.nil) tB (t 29) yT 30 <|
 o 31 (m 30)<|
.gb 31 false (
 q 32 3 tI 2<|
 q 34 3 tI 3<|
 o 36 (.bin .neq (t 33) (t 35))<|
.nil) tB (t 36) yT 37 <|
.nil)) (.cond (t 37) (.seq (.region (
 o 4 (.mv yF)<|
.nil)) .ret) .skip)) (.seq (.seq (.region (
 q 38 1 lL 2<|
 o 40 (.len false (t 39))<|
 o 41 (.mv (i 0))<|
.nil)) (.block 0 (.loop ⟨[2, 3, 40], ⟨[], []⟩, [.tm 41 tI]⟩ [(1, ⟨[], ⟨[], []⟩, [.tm 4 tB]⟩), (3, ⟨[2, 3], ⟨[], []⟩, []⟩)] (.seq (.region (
 o 42 (.bin .lss (t 41) (t 40))<|
.nil)) (.seq (.cond (t 42) .skip (.exit 0)) (.seq (.block 1 (.seq (.region (
 o 43 (m 41)<|
 o 5 (m 43)<|
.nil)) (.seq (.draw 12 (
 q 44 1 lL 2<|
 o 46 (m 5)<|
 o 47 (.idxA lI (t 45) (t 46))<|
 o 48 (.load lI (t 47))<|
 q 49 1 lL 3<|
 o 51 (m 5)<|
 o 52 (.idxA lI (t 50) (t 51))<|
 o 53 (.load lI (t 52))<|
 o 54 (.call false N_ref16_equal [(.d lI, .tm 48), (.d lI, .tm 53)] q_ref16_equal)<|
 o 55 (.un .not (t 54))<|
.nil) [[], [0], [], [1, 2], [3], [], [5], [], [6, 7], [8], [4, 9], [10]]) (.cond (t 55) (.seq (.region (
 o 4 (.mv yF)<|
.nil)) .ret) .skip)))) (.region (
 o 56 (.bin .add (t 41) (i 1))<|
 o 41 (m 56)<|
.nil)))))))) (.seq (.seq (.region (
 q 57 2 lB 2<|
 o 59 (.len false (t 58))<|
 o 60 (.mv (i 0))<|
.nil)) (.block 2 (.loop ⟨[2, 3, 59], ⟨[], []⟩, [.tm 60 tI]⟩ [(1, ⟨[], ⟨[], []⟩, [.tm 4 tB]⟩), (5, ⟨[], ⟨[], []⟩, []⟩)] (.seq (.region (
 o 61 (.bin .lss (t 60) (t 59))<|
.nil)) (.seq (.cond (t 61) .skip (.exit 2)) (.seq (.block 3 (.seq (.region (
 o 62 (m 60)<|
 o 6 (m 62)<|
.nil)) (.seq (.draw 11 (
 q 63 2 lB 2<|
 o 65 (m 6)<|
 o 66 (.idxA tB (t 64) (t 65))<|
 o 67 (.load tB (t 66))<|
 q 68 2 lB 3<|
 o 70 (m 6)<|
 o 71 (.idxA tB (t 69) (t 70))<|
 o 72 (.load tB (t 71))<|
 o 73 (.eqB true (t 67) (t 72))<|
.nil) [[], [0], [], [1, 2], [3], [], [5], [], [6, 7], [8], [4, 9]]) (.cond (t 73) (.seq (.region (
 o 4 (.mv yF)<|
.nil)) .ret) .skip)))) (.region (
 o 74 (.bin .add (t 60) (i 1))<|
 o 60 (m 74)<|
.nil)))))))) (.seq (.region (
 o 4 (.mv yT)<|
.nil)) .ret))))), [.tm 4], 75, q_ref16_Equal, 0⟩
def L_ref16_Equal_0 (O : Oracle) (n : Nat) (a : TD) (b : TD) (s : (Int × Unit)) : Option ((Int × Unit) ⊕ (Bool × Unit) ⊕ Unit) :=
 bif decide (s.1 < (a.2.1.length : Int)) then
 Option.bind (getI a.2.1 s.1) fun v5 =>
 Option.bind (getI b.2.1 s.1) fun v6 =>
 Option.bind (callR O N_ref16_equal [.d (.list tI) v5, .d (.list tI) v6] [] q_ref16_equal) fun v7 =>
 bif (!v7.1) then
 some (.inr (.inl ((false, ()))))
else
 some (.inl (IntKind.wrap .i64 (s.1 + (1 : Int)), ()))
else
 some (.inr (.inr (())))
def L_ref16_Equal_1 (O : Oracle) (n : Nat) (a : TD) (b : TD) (v11 : (Int × Unit)) : Option ((Int × Unit) ⊕ (Bool × Unit) ⊕ Unit) :=
 bif decide (v11.1 < (a.2.2.1.length : Int)) then
 Option.bind (getI a.2.2.1 v11.1) fun v12 =>
 Option.bind (getI b.2.2.1 v11.1) fun v13 =>
 bif (true ^^ (v12 == v13)) then
 some (.inr (.inl ((false, ()))))
else
 some (.inl (IntKind.wrap .i64 (v11.1 + (1 : Int)), ()))
else
 some (.inr (.inr (())))
def G_ref16_Equal (O : Oracle) (n : Nat) (a : TD) (b : TD) : Option (Option S) :=
 Option.bind (callR O N_ref16_equal [.d (.list tI) a.1, .d (.list tI) b.1] [] q_ref16_equal) fun v =>
 Option.bind (bif (!v.1) then some (true) else
 some (((a.2.1.length : Int) != (b.2.1.length : Int)))) fun v1 =>
 Option.bind (bif v1 then some (true) else
 some (((a.2.2.1.length : Int) != (b.2.2.1.length : Int)))) fun v2 =>
 Option.bind (bif v2 then some (true) else
 some ((a.2.2.2.1 != b.2.2.2.1))) fun v3 =>
 bif v3 then
 retQ q_ref16_Equal (false, ())
else
 Option.bind (loopN n (L_ref16_Equal_0 O n a b) ((0 : Int), ())) fun (v8 : (Bool × Unit) ⊕ Unit) =>
 Sum.elim (fun v9 =>
 retQ q_ref16_Equal (v9.1, ())) (fun v10 =>
 Option.bind (loopN n (L_ref16_Equal_1 O n a b) ((0 : Int), ())) fun (v14 : (Bool × Unit) ⊕ Unit) =>
 Sum.elim (fun v15 =>
 retQ q_ref16_Equal (v15.1, ())) (fun v16 =>
 retQ q_ref16_Equal (true, ())) v14) v8
theorem x_ref16_Equal (O : Oracle) (n : Nat) (a : ((List Int) × ((List (List Int)) × ((List Bool) × (Int × Unit))))) (b : ((List Int) × ((List (List Int)) × ((List Bool) × (Int × Unit))))) : evF1 O n f_ref16_Equal [.d (pr [(.list tI), (.list (.list tI)), (.list tB), tI]) a, .d (pr [(.list tI), (.list (.list tI)), (.list tB), tI]) b] [] = G_ref16_Equal O n a b := by kernel_rfl
def q_dfa_equal : Sh := ⟨[], ⟨[], []⟩, [.tm 0 tB]⟩
def f_dfa_equal : TF := ⟨(.seq (.region (
 o 4 (.mv yF)<|
.nil)) (.seq (.seq (.region (
 o 6 (m 0)<|
 o 7 (.len false (t 6))<|
 o 8 (m 1)<|
 o 9 (.len false (t 8))<|
 o 10 (.bin .neq (t 7) (t 9))<|
.nil)) (.cond (t 10) (.seq (.region (
 o 4 (.mv yF)<|
.nil)) .ret) .skip)) (.seq (.seq (.region (
 o 11 (m 0)<|
 o 12 (.len false (t 11))<|
 o 13 (.mv (i 0))<|
.nil)) (.block 0 (.loop ⟨[0, 1, 12], ⟨[], []⟩, [.tm 13 tI]⟩ [(1, ⟨[], ⟨[], []⟩, [.tm 4 tB]⟩), (3, ⟨[], ⟨[], []⟩, []⟩)] (.seq (.region (
 o 14 (.bin .lss (t 13) (t 12))<|
.nil)) (.seq (.cond (t 14) .skip (.exit 0)) (.seq (.block 1 (.seq (.region (
 o 15 (m 13)<|
 o 5 (m 15)<|
.nil)) (.seq (.draw 9 (
 o 16 (m 0)<|
 o 17 (m 5)<|
 o 18 (.idxA tI (t 16) (t 17))<|
 o 19 (.load tI (t 18))<|
 o 20 (m 1)<|
 o 21 (m 5)<|
 o 22 (.idxA tI (t 20) (t 21))<|
 o 23 (.load tI (t 22))<|
 o 24 (.bin .neq (t 19) (t 23))<|
.nil) [[], [], [0, 1], [2], [], [], [4, 5], [6], [3, 7]]) (.cond (t 24) (.seq (.region (
 o 4 (.mv yF)<|
.nil)) .ret) .skip)))) (.region (
 o 25 (.bin .add (t 13) (i 1))<|
 o 13 (m 25)<|
.nil)))))))) (.seq (.region (
 o 4 (.mv yT)<|
.nil)) .ret)))), [.tm 4], 26, q_dfa_equal, 0⟩
def q_dfa_Equal : Sh := ⟨[], ⟨[], []⟩, [.tm 0 tB]⟩
def f_dfa_Equal : TF := ⟨(.seq (.region (
 o 2 (.boxD 26 pD (t 0))<|
 o 3 (.boxD 26 pD (t 1))<|
 o 4 (.mv yF)<|
.nil)) (.seq (.seq (.region (
 q 7 3 tI 2<|
 q 9 3 tI 3<|
 o 11 (.bin .neq (t 8) (t 10))<|
 o 12 (m 11)<|
.gb 12 false (
 q 13 0 lI 2<|
 q 15 0 lI 3<|
 o 17 (.call false N_dfa_equal [(.d lI, .tm 14), (.d lI, .tm 16)] q_dfa_equal)<|
 o 18 (.un .not (t 17))<|
.nil) tB (t 18) yT 19 <|
 o 20 (m 19)<|
.gb 20 false (
 q 21 1 lL 2<|
 o 23 (.len false (t 22))<|
 q 24 1 lL 3<|
 o 26 (.len false (t 25))<|
 o 27 (.bin .neq (t 23) (t 26))<|
.nil) tB (t 27) yT 28 <|
 o 29 (m 28)<|
.gb 29 false (
 q 30 2 lB 2<|
 o 32 (.len false (t 31))<|
 q 33 2 lB 3<|
 o 35 (.len false (t 34))<|
 o 36 (.bin .neq (t 32) (t 35))<|
.nil) tB (t 36) yT 37 <|
.nil)) (.cond (t 37) (.seq (.region (
 o 4 (.mv yF)<|
.nil)) .ret) .skip)) (.seq (.seq (.region (
 q 38 1 lL 2<|
 o 40 (.len false (t 39))<|
 o 41 (.mv (i 0))<|
.nil)) (.block 0 (.loop ⟨[2, 3, 40], ⟨[], []⟩, [.tm 41 tI]⟩ [(1, ⟨[], ⟨[], []⟩, [.tm 4 tB]⟩), (3, ⟨[2, 3], ⟨[], []⟩, []⟩)] (.seq (.region (
 o 42 (.bin .lss (t 41) (t 40))<|
.nil)) (.seq (.cond (t 42) .skip (.exit 0)) (.seq (.block 1 (.seq (.region (
 o 43 (m 41)<|
 o 5 (m 43)<|
.nil)) (.seq (.draw 12 (
 q 44 1 lL 2<|
 o 46 (m 5)<|
 o 47 (.idxA lI (t 45) (t 46))<|
 o 48 (.load lI (t 47))<|
 q 49 1 lL 3<|
 o 51 (m 5)<|
 o 52 (.idxA lI (t 50) (t 51))<|
 o 53 (.load lI (t 52))<|
 o 54 (.call false N_dfa_equal [(.d lI, .tm 48), (.d lI, .tm 53)] q_dfa_equal)<|
 o 55 (.un .not (t 54))<|
.nil) [[], [0], [], [1, 2], [3], [], [5], [], [6, 7], [8], [4, 9], [10]]) (.cond (t 55) (.seq (.region (
 o 4 (.mv yF)<|
.nil)) .ret) .skip)))) (.region (
 o 56 (.bin .add (t 41) (i 1))<|
 o 41 (m 56)<|
.nil)))))))) (.seq (.seq (.region (
 q 57 2 lB 2<|
 o 59 (.len false (t 58))<|
 o 60 (.mv (i 0))<|
.nil)) (.block 2 (.loop ⟨[2, 3, 59], ⟨[], []⟩, [.tm 60 tI]⟩ [(1, ⟨[], ⟨[], []⟩, [.tm 4 tB]⟩), (5, ⟨[], ⟨[], []⟩, []⟩)] (.seq (.region (
 o 61 (.bin .lss (t 60) (t 59))<|
.nil)) (.seq (.cond (t 61) .skip (.exit 2)) (.seq (.block 3 (.seq (.region (
 o 62 (m 60)<|
 o 6 (m 62)<|
.nil)) (.seq (.draw 11 (
 q 63 2 lB 2<|
 o 65 (m 6)<|
 o 66 (.idxA tB (t 64) (t 65))<|
 o 67 (.load tB (t 66))<|
 q 68 2 lB 3<|
 o 70 (m 6)<|
 o 71 (.idxA tB (t 69) (t 70))<|
 o 72 (.load tB (t 71))<|
 o 73 (.eqB true (t 67) (t 72))<|
.nil) [[], [0], [], [1, 2], [3], [], [5], [], [6, 7], [8], [4, 9]]) (.cond (t 73) (.seq (.region (
 o 4 (.mv yF)<|
.nil)) .ret) .skip)))) (.region (
 o 74 (.bin .add (t 60) (i 1))<|
 o 60 (m 74)<|
.nil)))))))) (.seq (.region (
 o 4 (.mv yT)<|
.nil)) .ret))))), [.tm 4], 75, q_dfa_Equal, 0⟩
def q_dfa_Match : Sh := ⟨[], ⟨[], []⟩, [.tm 0 tB]⟩
def f_dfa_Match : TF := ⟨(.seq (.region (
 o 2 (.boxD 26 pD (t 0))<|
 o 4 (.mv yF)<|
.nil)) (.seq (.seq (.region (
 o 8 (.load pD (t 2))<|
 o 9 (.call false N_dfa_Check [(.d pD, .tm 8)] q_dfa_Check)<|
 o 10 (.bin .neq (t 9) (i 0))<|
.nil)) (.cond (t 10) (.seq (.region (
 o 4 (.mv yF)<|
.nil)) .ret) .skip)) (.seq (.region (
 q 11 3 tI 2<|
 o 5 (m 12)<|
.nil)) (.seq (.seq (.region (
 o 13 (m 1)<|
 o 14 (.len false (t 13))<|
 o 15 (.mv (i 0))<|
.nil)) (.block 0 (.loop ⟨[2, 13, 14], ⟨[], []⟩, [.tm 5 tI, .tm 15 tI]⟩ [(1, ⟨[], ⟨[], []⟩, [.tm 4 tB]⟩), (3, ⟨[2], ⟨[], []⟩, [.tm 5 tI]⟩)] (.seq (.region (
 o 16 (.bin .lss (t 15) (t 14))<|
.nil)) (.seq (.cond (t 16) .skip (.exit 0)) (.seq (.block 1 (.seq (.region (
 o 17 (.idxA tI (t 13) (t 15))<|
 o 18 (.load tI (t 17))<|
 o 7 (m 18)<|
.nil)) (.seq (.seq (.region (
 o 19 (m 7)<|
 o 20 (.bin .lss (t 19) (i 0))<|
 o 21 (m 20)<|
.gb 21 false (
 o 22 (m 7)<|
 o 23 (.bin .gtr (t 22) (i 4294967295))<|
.nil) tB (t 23) yT 24 <|
.nil)) (.cond (t 24) (.seq (.region (
 o 4 (.mv yF)<|
.nil)) .ret) .skip)) (.draw 12 (
 q 25 1 lL 2<|
 o 27 (m 5)<|
 o 28 (.idxA lI (t 26) (t 27))<|
 o 29 (.load lI (t 28))<|
 q 30 0 lI 2<|
 o 32 (m 7)<|
 o 33 (.call false N_dfa_class [(.d lI, .tm 31), (.d tI, .tm 32)] q_dfa_class)<|
 o 34 (.idxA tI (t 29) (t 33))<|
 o 35 (.load tI (t 34))<|
 o 5 (m 35)<|
.nil) [[], [0], [], [1, 2], [3], [], [5], [], [6, 7], [4, 8], [9], [10, 8, 0, 1, 2, 3, 4, 5, 6, 7, 8, 9, 10]])))) (.region (
 o 36 (.bin .add (t 15) (i 1))<|
 o 15 (m 36)<|
.nil)))))))) (.seq (.region (
 q 37 2 lB 2<|
 o 39 (m 5)<|
 o 40 (.idxA tB (t 38) (t 39))<|
 o 41 (.load tB (t 40))<|
 o 4 (m 41)<|
.nil)) .ret))))), [.tm 4], 42, q_dfa_Match, 0⟩
def q_dfa_Same : Sh := ⟨[], ⟨[], []⟩, [.tm 0 tB]⟩
def f_dfa_Same : TF := ⟨(.seq (.region (
 o 2 (.boxD 26 pD (t 0))<|
 o 3 (.boxD 26 pD (t 1))<|
 o 4 (.mv yF)<|
.nil)) (.seq (.seq (.region (
 o 7 (.load pD (t 2))<|
 o 8 (.call false N_dfa_Check [(.d pD, .tm 7)] q_dfa_Check)<|
 o 9 (.bin .neq (t 8) (i 0))<|
 o 10 (m 9)<|
.gb 10 false (
 o 11 (.load pD (t 3))<|
 o 12 (.call false N_dfa_Check [(.d pD, .tm 11)] q_dfa_Check)<|
 o 13 (.bin .neq (t 12) (i 0))<|
.nil) tB (t 13) yT 14 <|
.nil)) (.cond (t 14) (.seq (.region (
 o 4 (.mv yF)<|
.nil)) .ret) .skip)) (.seq (.region (
 o 16 (.load pD (t 2))<|
 o 17 (.load pD (t 3))<|
 o 18 (.call false N_dfa_Witness [(.d pD, .tm 16), (.d pD, .tm 17)] q_dfa_Witness)<|
 o 15 (m 18)<|
 o 19 (.ext (t 15) 0)<|
 o 20 (.ext (t 15) 1)<|
 o 5 (m 19)<|
 o 6 (m 20)<|
.nil)) (.seq (.region (
 o 21 (m 6)<|
 o 22 (.un .not (t 21))<|
 o 4 (m 22)<|
.nil)) .ret)))), [.tm 4], 23, q_dfa_Same, 0⟩
def G_dfa_Same (O : Oracle) (n : Nat) (a : TD) (b : TD) : Option (Option S) :=
 Option.bind (callR O N_dfa_Check [.d (pr [(.list tI), (.list (.list tI)), (.list tB), tI]) a] [] q_dfa_Check) fun v =>
 Option.bind (bif (v.1 != (0 : Int)) then some (true) else
 Option.bind (callR O N_dfa_Check [.d (pr [(.list tI), (.list (.list tI)), (.list tB), tI]) b] [] q_dfa_Check) fun v1 =>
 some ((v1.1 != (0 : Int)))) fun v2 =>
 bif v2 then
 retQ q_dfa_Same (false, ())
else
 Option.bind (callR O N_dfa_Witness [.d (pr [(.list tI), (.list (.list tI)), (.list tB), tI]) a, .d (pr [(.list tI), (.list (.list tI)), (.list tB), tI]) b] [] q_dfa_Witness) fun v3 =>
 retQ q_dfa_Same ((!v3.2.1), ())
theorem x_dfa_Same (O : Oracle) (n : Nat) (a : ((List Int) × ((List (List Int)) × ((List Bool) × (Int × Unit))))) (b : ((List Int) × ((List (List Int)) × ((List Bool) × (Int × Unit))))) : evF1 O n f_dfa_Same [.d (pr [(.list tI), (.list (.list tI)), (.list tB), tI]) a, .d (pr [(.list tI), (.list (.list tI)), (.list tB), tI]) b] [] = G_dfa_Same O n a b := by kernel_rfl
def q_law16_awake : Sh := ⟨[], ⟨[], []⟩, [.tm 0 tB]⟩
def f_law16_awake : TF := ⟨(.seq (.region (
 o 0 (.mv yF)<|
.nil)) (.seq (.region (
 o 13 (.call false N_law16_first [] q_law16_first)<|
 o 14 (.call false N_dfa_Build [(.d .rx, .tm 13)] q_dfa_Build)<|
 o 12 (m 14)<|
 o 15 (.ext (t 12) 0)<|
 o 16 (.ext (t 12) 1)<|
 o 1 (.alloc 26 [.nil tI, .nil lI, .nil tB, .d tI (0 : Int)])<|
.op none (.store pD (t 1) (t 15))<|
 o 2 (m 16)<|
.nil)) (.seq (.region (
 o 17 (.bslice false 3 tI 3 [.k tI (0 : Int), .k tI (65001 : Int), .k tI (65002 : Int)])<|
 o 18 (.bslice false 3 tI 3 [.k tI (1 : Int), .k tI (2 : Int), .k tI (1 : Int)])<|
 o 19 (.bslice false 3 tI 3 [.k tI (1 : Int), .k tI (1 : Int), .k tI (1 : Int)])<|
 o 20 (.bslice false 3 tI 3 [.k tI (2 : Int), .k tI (2 : Int), .k tI (2 : Int)])<|
 o 21 (.bslice false 22 lI 3 [.tm 18, .tm 19, .tm 20])<|
 o 22 (.bslice false 4 tB 3 [.k tB false, .k tB false, .k tB true])<|
 o 23 (.build [.nil tI, .nil lI, .nil tB, .d tI (0 : Int)] [(0, 1, .tm 17), (1, 1, .tm 21), (2, 1, .tm 22)])<|
 o 3 (.alloc 26 [.nil tI, .nil lI, .nil tB, .d tI (0 : Int)])<|
.op none (.store pD (t 3) (t 23))<|
.nil)) (.seq (.region (
 o 25 (.build [.d tI (0 : Int), .d tI (0 : Int), .d tI (0 : Int), .nil .rx] [(0, 1, .k tI (2 : Int))])<|
 o 26 (.call false N_dfa_Build [(.d .rx, .tm 25)] q_dfa_Build)<|
 o 24 (m 26)<|
 o 27 (.ext (t 24) 0)<|
 o 28 (.ext (t 24) 1)<|
 o 4 (.alloc 26 [.nil tI, .nil lI, .nil tB, .d tI (0 : Int)])<|
.op none (.store pD (t 4) (t 27))<|
 o 5 (m 28)<|
.nil)) (.seq (.region (
 o 30 (.call false N_law16_first [] q_law16_first)<|
 o 31 (.fld 3 (.list .rx) (t 30))<|
 o 32 (.idxA .rx (t 31) (i 0))<|
 o 33 (.load .rx (t 32))<|
 o 34 (.call false N_dfa_Build [(.d .rx, .tm 33)] q_dfa_Build)<|
 o 29 (m 34)<|
 o 35 (.ext (t 29) 0)<|
 o 36 (.ext (t 29) 1)<|
 o 6 (.alloc 26 [.nil tI, .nil lI, .nil tB, .d tI (0 : Int)])<|
.op none (.store pD (t 6) (t 35))<|
 o 7 (m 36)<|
.nil)) (.seq (.region (
 o 38 (.load pD (t 4))<|
 o 39 (.load pD (t 6))<|
 o 40 (.call false N_dfa_Witness [(.d pD, .tm 38), (.d pD, .tm 39)] q_dfa_Witness)<|
 o 37 (m 40)<|
 o 41 (.ext (t 37) 0)<|
 o 42 (.ext (t 37) 1)<|
 o 8 (m 41)<|
 o 9 (m 42)<|
.nil)) (.seq (.draw2 1 [
 mkPO 0 true [] (some 44) (.load pD (t 4)),
 mkPO 1 true [0] (some 45) (.load pD (t 4)),
 mkPO 2 true [0] (some 46) (.call false N_dfa_Not [(.d pD, .tm 45)] q_dfa_Not),
 mkPO 3 true [] (some 47) (.call false N_dfa_Both [(.d pD, .tm 44), (.d pD, .tm 46)] q_dfa_Both),
 mkPO 4 true [] (some 43) (m 47),
 mkPO 5 true [] (some 48) (.ext (t 43) 0),
 mkPO 6 true [5] (some 49) (.ext (t 43) 1),
 mkPO 7 true [0, 1, 2, 3, 4, 5, 6] (some 10) (.atq 4 (.alloc 26 [.nil tI, .nil lI, .nil tB, .d tI (0 : Int)])),
 mkPO 8 false [6] none (.store pD (t 10) (t 48))] (
 o 11 (m 49)<|
.nil) [[], [], [1], [0, 2, 2], [3], [4], [4], [], [7, 5, 3, 0, 1, 2, 3, 4, 5, 7], [6, 8, 0, 1, 2, 3, 4, 5, 6, 7, 8]]) (.seq (.seq (.region (
 o 50 (m 2)<|
 o 51 (.bin .neq (t 50) (i 0))<|
 o 52 (m 51)<|
.gb 52 false (
 o 53 (m 5)<|
 o 54 (.bin .neq (t 53) (i 0))<|
.nil) tB (t 54) yT 55 <|
 o 56 (m 55)<|
.gb 56 false (
 o 57 (m 7)<|
 o 58 (.bin .neq (t 57) (i 0))<|
.nil) tB (t 58) yT 59 <|
 o 60 (m 59)<|
.gb 60 false (
 o 61 (m 11)<|
 o 62 (.bin .neq (t 61) (i 0))<|
.nil) tB (t 62) yT 63 <|
 o 64 (m 63)<|
.gb 64 false (
 o 65 (.load pD (t 1))<|
 o 66 (.load pD (t 3))<|
 o 67 (.call false N_ref16_Equal [(.d pD, .tm 65), (.d pD, .tm 66)] q_ref16_Equal)<|
 o 68 (.un .not (t 67))<|
.nil) tB (t 68) yT 69 <|
 o 70 (m 69)<|
.gb 70 false (
 o 71 (.load pD (t 1))<|
 o 72 (.load pD (t 3))<|
 o 73 (.call false N_dfa_Equal [(.d pD, .tm 71), (.d pD, .tm 72)] q_dfa_Equal)<|
 o 74 (.un .not (t 73))<|
.nil) tB (t 74) yT 75 <|
 o 76 (m 75)<|
.gb 76 false (
 o 77 (m 9)<|
 o 78 (.un .not (t 77))<|
.nil) tB (t 78) yT 79 <|
 o 80 (m 79)<|
.gb 80 false (
 o 81 (m 8)<|
 o 82 (.len false (t 81))<|
 o 83 (.bin .neq (t 82) (i 1))<|
.nil) tB (t 83) yT 84 <|
 o 85 (m 84)<|
.gb 85 false (
 o 86 (m 8)<|
 o 87 (.idxA tI (t 86) (i 0))<|
 o 88 (.load tI (t 87))<|
 o 89 (.bin .neq (t 88) (i 0))<|
.nil) tB (t 89) yT 90 <|
 o 91 (m 90)<|
.gb 91 false (
 q 92 1 lL 10<|
 o 94 (.len false (t 93))<|
 o 95 (.bin .neq (t 94) (i 1))<|
.nil) tB (t 95) yT 96 <|
.nil)) (.cond (t 96) (.seq (.region (
 o 0 (.mv yF)<|
.nil)) .ret) .skip)) (.seq (.region (
 o 97 (.load pD (t 1))<|
 o 98 (.call false N_dfa_Check [(.d pD, .tm 97)] q_dfa_Check)<|
 o 99 (.bin .eql (t 98) (i 0))<|
 o 100 (m 99)<|
.gb 100 true (
 o 101 (.build [.nil tI, .nil lI, .nil tB, .d tI (0 : Int)] [])<|
 o 102 (.call false N_dfa_Check [(.d pD, .tm 101)] q_dfa_Check)<|
 o 103 (.bin .eql (t 102) (i 16))<|
.nil) tB (t 103) yF 104 <|
 o 105 (m 104)<|
.gb 105 true (
 o 106 (.load pD (t 1))<|
 o 107 (.bslice false 3 tI 2 [.k tI (65001 : Int), .k tI (7 : Int)])<|
 o 108 (.call false N_dfa_Match [(.d pD, .tm 106), (.d lI, .tm 107)] q_dfa_Match)<|
.nil) tB (t 108) yF 109 <|
 o 110 (m 109)<|
.gb 110 true (
 o 111 (.load pD (t 1))<|
 o 112 (.call false N_dfa_Match [(.d pD, .tm 111), (.d lI, .nil tI)] q_dfa_Match)<|
 o 113 (.un .not (t 112))<|
.nil) tB (t 113) yF 114 <|
 o 115 (m 114)<|
.gb 115 true (
 o 116 (.load pD (t 1))<|
 o 117 (.call false N_dfa_Not [(.d pD, .tm 116)] q_dfa_Not)<|
 o 118 (.call false N_dfa_Match [(.d pD, .tm 117), (.d lI, .nil tI)] q_dfa_Match)<|
.nil) tB (t 118) yF 119 <|
 o 120 (m 119)<|
.gb 120 true (
 o 121 (.load pD (t 1))<|
 o 122 (.load pD (t 3))<|
 o 123 (.call false N_dfa_Same [(.d pD, .tm 121), (.d pD, .tm 122)] q_dfa_Same)<|
.nil) tB (t 123) yF 124 <|
 o 125 (m 124)<|
.gb 125 true (
 o 126 (.load pD (t 4))<|
 o 127 (.load pD (t 6))<|
 o 128 (.call false N_dfa_Same [(.d pD, .tm 126), (.d pD, .tm 127)] q_dfa_Same)<|
 o 129 (.un .not (t 128))<|
.nil) tB (t 129) yF 130 <|
 o 0 (m 130)<|
.nil)) .ret))))))))), [.tm 0], 131, q_law16_awake, 0⟩
def q_ref16_alike : Sh := ⟨[], ⟨[], []⟩, [.tm 0 tB]⟩
def f_ref16_alike : TF := ⟨(.seq (.region (
 o 4 (.boxD 26 pD (t 0))<|
 o 8 (.mv yF)<|
.nil)) (.seq (.seq (.draw 9 (
 o 11 (m 1)<|
 o 12 (m 2)<|
 o 13 (.idxA tI (t 11) (t 12))<|
 o 14 (.load tI (t 13))<|
 o 15 (m 1)<|
 o 16 (m 3)<|
 o 17 (.idxA tI (t 15) (t 16))<|
 o 18 (.load tI (t 17))<|
 o 19 (.bin .neq (t 14) (t 18))<|
.nil) [[], [], [0, 1], [2], [], [], [4, 5], [6], [3, 7]]) (.cond (t 19) (.seq (.region (
 o 8 (.mv yF)<|
.nil)) .ret) .skip)) (.seq (.seq (.region (
 q 20 1 lL 4<|
 o 22 (m 2)<|
 o 23 (.idxA lI (t 21) (t 22))<|
 o 24 (.load lI (t 23))<|
 o 25 (.len false (t 24))<|
 o 26 (.mv (i 0))<|
.nil)) (.block 0 (.loop ⟨[1, 3, 4, 24, 25], ⟨[], []⟩, [.tm 26 tI]⟩ [(1, ⟨[], ⟨[], []⟩, [.tm 8 tB]⟩), (3, ⟨[], ⟨[], []⟩, []⟩)] (.seq (.region (
 o 27 (.bin .lss (t 26) (t 25))<|
.nil)) (.seq (.cond (t 27) .skip (.exit 0)) (.seq (.block 1 (.seq (.region (
 o 28 (m 26)<|
 o 29 (.idxA tI (t 24) (t 26))<|
 o 30 (.load tI (t 29))<|
 o 9 (m 28)<|
 o 10 (m 30)<|
.nil)) (.seq (.draw 16 (
 o 31 (m 1)<|
 o 32 (m 10)<|
 o 33 (.idxA tI (t 31) (t 32))<|
 o 34 (.load tI (t 33))<|
 o 35 (m 1)<|
 q 36 1 lL 4<|
 o 38 (m 3)<|
 o 39 (.idxA lI (t 37) (t 38))<|
 o 40 (.load lI (t 39))<|
 o 41 (m 9)<|
 o 42 (.idxA tI (t 40) (t 41))<|
 o 43 (.load tI (t 42))<|
 o 44 (.idxA tI (t 35) (t 43))<|
 o 45 (.load tI (t 44))<|
 o 46 (.bin .neq (t 34) (t 45))<|
.nil) [[], [], [0, 1], [2], [], [], [5], [], [6, 7], [8], [], [9, 10], [11], [4, 12], [13], [3, 14]]) (.cond (t 46) (.seq (.region (
 o 8 (.mv yF)<|
.nil)) .ret) .skip)))) (.region (
 o 47 (.bin .add (t 26) (i 1))<|
 o 26 (m 47)<|
.nil)))))))) (.seq (.region (
 o 8 (.mv yT)<|
.nil)) .ret)))), [.tm 8], 48, q_ref16_alike, 0⟩
def L_ref16_alike_0 (O : Oracle) (n : Nat) (d : TD) (part : (List Int)) (t : Int) (v2 : (List Int)) (s : (Int × Unit)) : Option ((Int × Unit) ⊕ (Bool × Unit) ⊕ Unit) :=
 bif decide (s.1 < (v2.length : Int)) then
 Option.bind (getI v2 s.1) fun v4 =>
 Option.bind (getI part v4) fun v5 =>
 Option.bind (getI d.2.1 t) fun v6 =>
 Option.bind (getI v6 s.1) fun v7 =>
 Option.bind (getI part v7) fun v8 =>
 bif (v5 != v8) then
 some (.inr (.inl ((false, ()))))
else
 some (.inl (IntKind.wrap .i64 (s.1 + (1 : Int)), ()))
else
 some (.inr (.inr (())))
def G_ref16_alike (O : Oracle) (n : Nat) (d : TD) (part : (List Int)) (s_ : Int) (t : Int) : Option (Option S) :=
 Option.bind (getI part s_) fun v =>
 Option.bind (getI part t) fun v1 =>
 bif (v != v1) then
 retQ q_ref16_alike (false, ())
else
 Option.bind (getI d.2.1 s_) fun v2 =>
 Option.bind (loopN n (L_ref16_alike_0 O n d part t v2) ((0 : Int), ())) fun (v9 : (Bool × Unit) ⊕ Unit) =>
 Sum.elim (fun v10 =>
 retQ q_ref16_alike (v10.1, ())) (fun v11 =>
 retQ q_ref16_alike (true, ())) v9
theorem x_ref16_alike (O : Oracle) (n : Nat) (d : ((List Int) × ((List (List Int)) × ((List Bool) × (Int × Unit))))) (part : (List Int)) (s_ : Int) (t : Int) : evF1 O n f_ref16_alike [.d (pr [(.list tI), (.list (.list tI)), (.list tB), tI]) d, .d (.list tI) part, .d tI s_, .d tI t] [] = G_ref16_alike O n d part s_ t := by kernel_rfl
def q_ref16_blocks : Sh := ⟨[], ⟨[], []⟩, [.tm 0 (.list tI)]⟩
def f_ref16_blocks : TF := ⟨(.seq (.region (
 o 1 (.boxD 26 pD (t 0))<|
 o 2 (.mv (.nil tI))<|
.nil)) (.seq (.region (
 q 11 1 lL 1<|
 o 13 (.len false (t 12))<|
 o 14 (.mslice 3 tI 8 (t 13) (t 13))<|
 o 3 (m 14)<|
.nil)) (.seq (.seq (.region (
 q 15 2 lB 1<|
 o 17 (.len false (t 16))<|
 o 18 (.mv (i 0))<|
.nil)) (.block 0 (.loop ⟨[1, 16, 17], ⟨[(3, .sl 0)], [.vec T_i64 tI []]⟩, [.tm 18 tI, .vec 0 3 tI]⟩ [(3, ⟨[1], ⟨[(3, .sl 0)], [.vec T_i64 tI []]⟩, [.vec 0 3 tI]⟩)] (.seq (.region (
 o 19 (.bin .lss (t 18) (t 17))<|
.nil)) (.seq (.cond (t 19) .skip (.exit 0)) (.seq (.cut [(0, ⟨[1, 16, 17, 18], ⟨[(3, .sl 0)], [.vec T_i64 tI []]⟩, [.vec 0 3 tI]⟩)] (.block 1 (.seq (.region (
 o 20 (m 18)<|
 o 21 (.idxA tB (t 16) (t 18))<|
 o 22 (.load tB (t 21))<|
 o 4 (m 20)<|
 o 5 (m 22)<|
.nil)) (.seq (.region (
 o 23 (m 5)<|
.nil)) (.cond (t 23) (.region (
 o 24 (m 3)<|
 o 25 (m 4)<|
 o 26 (.idxA tI (t 24) (t 25))<|
.op none (.store tI (t 26) (i 1))<|
.nil)) .skip))))) (.region (
 o 27 (.bin .add (t 18) (i 1))<|
 o 18 (m 27)<|
.nil)))))))) (.seq (.region (
 o 6 (.mv (i 0))<|
.nil)) (.block 2 (.loop ⟨[1], ⟨[(3, .sl 0)], [.vec T_i64 tI []]⟩, [.tm 6 tI, .vec 0 3 tI]⟩ [(1, ⟨[], ⟨[], []⟩, [.tm 2 lI]⟩)] (.after (.block 3 (.seq (.region (
 o 7 (.mv (.nil tI))<|
.nil)) (.seq (.region (
 o 28 (m 3)<|
 o 29 (.len false (t 28))<|
 o 30 (.mslice 3 tI 8 (t 29) (t 29))<|
 o 8 (m 30)<|
.nil)) (.seq (.seq (.region (
 q 31 1 lL 1<|
 o 33 (.len false (t 32))<|
 o 34 (.mv (i 0))<|
.nil)) (.block 4 (.adj [.adopt 7 3 tI, .sel [0, 2, 1] [1, 3, 6, 7, 8, 33, 34]] (.loop ⟨[1, 6, 33], ⟨[(3, .sl 0), (7, .sl 1), (8, .sl 2)], [.vec T_i64 tI [], .vec T_i64 tI [], .vec T_i64 tI []]⟩, [.tm 34 tI, .vec 0 3 tI, .vec 1 3 tI, .vec 2 3 tI]⟩ [(7, ⟨[1, 6], ⟨[(7, .sl 0), (8, .sl 1)], [.vec T_i64 tI [], .vec T_i64 tI []]⟩, [.vec 0 3 tI, .vec 1 3 tI]⟩)] (.seq (.region (
 o 35 (.bin .lss (t 34) (t 33))<|
.nil)) (.seq (.cond (t 35) .skip (.adj [.sel [1, 2] [1, 6, 7, 8]] (.exit 4))) (.seq (.block 5 (.seq (.region (
 o 36 (m 34)<|
 o 9 (m 36)<|
.nil)) (.seq (.region (
 o 10 (.mv (i 0))<|
.nil)) (.seq (.block 6 (.loop ⟨[1, 6, 9, 33, 34], ⟨[(3, .sl 0), (7, .sl 1), (8, .sl 2)], [.vec T_i64 tI [], .vec T_i64 tI [], .vec T_i64 tI []]⟩, [.tm 10 tI, .vec 0 3 tI, .vec 1 3 tI, .vec 2 3 tI]⟩ [(9, ⟨[1, 6, 9, 33, 34], ⟨[(3, .sl 0), (7, .sl 1), (8, .sl 2)], [.vec T_i64 tI [], .vec T_i64 tI [], .vec T_i64 tI []]⟩, [.tm 10 tI, .vec 0 3 tI, .vec 1 3 tI, .vec 2 3 tI]⟩)] (.seq (.seq (.draw 15 (
 o 37 (m 10)<|
 o 38 (m 7)<|
 o 39 (.len false (t 38))<|
 o 40 (.bin .lss (t 37) (t 39))<|
 o 41 (m 40)<|
.gb 41 true (
 o 42 (.load pD (t 1))<|
 o 43 (m 3)<|
 o 44 (m 9)<|
 o 45 (m 7)<|
 o 46 (m 10)<|
 o 47 (.idxA tI (t 45) (t 46))<|
 o 48 (.load tI (t 47))<|
 o 49 (.call true N_ref16_alike [(.d pD, .tm 42), (.d lI, .tm 43), (.d tI, .tm 44), (.d tI, .tm 48)] q_ref16_alike)<|
 o 50 (.un .not (t 49))<|
.nil) tB (t 50) yF 51 <|
.nil) [[], [], [1], [0, 2], [3], [4], [4], [4], [4], [4], [8, 9, 4], [10, 4], [5, 6, 7, 11, 4, 4], [12, 4], [4, 13]]) (.cond (t 51) .skip (.exit 6))) (.block 7 (.region (
 o 52 (m 10)<|
 o 53 (.bin .add (t 52) (i 1))<|
 o 10 (m 53)<|
.nil)))))) (.seq (.cut [(0, ⟨[1, 6, 9, 10, 33, 34], ⟨[(3, .sl 0), (7, .sl 1), (8, .sl 2)], [.vec T_i64 tI [], .vec T_i64 tI [], .vec T_i64 tI []]⟩, [.vec 0 3 tI, .vec 1 3 tI, .vec 2 3 tI]⟩)] (.seq (.region (
 o 54 (m 10)<|
 o 55 (m 7)<|
 o 56 (.len false (t 55))<|
 o 57 (.bin .eql (t 54) (t 56))<|
.nil)) (.cond (t 57) (.region (
 o 58 (m 7)<|
 o 59 (m 9)<|
 o 60 (.bslice false 3 tI 1 [.tm 59])<|
 o 61 (.append 3 tI 8 (t 58) (t 60))<|
 o 7 (m 61)<|
.nil)) .skip))) (.region (
 o 62 (m 8)<|
 o 63 (m 9)<|
 o 64 (m 10)<|
 o 65 (.idxA tI (t 62) (t 63))<|
.op none (.store tI (t 65) (t 64))<|
.nil))))))) (.region (
 o 66 (.bin .add (t 34) (i 1))<|
 o 34 (m 66)<|
.nil))))))))) (.seq (.region (
 o 67 (m 8)<|
 o 3 (m 67)<|
.nil)) (.seq (.seq (.region (
 o 68 (m 7)<|
 o 69 (.len false (t 68))<|
 o 70 (m 6)<|
 o 71 (.bin .eql (t 69) (t 70))<|
.nil)) (.cond (t 71) (.seq (.region (
 o 72 (m 3)<|
 o 2 (m 72)<|
.nil)) (.adj [.freeze 1, .sel [] [2]] .ret)) .skip)) (.region (
 o 73 (m 7)<|
 o 74 (.len false (t 73))<|
 o 6 (m 74)<|
.nil)))))))) [.sel [1] [1, 3, 6]]))))))), [.tm 2], 75, q_ref16_blocks, 0⟩
def L_ref16_blocks_0 (O : Oracle) (n : Nat) (d : TD) (s : (Int × (List Int) × Unit)) : Option ((Int × (List Int) × Unit) ⊕ ((List Int) × Unit)) :=
 bif decide (s.1 < (d.2.2.1.length : Int)) then
 Option.bind (
 Option.bind (getI d.2.2.1 s.1) fun v1 =>
 bif v1 then
 Option.bind (getI s.2.1 s.1) fun _ =>
 Option.bind s.2.1[Int.toNat s.1]? fun v2 =>
 some ((s.2.1.set (Int.toNat s.1) (1 : Int), ()))
else
 some ((s.2.1, ()))) fun (v3 : ((List Int) × Unit)) =>
 some (.inl (IntKind.wrap .i64 (s.1 + (1 : Int)), v3.1, ()))
else
 some (.inr ((s.2.1, ())))
def L_ref16_blocks_1 (O : Oracle) (n : Nat) (d : TD) (v6 : (Int × (List Int) × (List Int) × (List Int) × Unit)) (v7 : (Int × (List Int) × (List Int) × (List Int) × Unit)) : Option ((Int × (List Int) × (List Int) × (List Int) × Unit) ⊕ (Int × (List Int) × (List Int) × (List Int) × Unit)) :=
 Option.bind (bif decide (v7.1 < (v7.2.2.1.length : Int)) then
 Option.bind (getI v7.2.2.1 v7.1) fun _ =>
 Option.bind v7.2.2.1[Int.toNat v7.1]? fun v8 =>
 Option.bind (callR O N_ref16_alike [.d (pr [(.list tI), (.list (.list tI)), (.list tB), tI]) d, .d (.list tI) v7.2.1, .d tI v6.1, .d tI v8] [] q_ref16_alike) fun v9 =>
 some ((!v9.1))
else some (false)) fun v10 =>
 bif v10 then
 some (.inl (IntKind.wrap .i64 (v7.1 + (1 : Int)), v7.2.1, v7.2.2.1, v7.2.2.2.1, ()))
else
 some (.inr ((v7.1, v7.2.1, v7.2.2.1, v7.2.2.2.1, ())))
def L_ref16_blocks_2 (O : Oracle) (n : Nat) (d : TD) (v6 : (Int × (List Int) × (List Int) × (List Int) × Unit)) : Option ((Int × (List Int) × (List Int) × (List Int) × Unit) ⊕ ((List Int) × (List Int) × Unit)) :=
 bif decide (v6.1 < (d.2.1.length : Int)) then
 Option.bind (loopN n (L_ref16_blocks_1 O n d v6) ((0 : Int), v6.2.1, v6.2.2.1, v6.2.2.2.1, ())) fun (v11 : (Int × (List Int) × (List Int) × (List Int) × Unit)) =>
 Option.bind (
 bif (v11.1 == (v11.2.2.1.length : Int)) then
 guardB (decide ((v11.2.2.1.length + ([v6.1] : List Int).length) * 8 ≤ 140737488355328)) (
 some ((v11.2.1, v11.2.2.1 ++ ([v6.1] : List Int), v11.2.2.2.1, ())))
else
 some ((v11.2.1, v11.2.2.1, v11.2.2.2.1, ()))) fun (v12 : ((List Int) × (List Int) × (List Int) × Unit)) =>
 Option.bind (getI v12.2.2.1 v6.1) fun _ =>
 Option.bind v12.2.2.1[Int.toNat v6.1]? fun v13 =>
 some (.inl (IntKind.wrap .i64 (v6.1 + (1 : Int)), v12.1, v12.2.1, v12.2.2.1.set (Int.toNat v6.1) v11.1, ()))
else
 some (.inr ((v6.2.2.1, v6.2.2.2.1, ())))
def L_ref16_blocks_3 (O : Oracle) (n : Nat) (d : TD) (v5 : (Int × (List Int) × Unit)) : Option ((Int × (List Int) × Unit) ⊕ ((List Int) × Unit)) :=
 guardB (decide (0 ≤ (v5.2.1.length : Int)) && decide ((v5.2.1.length : Int) ≤ (v5.2.1.length : Int)) && decide ((v5.2.1.length : Int) ≤ 9223372036854775807) && decide (8 * (v5.2.1.length : Int) ≤ 281474976710656)) (
 Option.bind (loopN n (L_ref16_blocks_2 O n d) ((0 : Int), v5.2.1, ([] : List Int), List.replicate (Int.toNat (v5.2.1.length : Int)) (Ty.zero tI), ())) fun (v14 : ((List Int) × (List Int) × Unit)) =>
 bif ((v14.1.length : Int) == v5.1) then
 some (.inr ((v14.2.1, ())))
else
 some (.inl ((v14.1.length : Int), v14.2.1, ())))
def G_ref16_blocks (O : Oracle) (n : Nat) (d : TD) : Option (Option S) :=
 guardB (decide (0 ≤ (d.2.1.length : Int)) && decide ((d.2.1.length : Int) ≤ (d.2.1.length : Int)) && decide ((d.2.1.length : Int) ≤ 9223372036854775807) && decide (8 * (d.2.1.length : Int) ≤ 281474976710656)) (
 Option.bind (loopN n (L_ref16_blocks_0 O n d) ((0 : Int), List.replicate (Int.toNat (d.2.1.length : Int)) (Ty.zero tI), ())) fun (v4 : ((List Int) × Unit)) =>
 Option.bind (loopN n (L_ref16_blocks_3 O n d) ((0 : Int), v4.1, ())) fun (v15 : ((List Int) × Unit)) =>
 retQ q_ref16_blocks (v15.1, ()))
theorem x_ref16_blocks (O : Oracle) (n : Nat) (d : ((List Int) × ((List (List Int)) × ((List Bool) × (Int × Unit))))) : evF1 O n f_ref16_blocks [.d (pr [(.list tI), (.list (.list tI)), (.list tB), tI]) d] [] = G_ref16_blocks O n d := by kernel_rfl
def q_ref16_reachable : Sh := ⟨[], ⟨[], []⟩, [.tm 0 (.list tI)]⟩
def f_ref16_reachable : TF := ⟨(.seq (.region (
 o 1 (.boxD 26 pD (t 0))<|
 o 2 (.mv (.nil tI))<|
.nil)) (.seq (.region (
 q 8 1 lL 1<|
 o 10 (.len false (t 9))<|
 o 11 (.mslice 4 tB 1 (t 10) (t 10))<|
 o 3 (m 11)<|
.nil)) (.seq (.region (
 o 12 (m 3)<|
 q 13 3 tI 1<|
 o 15 (.idxA tB (t 12) (t 14))<|
.op none (.store tB (t 15) yT)<|
.nil)) (.seq (.region (
 q 16 3 tI 1<|
 o 18 (.bslice true 3 tI 1 [.tm 17])<|
 o 4 (m 18)<|
.nil)) (.seq (.seq (.region (
 o 5 (.mv (i 0))<|
.nil)) (.block 0 (.loop ⟨[1], ⟨[(3, .sl 0), (4, .sl 1)], [.vec T_bool tB [], .vec T_i64 tI []]⟩, [.tm 5 tI, .vec 0 4 tB, .vec 1 3 tI]⟩ [(3, ⟨[], ⟨[(4, .sl 0)], [.vec T_i64 tI []]⟩, [.vec 0 3 tI]⟩)] (.seq (.seq (.region (
 o 19 (m 5)<|
 o 20 (m 4)<|
 o 21 (.len false (t 20))<|
 o 22 (.bin .lss (t 19) (t 21))<|
.nil)) (.cond (t 22) .skip (.adj [.sel [1] [4]] (.exit 0)))) (.seq (.block 1 (.seq (.draw 10 (
 q 25 1 lL 1<|
 o 27 (m 4)<|
 o 28 (m 5)<|
 o 29 (.idxA tI (t 27) (t 28))<|
 o 30 (.load tI (t 29))<|
 o 31 (.idxA lI (t 26) (t 30))<|
 o 32 (.load lI (t 31))<|
 o 33 (.len false (t 32))<|
 o 34 (.mv (i 0))<|
.nil) [[], [0], [], [], [2, 3], [4], [1, 5], [6], [7], []]) (.block 2 (.loop ⟨[1, 5, 32, 33], ⟨[(3, .sl 0), (4, .sl 1)], [.vec T_bool tB [], .vec T_i64 tI []]⟩, [.tm 34 tI, .vec 0 4 tB, .vec 1 3 tI]⟩ [(5, ⟨[1, 5], ⟨[(3, .sl 0), (4, .sl 1)], [.vec T_bool tB [], .vec T_i64 tI []]⟩, [.vec 0 4 tB, .vec 1 3 tI]⟩)] (.seq (.region (
 o 35 (.bin .lss (t 34) (t 33))<|
.nil)) (.seq (.cond (t 35) .skip (.exit 2)) (.seq (.cut [(0, ⟨[1, 5, 32, 33, 34], ⟨[(3, .sl 0), (4, .sl 1)], [.vec T_bool tB [], .vec T_i64 tI []]⟩, [.vec 0 4 tB, .vec 1 3 tI]⟩)] (.block 3 (.seq (.region (
 o 36 (.idxA tI (t 32) (t 34))<|
 o 37 (.load tI (t 36))<|
 o 7 (m 37)<|
.nil)) (.seq (.region (
 o 38 (m 3)<|
 o 39 (m 7)<|
 o 40 (.idxA tB (t 38) (t 39))<|
 o 41 (.load tB (t 40))<|
 o 42 (.un .not (t 41))<|
.nil)) (.cond (t 42) (.seq (.region (
 o 43 (m 3)<|
 o 44 (m 7)<|
 o 45 (.idxA tB (t 43) (t 44))<|
.op none (.store tB (t 45) yT)<|
.nil)) (.region (
 o 46 (m 4)<|
 o 47 (m 7)<|
 o 48 (.bslice false 3 tI 1 [.tm 47])<|
 o 49 (.append 3 tI 8 (t 46) (t 48))<|
 o 4 (m 49)<|
.nil))) .skip))))) (.region (
 o 50 (.bin .add (t 34) (i 1))<|
 o 34 (m 50)<|
.nil))))))))) (.region (
 o 23 (m 5)<|
 o 24 (.bin .add (t 23) (i 1))<|
 o 5 (m 24)<|
.nil))))))) (.seq (.region (
 o 51 (m 4)<|
 o 2 (m 51)<|
.nil)) (.adj [.freeze 0] .ret))))))), [.tm 2], 52, q_ref16_reachable, 0⟩
def L_ref16_reachable_0 (O : Oracle) (n : Nat) (v4 : (List Int)) (v5 : (Int × (List Bool) × (List Int) × Unit)) : Option ((Int × (List Bool) × (List Int) × Unit) ⊕ ((List Bool) × (List Int) × Unit)) :=
 bif decide (v5.1 < (v4.length : Int)) then
 Option.bind (
 Option.bind (getI v4 v5.1) fun v6 =>
 Option.bind (getI v5.2.1 v6) fun _ =>
 Option.bind v5.2.1[Int.toNat v6]? fun v7 =>
 bif (!v7) then
 Option.bind (getI v5.2.1 v6) fun _ =>
 Option.bind v5.2.1[Int.toNat v6]? fun v8 =>
 guardB (decide ((v5.2.2.1.length + ([v6] : List Int).length) * 8 ≤ 140737488355328)) (
 some ((v5.2.1.set (Int.toNat v6) true, v5.2.2.1 ++ ([v6] : List Int), ())))
else
 some ((v5.2.1, v5.2.2.1, ()))) fun (v9 : ((List Bool) × (List Int) × Unit)) =>
 some (.inl (IntKind.wrap .i64 (v5.1 + (1 : Int)), v9.1, v9.2.1, ()))
else
 some (.inr ((v5.2.1, v5.2.2.1, ())))
def L_ref16_reachable_1 (O : Oracle) (n : Nat) (d : TD) (s : (Int × (List Bool) × (List Int) × Unit)) : Option ((Int × (List Bool) × (List Int) × Unit) ⊕ ((List Int) × Unit)) :=
 bif decide (s.1 < (s.2.2.1.length : Int)) then
 Option.bind (getI s.2.2.1 s.1) fun _ =>
 Option.bind s.2.2.1[Int.toNat s.1]? fun v3 =>
 Option.bind (getI d.2.1 v3) fun v4 =>
 Option.bind (loopN n (L_ref16_reachable_0 O n v4) ((0 : Int), s.2.1, s.2.2.1, ())) fun (v10 : ((List Bool) × (List Int) × Unit)) =>
 some (.inl (IntKind.wrap .i64 (s.1 + (1 : Int)), v10.1, v10.2.1, ()))
else
 some (.inr ((s.2.2.1, ())))
def G_ref16_reachable (O : Oracle) (n : Nat) (d : TD) : Option (Option S) :=
 guardB (decide (0 ≤ (d.2.1.length : Int)) && decide ((d.2.1.length : Int) ≤ (d.2.1.length : Int)) && decide ((d.2.1.length : Int) ≤ 9223372036854775807) && decide (1 * (d.2.1.length : Int) ≤ 281474976710656)) (
 Option.bind (getI (List.replicate (Int.toNat (d.2.1.length : Int)) (Ty.zero tB)) d.2.2.2.1) fun _ =>
 Option.bind (List.replicate (Int.toNat (d.2.1.length : Int)) (Ty.zero tB))[Int.toNat d.2.2.2.1]? fun v =>
 let v1 := (List.replicate (Int.toNat (d.2.1.length : Int)) (Ty.zero tB)).set (Int.toNat d.2.2.2.1) true
 Option.bind (loopN n (L_ref16_reachable_1 O n d) ((0 : Int), v1, ([d.2.2.2.1] : List Int), ())) fun (v11 : ((List Int) × Unit)) =>
 retQ q_ref16_reachable (v11.1, ()))
theorem x_ref16_reachable (O : Oracle) (n : Nat) (d : ((List Int) × ((List (List Int)) × ((List Bool) × (Int × Unit))))) : evF1 O n f_ref16_reachable [.d (pr [(.list tI), (.list (.list tI)), (.list tB), tI]) d] [] = G_ref16_reachable O n d := by kernel_rfl
def q_ref16_Normal : Sh := ⟨[], ⟨[], []⟩, [.tm 0 (pr [(.list tI), (.list (.list tI)), (.list tB), tI])]⟩
def f_ref16_Normal : TF := ⟨(.seq (.region (
 o 1 (.boxD 26 pD (t 0))<|
 o 2 (.alloc 26 [.nil tI, .nil lI, .nil tB, .d tI (0 : Int)])<|
.nil)) (.seq (.region (
 o 27 (.load pD (t 1))<|
 o 28 (.call false N_ref16_blocks [(.d pD, .tm 27)] q_ref16_blocks)<|
 o 3 (m 28)<|
.nil)) (.seq (.draw2 1 [
 mkPO 0 true [] (some 29) (.fldA 0 lI (t 1)),
 mkPO 1 true [] (some 30) (.load lI (t 29)),
 mkPO 2 true [0, 1] (some 31) (m 3),
 mkPO 3 true [0, 1, 2] (some 32) (.fldA 3 tI (t 1)),
 mkPO 4 true [0, 1, 2] (some 33) (.load tI (t 32)),
 mkPO 5 true [0, 1] (some 34) (.idxA tI (t 31) (t 33)),
 mkPO 6 true [0, 1] (some 35) (.load tI (t 34)),
 mkPO 7 true [] (some 36) (.build [.nil tI, .nil lI, .nil tB, .d tI (0 : Int)] [(0, 1, .tm 30), (3, 1, .tm 35)]),
 mkPO 8 true [0, 1, 2, 3, 4, 5, 6, 7] (some 4) (.atq 1 (.alloc 26 [.nil tI, .nil lI, .nil tB, .d tI (0 : Int)]))] (
.op none (.store pD (t 4) (t 36))<|
.nil) [[], [0], [], [], [3], [2, 4], [5], [1, 6], [], [8, 7, 0, 1, 2, 3, 4, 5, 6, 7, 8]]) (.seq (.seq (.region (
 o 5 (.mv (i 0))<|
.nil)) (.block 0 (.adj [.adoptC 1 1 22 lI, .adoptC 1 2 4 tB] (.loop ⟨[1, 3], ⟨[(2, .ptr 0 0), (4, .ptr 1 0)], [.box T_str_api_DFA [.nil tI, .nil lI, .nil tB, .any], .box T_str_api_DFA [.any, .sl 2, .sl 3, .any], .vec T_sl_i64 lI [], .vec T_bool tB []]⟩, [.tm 5 tI, .cell 0 3 tI, .cell 1 0 lI, .cell 1 3 tI, .vec 2 22 lI, .vec 3 4 tB]⟩ [(3, ⟨[], ⟨[(2, .ptr 0 0), (4, .ptr 1 0)], [.box T_str_api_DFA [.nil tI, .nil lI, .nil tB, .any], .box T_str_api_DFA [.any, .sl 2, .sl 3, .any], .vec T_sl_i64 lI [], .vec T_bool tB []]⟩, [.cell 0 3 tI, .cell 1 0 lI, .cell 1 3 tI, .vec 2 22 lI, .vec 3 4 tB]⟩)] (.seq (.block 1 (.seq (.region (
 o 6 (.mv (i 0))<|
.nil)) (.seq (.block 2 (.loop ⟨[1, 3, 5], ⟨[(2, .ptr 0 0), (4, .ptr 1 0)], [.box T_str_api_DFA [.nil tI, .nil lI, .nil tB, .any], .box T_str_api_DFA [.any, .sl 2, .sl 3, .any], .vec T_sl_i64 lI [], .vec T_bool tB []]⟩, [.tm 6 tI, .cell 0 3 tI, .cell 1 0 lI, .cell 1 3 tI, .vec 2 22 lI, .vec 3 4 tB]⟩ [(5, ⟨[1, 3, 5], ⟨[(2, .ptr 0 0), (4, .ptr 1 0)], [.box T_str_api_DFA [.nil tI, .nil lI, .nil tB, .any], .box T_str_api_DFA [.any, .sl 2, .sl 3, .any], .vec T_sl_i64 lI [], .vec T_bool tB []]⟩, [.tm 6 tI, .cell 0 3 tI, .cell 1 0 lI, .cell 1 3 tI, .vec 2 22 lI, .vec 3 4 tB]⟩)] (.seq (.seq (.region (
 o 39 (m 6)<|
 o 40 (m 3)<|
 o 41 (.len false (t 40))<|
 o 42 (.bin .lss (t 39) (t 41))<|
 o 43 (m 42)<|
.gb 43 true (
 o 44 (m 3)<|
 o 45 (m 6)<|
 o 46 (.idxA tI (t 44) (t 45))<|
 o 47 (.load tI (t 46))<|
 o 48 (m 5)<|
 o 49 (.bin .neq (t 47) (t 48))<|
.nil) tB (t 49) yF 50 <|
.nil)) (.cond (t 50) .skip (.exit 2))) (.block 3 (.region (
 o 51 (m 6)<|
 o 52 (.bin .add (t 51) (i 1))<|
 o 6 (m 52)<|
.nil)))))) (.seq (.seq (.region (
 o 53 (m 6)<|
 o 54 (m 3)<|
 o 55 (.len false (t 54))<|
 o 56 (.bin .eql (t 53) (t 55))<|
.nil)) (.cond (t 56) (.exit 0) .skip)) (.seq (.region (
 o 7 (.mv (.nil tI))<|
.nil)) (.seq (.seq (.region (
 q 57 1 lL 1<|
 o 59 (m 6)<|
 o 60 (.idxA lI (t 58) (t 59))<|
 o 61 (.load lI (t 60))<|
 o 62 (.len false (t 61))<|
 o 63 (.mv (i 0))<|
.nil)) (.block 4 (.adj [.adopt 7 3 tI] (.loop ⟨[1, 3, 5, 6, 61, 62], ⟨[(2, .ptr 0 0), (4, .ptr 1 0), (7, .sl 4)], [.box T_str_api_DFA [.nil tI, .nil lI, .nil tB, .any], .box T_str_api_DFA [.any, .sl 2, .sl 3, .any], .vec T_sl_i64 lI [], .vec T_bool tB [], .vec T_i64 tI []]⟩, [.tm 63 tI, .cell 0 3 tI, .cell 1 0 lI, .cell 1 3 tI, .vec 2 22 lI, .vec 3 4 tB, .vec 4 3 tI]⟩ [(7, ⟨[1, 3, 5, 6], ⟨[(2, .ptr 0 0), (4, .ptr 1 0), (7, .sl 4)], [.box T_str_api_DFA [.nil tI, .nil lI, .nil tB, .any], .box T_str_api_DFA [.any, .sl 2, .sl 3, .any], .vec T_sl_i64 lI [], .vec T_bool tB [], .vec T_i64 tI []]⟩, [.cell 0 3 tI, .cell 1 0 lI, .cell 1 3 tI, .vec 2 22 lI, .vec 3 4 tB, .vec 4 3 tI]⟩)] (.seq (.region (
 o 64 (.bin .lss (t 63) (t 62))<|
.nil)) (.seq (.cond (t 64) .skip (.exit 4)) (.seq (.block 5 (.seq (.region (
 o 65 (.idxA tI (t 61) (t 63))<|
 o 66 (.load tI (t 65))<|
 o 9 (m 66)<|
.nil)) (.region (
 o 67 (m 7)<|
 o 68 (m 3)<|
 o 69 (m 9)<|
 o 70 (.idxA tI (t 68) (t 69))<|
 o 71 (.load tI (t 70))<|
 o 72 (.bslice false 3 tI 1 [.tm 71])<|
 o 73 (.append 3 tI 8 (t 67) (t 72))<|
 o 7 (m 73)<|
.nil)))) (.region (
 o 74 (.bin .add (t 63) (i 1))<|
 o 63 (m 74)<|
.nil))))))))) (.seq (.region (
 q 75 1 lL 4<|
 o 77 (m 7)<|
.adj [.freeze 4] <|
 o 78 (.bslice false 22 lI 1 [.tm 77])<|
 o 79 (.append 22 lI 24 (t 76) (t 78))<|
 o 80 (.fldA 1 lL (t 4))<|
.op none (.store lL (t 80) (t 79))<|
.nil)) (.draw 8 (
 q 81 2 lB 4<|
 q 83 2 lB 1<|
 o 85 (m 6)<|
 o 86 (.idxA tB (t 84) (t 85))<|
 o 87 (.load tB (t 86))<|
 o 88 (.bslice false 4 tB 1 [.tm 87])<|
 o 89 (.append 4 tB 1 (t 82) (t 88))<|
 o 90 (.fldA 2 lB (t 4))<|
.op none (.store lB (t 90) (t 89))<|
.nil) [[], [0], [], [2], [], [3, 4], [5], [6], [1, 7], [0, 1, 2, 3, 4, 5, 6, 7, 8], [9, 8, 8, 0, 1, 2, 3, 4, 5, 6, 7, 8]])))))))) (.after (.region (
 o 37 (m 5)<|
 o 38 (.bin .add (t 37) (i 1))<|
 o 5 (m 38)<|
.nil)) [.sel [0, 1, 2, 3] [1, 2, 3, 4, 5]])))))) (.seq (.region (
 o 91 (.load pD (t 4))<|
.adj [.freeze 2, .freeze 3] <|
 o 92 (.call false N_ref16_reachable [(.d pD, .tm 91)] q_ref16_reachable)<|
 o 10 (m 92)<|
.nil)) (.seq (.region (
 o 11 (.mv (.nil tI))<|
.nil)) (.seq (.seq (.region (
 q 93 0 lI 4<|
 o 95 (.len false (t 94))<|
 o 96 (.mv (i 0))<|
.nil)) (.block 6 (.adj [.adopt 11 3 tI, .sel [0, 1, 4] [2, 4, 10, 11, 95, 96]] (.loop ⟨[10, 95], ⟨[(2, .ptr 0 0), (4, .ptr 1 0), (11, .sl 2)], [.box T_str_api_DFA [.nil tI, .nil lI, .nil tB, .any], .box T_str_api_DFA [.any, .any, .any, .any], .vec T_i64 tI []]⟩, [.tm 96 tI, .cell 0 3 tI, .cell 1 0 lI, .cell 1 1 lL, .cell 1 2 lB, .cell 1 3 tI, .vec 2 3 tI]⟩ [(9, ⟨[10], ⟨[(2, .ptr 0 0), (4, .ptr 1 0), (11, .sl 2)], [.box T_str_api_DFA [.nil tI, .nil lI, .nil tB, .any], .box T_str_api_DFA [.any, .any, .any, .any], .vec T_i64 tI []]⟩, [.cell 0 3 tI, .cell 1 0 lI, .cell 1 1 lL, .cell 1 2 lB, .cell 1 3 tI, .vec 2 3 tI]⟩)] (.seq (.region (
 o 97 (.bin .lss (t 96) (t 95))<|
.nil)) (.seq (.cond (t 97) .skip (.exit 6)) (.seq (.cut [(0, ⟨[10, 95, 96], ⟨[(2, .ptr 0 0), (4, .ptr 1 0), (11, .sl 2)], [.box T_str_api_DFA [.nil tI, .nil lI, .nil tB, .any], .box T_str_api_DFA [.any, .any, .any, .any], .vec T_i64 tI []]⟩, [.cell 0 3 tI, .cell 1 0 lI, .cell 1 1 lL, .cell 1 2 lB, .cell 1 3 tI, .vec 2 3 tI]⟩)] (.block 7 (.seq (.region (
 o 98 (m 96)<|
 o 12 (m 98)<|
.nil)) (.seq (.region (
 o 99 (m 12)<|
 o 100 (.bin .eql (t 99) (i 0))<|
 o 13 (m 100)<|
.nil)) (.seq (.seq (.region (
 o 101 (m 10)<|
 o 102 (.len false (t 101))<|
 o 103 (.mv (i 0))<|
.nil)) (.block 8 (.loop ⟨[10, 12, 95, 96, 101, 102], ⟨[(2, .ptr 0 0), (4, .ptr 1 0), (11, .sl 2)], [.box T_str_api_DFA [.nil tI, .nil lI, .nil tB, .any], .box T_str_api_DFA [.any, .any, .any, .any], .vec T_i64 tI []]⟩, [.tm 13 tB, .tm 103 tI, .cell 0 3 tI, .cell 1 0 lI, .cell 1 1 lL, .cell 1 2 lB, .cell 1 3 tI, .vec 2 3 tI]⟩ [(11, ⟨[10, 12, 95, 96], ⟨[(2, .ptr 0 0), (4, .ptr 1 0), (11, .sl 2)], [.box T_str_api_DFA [.nil tI, .nil lI, .nil tB, .any], .box T_str_api_DFA [.any, .any, .any, .any], .vec T_i64 tI []]⟩, [.tm 13 tB, .cell 0 3 tI, .cell 1 0 lI, .cell 1 1 lL, .cell 1 2 lB, .cell 1 3 tI, .vec 2 3 tI]⟩)] (.seq (.region (
 o 104 (.bin .lss (t 103) (t 102))<|
.nil)) (.seq (.cond (t 104) .skip (.exit 8)) (.seq (.block 9 (.seq (.region (
 o 105 (.idxA tI (t 101) (t 103))<|
 o 106 (.load tI (t 105))<|
 o 15 (m 106)<|
.nil)) (.draw 26 (
 o 107 (m 13)<|
 o 108 (m 107)<|
.gb 108 false (
 o 109 (m 12)<|
 o 110 (.bin .gtr (t 109) (i 0))<|
 o 111 (m 110)<|
.gb 111 true (
 q 112 1 lL 4<|
 o 114 (m 15)<|
 o 115 (.idxA lI (t 113) (t 114))<|
 o 116 (.load lI (t 115))<|
 o 117 (m 12)<|
 o 118 (.idxA tI (t 116) (t 117))<|
 o 119 (.load tI (t 118))<|
 q 120 1 lL 4<|
 o 122 (m 15)<|
 o 123 (.idxA lI (t 121) (t 122))<|
 o 124 (.load lI (t 123))<|
 o 125 (m 12)<|
 o 126 (.bin .sub (t 125) (i 1))<|
 o 127 (.idxA tI (t 124) (t 126))<|
 o 128 (.load tI (t 127))<|
 o 129 (.bin .neq (t 119) (t 128))<|
.nil) tB (t 129) yF 130 <|
.nil) tB (t 130) yT 131 <|
 o 13 (m 131)<|
.nil) [[], [0], [1], [2, 1], [3, 1, 1], [4], [5, 4], [4], [6, 7, 4], [8, 4], [4], [9, 10, 4], [11, 4], [4], [13, 4], [4], [14, 15, 4], [16, 4], [4], [18, 4], [17, 19, 4], [20, 4], [12, 21, 4], [4, 22, 1], [1, 23], [24, 4, 0, 1, 2, 3, 4, 5, 6, 7, 8, 9, 10, 11, 12, 13, 14, 15, 16, 17, 18, 19, 20, 21, 22, 23, 24]]))) (.region (
 o 132 (.bin .add (t 103) (i 1))<|
 o 103 (m 132)<|
.nil)))))))) (.seq (.region (
 o 133 (m 13)<|
.nil)) (.cond (t 133) (.region (
 o 134 (m 11)<|
 o 135 (m 12)<|
 o 136 (.bslice false 3 tI 1 [.tm 135])<|
 o 137 (.append 3 tI 8 (t 134) (t 136))<|
 o 11 (m 137)<|
.nil)) .skip))))))) (.region (
 o 138 (.bin .add (t 96) (i 1))<|
 o 96 (m 138)<|
.nil))))))))) (.seq (.region (
 q 139 1 lL 4<|
 o 141 (.len false (t 140))<|
 o 142 (.mslice 3 tI 8 (t 141) (t 141))<|
 o 16 (m 142)<|
.nil)) (.seq (.seq (.region (
 o 143 (m 10)<|
 o 144 (.len false (t 143))<|
 o 145 (.mv (i 0))<|
.nil)) (.block 10 (.loop ⟨[10, 143, 144], ⟨[(2, .ptr 0 0), (4, .ptr 1 0), (11, .sl 2), (16, .sl 3)], [.box T_str_api_DFA [.nil tI, .nil lI, .nil tB, .any], .box T_str_api_DFA [.any, .any, .any, .any], .vec T_i64 tI [], .vec T_i64 tI []]⟩, [.tm 145 tI, .cell 0 3 tI, .cell 1 0 lI, .cell 1 1 lL, .cell 1 2 lB, .cell 1 3 tI, .vec 2 3 tI, .vec 3 3 tI]⟩ [(13, ⟨[10], ⟨[(2, .ptr 0 0), (4, .ptr 1 0), (11, .sl 2), (16, .sl 3)], [.box T_str_api_DFA [.nil tI, .nil lI, .nil tB, .any], .box T_str_api_DFA [.any, .any, .any, .any], .vec T_i64 tI [], .vec T_i64 tI []]⟩, [.cell 0 3 tI, .cell 1 0 lI, .cell 1 1 lL, .cell 1 2 lB, .cell 1 3 tI, .vec 2 3 tI, .vec 3 3 tI]⟩)] (.seq (.region (
 o 146 (.bin .lss (t 145) (t 144))<|
.nil)) (.seq (.cond (t 146) .skip (.exit 10)) (.seq (.block 11 (.seq (.region (
 o 147 (m 145)<|
 o 148 (.idxA tI (t 143) (t 145))<|
 o 149 (.load tI (t 148))<|
 o 17 (m 147)<|
 o 18 (m 149)<|
.nil)) (.region (
 o 150 (m 16)<|
 o 151 (m 18)<|
 o 152 (m 17)<|
 o 153 (.idxA tI (t 150) (t 151))<|
.op none (.store tI (t 153) (t 152))<|
.nil)))) (.region (
 o 154 (.bin .add (t 145) (i 1))<|
 o 145 (m 154)<|
.nil)))))))) (.seq (.region (
 o 155 (.build [.nil tI, .nil lI, .nil tB, .d tI (0 : Int)] [])<|
 o 19 (.alloc 26 [.nil tI, .nil lI, .nil tB, .d tI (0 : Int)])<|
.op none (.store pD (t 19) (t 155))<|
.nil)) (.seq (.seq (.region (
 o 156 (m 11)<|
 o 157 (.len false (t 156))<|
 o 158 (.mv (i 0))<|
.nil)) (.block 12 (.adj [.adoptC 4 0 3 tI] (.loop ⟨[10, 157], ⟨[(2, .ptr 0 0), (4, .ptr 1 0), (11, .sl 2), (16, .sl 3), (19, .ptr 4 0), (156, .sl 2)], [.box T_str_api_DFA [.nil tI, .nil lI, .nil tB, .any], .box T_str_api_DFA [.any, .any, .any, .any], .vec T_i64 tI [], .vec T_i64 tI [], .box T_str_api_DFA [.sl 5, .nil lI, .nil tB, .any], .vec T_i64 tI []]⟩, [.tm 158 tI, .cell 0 3 tI, .cell 1 0 lI, .cell 1 1 lL, .cell 1 2 lB, .cell 1 3 tI, .vec 2 3 tI, .vec 3 3 tI, .cell 4 3 tI, .vec 5 3 tI]⟩ [(15, ⟨[10], ⟨[(2, .ptr 0 0), (4, .ptr 1 0), (11, .sl 2), (16, .sl 3), (19, .ptr 4 0)], [.box T_str_api_DFA [.nil tI, .nil lI, .nil tB, .any], .box T_str_api_DFA [.any, .any, .any, .any], .vec T_i64 tI [], .vec T_i64 tI [], .box T_str_api_DFA [.sl 5, .nil lI, .nil tB, .any], .vec T_i64 tI []]⟩, [.cell 0 3 tI, .cell 1 0 lI, .cell 1 1 lL, .cell 1 2 lB, .cell 1 3 tI, .vec 2 3 tI, .vec 3 3 tI, .cell 4 3 tI, .vec 5 3 tI]⟩)] (.seq (.region (
 o 159 (.bin .lss (t 158) (t 157))<|
.nil)) (.seq (.cond (t 159) .skip (.exit 12)) (.seq (.block 13 (.seq (.region (
 o 160 (.idxA tI (t 156) (t 158))<|
 o 161 (.load tI (t 160))<|
 o 21 (m 161)<|
.nil)) (.draw 8 (
 q 162 0 lI 19<|
 q 164 0 lI 4<|
 o 166 (m 21)<|
 o 167 (.idxA tI (t 165) (t 166))<|
 o 168 (.load tI (t 167))<|
 o 169 (.bslice false 3 tI 1 [.tm 168])<|
 o 170 (.append 3 tI 8 (t 163) (t 169))<|
 o 171 (.fldA 0 lI (t 19))<|
.op none (.store lI (t 171) (t 170))<|
.nil) [[], [0], [], [2], [], [3, 4], [5], [6], [1, 7], [0, 1, 2, 3, 4, 5, 6, 7, 8], [9, 8, 8, 0, 1, 2, 3, 4, 5, 6, 7, 8]]))) (.region (
 o 172 (.bin .add (t 158) (i 1))<|
 o 158 (m 172)<|
.nil))))))))) (.seq (.seq (.region (
 o 173 (m 10)<|
 o 174 (.len false (t 173))<|
 o 175 (.mv (i 0))<|
.nil)) (.block 14 (.adj [.adoptC 4 1 22 lI, .adoptC 4 2 4 tB] (.loop ⟨[173, 174], ⟨[(2, .ptr 0 0), (4, .ptr 1 0), (11, .sl 2), (16, .sl 3), (19, .ptr 4 0)], [.box T_str_api_DFA [.nil tI, .nil lI, .nil tB, .any], .box T_str_api_DFA [.any, .any, .any, .any], .vec T_i64 tI [], .vec T_i64 tI [], .box T_str_api_DFA [.sl 5, .sl 6, .sl 7, .any], .vec T_i64 tI [], .vec T_sl_i64 lI [], .vec T_bool tB []]⟩, [.tm 175 tI, .cell 0 3 tI, .cell 1 0 lI, .cell 1 1 lL, .cell 1 2 lB, .cell 1 3 tI, .vec 2 3 tI, .vec 3 3 tI, .cell 4 3 tI, .vec 5 3 tI, .vec 6 22 lI, .vec 7 4 tB]⟩ [(17, ⟨[], ⟨[(2, .ptr 0 0), (19, .ptr 1 0)], [.box T_str_api_DFA [.nil tI, .nil lI, .nil tB, .any], .box T_str_api_DFA [.sl 2, .sl 3, .sl 4, .any], .vec T_i64 tI [], .vec T_sl_i64 lI [], .vec T_bool tB []]⟩, [.cell 0 3 tI, .cell 1 3 tI, .vec 2 3 tI, .vec 3 22 lI, .vec 4 4 tB]⟩)] (.seq (.region (
 o 176 (.bin .lss (t 175) (t 174))<|
.nil)) (.seq (.cond (t 176) .skip (.adj [.sel [0, 4, 5, 6, 7] [2, 19]] (.exit 14))) (.seq (.block 15 (.seq (.region (
 o 177 (.idxA tI (t 173) (t 175))<|
 o 178 (.load tI (t 177))<|
 o 23 (m 178)<|
.nil)) (.seq (.region (
 o 24 (.mv (.nil tI))<|
.nil)) (.seq (.seq (.region (
 o 179 (m 11)<|
 o 180 (.len false (t 179))<|
 o 181 (.mv (i 0))<|
.nil)) (.block 16 (.adj [.adopt 24 3 tI] (.loop ⟨[23, 173, 174, 175, 180], ⟨[(2, .ptr 0 0), (4, .ptr 1 0), (11, .sl 2), (16, .sl 3), (19, .ptr 4 0), (24, .sl 8), (179, .sl 2)], [.box T_str_api_DFA [.nil tI, .nil lI, .nil tB, .any], .box T_str_api_DFA [.any, .any, .any, .any], .vec T_i64 tI [], .vec T_i64 tI [], .box T_str_api_DFA [.sl 5, .sl 6, .sl 7, .any], .vec T_i64 tI [], .vec T_sl_i64 lI [], .vec T_bool tB [], .vec T_i64 tI []]⟩, [.tm 181 tI, .cell 0 3 tI, .cell 1 0 lI, .cell 1 1 lL, .cell 1 2 lB, .cell 1 3 tI, .vec 2 3 tI, .vec 3 3 tI, .cell 4 3 tI, .vec 5 3 tI, .vec 6 22 lI, .vec 7 4 tB, .vec 8 3 tI]⟩ [(19, ⟨[23, 173, 174, 175], ⟨[(2, .ptr 0 0), (4, .ptr 1 0), (11, .sl 2), (16, .sl 3), (19, .ptr 4 0), (24, .sl 8)], [.box T_str_api_DFA [.nil tI, .nil lI, .nil tB, .any], .box T_str_api_DFA [.any, .any, .any, .any], .vec T_i64 tI [], .vec T_i64 tI [], .box T_str_api_DFA [.sl 5, .sl 6, .sl 7, .any], .vec T_i64 tI [], .vec T_sl_i64 lI [], .vec T_bool tB [], .vec T_i64 tI []]⟩, [.cell 0 3 tI, .cell 1 0 lI, .cell 1 1 lL, .cell 1 2 lB, .cell 1 3 tI, .vec 2 3 tI, .vec 3 3 tI, .cell 4 3 tI, .vec 5 3 tI, .vec 6 22 lI, .vec 7 4 tB, .vec 8 3 tI]⟩)] (.seq (.region (
 o 182 (.bin .lss (t 181) (t 180))<|
.nil)) (.seq (.cond (t 182) .skip (.exit 16)) (.seq (.block 17 (.seq (.region (
 o 183 (.idxA tI (t 179) (t 181))<|
 o 184 (.load tI (t 183))<|
 o 26 (m 184)<|
.nil)) (.region (
 o 185 (m 24)<|
 o 186 (m 16)<|
 q 187 1 lL 4<|
 o 189 (m 23)<|
 o 190 (.idxA lI (t 188) (t 189))<|
 o 191 (.load lI (t 190))<|
 o 192 (m 26)<|
 o 193 (.idxA tI (t 191) (t 192))<|
 o 194 (.load tI (t 193))<|
 o 195 (.idxA tI (t 186) (t 194))<|
 o 196 (.load tI (t 195))<|
 o 197 (.bslice false 3 tI 1 [.tm 196])<|
 o 198 (.append 3 tI 8 (t 185) (t 197))<|
 o 24 (m 198)<|
.nil)))) (.region (
 o 199 (.bin .add (t 181) (i 1))<|
 o 181 (m 199)<|
.nil))))))))) (.seq (.region (
 q 200 1 lL 19<|
 o 202 (m 24)<|
.adj [.freeze 8] <|
 o 203 (.bslice false 22 lI 1 [.tm 202])<|
 o 204 (.append 22 lI 24 (t 201) (t 203))<|
 o 205 (.fldA 1 lL (t 19))<|
.op none (.store lL (t 205) (t 204))<|
.nil)) (.draw 8 (
 q 206 2 lB 19<|
 q 208 2 lB 4<|
 o 210 (m 23)<|
 o 211 (.idxA tB (t 209) (t 210))<|
 o 212 (.load tB (t 211))<|
 o 213 (.bslice false 4 tB 1 [.tm 212])<|
 o 214 (.append 4 tB 1 (t 207) (t 213))<|
 o 215 (.fldA 2 lB (t 19))<|
.op none (.store lB (t 215) (t 214))<|
.nil) [[], [0], [], [2], [], [3, 4], [5], [6], [1, 7], [0, 1, 2, 3, 4, 5, 6, 7, 8], [9, 8, 8, 0, 1, 2, 3, 4, 5, 6, 7, 8]])))))) (.after (.region (
 o 216 (.bin .add (t 175) (i 1))<|
 o 175 (m 216)<|
.nil)) [.sel [0, 1, 2, 3, 4, 5, 6, 7] [2, 4, 11, 16, 19, 173, 174, 175]])))))))) (.seq (.region (
 o 217 (.load pD (t 19))<|
.op none (.store pD (t 2) (t 217))<|
.nil)) (.adj [.freeze 2, .freeze 3, .freeze 4] .ret)))))))))))))), [.cell 2 pD], 218, q_ref16_Normal, 0⟩
def L_ref16_Normal_0 (O : Oracle) (n : Nat) (v : ((List Int) × Unit)) (s : (Int × Int × (List Int) × Int × (List (List Int)) × (List Bool) × Unit)) (v3 : (Int × Int × (List Int) × Int × (List (List Int)) × (List Bool) × Unit)) : Option ((Int × Int × (List Int) × Int × (List (List Int)) × (List Bool) × Unit) ⊕ (Int × Int × (List Int) × Int × (List (List Int)) × (List Bool) × Unit)) :=
 Option.bind (bif decide (v3.1 < (v.1.length : Int)) then
 Option.bind (getI v.1 v3.1) fun v4 =>
 some ((v4 != s.1))
else some (false)) fun v5 =>
 bif v5 then
 some (.inl (IntKind.wrap .i64 (v3.1 + (1 : Int)), v3.2.1, v3.2.2.1, v3.2.2.2.1, v3.2.2.2.2.1, v3.2.2.2.2.2.1, ()))
else
 some (.inr ((v3.1, v3.2.1, v3.2.2.1, v3.2.2.2.1, v3.2.2.2.2.1, v3.2.2.2.2.2.1, ())))
def L_ref16_Normal_1 (O : Oracle) (n : Nat) (v : ((List Int) × Unit)) (v7 : (List Int)) (v8 : (Int × Int × (List Int) × Int × (List (List Int)) × (List Bool) × (List Int) × Unit)) : Option ((Int × Int × (List Int) × Int × (List (List Int)) × (List Bool) × (List Int) × Unit) ⊕ (Int × (List Int) × Int × (List (List Int)) × (List Bool) × (List Int) × Unit)) :=
 bif decide (v8.1 < (v7.length : Int)) then
 Option.bind (getI v7 v8.1) fun v9 =>
 Option.bind (getI v.1 v9) fun v10 =>
 guardB (decide ((v8.2.2.2.2.2.2.1.length + ([v10] : List Int).length) * 8 ≤ 140737488355328)) (
 some (.inl (IntKind.wrap .i64 (v8.1 + (1 : Int)), v8.2.1, v8.2.2.1, v8.2.2.2.1, v8.2.2.2.2.1, v8.2.2.2.2.2.1, v8.2.2.2.2.2.2.1 ++ ([v10] : List Int), ())))
else
 some (.inr ((v8.2.1, v8.2.2.1, v8.2.2.2.1, v8.2.2.2.2.1, v8.2.2.2.2.2.1, v8.2.2.2.2.2.2.1, ())))
def L_ref16_Normal_2 (O : Oracle) (n : Nat) (d : TD) (v : ((List Int) × Unit)) (s : (Int × Int × (List Int) × Int × (List (List Int)) × (List Bool) × Unit)) : Option ((Int × Int × (List Int) × Int × (List (List Int)) × (List Bool) × Unit) ⊕ (Int × (List Int) × Int × (List (List Int)) × (List Bool) × Unit)) :=
 Option.bind (loopN n (L_ref16_Normal_0 O n v s) ((0 : Int), s.2.1, s.2.2.1, s.2.2.2.1, s.2.2.2.2.1, s.2.2.2.2.2.1, ())) fun (v6 : (Int × Int × (List Int) × Int × (List (List Int)) × (List Bool) × Unit)) =>
 bif (v6.1 == (v.1.length : Int)) then
 some (.inr ((v6.2.1, v6.2.2.1, v6.2.2.2.1, v6.2.2.2.2.1, v6.2.2.2.2.2.1, ())))
else
 Option.bind (getI d.2.1 v6.1) fun v7 =>
 Option.bind (loopN n (L_ref16_Normal_1 O n v v7) ((0 : Int), v6.2.1, v6.2.2.1, v6.2.2.2.1, v6.2.2.2.2.1, v6.2.2.2.2.2.1, ([] : List Int), ())) fun (v11 : (Int × (List Int) × Int × (List (List Int)) × (List Bool) × (List Int) × Unit)) =>
 guardB (decide ((v11.2.2.2.1.length + (([v11.2.2.2.2.2.1] : List (List Int))).length) * 24 ≤ 140737488355328)) (
 Option.bind (getI d.2.2.1 v6.1) fun v12 =>
 guardB (decide ((v11.2.2.2.2.1.length + ([v12] : List Bool).length) * 1 ≤ 140737488355328)) (
 some (.inl (IntKind.wrap .i64 (s.1 + (1 : Int)), v11.1, v11.2.1, v11.2.2.1, v11.2.2.2.1 ++ (([v11.2.2.2.2.2.1] : List (List Int))), v11.2.2.2.2.1 ++ ([v12] : List Bool), ()))))
def L_ref16_Normal_3 (O : Oracle) (n : Nat) (v14 : ((List Int) × Unit)) (v15 : (Int × Int × (List Int) × (List (List Int)) × (List Bool) × Int × (List Int) × Unit)) (v16 : (Bool × Int × Int × (List Int) × (List (List Int)) × (List Bool) × Int × (List Int) × Unit)) : Option ((Bool × Int × Int × (List Int) × (List (List Int)) × (List Bool) × Int × (List Int) × Unit) ⊕ (Bool × Int × (List Int) × (List (List Int)) × (List Bool) × Int × (List Int) × Unit)) :=
 bif decide (v16.2.1 < (v14.1.length : Int)) then
 Option.bind (getI v14.1 v16.2.1) fun v17 =>
 Option.bind (bif v16.1 then some (true) else
 Option.bind (bif decide (v15.1 > (0 : Int)) then
 Option.bind (getI v16.2.2.2.2.1 v17) fun v18 =>
 Option.bind (getI v18 v15.1) fun v19 =>
 Option.bind (getI v16.2.2.2.2.1 v17) fun v20 =>
 Option.bind (getI v20 (IntKind.wrap .i64 (v15.1 - (1 : Int)))) fun v21 =>
 some ((v19 != v21))
else some (false)) fun v22 =>
 some (v22)) fun v23 =>
 some (.inl (v23, IntKind.wrap .i64 (v16.2.1 + (1 : Int)), v16.2.2.1, v16.2.2.2.1, v16.2.2.2.2.1, v16.2.2.2.2.2.1, v16.2.2.2.2.2.2.1, v16.2.2.2.2.2.2.2.1, ()))
else
 some (.inr ((v16.1, v16.2.2.1, v16.2.2.2.1, v16.2.2.2.2.1, v16.2.2.2.2.2.1, v16.2.2.2.2.2.2.1, v16.2.2.2.2.2.2.2.1, ())))
def L_ref16_Normal_4 (O : Oracle) (n : Nat) (v13 : (Int × (List Int) × Int × (List (List Int)) × (List Bool) × Unit)) (v14 : ((List Int) × Unit)) (v15 : (Int × Int × (List Int) × (List (List Int)) × (List Bool) × Int × (List Int) × Unit)) : Option ((Int × Int × (List Int) × (List (List Int)) × (List Bool) × Int × (List Int) × Unit) ⊕ (Int × (List Int) × (List (List Int)) × (List Bool) × Int × (List Int) × Unit)) :=
 bif decide (v15.1 < (v13.2.1.length : Int)) then
 Option.bind (
 Option.bind (loopN n (L_ref16_Normal_3 O n v14 v15) ((v15.1 == (0 : Int)), (0 : Int), v15.2.1, v15.2.2.1, v15.2.2.2.1, v15.2.2.2.2.1, v15.2.2.2.2.2.1, v15.2.2.2.2.2.2.1, ())) fun (v24 : (Bool × Int × (List Int) × (List (List Int)) × (List Bool) × Int × (List Int) × Unit)) =>
 bif v24.1 then
 guardB (decide ((v24.2.2.2.2.2.2.1.length + ([v15.1] : List Int).length) * 8 ≤ 140737488355328)) (
 some ((v24.2.1, v24.2.2.1, v24.2.2.2.1, v24.2.2.2.2.1, v24.2.2.2.2.2.1, v24.2.2.2.2.2.2.1 ++ ([v15.1] : List Int), ())))
else
 some ((v24.2.1, v24.2.2.1, v24.2.2.2.1, v24.2.2.2.2.1, v24.2.2.2.2.2.1, v24.2.2.2.2.2.2.1, ()))) fun (v25 : (Int × (List Int) × (List (List Int)) × (List Bool) × Int × (List Int) × Unit)) =>
 some (.inl (IntKind.wrap .i64 (v15.1 + (1 : Int)), v25.1, v25.2.1, v25.2.2.1, v25.2.2.2.1, v25.2.2.2.2.1, v25.2.2.2.2.2.1, ()))
else
 some (.inr ((v15.2.1, v15.2.2.1, v15.2.2.2.1, v15.2.2.2.2.1, v15.2.2.2.2.2.1, v15.2.2.2.2.2.2.1, ())))
def L_ref16_Normal_5 (O : Oracle) (n : Nat) (v14 : ((List Int) × Unit)) (v27 : (Int × Int × (List Int) × (List (List Int)) × (List Bool) × Int × (List Int) × (List Int) × Unit)) : Option ((Int × Int × (List Int) × (List (List Int)) × (List Bool) × Int × (List Int) × (List Int) × Unit) ⊕ (Int × (List Int) × (List (List Int)) × (List Bool) × Int × (List Int) × (List Int) × Unit)) :=
 bif decide (v27.1 < (v14.1.length : Int)) then
 Option.bind (getI v14.1 v27.1) fun v28 =>
 Option.bind (getI v27.2.2.2.2.2.2.2.1 v28) fun _ =>
 Option.bind v27.2.2.2.2.2.2.2.1[Int.toNat v28]? fun v29 =>
 some (.inl (IntKind.wrap .i64 (v27.1 + (1 : Int)), v27.2.1, v27.2.2.1, v27.2.2.2.1, v27.2.2.2.2.1, v27.2.2.2.2.2.1, v27.2.2.2.2.2.2.1, v27.2.2.2.2.2.2.2.1.set (Int.toNat v28) v27.1, ()))
else
 some (.inr ((v27.2.1, v27.2.2.1, v27.2.2.2.1, v27.2.2.2.2.1, v27.2.2.2.2.2.1, v27.2.2.2.2.2.2.1, v27.2.2.2.2.2.2.2.1, ())))
def L_ref16_Normal_6 (O : Oracle) (n : Nat) (v30 : (Int × (List Int) × (List (List Int)) × (List Bool) × Int × (List Int) × (List Int) × Unit)) (v31 : (Int × Int × (List Int) × (List (List Int)) × (List Bool) × Int × (List Int) × (List Int) × Int × (List Int) × Unit)) : Option ((Int × Int × (List Int) × (List (List Int)) × (List Bool) × Int × (List Int) × (List Int) × Int × (List Int) × Unit) ⊕ (Int × (List Int) × (List (List Int)) × (List Bool) × Int × (List Int) × (List Int) × Int × (List Int) × Unit)) :=
 bif decide (v31.1 < (v30.2.2.2.2.2.1.length : Int)) then
 Option.bind (getI v31.2.2.2.2.2.2.1 v31.1) fun _ =>
 Option.bind v31.2.2.2.2.2.2.1[Int.toNat v31.1]? fun v32 =>
 Option.bind (getI v31.2.2.1 v32) fun v33 =>
 guardB (decide ((v31.2.2.2.2.2.2.2.2.2.1.length + ([v33] : List Int).length) * 8 ≤ 140737488355328)) (
 some (.inl (IntKind.wrap .i64 (v31.1 + (1 : Int)), v31.2.1, v31.2.2.1, v31.2.2.2.1, v31.2.2.2.2.1, v31.2.2.2.2.2.1, v31.2.2.2.2.2.2.1, v31.2.2.2.2.2.2.2.1, v31.2.2.2.2.2.2.2.2.1, v31.2.2.2.2.2.2.2.2.2.1 ++ ([v33] : List Int), ())))
else
 some (.inr ((v31.2.1, v31.2.2.1, v31.2.2.2.1, v31.2.2.2.2.1, v31.2.2.2.2.2.1, v31.2.2.2.2.2.2.1, v31.2.2.2.2.2.2.2.1, v31.2.2.2.2.2.2.2.2.1, v31.2.2.2.2.2.2.2.2.2.1, ())))
def L_ref16_Normal_7 (O : Oracle) (n : Nat) (v35 : (Int × Int × (List Int) × (List (List Int)) × (List Bool) × Int × (List Int) × (List Int) × Int × (List Int) × (List (List Int)) × (List Bool) × Unit)) (v36 : Int) (v37 : (Int × Int × (List Int) × (List (List Int)) × (List Bool) × Int × (List Int) × (List Int) × Int × (List Int) × (List (List Int)) × (List Bool) × (List Int) × Unit)) : Option ((Int × Int × (List Int) × (List (List Int)) × (List Bool) × Int × (List Int) × (List Int) × Int × (List Int) × (List (List Int)) × (List Bool) × (List Int) × Unit) ⊕ (Int × (List Int) × (List (List Int)) × (List Bool) × Int × (List Int) × (List Int) × Int × (List Int) × (List (List Int)) × (List Bool) × (List Int) × Unit)) :=
 bif decide (v37.1 < (v35.2.2.2.2.2.2.1.length : Int)) then
 Option.bind (getI v37.2.2.2.2.2.2.1 v37.1) fun _ =>
 Option.bind v37.2.2.2.2.2.2.1[Int.toNat v37.1]? fun v38 =>
 Option.bind (getI v37.2.2.2.1 v36) fun v39 =>
 Option.bind (getI v39 v38) fun v40 =>
 Option.bind (getI v37.2.2.2.2.2.2.2.1 v40) fun _ =>
 Option.bind v37.2.2.2.2.2.2.2.1[Int.toNat v40]? fun v41 =>
 guardB (decide ((v37.2.2.2.2.2.2.2.2.2.2.2.2.1.length + ([v41] : List Int).length) * 8 ≤ 140737488355328)) (
 some (.inl (IntKind.wrap .i64 (v37.1 + (1 : Int)), v37.2.1, v37.2.2.1, v37.2.2.2.1, v37.2.2.2.2.1, v37.2.2.2.2.2.1, v37.2.2.2.2.2.2.1, v37.2.2.2.2.2.2.2.1, v37.2.2.2.2.2.2.2.2.1, v37.2.2.2.2.2.2.2.2.2.1, v37.2.2.2.2.2.2.2.2.2.2.1, v37.2.2.2.2.2.2.2.2.2.2.2.1, v37.2.2.2.2.2.2.2.2.2.2.2.2.1 ++ ([v41] : List Int), ())))
else
 some (.inr ((v37.2.1, v37.2.2.1, v37.2.2.2.1, v37.2.2.2.2.1, v37.2.2.2.2.2.1, v37.2.2.2.2.2.2.1, v37.2.2.2.2.2.2.2.1, v37.2.2.2.2.2.2.2.2.1, v37.2.2.2.2.2.2.2.2.2.1, v37.2.2.2.2.2.2.2.2.2.2.1, v37.2.2.2.2.2.2.2.2.2.2.2.1, v37.2.2.2.2.2.2.2.2.2.2.2.2.1, ())))
def L_ref16_Normal_8 (O : Oracle) (n : Nat) (v14 : ((List Int) × Unit)) (v35 : (Int × Int × (List Int) × (List (List Int)) × (List Bool) × Int × (List Int) × (List Int) × Int × (List Int) × (List (List Int)) × (List Bool) × Unit)) : Option ((Int × Int × (List Int) × (List (List Int)) × (List Bool) × Int × (List Int) × (List Int) × Int × (List Int) × (List (List Int)) × (List Bool) × Unit) ⊕ (Int × Int × (List Int) × (List (List Int)) × (List Bool) × Unit)) :=
 bif decide (v35.1 < (v14.1.length : Int)) then
 Option.bind (getI v14.1 v35.1) fun v36 =>
 Option.bind (loopN n (L_ref16_Normal_7 O n v35 v36) ((0 : Int), v35.2.1, v35.2.2.1, v35.2.2.2.1, v35.2.2.2.2.1, v35.2.2.2.2.2.1, v35.2.2.2.2.2.2.1, v35.2.2.2.2.2.2.2.1, v35.2.2.2.2.2.2.2.2.1, v35.2.2.2.2.2.2.2.2.2.1, v35.2.2.2.2.2.2.2.2.2.2.1, v35.2.2.2.2.2.2.2.2.2.2.2.1, ([] : List Int), ())) fun (v42 : (Int × (List Int) × (List (List Int)) × (List Bool) × Int × (List Int) × (List Int) × Int × (List Int) × (List (List Int)) × (List Bool) × (List Int) × Unit)) =>
 guardB (decide ((v42.2.2.2.2.2.2.2.2.2.1.length + (([v42.2.2.2.2.2.2.2.2.2.2.2.1] : List (List Int))).length) * 24 ≤ 140737488355328)) (
 let v43 := v42.2.2.2.2.2.2.2.2.2.1 ++ (([v42.2.2.2.2.2.2.2.2.2.2.2.1] : List (List Int)))
 Option.bind (getI v42.2.2.2.1 v36) fun v44 =>
 guardB (decide ((v42.2.2.2.2.2.2.2.2.2.2.1.length + ([v44] : List Bool).length) * 1 ≤ 140737488355328)) (
 some (.inl (IntKind.wrap .i64 (v35.1 + (1 : Int)), v42.1, v42.2.1, v42.2.2.1, v42.2.2.2.1, v42.2.2.2.2.1, v42.2.2.2.2.2.1, v42.2.2.2.2.2.2.1, v42.2.2.2.2.2.2.2.1, v42.2.2.2.2.2.2.2.2.1, v43, v42.2.2.2.2.2.2.2.2.2.2.1 ++ ([v44] : List Bool), ()))))
else
 some (.inr ((v35.2.1, v35.2.2.2.2.2.2.2.2.1, v35.2.2.2.2.2.2.2.2.2.1, v35.2.2.2.2.2.2.2.2.2.2.1, v35.2.2.2.2.2.2.2.2.2.2.2.1, ())))
def G_ref16_Normal (O : Oracle) (n : Nat) (d : TD) : Option (Option S) :=
 Option.bind (callR O N_ref16_blocks [.d (pr [(.list tI), (.list (.list tI)), (.list tB), tI]) d] [] q_ref16_blocks) fun v =>
 Option.bind (getI v.1 d.2.2.2.1) fun v1 =>
 Option.bind (loopN n (L_ref16_Normal_2 O n d v) ((0 : Int), (0 : Int), d.1, v1, ([] : List (List Int)), ([] : List Bool), ())) fun (v13 : (Int × (List Int) × Int × (List (List Int)) × (List Bool) × Unit)) =>
 Option.bind (callR O N_ref16_reachable [.d (pr [(.list tI), (.list (.list tI)), (.list tB), tI]) ((v13.2.1, v13.2.2.2.1, v13.2.2.2.2.1, v13.2.2.1, ()))] [] q_ref16_reachable) fun v14 =>
 Option.bind (loopN n (L_ref16_Normal_4 O n v13 v14) ((0 : Int), v13.1, v13.2.1, v13.2.2.2.1, v13.2.2.2.2.1, v13.2.2.1, ([] : List Int), ())) fun (v26 : (Int × (List Int) × (List (List Int)) × (List Bool) × Int × (List Int) × Unit)) =>
 guardB (decide (0 ≤ (v26.2.2.1.length : Int)) && decide ((v26.2.2.1.length : Int) ≤ (v26.2.2.1.length : Int)) && decide ((v26.2.2.1.length : Int) ≤ 9223372036854775807) && decide (8 * (v26.2.2.1.length : Int) ≤ 281474976710656)) (
 Option.bind (loopN n (L_ref16_Normal_5 O n v14) ((0 : Int), v26.1, v26.2.1, v26.2.2.1, v26.2.2.2.1, v26.2.2.2.2.1, v26.2.2.2.2.2.1, List.replicate (Int.toNat (v26.2.2.1.length : Int)) (Ty.zero tI), ())) fun (v30 : (Int × (List Int) × (List (List Int)) × (List Bool) × Int × (List Int) × (List Int) × Unit)) =>
 Option.bind (loopN n (L_ref16_Normal_6 O n v30) ((0 : Int), v30.1, v30.2.1, v30.2.2.1, v30.2.2.2.1, v30.2.2.2.2.1, v30.2.2.2.2.2.1, v30.2.2.2.2.2.2.1, (0 : Int), ([] : List Int), ())) fun (v34 : (Int × (List Int) × (List (List Int)) × (List Bool) × Int × (List Int) × (List Int) × Int × (List Int) × Unit)) =>
 Option.bind (loopN n (L_ref16_Normal_8 O n v14) ((0 : Int), v34.1, v34.2.1, v34.2.2.1, v34.2.2.2.1, v34.2.2.2.2.1, v34.2.2.2.2.2.1, v34.2.2.2.2.2.2.1, v34.2.2.2.2.2.2.2.1, v34.2.2.2.2.2.2.2.2.1, ([] : List (List Int)), ([] : List Bool), ())) fun (v45 : (Int × Int × (List Int) × (List (List Int)) × (List Bool) × Unit)) =>
 retQ q_ref16_Normal ((v45.2.2.1, v45.2.2.2.1, v45.2.2.2.2.1, v45.2.1, ()), ()))
theorem x_ref16_Normal (O : Oracle) (n : Nat) (d : ((List Int) × ((List (List Int)) × ((List Bool) × (Int × Unit))))) : evF1 O n f_ref16_Normal [.d (pr [(.list tI), (.list (.list tI)), (.list tB), tI]) d] [] = G_ref16_Normal O n d := by kernel_rfl
end Go.Proofs.Ytbpdbooalkkenaa
