/-
  THE LOADED FUNCTIONS ARE AS THEIR TYPED CODE SAYS: checked by the kernel, printed by program.
-/
import Derived.Test.YtifgipebbagfcaaDoorHTG2
import Derived.Test.YtifgipebbagfcaaDoorHL8
import Derived.Test.YtifgipebbagfcaaDoorRows
import Derived.Test.YtifgipebbagfcaaDoorHBn
set_option linter.unusedVariables false
set_option linter.unusedSimpArgs false
namespace Go.Proofs.YtifgipebbagfcaaDoor
open Go Go.Av Go.Ev
theorem o_strconv_Itoa : OkE Tryd.prog N_strconv_Itoa (.nat natItoa) := nat_itoa Tryd.strconv_Itoa
theorem e_ref15_Size : Entry Tryd.prog 23 f_ref15_Size := ⟨⟨Tryd.f23, Tryd.func23, by kernel_rfl, by kernel_rfl, by kernel_rfl⟩, by kernel_rfl⟩
theorem e_law15_Large : Entry Tryd.prog 10 f_law15_Large := ⟨⟨Tryd.f10, Tryd.func10, by kernel_rfl, by kernel_rfl, by kernel_rfl⟩, by kernel_rfl⟩
theorem e_regex_parser_peek_r : Entry Tryd.prog 48 f_regex_parser_peek_r := ⟨⟨Tryd.f48, Tryd.func48, by kernel_rfl, by kernel_rfl, by kernel_rfl⟩, by kernel_rfl⟩
theorem e_field_canonical : Entry Tryd.prog 84 f_field_canonical := ⟨⟨Tryd.f84, Tryd.func84, by kernel_rfl, by kernel_rfl, by kernel_rfl⟩, by kernel_rfl⟩
theorem e_field_Number : Entry Tryd.prog 78 f_field_Number := ⟨⟨Tryd.f78, Tryd.func78, by kernel_rfl, by kernel_rfl, by kernel_rfl⟩, by kernel_rfl⟩
theorem e_regex_parser_number_r : Entry Tryd.prog 71 f_regex_parser_number_r := ⟨⟨Tryd.f71, Tryd.func71, by kernel_rfl, by kernel_rfl, by kernel_rfl⟩, by kernel_rfl⟩
theorem e_regex_parser_expect_rd : Entry Tryd.prog 72 f_regex_parser_expect_rd := ⟨⟨Tryd.f72, Tryd.func72, by kernel_rfl, by kernel_rfl, by kernel_rfl⟩, by kernel_rfl⟩
theorem e_regex_parser_atom_rd : Entry Tryd.prog 68 f_regex_parser_atom_rd := ⟨⟨Tryd.f68, Tryd.func68, by kernel_rfl, by kernel_rfl, by kernel_rfl⟩, by kernel_rfl⟩
theorem e_regex_parser_item_rd : Entry Tryd.prog 63 f_regex_parser_item_rd := ⟨⟨Tryd.f63, Tryd.func63, by kernel_rfl, by kernel_rfl, by kernel_rfl⟩, by kernel_rfl⟩
theorem e_regex_parser_sequence_rd : Entry Tryd.prog 47 f_regex_parser_sequence_rd := ⟨⟨Tryd.f47, Tryd.func47, by kernel_rfl, by kernel_rfl, by kernel_rfl⟩, by kernel_rfl⟩
theorem e_regex_parser_alternatives_rd : Entry Tryd.prog 31 f_regex_parser_alternatives_rd := ⟨⟨Tryd.f31, Tryd.func31, by kernel_rfl, by kernel_rfl, by kernel_rfl⟩, by kernel_rfl⟩
theorem e_regex_kids : Entry Tryd.prog 59 f_regex_kids := ⟨⟨Tryd.f59, Tryd.func59, by kernel_rfl, by kernel_rfl, by kernel_rfl⟩, by kernel_rfl⟩
theorem e_regex_node : Entry Tryd.prog 41 f_regex_node := ⟨⟨Tryd.f41, Tryd.func41, by kernel_rfl, by kernel_rfl, by kernel_rfl⟩, by kernel_rfl⟩
theorem e_regex_check_ddr : Entry Tryd.prog 26 f_regex_check_ddr := ⟨⟨Tryd.f26, Tryd.func26, by kernel_rfl, by kernel_rfl, by kernel_rfl⟩, by kernel_rfl⟩
theorem e_regex_Check : Entry Tryd.prog 12 f_regex_Check := ⟨⟨Tryd.f12, Tryd.func12, by kernel_rfl, by kernel_rfl, by kernel_rfl⟩, by kernel_rfl⟩
theorem e_field_Decimal : Entry Tryd.prog 42 f_field_Decimal := ⟨⟨Tryd.f42, Tryd.func42, by kernel_rfl, by kernel_rfl, by kernel_rfl⟩, by kernel_rfl⟩
theorem e_regex_repeats : Entry Tryd.prog 67 f_regex_repeats := ⟨⟨Tryd.f67, Tryd.func67, by kernel_rfl, by kernel_rfl, by kernel_rfl⟩, by kernel_rfl⟩
theorem e_regex_wrapped : Entry Tryd.prog 61 f_regex_wrapped := ⟨⟨Tryd.f61, Tryd.func61, by kernel_rfl, by kernel_rfl, by kernel_rfl⟩, by kernel_rfl⟩
theorem e_regex_inner : Entry Tryd.prog 43 f_regex_inner := ⟨⟨Tryd.f43, Tryd.func43, by kernel_rfl, by kernel_rfl, by kernel_rfl⟩, by kernel_rfl⟩
theorem e_regex_show : Entry Tryd.prog 28 f_regex_show := ⟨⟨Tryd.f28, Tryd.func28, by kernel_rfl, by kernel_rfl, by kernel_rfl⟩, by kernel_rfl⟩
theorem e_regex_Print : Entry Tryd.prog 14 f_regex_Print := ⟨⟨Tryd.f14, Tryd.func14, by kernel_rfl, by kernel_rfl, by kernel_rfl⟩, by kernel_rfl⟩
set_option maxRecDepth 8000 in
theorem e_regex_Parse : EntryD Tryd.prog 16 f_regex_Parse := ⟨⟨Tryd.f16, _, _, _, _, _, _, _, _, _, _, _, Tryd.func16, by kernel_rfl, rfl, by kernel_rfl, by kernel_rfl, ⟨⟨Tryd.f30, _, _, _, _, _, _, _, Tryd.func30, by kernel_rfl, by kernel_rfl, rfl, ⟨#[], by kernel_rfl⟩, by kernel_rfl⟩⟩, by kernel_rfl, by kernel_rfl⟩, by kernel_rfl⟩
theorem e_regex_well : Entry Tryd.prog 33 f_regex_well := ⟨⟨Tryd.f33, Tryd.func33, by kernel_rfl, by kernel_rfl, by kernel_rfl⟩, by kernel_rfl⟩
theorem e_regex_count : Entry Tryd.prog 34 f_regex_count := ⟨⟨Tryd.f34, Tryd.func34, by kernel_rfl, by kernel_rfl, by kernel_rfl⟩, by kernel_rfl⟩
theorem e_regex_places_add_rdd : Entry Tryd.prog 51 f_regex_places_add_rdd := ⟨⟨Tryd.f51, Tryd.func51, by kernel_rfl, by kernel_rfl, by kernel_rfl⟩, by kernel_rfl⟩
theorem e_regex_places_link_rdd : Entry Tryd.prog 52 f_regex_places_link_rdd := ⟨⟨Tryd.f52, Tryd.func52, by kernel_rfl, by kernel_rfl, by kernel_rfl⟩, by kernel_rfl⟩
theorem e_regex_join : Entry Tryd.prog 53 f_regex_join := ⟨⟨Tryd.f53, Tryd.func53, by kernel_rfl, by kernel_rfl, by kernel_rfl⟩, by kernel_rfl⟩
theorem e_regex_places_walk_rd : Entry Tryd.prog 35 f_regex_places_walk_rd := ⟨⟨Tryd.f35, Tryd.func35, by kernel_rfl, by kernel_rfl, by kernel_rfl⟩, by kernel_rfl⟩
theorem e_regex_Match : Entry Tryd.prog 19 f_regex_Match := ⟨⟨Tryd.f19, Tryd.func19, by kernel_rfl, by kernel_rfl, by kernel_rfl⟩, by kernel_rfl⟩
theorem e_regex_nullable : Entry Tryd.prog 38 f_regex_nullable := ⟨⟨Tryd.f38, Tryd.func38, by kernel_rfl, by kernel_rfl, by kernel_rfl⟩, by kernel_rfl⟩
theorem e_regex_Nullable : Entry Tryd.prog 21 f_regex_Nullable := ⟨⟨Tryd.f21, Tryd.func21, by kernel_rfl, by kernel_rfl, by kernel_rfl⟩, by kernel_rfl⟩
theorem e_regex_duplicate : Entry Tryd.prog 58 f_regex_duplicate := ⟨⟨Tryd.f58, Tryd.func58, by kernel_rfl, by kernel_rfl, by kernel_rfl⟩, by kernel_rfl⟩
theorem e_regex_nothing : Entry Tryd.prog 65 f_regex_nothing := ⟨⟨Tryd.f65, Tryd.func65, by kernel_rfl, by kernel_rfl, by kernel_rfl⟩, by kernel_rfl⟩
theorem e_regex_then : Entry Tryd.prog 55 f_regex_then := ⟨⟨Tryd.f55, Tryd.func55, by kernel_rfl, by kernel_rfl, by kernel_rfl⟩, by kernel_rfl⟩
theorem e_regex_rest : Entry Tryd.prog 56 f_regex_rest := ⟨⟨Tryd.f56, Tryd.func56, by kernel_rfl, by kernel_rfl, by kernel_rfl⟩, by kernel_rfl⟩
theorem e_regex_Same : Entry Tryd.prog 25 f_regex_Same := ⟨⟨Tryd.f25, Tryd.func25, by kernel_rfl, by kernel_rfl, by kernel_rfl⟩, by kernel_rfl⟩
theorem e_regex_either : Entry Tryd.prog 57 f_regex_either := ⟨⟨Tryd.f57, Tryd.func57, by kernel_rfl, by kernel_rfl, by kernel_rfl⟩, by kernel_rfl⟩
theorem e_regex_derive : Entry Tryd.prog 39 f_regex_derive := ⟨⟨Tryd.f39, Tryd.func39, by kernel_rfl, by kernel_rfl, by kernel_rfl⟩, by kernel_rfl⟩
theorem e_regex_Derive : Entry Tryd.prog 22 f_regex_Derive := ⟨⟨Tryd.f22, Tryd.func22, by kernel_rfl, by kernel_rfl, by kernel_rfl⟩, by kernel_rfl⟩
theorem e_law15_awake : Entry Tryd.prog 11 f_law15_awake := ⟨⟨Tryd.f11, Tryd.func11, by kernel_rfl, by kernel_rfl, by kernel_rfl⟩, by kernel_rfl⟩
theorem e_ref15_fields : Entry Tryd.prog 40 f_ref15_fields := ⟨⟨Tryd.f40, Tryd.func40, by kernel_rfl, by kernel_rfl, by kernel_rfl⟩, by kernel_rfl⟩
theorem e_ref15_check : Entry Tryd.prog 27 f_ref15_check := ⟨⟨Tryd.f27, Tryd.func27, by kernel_rfl, by kernel_rfl, by kernel_rfl⟩, by kernel_rfl⟩
theorem e_ref15_Check : Entry Tryd.prog 13 f_ref15_Check := ⟨⟨Tryd.f13, Tryd.func13, by kernel_rfl, by kernel_rfl, by kernel_rfl⟩, by kernel_rfl⟩
theorem e_law15_RegexCheck : Entry Tryd.prog 3 f_law15_RegexCheck := ⟨⟨Tryd.f3, Tryd.func3, by kernel_rfl, by kernel_rfl, by kernel_rfl⟩, by kernel_rfl⟩
theorem e_ref15_Same : Entry Tryd.prog 17 f_ref15_Same := ⟨⟨Tryd.f17, Tryd.func17, by kernel_rfl, by kernel_rfl, by kernel_rfl⟩, by kernel_rfl⟩
theorem e_law15_RegexSame : Entry Tryd.prog 8 f_law15_RegexSame := ⟨⟨Tryd.f8, Tryd.func8, by kernel_rfl, by kernel_rfl, by kernel_rfl⟩, by kernel_rfl⟩
def tblL : List (Nat × Fun') := [(N_ref15_Size, .code f_ref15_Size),
  (N_law15_Large, .code f_law15_Large),
  (N_regex_parser_peek_r, .code f_regex_parser_peek_r),
  (N_field_canonical, .code f_field_canonical),
  (N_field_Number, .code f_field_Number),
  (N_regex_parser_number_r, .code f_regex_parser_number_r),
  (N_regex_parser_expect_rd, .code f_regex_parser_expect_rd),
  (N_regex_parser_atom_rd, .code f_regex_parser_atom_rd),
  (N_regex_parser_item_rd, .code f_regex_parser_item_rd),
  (N_regex_parser_sequence_rd, .code f_regex_parser_sequence_rd),
  (N_regex_parser_alternatives_rd, .code f_regex_parser_alternatives_rd),
  (N_regex_kids, .code f_regex_kids),
  (N_regex_node, .code f_regex_node),
  (N_regex_check_ddr, .code f_regex_check_ddr),
  (N_regex_Check, .code f_regex_Check),
  (N_strconv_Itoa, .nat natItoa),
  (N_field_Decimal, .code f_field_Decimal),
  (N_regex_repeats, .code f_regex_repeats),
  (N_regex_wrapped, .code f_regex_wrapped),
  (N_regex_inner, .code f_regex_inner),
  (N_regex_show, .code f_regex_show),
  (N_regex_Print, .code f_regex_Print),
  (N_regex_Parse, .dfr f_regex_Parse),
  (N_regex_well, .code f_regex_well),
  (N_regex_count, .code f_regex_count),
  (N_regex_places_add_rdd, .code f_regex_places_add_rdd),
  (N_regex_places_link_rdd, .code f_regex_places_link_rdd),
  (N_regex_join, .code f_regex_join),
  (N_regex_places_walk_rd, .code f_regex_places_walk_rd),
  (N_regex_Match, .code f_regex_Match),
  (N_regex_nullable, .code f_regex_nullable),
  (N_regex_Nullable, .code f_regex_Nullable),
  (N_regex_duplicate, .code f_regex_duplicate),
  (N_regex_nothing, .code f_regex_nothing),
  (N_regex_then, .code f_regex_then),
  (N_regex_rest, .code f_regex_rest),
  (N_regex_Same, .code f_regex_Same),
  (N_regex_either, .code f_regex_either),
  (N_regex_derive, .code f_regex_derive),
  (N_regex_Derive, .code f_regex_Derive),
  (N_law15_awake, .code f_law15_awake),
  (N_ref15_fields, .code f_ref15_fields),
  (N_ref15_check, .code f_ref15_check),
  (N_ref15_Check, .code f_ref15_Check),
  (N_law15_RegexCheck, .code f_law15_RegexCheck),
  (N_ref15_Same, .code f_ref15_Same),
  (N_law15_RegexSame, .code f_law15_RegexSame)]
abbrev tbl : Nat → Option Fun' := lookF tblL
theorem t_ref15_Size : tbl N_ref15_Size = some (.code f_ref15_Size) := by kernel_rfl
theorem t_law15_Large : tbl N_law15_Large = some (.code f_law15_Large) := by kernel_rfl
theorem t_regex_kids : tbl N_regex_kids = some (.code f_regex_kids) := by kernel_rfl
theorem t_regex_node : tbl N_regex_node = some (.code f_regex_node) := by kernel_rfl
theorem t_regex_check_ddr : tbl N_regex_check_ddr = some (.code f_regex_check_ddr) := by kernel_rfl
theorem t_regex_Check : tbl N_regex_Check = some (.code f_regex_Check) := by kernel_rfl
theorem t_regex_Same : tbl N_regex_Same = some (.code f_regex_Same) := by kernel_rfl
theorem t_law15_awake : tbl N_law15_awake = some (.code f_law15_awake) := by kernel_rfl
theorem t_ref15_fields : tbl N_ref15_fields = some (.code f_ref15_fields) := by kernel_rfl
theorem t_ref15_check : tbl N_ref15_check = some (.code f_ref15_check) := by kernel_rfl
theorem t_ref15_Check : tbl N_ref15_Check = some (.code f_ref15_Check) := by kernel_rfl
theorem t_law15_RegexCheck : tbl N_law15_RegexCheck = some (.code f_law15_RegexCheck) := by kernel_rfl
theorem t_ref15_Same : tbl N_ref15_Same = some (.code f_ref15_Same) := by kernel_rfl
theorem t_law15_RegexSame : tbl N_law15_RegexSame = some (.code f_law15_RegexSame) := by kernel_rfl
theorem tblOk : TblOk Tryd.prog tbl := AllOk.tbl (P := Tryd.prog) (l := tblL) ⟨e_ref15_Size, e_law15_Large, e_regex_parser_peek_r, e_field_canonical, e_field_Number, e_regex_parser_number_r, e_regex_parser_expect_rd, e_regex_parser_atom_rd, e_regex_parser_item_rd, e_regex_parser_sequence_rd, e_regex_parser_alternatives_rd, e_regex_kids, e_regex_node, e_regex_check_ddr, e_regex_Check, o_strconv_Itoa, e_field_Decimal, e_regex_repeats, e_regex_wrapped, e_regex_inner, e_regex_show, e_regex_Print, e_regex_Parse, e_regex_well, e_regex_count, e_regex_places_add_rdd, e_regex_places_link_rdd, e_regex_join, e_regex_places_walk_rd, e_regex_Match, e_regex_nullable, e_regex_Nullable, e_regex_duplicate, e_regex_nothing, e_regex_then, e_regex_rest, e_regex_Same, e_regex_either, e_regex_derive, e_regex_Derive, e_law15_awake, e_ref15_fields, e_ref15_check, e_ref15_Check, e_law15_RegexCheck, e_ref15_Same, e_law15_RegexSame, trivial⟩
end Go.Proofs.YtifgipebbagfcaaDoor
