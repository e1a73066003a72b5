import Derived.Test.YtfgchoifgocclaaDoorKTG1
import Derived.Test.YtfgchoifgocclaaDoorKL8
import Derived.Test.YtfgchoifgocclaaDoorRows
import Derived.Test.YtfgchoifgocclaaDoorKBn
set_option linter.all false
/-
  THE LOADED FUNCTIONS ARE AS THEIR TYPED CODE SAYS: checked by the kernel, printed by program.
-/
namespace Go.Proofs.YtfgchoifgocclaaDoor
open Go Go.Av Go.Ev
theorem o_strconv_Itoa : OkE Tryd.prog N_strconv_Itoa (.nat natItoa) := nat_itoa Tryd.strconv_Itoa
theorem e_community_Check : Entry Tryd.prog 9 f_community_Check := ⟨⟨Tryd.f9, Tryd.func9, by kernel_rfl, by kernel_rfl, by kernel_rfl⟩, by kernel_rfl⟩
theorem e_ref18_Check : Entry Tryd.prog 10 f_ref18_Check := ⟨⟨Tryd.f10, Tryd.func10, by kernel_rfl, by kernel_rfl, by kernel_rfl⟩, by kernel_rfl⟩
theorem e_community_names : Entry Tryd.prog 29 f_community_names := ⟨⟨Tryd.f29, Tryd.func29, by kernel_rfl, by kernel_rfl, by kernel_rfl⟩, by kernel_rfl⟩
theorem e_field_canonical : Entry Tryd.prog 38 f_field_canonical := ⟨⟨Tryd.f38, Tryd.func38, by kernel_rfl, by kernel_rfl, by kernel_rfl⟩, by kernel_rfl⟩
theorem e_field_Number : Entry Tryd.prog 31 f_field_Number := ⟨⟨Tryd.f31, Tryd.func31, by kernel_rfl, by kernel_rfl, by kernel_rfl⟩, by kernel_rfl⟩
theorem e_field_Decimal : Entry Tryd.prog 30 f_field_Decimal := ⟨⟨Tryd.f30, Tryd.func30, by kernel_rfl, by kernel_rfl, by kernel_rfl⟩, by kernel_rfl⟩
theorem e_community_Text : Entry Tryd.prog 12 f_community_Text := ⟨⟨Tryd.f12, Tryd.func12, by kernel_rfl, by kernel_rfl, by kernel_rfl⟩, by kernel_rfl⟩
theorem e_community_Parse : Entry Tryd.prog 13 f_community_Parse := ⟨⟨Tryd.f13, Tryd.func13, by kernel_rfl, by kernel_rfl, by kernel_rfl⟩, by kernel_rfl⟩
theorem e_community_insert_uint32 : Entry Tryd.prog 35 f_community_insert_uint32 := ⟨⟨Tryd.f35, Tryd.func35, by kernel_rfl, by kernel_rfl, by kernel_rfl⟩, by kernel_rfl⟩
theorem e_community_sorted_uint32 : Entry Tryd.prog 34 f_community_sorted_uint32 := ⟨⟨Tryd.f34, Tryd.func34, by kernel_rfl, by kernel_rfl, by kernel_rfl⟩, by kernel_rfl⟩
theorem e_community_has_uint32 : Entry Tryd.prog 33 f_community_has_uint32 := ⟨⟨Tryd.f33, Tryd.func33, by kernel_rfl, by kernel_rfl, by kernel_rfl⟩, by kernel_rfl⟩
theorem e_community_Add : Entry Tryd.prog 19 f_community_Add := ⟨⟨Tryd.f19, Tryd.func19, by kernel_rfl, by kernel_rfl, by kernel_rfl⟩, by kernel_rfl⟩
theorem e_community_Has : Entry Tryd.prog 16 f_community_Has := ⟨⟨Tryd.f16, Tryd.func16, by kernel_rfl, by kernel_rfl, by kernel_rfl⟩, by kernel_rfl⟩
theorem e_community_Drop : Entry Tryd.prog 21 f_community_Drop := ⟨⟨Tryd.f21, Tryd.func21, by kernel_rfl, by kernel_rfl, by kernel_rfl⟩, by kernel_rfl⟩
theorem e_community_Join : Entry Tryd.prog 23 f_community_Join := ⟨⟨Tryd.f23, Tryd.func23, by kernel_rfl, by kernel_rfl, by kernel_rfl⟩, by kernel_rfl⟩
theorem e_community_Match : Entry Tryd.prog 25 f_community_Match := ⟨⟨Tryd.f25, Tryd.func25, by kernel_rfl, by kernel_rfl, by kernel_rfl⟩, by kernel_rfl⟩
theorem e_community_Permits : Entry Tryd.prog 27 f_community_Permits := ⟨⟨Tryd.f27, Tryd.func27, by kernel_rfl, by kernel_rfl, by kernel_rfl⟩, by kernel_rfl⟩
theorem e_law18_awake : Entry Tryd.prog 11 f_law18_awake := ⟨⟨Tryd.f11, Tryd.func11, by kernel_rfl, by kernel_rfl, by kernel_rfl⟩, by kernel_rfl⟩
theorem e_law18_CommunityCheck : Entry Tryd.prog 3 f_law18_CommunityCheck := ⟨⟨Tryd.f3, Tryd.func3, by kernel_rfl, by kernel_rfl, by kernel_rfl⟩, by kernel_rfl⟩
theorem e_ref03_digits : Entry Tryd.prog 39 f_ref03_digits := ⟨⟨Tryd.f39, Tryd.func39, by kernel_rfl, by kernel_rfl, by kernel_rfl⟩, by kernel_rfl⟩
theorem e_ref03_Decimal : Entry Tryd.prog 32 f_ref03_Decimal := ⟨⟨Tryd.f32, Tryd.func32, by kernel_rfl, by kernel_rfl, by kernel_rfl⟩, by kernel_rfl⟩
theorem e_ref18_Text : Entry Tryd.prog 14 f_ref18_Text := ⟨⟨Tryd.f14, Tryd.func14, by kernel_rfl, by kernel_rfl, by kernel_rfl⟩, by kernel_rfl⟩
theorem e_law18_CommunityBack : Entry Tryd.prog 4 f_law18_CommunityBack := ⟨⟨Tryd.f4, Tryd.func4, by kernel_rfl, by kernel_rfl, by kernel_rfl⟩, by kernel_rfl⟩
theorem e_ref18_Parse : Entry Tryd.prog 15 f_ref18_Parse := ⟨⟨Tryd.f15, Tryd.func15, by kernel_rfl, by kernel_rfl, by kernel_rfl⟩, by kernel_rfl⟩
theorem e_law18_CommunityParse : Entry Tryd.prog 5 f_law18_CommunityParse := ⟨⟨Tryd.f5, Tryd.func5, by kernel_rfl, by kernel_rfl, by kernel_rfl⟩, by kernel_rfl⟩
theorem e_ref18_Has : Entry Tryd.prog 17 f_ref18_Has := ⟨⟨Tryd.f17, Tryd.func17, by kernel_rfl, by kernel_rfl, by kernel_rfl⟩, by kernel_rfl⟩
theorem e_ref18_ascending_d_o1 : Entry Tryd.prog 36 f_ref18_ascending_d_o1 := ⟨⟨Tryd.f36, Tryd.func36, by kernel_rfl, by kernel_rfl, by kernel_rfl⟩, by kernel_rfl⟩
theorem e_ref18_ascending : Entry Tryd.prog 36 f_ref18_ascending := ⟨⟨Tryd.f36, Tryd.func36, by kernel_rfl, by kernel_rfl, by kernel_rfl⟩, by kernel_rfl⟩
theorem e_ref18_Add : Entry Tryd.prog 20 f_ref18_Add := ⟨⟨Tryd.f20, Tryd.func20, by kernel_rfl, by kernel_rfl, by kernel_rfl⟩, by kernel_rfl⟩
theorem e_ref18_Same : Entry Tryd.prog 18 f_ref18_Same := ⟨⟨Tryd.f18, Tryd.func18, by kernel_rfl, by kernel_rfl, by kernel_rfl⟩, by kernel_rfl⟩
theorem e_ref18_Drop : Entry Tryd.prog 22 f_ref18_Drop := ⟨⟨Tryd.f22, Tryd.func22, by kernel_rfl, by kernel_rfl, by kernel_rfl⟩, by kernel_rfl⟩
theorem e_ref18_Join : Entry Tryd.prog 24 f_ref18_Join := ⟨⟨Tryd.f24, Tryd.func24, by kernel_rfl, by kernel_rfl, by kernel_rfl⟩, by kernel_rfl⟩
theorem e_law18_CommunityChange : Entry Tryd.prog 6 f_law18_CommunityChange := ⟨⟨Tryd.f6, Tryd.func6, by kernel_rfl, by kernel_rfl, by kernel_rfl⟩, by kernel_rfl⟩
theorem e_ref18_Match : Entry Tryd.prog 26 f_ref18_Match := ⟨⟨Tryd.f26, Tryd.func26, by kernel_rfl, by kernel_rfl, by kernel_rfl⟩, by kernel_rfl⟩
theorem e_ref18_Permits : Entry Tryd.prog 28 f_ref18_Permits := ⟨⟨Tryd.f28, Tryd.func28, by kernel_rfl, by kernel_rfl, by kernel_rfl⟩, by kernel_rfl⟩
theorem e_law18_CommunityPermits : Entry Tryd.prog 7 f_law18_CommunityPermits := ⟨⟨Tryd.f7, Tryd.func7, by kernel_rfl, by kernel_rfl, by kernel_rfl⟩, by kernel_rfl⟩
theorem e_law18_CommunitySets : Entry Tryd.prog 8 f_law18_CommunitySets := ⟨⟨Tryd.f8, Tryd.func8, by kernel_rfl, by kernel_rfl, by kernel_rfl⟩, by kernel_rfl⟩
def tblL : List (Nat × Fun') := [(N_community_Check, .code f_community_Check),
  (N_ref18_Check, .code f_ref18_Check),
  (N_community_names, .code f_community_names),
  (N_field_canonical, .code f_field_canonical),
  (N_field_Number, .code f_field_Number),
  (N_strconv_Itoa, .nat natItoa),
  (N_field_Decimal, .code f_field_Decimal),
  (N_community_Text, .code f_community_Text),
  (N_community_Parse, .code f_community_Parse),
  (N_community_insert_uint32, .code f_community_insert_uint32),
  (N_community_sorted_uint32, .code f_community_sorted_uint32),
  (N_community_has_uint32, .code f_community_has_uint32),
  (N_community_Add, .code f_community_Add),
  (N_community_Has, .code f_community_Has),
  (N_community_Drop, .code f_community_Drop),
  (N_community_Join, .code f_community_Join),
  (N_community_Match, .code f_community_Match),
  (N_community_Permits, .code f_community_Permits),
  (N_law18_awake, .code f_law18_awake),
  (N_law18_CommunityCheck, .code f_law18_CommunityCheck),
  (N_ref03_digits, .code f_ref03_digits),
  (N_ref03_Decimal, .code f_ref03_Decimal),
  (N_ref18_Text, .code f_ref18_Text),
  (N_law18_CommunityBack, .code f_law18_CommunityBack),
  (N_ref18_Parse, .code f_ref18_Parse),
  (N_law18_CommunityParse, .code f_law18_CommunityParse),
  (N_ref18_Has, .code f_ref18_Has),
  (N_ref18_ascending_d_o1, .code f_ref18_ascending_d_o1),
  (N_ref18_ascending, .code f_ref18_ascending),
  (N_ref18_Add, .code f_ref18_Add),
  (N_ref18_Same, .code f_ref18_Same),
  (N_ref18_Drop, .code f_ref18_Drop),
  (N_ref18_Join, .code f_ref18_Join),
  (N_law18_CommunityChange, .code f_law18_CommunityChange),
  (N_ref18_Match, .code f_ref18_Match),
  (N_ref18_Permits, .code f_ref18_Permits),
  (N_law18_CommunityPermits, .code f_law18_CommunityPermits),
  (N_law18_CommunitySets, .code f_law18_CommunitySets)]
abbrev tbl : Nat → Option Fun' := lookF tblL
theorem t_community_Check : tbl N_community_Check = some (.code f_community_Check) := by kernel_rfl
theorem t_ref18_Check : tbl N_ref18_Check = some (.code f_ref18_Check) := by kernel_rfl
theorem t_community_names : tbl N_community_names = some (.code f_community_names) := by kernel_rfl
theorem t_field_canonical : tbl N_field_canonical = some (.code f_field_canonical) := by kernel_rfl
theorem t_field_Number : tbl N_field_Number = some (.code f_field_Number) := by kernel_rfl
theorem t_strconv_Itoa : tbl N_strconv_Itoa = some (.nat natItoa) := by kernel_rfl
theorem t_field_Decimal : tbl N_field_Decimal = some (.code f_field_Decimal) := by kernel_rfl
theorem t_community_Text : tbl N_community_Text = some (.code f_community_Text) := by kernel_rfl
theorem t_community_Parse : tbl N_community_Parse = some (.code f_community_Parse) := by kernel_rfl
theorem t_community_insert_uint32 : tbl N_community_insert_uint32 = some (.code f_community_insert_uint32) := by kernel_rfl
theorem t_community_sorted_uint32 : tbl N_community_sorted_uint32 = some (.code f_community_sorted_uint32) := by kernel_rfl
theorem t_community_has_uint32 : tbl N_community_has_uint32 = some (.code f_community_has_uint32) := by kernel_rfl
theorem t_community_Add : tbl N_community_Add = some (.code f_community_Add) := by kernel_rfl
theorem t_community_Has : tbl N_community_Has = some (.code f_community_Has) := by kernel_rfl
theorem t_community_Drop : tbl N_community_Drop = some (.code f_community_Drop) := by kernel_rfl
theorem t_community_Join : tbl N_community_Join = some (.code f_community_Join) := by kernel_rfl
theorem t_community_Match : tbl N_community_Match = some (.code f_community_Match) := by kernel_rfl
theorem t_community_Permits : tbl N_community_Permits = some (.code f_community_Permits) := by kernel_rfl
theorem t_law18_awake : tbl N_law18_awake = some (.code f_law18_awake) := by kernel_rfl
theorem t_law18_CommunityCheck : tbl N_law18_CommunityCheck = some (.code f_law18_CommunityCheck) := by kernel_rfl
theorem t_ref03_digits : tbl N_ref03_digits = some (.code f_ref03_digits) := by kernel_rfl
theorem t_ref03_Decimal : tbl N_ref03_Decimal = some (.code f_ref03_Decimal) := by kernel_rfl
theorem t_ref18_Text : tbl N_ref18_Text = some (.code f_ref18_Text) := by kernel_rfl
theorem t_law18_CommunityBack : tbl N_law18_CommunityBack = some (.code f_law18_CommunityBack) := by kernel_rfl
theorem t_ref18_Parse : tbl N_ref18_Parse = some (.code f_ref18_Parse) := by kernel_rfl
theorem t_law18_CommunityParse : tbl N_law18_CommunityParse = some (.code f_law18_CommunityParse) := by kernel_rfl
theorem t_ref18_Has : tbl N_ref18_Has = some (.code f_ref18_Has) := by kernel_rfl
theorem t_ref18_ascending_d_o1 : tbl N_ref18_ascending_d_o1 = some (.code f_ref18_ascending_d_o1) := by kernel_rfl
theorem t_ref18_ascending : tbl N_ref18_ascending = some (.code f_ref18_ascending) := by kernel_rfl
theorem t_ref18_Add : tbl N_ref18_Add = some (.code f_ref18_Add) := by kernel_rfl
theorem t_ref18_Same : tbl N_ref18_Same = some (.code f_ref18_Same) := by kernel_rfl
theorem t_ref18_Drop : tbl N_ref18_Drop = some (.code f_ref18_Drop) := by kernel_rfl
theorem t_ref18_Join : tbl N_ref18_Join = some (.code f_ref18_Join) := by kernel_rfl
theorem t_law18_CommunityChange : tbl N_law18_CommunityChange = some (.code f_law18_CommunityChange) := by kernel_rfl
theorem t_ref18_Match : tbl N_ref18_Match = some (.code f_ref18_Match) := by kernel_rfl
theorem t_ref18_Permits : tbl N_ref18_Permits = some (.code f_ref18_Permits) := by kernel_rfl
theorem t_law18_CommunityPermits : tbl N_law18_CommunityPermits = some (.code f_law18_CommunityPermits) := by kernel_rfl
theorem t_law18_CommunitySets : tbl N_law18_CommunitySets = some (.code f_law18_CommunitySets) := by kernel_rfl
theorem tblOk : TblOk Tryd.prog tbl := AllOk.tbl (P := Tryd.prog) (l := tblL) ⟨e_community_Check, e_ref18_Check, e_community_names, e_field_canonical, e_field_Number, o_strconv_Itoa, e_field_Decimal, e_community_Text, e_community_Parse, e_community_insert_uint32, e_community_sorted_uint32, e_community_has_uint32, e_community_Add, e_community_Has, e_community_Drop, e_community_Join, e_community_Match, e_community_Permits, e_law18_awake, e_law18_CommunityCheck, e_ref03_digits, e_ref03_Decimal, e_ref18_Text, e_law18_CommunityBack, e_ref18_Parse, e_law18_CommunityParse, e_ref18_Has, e_ref18_ascending_d_o1, e_ref18_ascending, e_ref18_Add, e_ref18_Same, e_ref18_Drop, e_ref18_Join, e_law18_CommunityChange, e_ref18_Match, e_ref18_Permits, e_law18_CommunityPermits, e_law18_CommunitySets, trivial⟩

end Go.Proofs.YtfgchoifgocclaaDoor
