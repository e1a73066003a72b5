/-
  THE LOADED FUNCTIONS ARE AS THEIR TYPED CODE SAYS: checked by the kernel, printed by program.
-/
import Derived.Test.YtbpdbooalkkenaaUTG3
import Derived.Test.YtbpdbooalkkenaaUL8
import Derived.Test.YtbpdbooalkkenaaRows
set_option linter.unusedVariables false
set_option linter.unusedSimpArgs false
namespace Go.Proofs.Ytbpdbooalkkenaa
open Go Go.Av Go.Ev
theorem e_dfa_Check : Entry Try.prog 12 f_dfa_Check := ⟨⟨Try.f12, Try.func12, by kernel_rfl, by kernel_rfl, by kernel_rfl⟩, by kernel_rfl⟩
theorem e_ref16_Check : Entry Try.prog 13 f_ref16_Check := ⟨⟨Try.f13, Try.func13, by kernel_rfl, by kernel_rfl, by kernel_rfl⟩, by kernel_rfl⟩
theorem e_law16_first : Entry Try.prog 36 f_law16_first := ⟨⟨Try.f36, Try.func36, by kernel_rfl, by kernel_rfl, by kernel_rfl⟩, by kernel_rfl⟩
theorem e_regex_kids : Entry Try.prog 79 f_regex_kids := ⟨⟨Try.f79, Try.func79, by kernel_rfl, by kernel_rfl, by kernel_rfl⟩, by kernel_rfl⟩
theorem e_regex_node : Entry Try.prog 74 f_regex_node := ⟨⟨Try.f74, Try.func74, by kernel_rfl, by kernel_rfl, by kernel_rfl⟩, by kernel_rfl⟩
theorem e_regex_check_ddr : Entry Try.prog 60 f_regex_check_ddr := ⟨⟨Try.f60, Try.func60, by kernel_rfl, by kernel_rfl, by kernel_rfl⟩, by kernel_rfl⟩
theorem e_regex_Check : Entry Try.prog 37 f_regex_Check := ⟨⟨Try.f37, Try.func37, by kernel_rfl, by kernel_rfl, by kernel_rfl⟩, by kernel_rfl⟩
theorem e_dfa_positions_add_rdd : Entry Try.prog 61 f_dfa_positions_add_rdd := ⟨⟨Try.f61, Try.func61, by kernel_rfl, by kernel_rfl, by kernel_rfl⟩, by kernel_rfl⟩
theorem e_dfa_positions_link_rdd : Entry Try.prog 62 f_dfa_positions_link_rdd := ⟨⟨Try.f62, Try.func62, by kernel_rfl, by kernel_rfl, by kernel_rfl⟩, by kernel_rfl⟩
theorem e_dfa_positions_walk_rd : Entry Try.prog 38 f_dfa_positions_walk_rd := ⟨⟨Try.f38, Try.func38, by kernel_rfl, by kernel_rfl, by kernel_rfl⟩, by kernel_rfl⟩
theorem e_dfa_merge : Entry Try.prog 63 f_dfa_merge := ⟨⟨Try.f63, Try.func63, by kernel_rfl, by kernel_rfl, by kernel_rfl⟩, by kernel_rfl⟩
theorem e_dfa_positions_starts_r : Entry Try.prog 39 f_dfa_positions_starts_r := ⟨⟨Try.f39, Try.func39, by kernel_rfl, by kernel_rfl, by kernel_rfl⟩, by kernel_rfl⟩
theorem e_dfa_positions_matching_rd : Entry Try.prog 40 f_dfa_positions_matching_rd := ⟨⟨Try.f40, Try.func40, by kernel_rfl, by kernel_rfl, by kernel_rfl⟩, by kernel_rfl⟩
theorem e_dfa_reachable : Entry Try.prog 64 f_dfa_reachable := ⟨⟨Try.f64, Try.func64, by kernel_rfl, by kernel_rfl, by kernel_rfl⟩, by kernel_rfl⟩
theorem e_dfa_signature : Entry Try.prog 78 f_dfa_signature := ⟨⟨Try.f78, Try.func78, by kernel_rfl, by kernel_rfl, by kernel_rfl⟩, by kernel_rfl⟩
theorem e_dfa_blocks : Entry Try.prog 65 f_dfa_blocks := ⟨⟨Try.f65, Try.func65, by kernel_rfl, by kernel_rfl, by kernel_rfl⟩, by kernel_rfl⟩
theorem e_dfa_numbered : Entry Try.prog 66 f_dfa_numbered := ⟨⟨Try.f66, Try.func66, by kernel_rfl, by kernel_rfl, by kernel_rfl⟩, by kernel_rfl⟩
theorem e_dfa_minimal : Entry Try.prog 41 f_dfa_minimal := ⟨⟨Try.f41, Try.func41, by kernel_rfl, by kernel_rfl, by kernel_rfl⟩, by kernel_rfl⟩
theorem e_dfa_Build : Entry Try.prog 16 f_dfa_Build := ⟨⟨Try.f16, Try.func16, by kernel_rfl, by kernel_rfl, by kernel_rfl⟩, by kernel_rfl⟩
theorem e_dfa_Witness_1_dpp : Entry Try.prog 48 f_dfa_Witness_1_dpp := ⟨⟨Try.f48, Try.func48, by kernel_rfl, by kernel_rfl, by kernel_rfl⟩, by kernel_rfl⟩
theorem e_dfa_class : Entry Try.prog 45 f_dfa_class := ⟨⟨Try.f45, Try.func45, by kernel_rfl, by kernel_rfl, by kernel_rfl⟩, by kernel_rfl⟩
theorem e_dfa_multiply_dddf : Entry Try.prog 47 f_dfa_multiply_dddf := ⟨⟨Try.f47, Try.func47, by kernel_rfl, by kernel_rfl, by kernel_rfl⟩, by kernel_rfl⟩
theorem e_dfa_Witness : Entry Try.prog 22 f_dfa_Witness := ⟨⟨Try.f22, Try.func22, by kernel_rfl, by kernel_rfl, by kernel_rfl⟩, by kernel_rfl⟩
theorem e_dfa_Not : Entry Try.prog 26 f_dfa_Not := ⟨⟨Try.f26, Try.func26, by kernel_rfl, by kernel_rfl, by kernel_rfl⟩, by kernel_rfl⟩
theorem e_dfa_Both_1 : Entry Try.prog 50 f_dfa_Both_1 := ⟨⟨Try.f50, Try.func50, by kernel_rfl, by kernel_rfl, by kernel_rfl⟩, by kernel_rfl⟩
theorem e_dfa_multiply_dddf_v1 : Entry Try.prog 47 f_dfa_multiply_dddf_v1 := ⟨⟨Try.f47, Try.func47, by kernel_rfl, by kernel_rfl, by kernel_rfl⟩, by kernel_rfl⟩
theorem e_dfa_Both : Entry Try.prog 28 f_dfa_Both := ⟨⟨Try.f28, Try.func28, by kernel_rfl, by kernel_rfl, by kernel_rfl⟩, by kernel_rfl⟩
theorem e_ref16_equal : Entry Try.prog 44 f_ref16_equal := ⟨⟨Try.f44, Try.func44, by kernel_rfl, by kernel_rfl, by kernel_rfl⟩, by kernel_rfl⟩
theorem e_ref16_Equal : Entry Try.prog 18 f_ref16_Equal := ⟨⟨Try.f18, Try.func18, by kernel_rfl, by kernel_rfl, by kernel_rfl⟩, by kernel_rfl⟩
theorem e_dfa_equal : Entry Try.prog 51 f_dfa_equal := ⟨⟨Try.f51, Try.func51, by kernel_rfl, by kernel_rfl, by kernel_rfl⟩, by kernel_rfl⟩
theorem e_dfa_Equal : Entry Try.prog 30 f_dfa_Equal := ⟨⟨Try.f30, Try.func30, by kernel_rfl, by kernel_rfl, by kernel_rfl⟩, by kernel_rfl⟩
theorem e_dfa_Match : Entry Try.prog 20 f_dfa_Match := ⟨⟨Try.f20, Try.func20, by kernel_rfl, by kernel_rfl, by kernel_rfl⟩, by kernel_rfl⟩
theorem e_dfa_Same : Entry Try.prog 24 f_dfa_Same := ⟨⟨Try.f24, Try.func24, by kernel_rfl, by kernel_rfl, by kernel_rfl⟩, by kernel_rfl⟩
theorem e_law16_awake : Entry Try.prog 14 f_law16_awake := ⟨⟨Try.f14, Try.func14, by kernel_rfl, by kernel_rfl, by kernel_rfl⟩, by kernel_rfl⟩
theorem e_law16_DfaCheck : Entry Try.prog 3 f_law16_DfaCheck := ⟨⟨Try.f3, Try.func3, by kernel_rfl, by kernel_rfl, by kernel_rfl⟩, by kernel_rfl⟩
theorem e_ref16_sorted : Entry Try.prog 68 f_ref16_sorted := ⟨⟨Try.f68, Try.func68, by kernel_rfl, by kernel_rfl, by kernel_rfl⟩, by kernel_rfl⟩
theorem e_law16_Large : Entry Try.prog 19 f_law16_Large := ⟨⟨Try.f19, Try.func19, by kernel_rfl, by kernel_rfl, by kernel_rfl⟩, by kernel_rfl⟩
theorem e_ref16_class : Entry Try.prog 46 f_ref16_class := ⟨⟨Try.f46, Try.func46, by kernel_rfl, by kernel_rfl, by kernel_rfl⟩, by kernel_rfl⟩
theorem e_ref16_Match : Entry Try.prog 21 f_ref16_Match := ⟨⟨Try.f21, Try.func21, by kernel_rfl, by kernel_rfl, by kernel_rfl⟩, by kernel_rfl⟩
theorem e_law16_DfaMatch : Entry Try.prog 5 f_law16_DfaMatch := ⟨⟨Try.f5, Try.func5, by kernel_rfl, by kernel_rfl, by kernel_rfl⟩, by kernel_rfl⟩
theorem e_ref16_pairs : Entry Try.prog 49 f_ref16_pairs := ⟨⟨Try.f49, Try.func49, by kernel_rfl, by kernel_rfl, by kernel_rfl⟩, by kernel_rfl⟩
theorem e_ref16_Witness : Entry Try.prog 23 f_ref16_Witness := ⟨⟨Try.f23, Try.func23, by kernel_rfl, by kernel_rfl, by kernel_rfl⟩, by kernel_rfl⟩
theorem e_ref16_Same : Entry Try.prog 25 f_ref16_Same := ⟨⟨Try.f25, Try.func25, by kernel_rfl, by kernel_rfl, by kernel_rfl⟩, by kernel_rfl⟩
theorem e_law16_DfaWitness : Entry Try.prog 6 f_law16_DfaWitness := ⟨⟨Try.f6, Try.func6, by kernel_rfl, by kernel_rfl, by kernel_rfl⟩, by kernel_rfl⟩
theorem e_ref16_Not : Entry Try.prog 27 f_ref16_Not := ⟨⟨Try.f27, Try.func27, by kernel_rfl, by kernel_rfl, by kernel_rfl⟩, by kernel_rfl⟩
theorem e_law16_DfaNot : Entry Try.prog 7 f_law16_DfaNot := ⟨⟨Try.f7, Try.func7, by kernel_rfl, by kernel_rfl, by kernel_rfl⟩, by kernel_rfl⟩
theorem e_law16_DfaEqual : Entry Try.prog 9 f_law16_DfaEqual := ⟨⟨Try.f9, Try.func9, by kernel_rfl, by kernel_rfl, by kernel_rfl⟩, by kernel_rfl⟩
def tblL : List (Nat × Fun') := [(N_dfa_Check, .code f_dfa_Check),
  (N_ref16_Check, .code f_ref16_Check),
  (N_law16_first, .code f_law16_first),
  (N_regex_kids, .code f_regex_kids),
  (N_regex_node, .code f_regex_node),
  (N_regex_check_ddr, .code f_regex_check_ddr),
  (N_regex_Check, .code f_regex_Check),
  (N_dfa_positions_add_rdd, .code f_dfa_positions_add_rdd),
  (N_dfa_positions_link_rdd, .code f_dfa_positions_link_rdd),
  (N_dfa_positions_walk_rd, .code f_dfa_positions_walk_rd),
  (N_dfa_merge, .code f_dfa_merge),
  (N_dfa_positions_starts_r, .code f_dfa_positions_starts_r),
  (N_dfa_positions_matching_rd, .code f_dfa_positions_matching_rd),
  (N_dfa_reachable, .code f_dfa_reachable),
  (N_dfa_signature, .code f_dfa_signature),
  (N_dfa_blocks, .code f_dfa_blocks),
  (N_dfa_numbered, .code f_dfa_numbered),
  (N_dfa_minimal, .code f_dfa_minimal),
  (N_dfa_Build, .code f_dfa_Build),
  (N_dfa_Witness_1_dpp, .code f_dfa_Witness_1_dpp),
  (N_dfa_class, .code f_dfa_class),
  (N_dfa_multiply_dddf, .code f_dfa_multiply_dddf),
  (N_dfa_Witness, .code f_dfa_Witness),
  (N_dfa_Not, .code f_dfa_Not),
  (N_dfa_Both_1, .code f_dfa_Both_1),
  (N_dfa_multiply_dddf_v1, .code f_dfa_multiply_dddf_v1),
  (N_dfa_Both, .code f_dfa_Both),
  (N_ref16_equal, .code f_ref16_equal),
  (N_ref16_Equal, .code f_ref16_Equal),
  (N_dfa_equal, .code f_dfa_equal),
  (N_dfa_Equal, .code f_dfa_Equal),
  (N_dfa_Match, .code f_dfa_Match),
  (N_dfa_Same, .code f_dfa_Same),
  (N_law16_awake, .code f_law16_awake),
  (N_law16_DfaCheck, .code f_law16_DfaCheck),
  (N_ref16_sorted, .code f_ref16_sorted),
  (N_law16_Large, .code f_law16_Large),
  (N_ref16_class, .code f_ref16_class),
  (N_ref16_Match, .code f_ref16_Match),
  (N_law16_DfaMatch, .code f_law16_DfaMatch),
  (N_ref16_pairs, .code f_ref16_pairs),
  (N_ref16_Witness, .code f_ref16_Witness),
  (N_ref16_Same, .code f_ref16_Same),
  (N_law16_DfaWitness, .code f_law16_DfaWitness),
  (N_ref16_Not, .code f_ref16_Not),
  (N_law16_DfaNot, .code f_law16_DfaNot),
  (N_law16_DfaEqual, .code f_law16_DfaEqual)]
abbrev tbl : Nat → Option Fun' := lookF tblL
theorem t_dfa_Check : tbl N_dfa_Check = some (.code f_dfa_Check) := by kernel_rfl
theorem t_ref16_Check : tbl N_ref16_Check = some (.code f_ref16_Check) := by kernel_rfl
theorem t_dfa_merge : tbl N_dfa_merge = some (.code f_dfa_merge) := by kernel_rfl
theorem t_dfa_Witness_1_dpp : tbl N_dfa_Witness_1_dpp = some (.code f_dfa_Witness_1_dpp) := by kernel_rfl
theorem t_dfa_class : tbl N_dfa_class = some (.code f_dfa_class) := by kernel_rfl
theorem t_dfa_multiply_dddf : tbl N_dfa_multiply_dddf = some (.code f_dfa_multiply_dddf) := by kernel_rfl
theorem t_dfa_Witness : tbl N_dfa_Witness = some (.code f_dfa_Witness) := by kernel_rfl
theorem t_dfa_Not : tbl N_dfa_Not = some (.code f_dfa_Not) := by kernel_rfl
theorem t_ref16_equal : tbl N_ref16_equal = some (.code f_ref16_equal) := by kernel_rfl
theorem t_ref16_Equal : tbl N_ref16_Equal = some (.code f_ref16_Equal) := by kernel_rfl
theorem t_dfa_equal : tbl N_dfa_equal = some (.code f_dfa_equal) := by kernel_rfl
theorem t_dfa_Equal : tbl N_dfa_Equal = some (.code f_dfa_Equal) := by kernel_rfl
theorem t_dfa_Match : tbl N_dfa_Match = some (.code f_dfa_Match) := by kernel_rfl
theorem t_dfa_Same : tbl N_dfa_Same = some (.code f_dfa_Same) := by kernel_rfl
theorem t_law16_DfaCheck : tbl N_law16_DfaCheck = some (.code f_law16_DfaCheck) := by kernel_rfl
theorem t_ref16_sorted : tbl N_ref16_sorted = some (.code f_ref16_sorted) := by kernel_rfl
theorem t_law16_Large : tbl N_law16_Large = some (.code f_law16_Large) := by kernel_rfl
theorem t_ref16_class : tbl N_ref16_class = some (.code f_ref16_class) := by kernel_rfl
theorem t_ref16_Match : tbl N_ref16_Match = some (.code f_ref16_Match) := by kernel_rfl
theorem t_law16_DfaMatch : tbl N_law16_DfaMatch = some (.code f_law16_DfaMatch) := by kernel_rfl
theorem t_ref16_pairs : tbl N_ref16_pairs = some (.code f_ref16_pairs) := by kernel_rfl
theorem t_ref16_Witness : tbl N_ref16_Witness = some (.code f_ref16_Witness) := by kernel_rfl
theorem t_ref16_Same : tbl N_ref16_Same = some (.code f_ref16_Same) := by kernel_rfl
theorem t_law16_DfaWitness : tbl N_law16_DfaWitness = some (.code f_law16_DfaWitness) := by kernel_rfl
theorem t_ref16_Not : tbl N_ref16_Not = some (.code f_ref16_Not) := by kernel_rfl
theorem t_law16_DfaNot : tbl N_law16_DfaNot = some (.code f_law16_DfaNot) := by kernel_rfl
theorem t_law16_DfaEqual : tbl N_law16_DfaEqual = some (.code f_law16_DfaEqual) := by kernel_rfl
theorem tblOk : TblOk Try.prog tbl := AllOk.tbl (P := Try.prog) (l := tblL) ⟨e_dfa_Check, e_ref16_Check, e_law16_first, e_regex_kids, e_regex_node, e_regex_check_ddr, e_regex_Check, e_dfa_positions_add_rdd, e_dfa_positions_link_rdd, e_dfa_positions_walk_rd, e_dfa_merge, e_dfa_positions_starts_r, e_dfa_positions_matching_rd, e_dfa_reachable, e_dfa_signature, e_dfa_blocks, e_dfa_numbered, e_dfa_minimal, e_dfa_Build, e_dfa_Witness_1_dpp, e_dfa_class, e_dfa_multiply_dddf, e_dfa_Witness, e_dfa_Not, e_dfa_Both_1, e_dfa_multiply_dddf_v1, e_dfa_Both, e_ref16_equal, e_ref16_Equal, e_dfa_equal, e_dfa_Equal, e_dfa_Match, e_dfa_Same, e_law16_awake, e_law16_DfaCheck, e_ref16_sorted, e_law16_Large, e_ref16_class, e_ref16_Match, e_law16_DfaMatch, e_ref16_pairs, e_ref16_Witness, e_ref16_Same, e_law16_DfaWitness, e_ref16_Not, e_law16_DfaNot, e_law16_DfaEqual, trivial⟩
end Go.Proofs.Ytbpdbooalkkenaa
