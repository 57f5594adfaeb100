/-
  The abstract machine's functions are the dump's. By program.
-/
import Derived.Test.YtcdbpkfbnhjgdaaGreatDoorRows
import Derived.Test.YtcdbpkfbnhjgdaaGreatDoorAmSound
import Derived.Test.YtcdbpkfbnhjgdaaGreatDoorFns
set_option linter.all false
set_option linter.unusedVariables false
set_option linter.unusedSimpArgs false
set_option linter.unusedSectionVars false
set_option maxRecDepth 100000
namespace Go.Proofs.YtcdbpkfbnhjgdaaGreatDoor
open Go.Proofs.YtcdbpkfbnhjgdaaGreatDoor.Am Go.Proofs
def gt : Nat → Option (List AV)
  | _ => none
theorem l_touchstonelaw13_MovesNames : compF Tryz.prog gt false false [2000000010] Tryz.f7 = some c_touchstonelaw13_MovesNames := by kernel_rfl
theorem l_ftree_New : compF Tryz.prog gt false false [] Tryz.f16 = some c_ftree_New := by kernel_rfl
theorem l_ftree_Tree_Root : compF Tryz.prog gt false false [] Tryz.f18 = some c_ftree_Tree_Root := by kernel_rfl
theorem l_touchstoneref07_Same : compF Tryz.prog gt false false [] Tryz.f19 = some c_touchstoneref07_Same := by kernel_rfl
theorem l_ftree_Well : compF Tryz.prog gt false false [] Tryz.f20 = some c_ftree_Well := by kernel_rfl
theorem l_ftree_Tree_Kind : compF Tryz.prog gt false false [] Tryz.f24 = some c_ftree_Tree_Kind := by kernel_rfl
theorem l_walk_Spot : compF Tryz.prog gt false false [] Tryz.f25 = some c_walk_Spot := by kernel_rfl
theorem l_walk_Find : compF Tryz.prog gt false false [] Tryz.f26 = some c_walk_Find := by kernel_rfl
theorem l_touchstonelaw13_works : compF Tryz.prog gt false false [2000000002, 2000000004] Tryz.f27 = some c_touchstonelaw13_works := by kernel_rfl
theorem l_path_Check : compF Tryz.prog gt false false [] Tryz.f30 = some c_path_Check := by kernel_rfl
theorem l_moves_Run : compF Tryz.prog gt false false [] Tryz.f32 = some c_moves_Run := by kernel_rfl
theorem l_touchstonelaw13_dir : compF Tryz.prog gt false false [] Tryz.f33 = some c_touchstonelaw13_dir := by kernel_rfl
theorem l_moves_Why : compF Tryz.prog gt false false [] Tryz.f34 = some c_moves_Why := by kernel_rfl
theorem l_touchstonelaw13_file : compF Tryz.prog gt false false [] Tryz.f35 = some c_touchstonelaw13_file := by kernel_rfl
theorem l_touchstonelaw13_link : compF Tryz.prog gt false false [] Tryz.f36 = some c_touchstonelaw13_link := by kernel_rfl
theorem l_touchstonelaw13_many : compF Tryz.prog gt false false [1000005003] Tryz.f37 = some c_touchstonelaw13_many := by kernel_rfl
theorem l_touchstonelaw13_runs : compF Tryz.prog gt false false [] Tryz.f38 = some c_touchstonelaw13_runs := by kernel_rfl
theorem l_touchstonelaw13_done : compF Tryz.prog gt false false [2000000002, 2000000005, 2000000006] Tryz.f39 = some c_touchstonelaw13_done := by kernel_rfl
theorem l_ftree_Nodes : compF Tryz.prog gt false false [] Tryz.f42 = some c_ftree_Nodes := by kernel_rfl
theorem l_ftree_May : compF Tryz.prog gt false false [] Tryz.f67 = some c_ftree_May := by kernel_rfl
theorem l_ftree_own : compF Tryz.prog gt false false [] Tryz.f68 = some c_ftree_own := by kernel_rfl
theorem l_opts_Parse : compF Tryz.prog gt false false [2000000030] Tryz.f70 = some c_opts_Parse := by kernel_rfl
theorem l_strings_IndexByte : compF Tryz.prog gt false false [] Tryz.f71 = some c_strings_IndexByte := by kernel_rfl
theorem l_path_Name : compF Tryz.prog gt false false [] Tryz.f72 = some c_path_Name := by kernel_rfl
theorem l_ftree_Tree_at : compF Tryz.prog gt false false [] Tryz.f73 = some c_ftree_Tree_at := by kernel_rfl
theorem l_walk_walk : compF Tryz.prog gt false false [] Tryz.f74 = some c_walk_walk := by kernel_rfl
theorem l_strings_Contains : compF Tryz.prog gt false false [] Tryz.f75 = some c_strings_Contains := by kernel_rfl
theorem l_path_steps : compF Tryz.prog gt false false [] Tryz.f76 = some c_path_steps := by kernel_rfl
theorem l_strings_Join : compF Tryz.prog gt false false [] Tryz.f77 = some c_strings_Join := by kernel_rfl
theorem l_moves_utilities : compF Tryz.prog gt false false [] Tryz.f78 = some c_moves_utilities := by kernel_rfl
theorem l_opts_Opts_Has : compF Tryz.prog gt false false [] Tryz.f79 = some c_opts_Opts_Has := by kernel_rfl
theorem l_moves_call_refuse : compF Tryz.prog gt false false [] Tryz.f80 = some c_moves_call_refuse := by kernel_rfl
theorem l_moves_call_look : compF Tryz.prog gt false false [] Tryz.f81 = some c_moves_call_look := by kernel_rfl
theorem l_moves_call_source : compF Tryz.prog gt false false [] Tryz.f82 = some c_moves_call_source := by kernel_rfl
theorem l_path_Last : compF Tryz.prog gt false false [] Tryz.f83 = some c_path_Last := by kernel_rfl
theorem l_ftree_find : compF Tryz.prog gt false false [] Tryz.f84 = some c_ftree_find := by kernel_rfl
theorem l_pat_May : compF Tryz.prog gt false false [1000014003] Tryz.f108 = some c_pat_May := by kernel_rfl
theorem l_slices_Clone_string_string : compF Tryz.prog gt true false [] Tryz.f110 = some c_slices_Clone_string_string := by kernel_rfl
theorem l_ftree_depth : compF Tryz.prog gt false false [] Tryz.f115 = some c_ftree_depth := by kernel_rfl
theorem l_opts_letter : compF Tryz.prog gt false false [] Tryz.f122 = some c_opts_letter := by kernel_rfl
theorem l_internal_stringslite_IndexByte : compF Tryz.prog gt false false [] Tryz.f123 = some c_internal_stringslite_IndexByte := by kernel_rfl
theorem l_strings_ContainsAny : compF Tryz.prog gt false false [] Tryz.f124 = some c_strings_ContainsAny := by kernel_rfl
theorem l_path_Steps : compF Tryz.prog gt false false [] Tryz.f125 = some c_path_Steps := by kernel_rfl
theorem l_path_Dir : compF Tryz.prog gt false false [] Tryz.f126 = some c_path_Dir := by kernel_rfl
theorem l_walk_walker_run : compF Tryz.prog gt false false [5] Tryz.f127 = some c_walk_walker_run := by kernel_rfl
theorem l_strings_Index : compF Tryz.prog gt false false [] Tryz.f128 = some c_strings_Index := by kernel_rfl
theorem l_path_steps_1 : compF Tryz.prog gt false false [] Tryz.f129 = some c_path_steps_1 := by kernel_rfl
theorem l_strings_SplitSeq : compF Tryz.prog gt false false [] Tryz.f130 = some c_strings_SplitSeq := by kernel_rfl
theorem l_strings_Builder_Grow : compF Tryz.prog gt false false [] Tryz.f131 = some c_strings_Builder_Grow := by kernel_rfl
theorem l_strings_Builder_WriteString : compF Tryz.prog gt false false [] Tryz.f132 = some c_strings_Builder_WriteString := by kernel_rfl
theorem l_strings_Builder_String : compF Tryz.prog gt false false [] Tryz.f133 = some c_strings_Builder_String := by kernel_rfl
theorem l_moves_spot : compF Tryz.prog gt false false [] Tryz.f134 = some c_moves_spot := by kernel_rfl
theorem l_moves_itself : compF Tryz.prog gt false false [] Tryz.f135 = some c_moves_itself := by kernel_rfl
theorem l_moves_rename : compF Tryz.prog gt false false [] Tryz.f136 = some c_moves_rename := by kernel_rfl
theorem l_moves_find : compF Tryz.prog gt false false [] Tryz.f137 = some c_moves_find := by kernel_rfl
theorem l_moves_there : compF Tryz.prog gt false false [] Tryz.f138 = some c_moves_there := by kernel_rfl
theorem l_moves_copyOf : compF Tryz.prog gt false false [] Tryz.f139 = some c_moves_copyOf := by kernel_rfl
theorem l_moves_text : compF Tryz.prog gt false false [] Tryz.f140 = some c_moves_text := by kernel_rfl
theorem l_moves_link : compF Tryz.prog gt false false [] Tryz.f141 = some c_moves_link := by kernel_rfl
theorem l_moves_call_lost : compF Tryz.prog gt false false [] Tryz.f142 = some c_moves_call_lost := by kernel_rfl
theorem l_moves_call_to : compF Tryz.prog gt false false [] Tryz.f143 = some c_moves_call_to := by kernel_rfl
theorem l_strings_TrimRight : compF Tryz.prog gt false false [] Tryz.f144 = some c_strings_TrimRight := by kernel_rfl
theorem l_strings_LastIndexByte : compF Tryz.prog gt false false [] Tryz.f145 = some c_strings_LastIndexByte := by kernel_rfl
theorem l_slices_BinarySearch_string_string : compF Tryz.prog gt false false [] Tryz.f146 = some c_slices_BinarySearch_string_string := by kernel_rfl
theorem l_strings_HasPrefix : compF Tryz.prog gt false false [] Tryz.f152 = some c_strings_HasPrefix := by kernel_rfl
theorem l_pat_dir : compF Tryz.prog gt false false [] Tryz.f167 = some c_pat_dir := by kernel_rfl
theorem l_pat_one : compF Tryz.prog gt false false [] Tryz.f168 = some c_pat_one := by kernel_rfl
theorem l_slices_ContainsFunc_int_int : compF Tryz.prog gt false false [] Tryz.f169 = some c_slices_ContainsFunc_int_int := by kernel_rfl
theorem l_pat_May_1 : compF Tryz.prog gt false false [] Tryz.f170 = some c_pat_May_1 := by kernel_rfl
theorem l_prim_Unlink : compF Tryz.prog gt false false [] Tryz.f185 = some c_prim_Unlink := by kernel_rfl
theorem l_strings_IndexAny : compF Tryz.prog gt false false [] Tryz.f188 = some c_strings_IndexAny := by kernel_rfl
theorem l_slices_Collect_string : compF Tryz.prog gt false false [] Tryz.f189 = some c_slices_Collect_string := by kernel_rfl
theorem l_walk_walker_name : compF Tryz.prog gt false false [] Tryz.f190 = some c_walk_walker_name := by kernel_rfl
theorem l_internal_stringslite_Index : compF Tryz.prog gt false false [] Tryz.f191 = some c_internal_stringslite_Index := by kernel_rfl
theorem l_strings_splitSeq : compF Tryz.prog gt false false [] Tryz.f192 = some c_strings_splitSeq := by kernel_rfl
theorem l_strings_Builder_copyCheck : compF Tryz.prog gt false false [] Tryz.f193 = some c_strings_Builder_copyCheck := by kernel_rfl
theorem l_strings_Builder_grow : compF Tryz.prog gt false false [0] Tryz.f194 = some c_strings_Builder_grow := by kernel_rfl
theorem l_moves_found : compF Tryz.prog gt false false [] Tryz.f195 = some c_moves_found := by kernel_rfl
theorem l_prim_Rename : compF Tryz.prog gt false false [] Tryz.f196 = some c_prim_Rename := by kernel_rfl
theorem l_moves_call_deep : compF Tryz.prog gt false false [] Tryz.f197 = some c_moves_call_deep := by kernel_rfl
theorem l_prim_Copy : compF Tryz.prog gt false false [] Tryz.f198 = some c_prim_Copy := by kernel_rfl
theorem l_prim_MakeLink : compF Tryz.prog gt false false [] Tryz.f199 = some c_prim_MakeLink := by kernel_rfl
theorem l_strings_trimRightByte : compF Tryz.prog gt false false [2] Tryz.f200 = some c_strings_trimRightByte := by kernel_rfl
theorem l_strings_makeASCIISet : compF Tryz.prog gt false false [] Tryz.f201 = some c_strings_makeASCIISet := by kernel_rfl
theorem l_strings_trimRightASCII : compF Tryz.prog gt false false [3] Tryz.f202 = some c_strings_trimRightASCII := by kernel_rfl
theorem l_strings_trimRightUnicode : compF Tryz.prog gt false false [6] Tryz.f203 = some c_strings_trimRightUnicode := by kernel_rfl
theorem l_internal_bytealg_LastIndexByteString : compF Tryz.prog gt false false [] Tryz.f204 = some c_internal_bytealg_LastIndexByteString := by kernel_rfl
theorem l_cmp_Less_string : compF Tryz.prog gt false false [] Tryz.f205 = some c_cmp_Less_string := by kernel_rfl
theorem l_slices_isNaN_string : compF Tryz.prog gt false false [] Tryz.f206 = some c_slices_isNaN_string := by kernel_rfl
theorem l_internal_stringslite_HasPrefix : compF Tryz.prog gt false false [] Tryz.f209 = some c_internal_stringslite_HasPrefix := by kernel_rfl
theorem l_math_bits_Len : compF Tryz.prog gt false false [] Tryz.f214 = some c_math_bits_Len := by kernel_rfl
theorem l_slices_IndexFunc_int_int : compF Tryz.prog gt false false [] Tryz.f217 = some c_slices_IndexFunc_int_int := by kernel_rfl
theorem l_sym_ref : compF Tryz.prog gt false false [] Tryz.f219 = some c_sym_ref := by kernel_rfl
theorem l_prim_put : compF Tryz.prog gt false false [] Tryz.f231 = some c_prim_put := by kernel_rfl
theorem l_prim_remove : compF Tryz.prog gt false false [] Tryz.f232 = some c_prim_remove := by kernel_rfl
theorem l_prim_at : compF Tryz.prog gt false false [] Tryz.f234 = some c_prim_at := by kernel_rfl
theorem l_prim_Unlink_1 : compF Tryz.prog gt false false [] Tryz.f236 = some c_prim_Unlink_1 := by kernel_rfl
theorem l_strings_IndexRune : compF Tryz.prog gt false false [] Tryz.f238 = some c_strings_IndexRune := by kernel_rfl
theorem l_strings_shouldUseASCIISet : compF Tryz.prog gt false false [] Tryz.f239 = some c_strings_shouldUseASCIISet := by kernel_rfl
theorem l_strings_asciiSet_contains : compF Tryz.prog gt false false [] Tryz.f240 = some c_strings_asciiSet_contains := by kernel_rfl
theorem l_slices_AppendSeq_string_string : compF Tryz.prog gt false true [] Tryz.f241 = some c_slices_AppendSeq_string_string := by kernel_rfl
theorem l_walk_walker_below : compF Tryz.prog gt false false [] Tryz.f242 = some c_walk_walker_below := by kernel_rfl
theorem l_walk_walker_follow : compF Tryz.prog gt false false [] Tryz.f243 = some c_walk_walker_follow := by kernel_rfl
theorem l_internal_bytealg_Cutover : compF Tryz.prog gt false false [] Tryz.f245 = some c_internal_bytealg_Cutover := by kernel_rfl
theorem l_internal_bytealg_IndexRabinKarp_string : compF Tryz.prog gt false false [] Tryz.f246 = some c_internal_bytealg_IndexRabinKarp_string := by kernel_rfl
theorem l_strings_splitSeq_1 : compF Tryz.prog gt false false [] Tryz.f247 = some c_strings_splitSeq_1 := by kernel_rfl
theorem l_unicode_utf8_DecodeRuneInString : compF Tryz.prog gt false false [] Tryz.f248 = some c_unicode_utf8_DecodeRuneInString := by kernel_rfl
theorem l_prim_Rename_1 : compF Tryz.prog gt false false [] Tryz.f251 = some c_prim_Rename_1 := by kernel_rfl
theorem l_slices_Equal_string_string : compF Tryz.prog gt false false [] Tryz.f252 = some c_slices_Equal_string_string := by kernel_rfl
theorem l_path_Under : compF Tryz.prog gt false false [] Tryz.f253 = some c_path_Under := by kernel_rfl
theorem l_prim_Copy_1 : compF Tryz.prog gt false false [] Tryz.f254 = some c_prim_Copy_1 := by kernel_rfl
theorem l_unicode_utf8_DecodeLastRuneInString : compF Tryz.prog gt false false [] Tryz.f255 = some c_unicode_utf8_DecodeLastRuneInString := by kernel_rfl
theorem l_strings_ContainsRune : compF Tryz.prog gt false false [] Tryz.f256 = some c_strings_ContainsRune := by kernel_rfl
theorem l_cmp_isNaN_string : compF Tryz.prog gt false false [] Tryz.f257 = some c_cmp_isNaN_string := by kernel_rfl
theorem l_math_bits_Len32 : compF Tryz.prog gt false false [] Tryz.f269 = some c_math_bits_Len32 := by kernel_rfl
theorem l_math_bits_Len64 : compF Tryz.prog gt false false [] Tryz.f270 = some c_math_bits_Len64 := by kernel_rfl
theorem l_slices_Clone_api_Fact_api_Fact : compF Tryz.prog gt true false [] Tryz.f276 = some c_slices_Clone_api_Fact_api_Fact := by kernel_rfl
theorem l_slices_Clone_int_int : compF Tryz.prog gt true false [] Tryz.f277 = some c_slices_Clone_int_int := by kernel_rfl
theorem l_store_change : compF Tryz.prog gt false false [1000009011] Tryz.f278 = some c_store_change := by kernel_rfl
theorem l_store_dir : compF Tryz.prog gt false false [] Tryz.f280 = some c_store_dir := by kernel_rfl
theorem l_prim_put_1 : compF Tryz.prog gt false false [] Tryz.f288 = some c_prim_put_1 := by kernel_rfl
theorem l_prim_remove_1 : compF Tryz.prog gt false false [] Tryz.f289 = some c_prim_remove_1 := by kernel_rfl
theorem l_prim_taken : compF Tryz.prog gt false false [] Tryz.f290 = some c_prim_taken := by kernel_rfl
theorem l_unicode_utf8_ValidRune : compF Tryz.prog gt false false [] Tryz.f291 = some c_unicode_utf8_ValidRune := by kernel_rfl
theorem l_internal_bytealg_hashStr_string : compF Tryz.prog gt false false [] Tryz.f292 = some c_internal_bytealg_hashStr_string := by kernel_rfl
theorem l_unicode_utf8_decodeRuneInStringSlow : compF Tryz.prog gt false false [] Tryz.f293 = some c_unicode_utf8_decodeRuneInStringSlow := by kernel_rfl
theorem l_unicode_utf8_RuneStart : compF Tryz.prog gt false false [] Tryz.f294 = some c_unicode_utf8_RuneStart := by kernel_rfl
theorem l_slices_nextPowerOfTwo : compF Tryz.prog gt false false [] Tryz.f297 = some c_slices_nextPowerOfTwo := by kernel_rfl
theorem l_slices_xorshift_Next : compF Tryz.prog gt false false [] Tryz.f298 = some c_slices_xorshift_Next := by kernel_rfl
theorem l_store_own : compF Tryz.prog gt true false [1000005003] Tryz.f305 = some c_store_own := by kernel_rfl
theorem l_slices_Sorted_int : compF Tryz.prog gt false false [1000002003] Tryz.f306 = some c_slices_Sorted_int := by kernel_rfl
theorem l_slices_Values_int_int : compF Tryz.prog gt false false [] Tryz.f307 = some c_slices_Values_int_int := by kernel_rfl
theorem l_sym_Same : compF Tryz.prog gt false false [] Tryz.f314 = some c_sym_Same := by kernel_rfl
theorem l_sym_absent : compF Tryz.prog gt false false [] Tryz.f315 = some c_sym_absent := by kernel_rfl
theorem l_slices_Collect_int : compF Tryz.prog gt false false [] Tryz.f324 = some c_slices_Collect_int := by kernel_rfl
theorem l_slices_Sort_int_int : compF Tryz.prog gt false false [] Tryz.f325 = some c_slices_Sort_int_int := by kernel_rfl
theorem l_slices_Values_int_int_1 : compF Tryz.prog gt false false [] Tryz.f326 = some c_slices_Values_int_int_1 := by kernel_rfl
theorem l_slices_EqualFunc_api_Term_api_Term_api_Term_api_Term : compF Tryz.prog gt false false [] Tryz.f331 = some c_slices_EqualFunc_api_Term_api_Term_api_Term_api_Term := by kernel_rfl
theorem l_slices_AppendSeq_int_int : compF Tryz.prog gt false true [] Tryz.f332 = some c_slices_AppendSeq_int_int := by kernel_rfl
theorem l_slices_pdqsortOrdered_int : compF Tryz.prog gt false false [] Tryz.f333 = some c_slices_pdqsortOrdered_int := by kernel_rfl
theorem l_slices_insertionSortOrdered_int : compF Tryz.prog gt false false [1000006000] Tryz.f336 = some c_slices_insertionSortOrdered_int := by kernel_rfl
theorem l_slices_heapSortOrdered_int : compF Tryz.prog gt false false [1000010000] Tryz.f337 = some c_slices_heapSortOrdered_int := by kernel_rfl
theorem l_slices_breakPatternsOrdered_int : compF Tryz.prog gt false false [1000010000] Tryz.f338 = some c_slices_breakPatternsOrdered_int := by kernel_rfl
theorem l_slices_choosePivotOrdered_int : compF Tryz.prog gt false false [] Tryz.f339 = some c_slices_choosePivotOrdered_int := by kernel_rfl
theorem l_slices_reverseRangeOrdered_int : compF Tryz.prog gt false false [1000003000] Tryz.f340 = some c_slices_reverseRangeOrdered_int := by kernel_rfl
theorem l_slices_partialInsertionSortOrdered_int : compF Tryz.prog gt false false [1000011000, 1000017000, 1000023000] Tryz.f341 = some c_slices_partialInsertionSortOrdered_int := by kernel_rfl
theorem l_cmp_Less_int : compF Tryz.prog gt false false [] Tryz.f342 = some c_cmp_Less_int := by kernel_rfl
theorem l_slices_partitionEqualOrdered_int : compF Tryz.prog gt false false [1000001000, 1000008000] Tryz.f343 = some c_slices_partitionEqualOrdered_int := by kernel_rfl
theorem l_slices_partitionOrdered_int : compF Tryz.prog gt false false [1000001000, 1000008000, 1000010000, 1000018000, 1000021000] Tryz.f344 = some c_slices_partitionOrdered_int := by kernel_rfl
theorem l_slices_siftDownOrdered_int : compF Tryz.prog gt false false [1000006000] Tryz.f345 = some c_slices_siftDownOrdered_int := by kernel_rfl
theorem l_slices_medianAdjacentOrdered_int : compF Tryz.prog gt false false [] Tryz.f346 = some c_slices_medianAdjacentOrdered_int := by kernel_rfl
theorem l_slices_medianOrdered_int : compF Tryz.prog gt false false [] Tryz.f347 = some c_slices_medianOrdered_int := by kernel_rfl
theorem l_cmp_isNaN_int : compF Tryz.prog gt false false [] Tryz.f348 = some c_cmp_isNaN_int := by kernel_rfl
theorem l_slices_order2Ordered_int : compF Tryz.prog gt false false [] Tryz.f349 = some c_slices_order2Ordered_int := by kernel_rfl
theorem l_ftree_Tree_Copy : compF Tryz.prog gt false false [] Tryz.f367 = some c_ftree_Tree_Copy := by kernel_rfl
theorem l_ftree_Tree_Del : compF Tryz.prog gt false false [] Tryz.f368 = some c_ftree_Tree_Del := by kernel_rfl
theorem l_ftree_Tree_Empty : compF Tryz.prog gt false false [] Tryz.f369 = some c_ftree_Tree_Empty := by kernel_rfl
theorem l_ftree_Tree_Move : compF Tryz.prog gt false false [] Tryz.f370 = some c_ftree_Tree_Move := by kernel_rfl
theorem l_ftree_Tree_Put : compF Tryz.prog gt false false [] Tryz.f371 = some c_ftree_Tree_Put := by kernel_rfl
theorem l_ftree_Tree_Text : compF Tryz.prog gt false false [] Tryz.f372 = some c_ftree_Tree_Text := by kernel_rfl
theorem l_ftree_Tree_apart : compF Tryz.prog gt false false [] Tryz.f373 = some c_ftree_Tree_apart := by kernel_rfl
theorem l_ftree_Tree_set : compF Tryz.prog gt false false [] Tryz.f374 = some c_ftree_Tree_set := by kernel_rfl
theorem l_ftree_change : compF Tryz.prog gt false false [3000000006] Tryz.f375 = some c_ftree_change := by kernel_rfl
theorem l_ftree_Tree_Del_1 : compF Tryz.prog gt false false [3000000002, 3000000003] Tryz.f376 = some c_ftree_Tree_Del_1 := by kernel_rfl
theorem l_slices_Delete_string_string : compF Tryz.prog gt false false [] Tryz.f377 = some c_slices_Delete_string_string := by kernel_rfl
theorem l_slices_Delete_api_Node_api_Node : compF Tryz.prog gt false false [] Tryz.f378 = some c_slices_Delete_api_Node_api_Node := by kernel_rfl
theorem l_slices_Clone_api_Node_api_Node : compF Tryz.prog gt true false [] Tryz.f379 = some c_slices_Clone_api_Node_api_Node := by kernel_rfl
theorem l_ftree_Tree_open : compF Tryz.prog gt false false [] Tryz.f380 = some c_ftree_Tree_open := by kernel_rfl
theorem l_ftree_begins : compF Tryz.prog gt false false [] Tryz.f381 = some c_ftree_begins := by kernel_rfl
theorem l_ftree_Tree_set_1 : compF Tryz.prog gt false false [3000000002, 4000000005, 4000000006] Tryz.f382 = some c_ftree_Tree_set_1 := by kernel_rfl
theorem l_slices_Insert_string_string : compF Tryz.prog gt false true [1000010009, 1000011009, 13, 1000015000, 1000016000, 1000018000] Tryz.f383 = some c_slices_Insert_string_string := by kernel_rfl
theorem l_slices_Insert_api_Node_api_Node : compF Tryz.prog gt false true [1000010009, 1000011009, 13, 1000015000, 1000016000, 1000018000] Tryz.f384 = some c_slices_Insert_api_Node_api_Node := by kernel_rfl
theorem l_slices_rotateRight_string : compF Tryz.prog gt false false [] Tryz.f386 = some c_slices_rotateRight_string := by kernel_rfl
theorem l_slices_rotateRight_api_Node : compF Tryz.prog gt false false [] Tryz.f388 = some c_slices_rotateRight_api_Node := by kernel_rfl
theorem l_slices_rotateLeft_string : compF Tryz.prog gt false false [1000002000] Tryz.f389 = some c_slices_rotateLeft_string := by kernel_rfl
theorem l_slices_rotateLeft_api_Node : compF Tryz.prog gt false false [1000002000] Tryz.f390 = some c_slices_rotateLeft_api_Node := by kernel_rfl
theorem l_slices_Reverse_string_string : compF Tryz.prog gt false false [1000003000] Tryz.f391 = some c_slices_Reverse_string_string := by kernel_rfl
theorem l_slices_Reverse_api_Node_api_Node : compF Tryz.prog gt false false [1000003000] Tryz.f392 = some c_slices_Reverse_api_Node_api_Node := by kernel_rfl
theorem l_sym_Tree_Copy : compF Tryz.prog gt false false [] Tryz.f396 = some c_sym_Tree_Copy := by kernel_rfl
theorem l_sym_Tree_Del : compF Tryz.prog gt false false [] Tryz.f397 = some c_sym_Tree_Del := by kernel_rfl
theorem l_sym_Tree_Empty : compF Tryz.prog gt false false [] Tryz.f398 = some c_sym_Tree_Empty := by kernel_rfl
theorem l_sym_Tree_Kind : compF Tryz.prog gt false false [] Tryz.f399 = some c_sym_Tree_Kind := by kernel_rfl
theorem l_sym_Tree_Move : compF Tryz.prog gt false false [] Tryz.f400 = some c_sym_Tree_Move := by kernel_rfl
theorem l_sym_Tree_Put : compF Tryz.prog gt false false [] Tryz.f401 = some c_sym_Tree_Put := by kernel_rfl
theorem l_sym_Tree_Text : compF Tryz.prog gt false false [] Tryz.f402 = some c_sym_Tree_Text := by kernel_rfl
theorem l_sym_Tree_apart : compF Tryz.prog gt false false [] Tryz.f403 = some c_sym_Tree_apart := by kernel_rfl
theorem l_sym_Tree_set : compF Tryz.prog gt false false [] Tryz.f404 = some c_sym_Tree_set := by kernel_rfl
theorem l_sym_Tree_at : compF Tryz.prog gt false false [] Tryz.f405 = some c_sym_Tree_at := by kernel_rfl
theorem l_sym_Tree_kind : compF Tryz.prog gt false false [] Tryz.f406 = some c_sym_Tree_kind := by kernel_rfl
theorem l_sym_base : compF Tryz.prog gt false false [] Tryz.f407 = some c_sym_base := by kernel_rfl
theorem l_sym_Tree_bare : compF Tryz.prog gt false false [] Tryz.f408 = some c_sym_Tree_bare := by kernel_rfl
theorem l_sym_Tree_open : compF Tryz.prog gt false false [] Tryz.f409 = some c_sym_Tree_open := by kernel_rfl
theorem l_sym_made : compF Tryz.prog gt false false [2000000001, 2000000005] Tryz.f410 = some c_sym_made := by kernel_rfl
theorem l_sym_with : compF Tryz.prog gt false false [2000000001, 4000000009] Tryz.f411 = some c_sym_with := by kernel_rfl
theorem l_sym_Tree_kid : compF Tryz.prog gt false false [] Tryz.f412 = some c_sym_Tree_kid := by kernel_rfl
theorem l_sym_Tree_bare_1 : compF Tryz.prog gt false false [] Tryz.f413 = some c_sym_Tree_bare_1 := by kernel_rfl
theorem l_slices_Contains_string_string : compF Tryz.prog gt false false [] Tryz.f414 = some c_slices_Contains_string_string := by kernel_rfl
theorem l_sym_Tree_beside : compF Tryz.prog gt false false [] Tryz.f415 = some c_sym_Tree_beside := by kernel_rfl
theorem l_slices_Clone_api_Term_api_Term : compF Tryz.prog gt true false [] Tryz.f416 = some c_slices_Clone_api_Term_api_Term := by kernel_rfl
theorem l_slices_Delete_api_Term_api_Term : compF Tryz.prog gt false false [] Tryz.f417 = some c_slices_Delete_api_Term_api_Term := by kernel_rfl
theorem l_slices_Insert_api_Term_api_Term : compF Tryz.prog gt false true [1000010009, 1000011009, 13, 1000015000, 1000016000, 1000018000] Tryz.f418 = some c_slices_Insert_api_Term_api_Term := by kernel_rfl
theorem l_store_Ask : compF Tryz.prog gt false false [] Tryz.f419 = some c_store_Ask := by kernel_rfl
theorem l_slices_Index_string_string : compF Tryz.prog gt false false [] Tryz.f420 = some c_slices_Index_string_string := by kernel_rfl
theorem l_slices_Contains_int_int : compF Tryz.prog gt false false [] Tryz.f421 = some c_slices_Contains_int_int := by kernel_rfl
theorem l_slices_rotateRight_api_Term : compF Tryz.prog gt false false [] Tryz.f423 = some c_slices_rotateRight_api_Term := by kernel_rfl
theorem l_store_Ask_1 : compF Tryz.prog gt false false [] Tryz.f424 = some c_store_Ask_1 := by kernel_rfl
theorem l_store_Ask_2 : compF Tryz.prog gt false false [4000000005, 4000000006] Tryz.f425 = some c_store_Ask_2 := by kernel_rfl
theorem l_slices_Insert_int_int : compF Tryz.prog gt false true [1000010009, 1000011009, 13, 1000015000, 1000016000, 1000018000] Tryz.f426 = some c_slices_Insert_int_int := by kernel_rfl
theorem l_slices_Index_int_int : compF Tryz.prog gt false false [] Tryz.f427 = some c_slices_Index_int_int := by kernel_rfl
theorem l_slices_rotateLeft_api_Term : compF Tryz.prog gt false false [1000002000] Tryz.f428 = some c_slices_rotateLeft_api_Term := by kernel_rfl
theorem l_slices_rotateRight_int : compF Tryz.prog gt false false [] Tryz.f430 = some c_slices_rotateRight_int := by kernel_rfl
theorem l_slices_Reverse_api_Term_api_Term : compF Tryz.prog gt false false [1000003000] Tryz.f431 = some c_slices_Reverse_api_Term_api_Term := by kernel_rfl
theorem l_slices_rotateLeft_int : compF Tryz.prog gt false false [1000002000] Tryz.f432 = some c_slices_rotateLeft_int := by kernel_rfl
theorem l_slices_Reverse_int_int : compF Tryz.prog gt false false [1000003000] Tryz.f433 = some c_slices_Reverse_int_int := by kernel_rfl
theorem tab_ok : tab.All (FunOk Tryz.prog gt) :=
  ⟨.inl ⟨rfl, Tryz.f251, [], false, Tryz.func251, l_prim_Rename_1⟩, ⟨.inl ⟨rfl, Tryz.f136, [], false, Tryz.func136, l_moves_rename⟩, ⟨.inl ⟨rfl, Tryz.f75, [], false, Tryz.func75, l_strings_Contains⟩, ⟨.inl ⟨rfl, Tryz.f35, [], false, Tryz.func35, l_touchstonelaw13_file⟩, ⟨.inl ⟨rfl, Tryz.f25, [], false, Tryz.func25, l_walk_Spot⟩, ⟨.inl ⟨rfl, Tryz.f19, [], false, Tryz.func19, l_touchstoneref07_Same⟩, ⟨.inl ⟨rfl, Tryz.f16, [], false, Tryz.func16, l_ftree_New⟩, ⟨.inl ⟨rfl, Tryz.f7, [2000000010], false, Tryz.func7, l_touchstonelaw13_MovesNames⟩, trivial, trivial⟩, ⟨.inl ⟨rfl, Tryz.f18, [], false, Tryz.func18, l_ftree_Tree_Root⟩, trivial, trivial⟩⟩, ⟨.inl ⟨rfl, Tryz.f24, [], false, Tryz.func24, l_ftree_Tree_Kind⟩, ⟨.inl ⟨rfl, Tryz.f20, [], false, Tryz.func20, l_ftree_Well⟩, trivial, trivial⟩, trivial⟩⟩, ⟨.inl ⟨rfl, Tryz.f32, [], false, Tryz.func32, l_moves_Run⟩, ⟨.inl ⟨rfl, Tryz.f27, [2000000002, 2000000004], false, Tryz.func27, l_touchstonelaw13_works⟩, ⟨.inl ⟨rfl, Tryz.f26, [], false, Tryz.func26, l_walk_Find⟩, trivial, trivial⟩, ⟨.inl ⟨rfl, Tryz.f30, [], false, Tryz.func30, l_path_Check⟩, trivial, trivial⟩⟩, ⟨.inl ⟨rfl, Tryz.f34, [], false, Tryz.func34, l_moves_Why⟩, ⟨.inl ⟨rfl, Tryz.f33, [], false, Tryz.func33, l_touchstonelaw13_dir⟩, trivial, trivial⟩, trivial⟩⟩⟩, ⟨.inl ⟨rfl, Tryz.f68, [], false, Tryz.func68, l_ftree_own⟩, ⟨.inl ⟨rfl, Tryz.f39, [2000000002, 2000000005, 2000000006], false, Tryz.func39, l_touchstonelaw13_done⟩, ⟨.inl ⟨rfl, Tryz.f37, [1000005003], false, Tryz.func37, l_touchstonelaw13_many⟩, ⟨.inl ⟨rfl, Tryz.f36, [], false, Tryz.func36, l_touchstonelaw13_link⟩, trivial, trivial⟩, ⟨.inl ⟨rfl, Tryz.f38, [], false, Tryz.func38, l_touchstonelaw13_runs⟩, trivial, trivial⟩⟩, ⟨.inl ⟨rfl, Tryz.f67, [], false, Tryz.func67, l_ftree_May⟩, ⟨.inl ⟨rfl, Tryz.f42, [], false, Tryz.func42, l_ftree_Nodes⟩, trivial, trivial⟩, trivial⟩⟩, ⟨.inl ⟨rfl, Tryz.f72, [], false, Tryz.func72, l_path_Name⟩, ⟨.inl ⟨rfl, Tryz.f71, [], false, Tryz.func71, l_strings_IndexByte⟩, ⟨.inl ⟨rfl, Tryz.f70, [2000000030], false, Tryz.func70, l_opts_Parse⟩, trivial, trivial⟩, trivial⟩, ⟨.inl ⟨rfl, Tryz.f74, [], false, Tryz.func74, l_walk_walk⟩, ⟨.inl ⟨rfl, Tryz.f73, [], false, Tryz.func73, l_ftree_Tree_at⟩, trivial, trivial⟩, trivial⟩⟩⟩⟩, ⟨.inl ⟨rfl, Tryz.f123, [], false, Tryz.func123, l_internal_stringslite_IndexByte⟩, ⟨.inl ⟨rfl, Tryz.f82, [], false, Tryz.func82, l_moves_call_source⟩, ⟨.inl ⟨rfl, Tryz.f79, [], false, Tryz.func79, l_opts_Opts_Has⟩, ⟨.inl ⟨rfl, Tryz.f77, [], false, Tryz.func77, l_strings_Join⟩, ⟨.inl ⟨rfl, Tryz.f76, [], false, Tryz.func76, l_path_steps⟩, trivial, trivial⟩, ⟨.inl ⟨rfl, Tryz.f78, [], false, Tryz.func78, l_moves_utilities⟩, trivial, trivial⟩⟩, ⟨.inl ⟨rfl, Tryz.f81, [], false, Tryz.func81, l_moves_call_look⟩, ⟨.inl ⟨rfl, Tryz.f80, [], false, Tryz.func80, l_moves_call_refuse⟩, trivial, trivial⟩, trivial⟩⟩, ⟨.inl ⟨rfl, Tryz.f110, [], false, Tryz.func110, l_slices_Clone_string_string⟩, ⟨.inl ⟨rfl, Tryz.f84, [], false, Tryz.func84, l_ftree_find⟩, ⟨.inl ⟨rfl, Tryz.f83, [], false, Tryz.func83, l_path_Last⟩, trivial, trivial⟩, ⟨.inl ⟨rfl, Tryz.f108, [1000014003], false, Tryz.func108, l_pat_May⟩, trivial, trivial⟩⟩, ⟨.inl ⟨rfl, Tryz.f122, [], false, Tryz.func122, l_opts_letter⟩, ⟨.inl ⟨rfl, Tryz.f115, [], false, Tryz.func115, l_ftree_depth⟩, trivial, trivial⟩, trivial⟩⟩⟩, ⟨.inl ⟨rfl, Tryz.f130, [], false, Tryz.func130, l_strings_SplitSeq⟩, ⟨.inl ⟨rfl, Tryz.f127, [5], false, Tryz.func127, l_walk_walker_run⟩, ⟨.inl ⟨rfl, Tryz.f125, [], false, Tryz.func125, l_path_Steps⟩, ⟨.inl ⟨rfl, Tryz.f124, [], false, Tryz.func124, l_strings_ContainsAny⟩, trivial, trivial⟩, ⟨.inl ⟨rfl, Tryz.f126, [], false, Tryz.func126, l_path_Dir⟩, trivial, trivial⟩⟩, ⟨.inl ⟨rfl, Tryz.f129, [], false, Tryz.func129, l_path_steps_1⟩, ⟨.inl ⟨rfl, Tryz.f128, [], false, Tryz.func128, l_strings_Index⟩, trivial, trivial⟩, trivial⟩⟩, ⟨.inl ⟨rfl, Tryz.f133, [], false, Tryz.func133, l_strings_Builder_String⟩, ⟨.inl ⟨rfl, Tryz.f132, [], false, Tryz.func132, l_strings_Builder_WriteString⟩, ⟨.inl ⟨rfl, Tryz.f131, [], false, Tryz.func131, l_strings_Builder_Grow⟩, trivial, trivial⟩, trivial⟩, ⟨.inl ⟨rfl, Tryz.f135, [], false, Tryz.func135, l_moves_itself⟩, ⟨.inl ⟨rfl, Tryz.f134, [], false, Tryz.func134, l_moves_spot⟩, trivial, trivial⟩, trivial⟩⟩⟩⟩⟩, ⟨.inl ⟨rfl, Tryz.f198, [], false, Tryz.func198, l_prim_Copy⟩, ⟨.inl ⟨rfl, Tryz.f169, [], false, Tryz.func169, l_slices_ContainsFunc_int_int⟩, ⟨.inl ⟨rfl, Tryz.f143, [], false, Tryz.func143, l_moves_call_to⟩, ⟨.inl ⟨rfl, Tryz.f140, [], false, Tryz.func140, l_moves_text⟩, ⟨.inl ⟨rfl, Tryz.f138, [], false, Tryz.func138, l_moves_there⟩, ⟨.inl ⟨rfl, Tryz.f137, [], false, Tryz.func137, l_moves_find⟩, trivial, trivial⟩, ⟨.inl ⟨rfl, Tryz.f139, [], false, Tryz.func139, l_moves_copyOf⟩, trivial, trivial⟩⟩, ⟨.inl ⟨rfl, Tryz.f142, [], false, Tryz.func142, l_moves_call_lost⟩, ⟨.inl ⟨rfl, Tryz.f141, [], false, Tryz.func141, l_moves_link⟩, trivial, trivial⟩, trivial⟩⟩, ⟨.inl ⟨rfl, Tryz.f152, [], false, Tryz.func152, l_strings_HasPrefix⟩, ⟨.inl ⟨rfl, Tryz.f145, [], false, Tryz.func145, l_strings_LastIndexByte⟩, ⟨.inl ⟨rfl, Tryz.f144, [], false, Tryz.func144, l_strings_TrimRight⟩, trivial, trivial⟩, ⟨.inl ⟨rfl, Tryz.f146, [], false, Tryz.func146, l_slices_BinarySearch_string_string⟩, trivial, trivial⟩⟩, ⟨.inl ⟨rfl, Tryz.f168, [], false, Tryz.func168, l_pat_one⟩, ⟨.inl ⟨rfl, Tryz.f167, [], false, Tryz.func167, l_pat_dir⟩, trivial, trivial⟩, trivial⟩⟩⟩, ⟨.inl ⟨rfl, Tryz.f192, [], false, Tryz.func192, l_strings_splitSeq⟩, ⟨.inl ⟨rfl, Tryz.f189, [], false, Tryz.func189, l_slices_Collect_string⟩, ⟨.inl ⟨rfl, Tryz.f185, [], false, Tryz.func185, l_prim_Unlink⟩, ⟨.inl ⟨rfl, Tryz.f170, [], false, Tryz.func170, l_pat_May_1⟩, trivial, trivial⟩, ⟨.inl ⟨rfl, Tryz.f188, [], false, Tryz.func188, l_strings_IndexAny⟩, trivial, trivial⟩⟩, ⟨.inl ⟨rfl, Tryz.f191, [], false, Tryz.func191, l_internal_stringslite_Index⟩, ⟨.inl ⟨rfl, Tryz.f190, [], false, Tryz.func190, l_walk_walker_name⟩, trivial, trivial⟩, trivial⟩⟩, ⟨.inl ⟨rfl, Tryz.f195, [], false, Tryz.func195, l_moves_found⟩, ⟨.inl ⟨rfl, Tryz.f194, [0], false, Tryz.func194, l_strings_Builder_grow⟩, ⟨.inl ⟨rfl, Tryz.f193, [], false, Tryz.func193, l_strings_Builder_copyCheck⟩, trivial, trivial⟩, trivial⟩, ⟨.inl ⟨rfl, Tryz.f197, [], false, Tryz.func197, l_moves_call_deep⟩, ⟨.inl ⟨rfl, Tryz.f196, [], false, Tryz.func196, l_prim_Rename⟩, trivial, trivial⟩, trivial⟩⟩⟩⟩, ⟨.inl ⟨rfl, Tryz.f232, [], false, Tryz.func232, l_prim_remove⟩, ⟨.inl ⟨rfl, Tryz.f205, [], false, Tryz.func205, l_cmp_Less_string⟩, ⟨.inl ⟨rfl, Tryz.f202, [3], false, Tryz.func202, l_strings_trimRightASCII⟩, ⟨.inl ⟨rfl, Tryz.f200, [2], false, Tryz.func200, l_strings_trimRightByte⟩, ⟨.inl ⟨rfl, Tryz.f199, [], false, Tryz.func199, l_prim_MakeLink⟩, trivial, trivial⟩, ⟨.inl ⟨rfl, Tryz.f201, [], false, Tryz.func201, l_strings_makeASCIISet⟩, trivial, trivial⟩⟩, ⟨.inl ⟨rfl, Tryz.f204, [], false, Tryz.func204, l_internal_bytealg_LastIndexByteString⟩, ⟨.inl ⟨rfl, Tryz.f203, [6], false, Tryz.func203, l_strings_trimRightUnicode⟩, trivial, trivial⟩, trivial⟩⟩, ⟨.inl ⟨rfl, Tryz.f217, [], false, Tryz.func217, l_slices_IndexFunc_int_int⟩, ⟨.inl ⟨rfl, Tryz.f209, [], false, Tryz.func209, l_internal_stringslite_HasPrefix⟩, ⟨.inl ⟨rfl, Tryz.f206, [], false, Tryz.func206, l_slices_isNaN_string⟩, trivial, trivial⟩, ⟨.inl ⟨rfl, Tryz.f214, [], false, Tryz.func214, l_math_bits_Len⟩, trivial, trivial⟩⟩, ⟨.inl ⟨rfl, Tryz.f231, [], false, Tryz.func231, l_prim_put⟩, ⟨.inl ⟨rfl, Tryz.f219, [], false, Tryz.func219, l_sym_ref⟩, trivial, trivial⟩, trivial⟩⟩⟩, ⟨.inl ⟨rfl, Tryz.f242, [], false, Tryz.func242, l_walk_walker_below⟩, ⟨.inl ⟨rfl, Tryz.f239, [], false, Tryz.func239, l_strings_shouldUseASCIISet⟩, ⟨.inl ⟨rfl, Tryz.f236, [], false, Tryz.func236, l_prim_Unlink_1⟩, ⟨.inl ⟨rfl, Tryz.f234, [], false, Tryz.func234, l_prim_at⟩, trivial, trivial⟩, ⟨.inl ⟨rfl, Tryz.f238, [], false, Tryz.func238, l_strings_IndexRune⟩, trivial, trivial⟩⟩, ⟨.inl ⟨rfl, Tryz.f241, [], true, Tryz.func241, l_slices_AppendSeq_string_string⟩, ⟨.inl ⟨rfl, Tryz.f240, [], false, Tryz.func240, l_strings_asciiSet_contains⟩, trivial, trivial⟩, trivial⟩⟩, ⟨.inl ⟨rfl, Tryz.f246, [], false, Tryz.func246, l_internal_bytealg_IndexRabinKarp_string⟩, ⟨.inl ⟨rfl, Tryz.f245, [], false, Tryz.func245, l_internal_bytealg_Cutover⟩, ⟨.inl ⟨rfl, Tryz.f243, [], false, Tryz.func243, l_walk_walker_follow⟩, trivial, trivial⟩, trivial⟩, ⟨.inl ⟨rfl, Tryz.f248, [], false, Tryz.func248, l_unicode_utf8_DecodeRuneInString⟩, ⟨.inl ⟨rfl, Tryz.f247, [], false, Tryz.func247, l_strings_splitSeq_1⟩, trivial, trivial⟩, trivial⟩⟩⟩⟩⟩⟩, ⟨.inl ⟨rfl, Tryz.f374, [], false, Tryz.func374, l_ftree_Tree_set⟩, ⟨.inl ⟨rfl, Tryz.f324, [], false, Tryz.func324, l_slices_Collect_int⟩, ⟨.inl ⟨rfl, Tryz.f289, [], false, Tryz.func289, l_prim_remove_1⟩, ⟨.inl ⟨rfl, Tryz.f269, [], false, Tryz.func269, l_math_bits_Len32⟩, ⟨.inl ⟨rfl, Tryz.f255, [], false, Tryz.func255, l_unicode_utf8_DecodeLastRuneInString⟩, ⟨.inl ⟨rfl, Tryz.f253, [], false, Tryz.func253, l_path_Under⟩, ⟨.inl ⟨rfl, Tryz.f252, [], false, Tryz.func252, l_slices_Equal_string_string⟩, trivial, trivial⟩, ⟨.inl ⟨rfl, Tryz.f254, [], false, Tryz.func254, l_prim_Copy_1⟩, trivial, trivial⟩⟩, ⟨.inl ⟨rfl, Tryz.f257, [], false, Tryz.func257, l_cmp_isNaN_string⟩, ⟨.inl ⟨rfl, Tryz.f256, [], false, Tryz.func256, l_strings_ContainsRune⟩, trivial, trivial⟩, trivial⟩⟩, ⟨.inl ⟨rfl, Tryz.f278, [1000009011], false, Tryz.func278, l_store_change⟩, ⟨.inl ⟨rfl, Tryz.f276, [], false, Tryz.func276, l_slices_Clone_api_Fact_api_Fact⟩, ⟨.inl ⟨rfl, Tryz.f270, [], false, Tryz.func270, l_math_bits_Len64⟩, trivial, trivial⟩, ⟨.inl ⟨rfl, Tryz.f277, [], false, Tryz.func277, l_slices_Clone_int_int⟩, trivial, trivial⟩⟩, ⟨.inl ⟨rfl, Tryz.f288, [], false, Tryz.func288, l_prim_put_1⟩, ⟨.inl ⟨rfl, Tryz.f280, [], false, Tryz.func280, l_store_dir⟩, trivial, trivial⟩, trivial⟩⟩⟩, ⟨.inl ⟨rfl, Tryz.f298, [], false, Tryz.func298, l_slices_xorshift_Next⟩, ⟨.inl ⟨rfl, Tryz.f293, [], false, Tryz.func293, l_unicode_utf8_decodeRuneInStringSlow⟩, ⟨.inl ⟨rfl, Tryz.f291, [], false, Tryz.func291, l_unicode_utf8_ValidRune⟩, ⟨.inl ⟨rfl, Tryz.f290, [], false, Tryz.func290, l_prim_taken⟩, trivial, trivial⟩, ⟨.inl ⟨rfl, Tryz.f292, [], false, Tryz.func292, l_internal_bytealg_hashStr_string⟩, trivial, trivial⟩⟩, ⟨.inl ⟨rfl, Tryz.f297, [], false, Tryz.func297, l_slices_nextPowerOfTwo⟩, ⟨.inl ⟨rfl, Tryz.f294, [], false, Tryz.func294, l_unicode_utf8_RuneStart⟩, trivial, trivial⟩, trivial⟩⟩, ⟨.inl ⟨rfl, Tryz.f307, [], false, Tryz.func307, l_slices_Values_int_int⟩, ⟨.inl ⟨rfl, Tryz.f306, [1000002003], false, Tryz.func306, l_slices_Sorted_int⟩, ⟨.inl ⟨rfl, Tryz.f305, [1000005003], false, Tryz.func305, l_store_own⟩, trivial, trivial⟩, trivial⟩, ⟨.inl ⟨rfl, Tryz.f315, [], false, Tryz.func315, l_sym_absent⟩, ⟨.inl ⟨rfl, Tryz.f314, [], false, Tryz.func314, l_sym_Same⟩, trivial, trivial⟩, trivial⟩⟩⟩⟩, ⟨.inl ⟨rfl, Tryz.f344, [1000001000, 1000008000, 1000010000, 1000018000, 1000021000], false, Tryz.func344, l_slices_partitionOrdered_int⟩, ⟨.inl ⟨rfl, Tryz.f337, [1000010000], false, Tryz.func337, l_slices_heapSortOrdered_int⟩, ⟨.inl ⟨rfl, Tryz.f332, [], true, Tryz.func332, l_slices_AppendSeq_int_int⟩, ⟨.inl ⟨rfl, Tryz.f326, [], false, Tryz.func326, l_slices_Values_int_int_1⟩, ⟨.inl ⟨rfl, Tryz.f325, [], false, Tryz.func325, l_slices_Sort_int_int⟩, trivial, trivial⟩, ⟨.inl ⟨rfl, Tryz.f331, [], false, Tryz.func331, l_slices_EqualFunc_api_Term_api_Term_api_Term_api_Term⟩, trivial, trivial⟩⟩, ⟨.inl ⟨rfl, Tryz.f336, [1000006000], false, Tryz.func336, l_slices_insertionSortOrdered_int⟩, ⟨.inl ⟨rfl, Tryz.f333, [], false, Tryz.func333, l_slices_pdqsortOrdered_int⟩, trivial, trivial⟩, trivial⟩⟩, ⟨.inl ⟨rfl, Tryz.f341, [1000011000, 1000017000, 1000023000], false, Tryz.func341, l_slices_partialInsertionSortOrdered_int⟩, ⟨.inl ⟨rfl, Tryz.f339, [], false, Tryz.func339, l_slices_choosePivotOrdered_int⟩, ⟨.inl ⟨rfl, Tryz.f338, [1000010000], false, Tryz.func338, l_slices_breakPatternsOrdered_int⟩, trivial, trivial⟩, ⟨.inl ⟨rfl, Tryz.f340, [1000003000], false, Tryz.func340, l_slices_reverseRangeOrdered_int⟩, trivial, trivial⟩⟩, ⟨.inl ⟨rfl, Tryz.f343, [1000001000, 1000008000], false, Tryz.func343, l_slices_partitionEqualOrdered_int⟩, ⟨.inl ⟨rfl, Tryz.f342, [], false, Tryz.func342, l_cmp_Less_int⟩, trivial, trivial⟩, trivial⟩⟩⟩, ⟨.inl ⟨rfl, Tryz.f368, [], false, Tryz.func368, l_ftree_Tree_Del⟩, ⟨.inl ⟨rfl, Tryz.f348, [], false, Tryz.func348, l_cmp_isNaN_int⟩, ⟨.inl ⟨rfl, Tryz.f346, [], false, Tryz.func346, l_slices_medianAdjacentOrdered_int⟩, ⟨.inl ⟨rfl, Tryz.f345, [1000006000], false, Tryz.func345, l_slices_siftDownOrdered_int⟩, trivial, trivial⟩, ⟨.inl ⟨rfl, Tryz.f347, [], false, Tryz.func347, l_slices_medianOrdered_int⟩, trivial, trivial⟩⟩, ⟨.inl ⟨rfl, Tryz.f367, [], false, Tryz.func367, l_ftree_Tree_Copy⟩, ⟨.inl ⟨rfl, Tryz.f349, [], false, Tryz.func349, l_slices_order2Ordered_int⟩, trivial, trivial⟩, trivial⟩⟩, ⟨.inl ⟨rfl, Tryz.f371, [], false, Tryz.func371, l_ftree_Tree_Put⟩, ⟨.inl ⟨rfl, Tryz.f370, [], false, Tryz.func370, l_ftree_Tree_Move⟩, ⟨.inl ⟨rfl, Tryz.f369, [], false, Tryz.func369, l_ftree_Tree_Empty⟩, trivial, trivial⟩, trivial⟩, ⟨.inl ⟨rfl, Tryz.f373, [], false, Tryz.func373, l_ftree_Tree_apart⟩, ⟨.inl ⟨rfl, Tryz.f372, [], false, Tryz.func372, l_ftree_Tree_Text⟩, trivial, trivial⟩, trivial⟩⟩⟩⟩⟩, ⟨.inl ⟨rfl, Tryz.f406, [], false, Tryz.func406, l_sym_Tree_kind⟩, ⟨.inl ⟨rfl, Tryz.f390, [1000002000], false, Tryz.func390, l_slices_rotateLeft_api_Node⟩, ⟨.inl ⟨rfl, Tryz.f381, [], false, Tryz.func381, l_ftree_begins⟩, ⟨.inl ⟨rfl, Tryz.f378, [], false, Tryz.func378, l_slices_Delete_api_Node_api_Node⟩, ⟨.inl ⟨rfl, Tryz.f376, [3000000002, 3000000003], false, Tryz.func376, l_ftree_Tree_Del_1⟩, ⟨.inl ⟨rfl, Tryz.f375, [3000000006], false, Tryz.func375, l_ftree_change⟩, trivial, trivial⟩, ⟨.inl ⟨rfl, Tryz.f377, [], false, Tryz.func377, l_slices_Delete_string_string⟩, trivial, trivial⟩⟩, ⟨.inl ⟨rfl, Tryz.f380, [], false, Tryz.func380, l_ftree_Tree_open⟩, ⟨.inl ⟨rfl, Tryz.f379, [], false, Tryz.func379, l_slices_Clone_api_Node_api_Node⟩, trivial, trivial⟩, trivial⟩⟩, ⟨.inl ⟨rfl, Tryz.f386, [], false, Tryz.func386, l_slices_rotateRight_string⟩, ⟨.inl ⟨rfl, Tryz.f383, [1000010009, 1000011009, 13, 1000015000, 1000016000, 1000018000], true, Tryz.func383, l_slices_Insert_string_string⟩, ⟨.inl ⟨rfl, Tryz.f382, [3000000002, 4000000005, 4000000006], false, Tryz.func382, l_ftree_Tree_set_1⟩, trivial, trivial⟩, ⟨.inl ⟨rfl, Tryz.f384, [1000010009, 1000011009, 13, 1000015000, 1000016000, 1000018000], true, Tryz.func384, l_slices_Insert_api_Node_api_Node⟩, trivial, trivial⟩⟩, ⟨.inl ⟨rfl, Tryz.f389, [1000002000], false, Tryz.func389, l_slices_rotateLeft_string⟩, ⟨.inl ⟨rfl, Tryz.f388, [], false, Tryz.func388, l_slices_rotateRight_api_Node⟩, trivial, trivial⟩, trivial⟩⟩⟩, ⟨.inl ⟨rfl, Tryz.f400, [], false, Tryz.func400, l_sym_Tree_Move⟩, ⟨.inl ⟨rfl, Tryz.f397, [], false, Tryz.func397, l_sym_Tree_Del⟩, ⟨.inl ⟨rfl, Tryz.f392, [1000003000], false, Tryz.func392, l_slices_Reverse_api_Node_api_Node⟩, ⟨.inl ⟨rfl, Tryz.f391, [1000003000], false, Tryz.func391, l_slices_Reverse_string_string⟩, trivial, trivial⟩, ⟨.inl ⟨rfl, Tryz.f396, [], false, Tryz.func396, l_sym_Tree_Copy⟩, trivial, trivial⟩⟩, ⟨.inl ⟨rfl, Tryz.f399, [], false, Tryz.func399, l_sym_Tree_Kind⟩, ⟨.inl ⟨rfl, Tryz.f398, [], false, Tryz.func398, l_sym_Tree_Empty⟩, trivial, trivial⟩, trivial⟩⟩, ⟨.inl ⟨rfl, Tryz.f403, [], false, Tryz.func403, l_sym_Tree_apart⟩, ⟨.inl ⟨rfl, Tryz.f402, [], false, Tryz.func402, l_sym_Tree_Text⟩, ⟨.inl ⟨rfl, Tryz.f401, [], false, Tryz.func401, l_sym_Tree_Put⟩, trivial, trivial⟩, trivial⟩, ⟨.inl ⟨rfl, Tryz.f405, [], false, Tryz.func405, l_sym_Tree_at⟩, ⟨.inl ⟨rfl, Tryz.f404, [], false, Tryz.func404, l_sym_Tree_set⟩, trivial, trivial⟩, trivial⟩⟩⟩⟩, ⟨.inl ⟨rfl, Tryz.f419, [], false, Tryz.func419, l_store_Ask⟩, ⟨.inl ⟨rfl, Tryz.f413, [], false, Tryz.func413, l_sym_Tree_bare_1⟩, ⟨.inl ⟨rfl, Tryz.f410, [2000000001, 2000000005], false, Tryz.func410, l_sym_made⟩, ⟨.inl ⟨rfl, Tryz.f408, [], false, Tryz.func408, l_sym_Tree_bare⟩, ⟨.inl ⟨rfl, Tryz.f407, [], false, Tryz.func407, l_sym_base⟩, trivial, trivial⟩, ⟨.inl ⟨rfl, Tryz.f409, [], false, Tryz.func409, l_sym_Tree_open⟩, trivial, trivial⟩⟩, ⟨.inl ⟨rfl, Tryz.f412, [], false, Tryz.func412, l_sym_Tree_kid⟩, ⟨.inl ⟨rfl, Tryz.f411, [2000000001, 4000000009], false, Tryz.func411, l_sym_with⟩, trivial, trivial⟩, trivial⟩⟩, ⟨.inl ⟨rfl, Tryz.f416, [], false, Tryz.func416, l_slices_Clone_api_Term_api_Term⟩, ⟨.inl ⟨rfl, Tryz.f415, [], false, Tryz.func415, l_sym_Tree_beside⟩, ⟨.inl ⟨rfl, Tryz.f414, [], false, Tryz.func414, l_slices_Contains_string_string⟩, trivial, trivial⟩, trivial⟩, ⟨.inl ⟨rfl, Tryz.f418, [1000010009, 1000011009, 13, 1000015000, 1000016000, 1000018000], true, Tryz.func418, l_slices_Insert_api_Term_api_Term⟩, ⟨.inl ⟨rfl, Tryz.f417, [], false, Tryz.func417, l_slices_Delete_api_Term_api_Term⟩, trivial, trivial⟩, trivial⟩⟩⟩, ⟨.inl ⟨rfl, Tryz.f427, [], false, Tryz.func427, l_slices_Index_int_int⟩, ⟨.inl ⟨rfl, Tryz.f424, [], false, Tryz.func424, l_store_Ask_1⟩, ⟨.inl ⟨rfl, Tryz.f421, [], false, Tryz.func421, l_slices_Contains_int_int⟩, ⟨.inl ⟨rfl, Tryz.f420, [], false, Tryz.func420, l_slices_Index_string_string⟩, trivial, trivial⟩, ⟨.inl ⟨rfl, Tryz.f423, [], false, Tryz.func423, l_slices_rotateRight_api_Term⟩, trivial, trivial⟩⟩, ⟨.inl ⟨rfl, Tryz.f426, [1000010009, 1000011009, 13, 1000015000, 1000016000, 1000018000], true, Tryz.func426, l_slices_Insert_int_int⟩, ⟨.inl ⟨rfl, Tryz.f425, [4000000005, 4000000006], false, Tryz.func425, l_store_Ask_2⟩, trivial, trivial⟩, trivial⟩⟩, ⟨.inl ⟨rfl, Tryz.f431, [1000003000], false, Tryz.func431, l_slices_Reverse_api_Term_api_Term⟩, ⟨.inl ⟨rfl, Tryz.f430, [], false, Tryz.func430, l_slices_rotateRight_int⟩, ⟨.inl ⟨rfl, Tryz.f428, [1000002000], false, Tryz.func428, l_slices_rotateLeft_api_Term⟩, trivial, trivial⟩, trivial⟩, ⟨.inl ⟨rfl, Tryz.f433, [1000003000], false, Tryz.func433, l_slices_Reverse_int_int⟩, ⟨.inl ⟨rfl, Tryz.f432, [1000002000], false, Tryz.func432, l_slices_rotateLeft_int⟩, trivial, trivial⟩, trivial⟩⟩⟩⟩⟩⟩⟩
theorem fns_ok : ∀ (f : Nat) (fn : Fun), prog f = some fn → FunOk Tryz.prog gt f fn := fun f fn h => PT.all_get tab_ok h
end Go.Proofs.YtcdbpkfbnhjgdaaGreatDoor
