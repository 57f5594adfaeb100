/-
  The abstract machine's functions are the dump's. By program.
-/
import Derived.Test.YtekhkkodgjfidaaGreatDoorRows
import Derived.Test.YtekhkkodgjfidaaGreatDoorAmSound
import Derived.Test.YtekhkkodgjfidaaGreatDoorFns
set_option linter.all false
set_option linter.unusedVariables false
set_option linter.unusedSimpArgs false
set_option linter.unusedSectionVars false
set_option maxRecDepth 100000
namespace Go.Proofs.YtekhkkodgjfidaaGreatDoor
open Go.Proofs.YtekhkkodgjfidaaGreatDoor.Am Go.Proofs
def gt : Nat → Option (List AV)
  | _ => none
theorem l_touchstonelaw12_DirsReason : compF Tryz.prog gt false false [] Tryz.f6 = some c_touchstonelaw12_DirsReason := by kernel_rfl
theorem l_dirs_Reason : compF Tryz.prog gt false false [] Tryz.f28 = some c_dirs_Reason := by kernel_rfl
theorem l_touchstoneref12_Reason : compF Tryz.prog gt false false [] Tryz.f29 = some c_touchstoneref12_Reason := by kernel_rfl
theorem l_touchstonelaw12_awake : compF Tryz.prog gt false false [] Tryz.f30 = some c_touchstonelaw12_awake := by kernel_rfl
theorem l_strings_Contains : compF Tryz.prog gt false false [] Tryz.f53 = some c_strings_Contains := by kernel_rfl
theorem l_ftree_May : compF Tryz.prog gt false false [] Tryz.f65 = some c_ftree_May := by kernel_rfl
theorem l_touchstonelaw12_example : compF Tryz.prog gt false false [] Tryz.f66 = some c_touchstonelaw12_example := by kernel_rfl
theorem l_dirs_Run : compF Tryz.prog gt false false [] Tryz.f67 = some c_dirs_Run := by kernel_rfl
theorem l_ftree_Tree_Kind : compF Tryz.prog gt false false [] Tryz.f68 = some c_ftree_Tree_Kind := by kernel_rfl
theorem l_slices_Collect_string : compF Tryz.prog gt false false [] Tryz.f69 = some c_slices_Collect_string := by kernel_rfl
theorem l_strings_HasPrefix : compF Tryz.prog gt false false [] Tryz.f86 = some c_strings_HasPrefix := by kernel_rfl
theorem l_strings_Index : compF Tryz.prog gt false false [] Tryz.f90 = some c_strings_Index := by kernel_rfl
theorem l_slices_BinarySearch_string_string : compF Tryz.prog gt false false [] Tryz.f106 = some c_slices_BinarySearch_string_string := by kernel_rfl
theorem l_slices_Insert_string_string : compF Tryz.prog gt false true [1000010009, 1000011009, 13, 1000015000, 1000016000, 1000018000] Tryz.f107 = some c_slices_Insert_string_string := by kernel_rfl
theorem l_slices_Insert_api_Node_api_Node : compF Tryz.prog gt false true [1000010009, 1000011009, 13, 1000015000, 1000016000, 1000018000] Tryz.f108 = some c_slices_Insert_api_Node_api_Node := by kernel_rfl
theorem l_ftree_Well : compF Tryz.prog gt false false [] Tryz.f109 = some c_ftree_Well := by kernel_rfl
theorem l_ftree_Nodes : compF Tryz.prog gt false false [] Tryz.f110 = some c_ftree_Nodes := by kernel_rfl
theorem l_ftree_depth : compF Tryz.prog gt false false [] Tryz.f111 = some c_ftree_depth := by kernel_rfl
theorem l_ftree_New : compF Tryz.prog gt false false [] Tryz.f112 = some c_ftree_New := by kernel_rfl
theorem l_dirs_utilities : compF Tryz.prog gt false false [] Tryz.f113 = some c_dirs_utilities := by kernel_rfl
theorem l_opts_Parse : compF Tryz.prog gt false false [2000000030] Tryz.f114 = some c_opts_Parse := by kernel_rfl
theorem l_path_Check : compF Tryz.prog gt false false [] Tryz.f115 = some c_path_Check := by kernel_rfl
theorem l_ftree_Tree_at : compF Tryz.prog gt false false [] Tryz.f116 = some c_ftree_Tree_at := by kernel_rfl
theorem l_slices_AppendSeq_string_string : compF Tryz.prog gt false true [] Tryz.f117 = some c_slices_AppendSeq_string_string := by kernel_rfl
theorem l_internal_stringslite_HasPrefix : compF Tryz.prog gt false false [] Tryz.f131 = some c_internal_stringslite_HasPrefix := by kernel_rfl
theorem l_internal_stringslite_Index : compF Tryz.prog gt false false [] Tryz.f133 = some c_internal_stringslite_Index := by kernel_rfl
theorem l_path_Name : compF Tryz.prog gt false false [] Tryz.f136 = some c_path_Name := by kernel_rfl
theorem l_cmp_Less_string : compF Tryz.prog gt false false [] Tryz.f143 = some c_cmp_Less_string := by kernel_rfl
theorem l_slices_isNaN_string : compF Tryz.prog gt false false [] Tryz.f144 = some c_slices_isNaN_string := by kernel_rfl
theorem l_slices_rotateRight_string : compF Tryz.prog gt false false [] Tryz.f146 = some c_slices_rotateRight_string := by kernel_rfl
theorem l_slices_rotateRight_api_Node : compF Tryz.prog gt false false [] Tryz.f148 = some c_slices_rotateRight_api_Node := by kernel_rfl
theorem l_strings_IndexByte : compF Tryz.prog gt false false [] Tryz.f149 = some c_strings_IndexByte := by kernel_rfl
theorem l_ftree_own : compF Tryz.prog gt false false [] Tryz.f150 = some c_ftree_own := by kernel_rfl
theorem l_dirs_utilities_1 : compF Tryz.prog gt false false [] Tryz.f151 = some c_dirs_utilities_1 := by kernel_rfl
theorem l_dirs_call_mkdir : compF Tryz.prog gt false false [] Tryz.f152 = some c_dirs_call_mkdir := by kernel_rfl
theorem l_dirs_call_rmdir : compF Tryz.prog gt false false [] Tryz.f153 = some c_dirs_call_rmdir := by kernel_rfl
theorem l_dirs_call_touch : compF Tryz.prog gt false false [] Tryz.f154 = some c_dirs_call_touch := by kernel_rfl
theorem l_dirs_utilities_2 : compF Tryz.prog gt false false [] Tryz.f155 = some c_dirs_utilities_2 := by kernel_rfl
theorem l_opts_Opts_Has : compF Tryz.prog gt false false [] Tryz.f156 = some c_opts_Opts_Has := by kernel_rfl
theorem l_dirs_call_rm : compF Tryz.prog gt false false [] Tryz.f157 = some c_dirs_call_rm := by kernel_rfl
theorem l_opts_letter : compF Tryz.prog gt false false [] Tryz.f158 = some c_opts_letter := by kernel_rfl
theorem l_slices_Clone_string_string : compF Tryz.prog gt true false [] Tryz.f159 = some c_slices_Clone_string_string := by kernel_rfl
theorem l_path_steps : compF Tryz.prog gt false false [] Tryz.f160 = some c_path_steps := by kernel_rfl
theorem l_ftree_find : compF Tryz.prog gt false false [] Tryz.f161 = some c_ftree_find := by kernel_rfl
theorem l_strings_ContainsAny : compF Tryz.prog gt false false [] Tryz.f178 = some c_strings_ContainsAny := by kernel_rfl
theorem l_internal_stringslite_IndexByte : compF Tryz.prog gt false false [] Tryz.f179 = some c_internal_stringslite_IndexByte := by kernel_rfl
theorem l_internal_bytealg_Cutover : compF Tryz.prog gt false false [] Tryz.f181 = some c_internal_bytealg_Cutover := by kernel_rfl
theorem l_internal_bytealg_IndexRabinKarp_string : compF Tryz.prog gt false false [] Tryz.f182 = some c_internal_bytealg_IndexRabinKarp_string := by kernel_rfl
theorem l_cmp_isNaN_string : compF Tryz.prog gt false false [] Tryz.f188 = some c_cmp_isNaN_string := by kernel_rfl
theorem l_slices_rotateLeft_string : compF Tryz.prog gt false false [1000002000] Tryz.f189 = some c_slices_rotateLeft_string := by kernel_rfl
theorem l_slices_rotateLeft_api_Node : compF Tryz.prog gt false false [1000002000] Tryz.f190 = some c_slices_rotateLeft_api_Node := by kernel_rfl
theorem l_dirs_call_spot : compF Tryz.prog gt false false [] Tryz.f191 = some c_dirs_call_spot := by kernel_rfl
theorem l_prim_MakeDir : compF Tryz.prog gt false false [] Tryz.f192 = some c_prim_MakeDir := by kernel_rfl
theorem l_path_Steps : compF Tryz.prog gt false false [] Tryz.f193 = some c_path_Steps := by kernel_rfl
theorem l_strings_Builder_WriteString : compF Tryz.prog gt false false [] Tryz.f194 = some c_strings_Builder_WriteString := by kernel_rfl
theorem l_walk_Find : compF Tryz.prog gt false false [] Tryz.f195 = some c_walk_Find := by kernel_rfl
theorem l_strings_Builder_String : compF Tryz.prog gt false false [] Tryz.f196 = some c_strings_Builder_String := by kernel_rfl
theorem l_prim_RemoveDir : compF Tryz.prog gt false false [] Tryz.f197 = some c_prim_RemoveDir := by kernel_rfl
theorem l_walk_Spot : compF Tryz.prog gt false false [] Tryz.f198 = some c_walk_Spot := by kernel_rfl
theorem l_path_Dir : compF Tryz.prog gt false false [] Tryz.f199 = some c_path_Dir := by kernel_rfl
theorem l_prim_Touch : compF Tryz.prog gt false false [] Tryz.f200 = some c_prim_Touch := by kernel_rfl
theorem l_prim_Unlink : compF Tryz.prog gt false false [] Tryz.f201 = some c_prim_Unlink := by kernel_rfl
theorem l_prim_RemoveAll : compF Tryz.prog gt false false [] Tryz.f202 = some c_prim_RemoveAll := by kernel_rfl
theorem l_path_steps_1 : compF Tryz.prog gt false false [] Tryz.f203 = some c_path_steps_1 := by kernel_rfl
theorem l_strings_SplitSeq : compF Tryz.prog gt false false [] Tryz.f204 = some c_strings_SplitSeq := by kernel_rfl
theorem l_strings_IndexAny : compF Tryz.prog gt false false [] Tryz.f214 = some c_strings_IndexAny := by kernel_rfl
theorem l_internal_bytealg_hashStr_string : compF Tryz.prog gt false false [] Tryz.f216 = some c_internal_bytealg_hashStr_string := by kernel_rfl
theorem l_slices_Reverse_string_string : compF Tryz.prog gt false false [1000003000] Tryz.f220 = some c_slices_Reverse_string_string := by kernel_rfl
theorem l_slices_Reverse_api_Node_api_Node : compF Tryz.prog gt false false [1000003000] Tryz.f221 = some c_slices_Reverse_api_Node_api_Node := by kernel_rfl
theorem l_prim_put : compF Tryz.prog gt false false [] Tryz.f222 = some c_prim_put := by kernel_rfl
theorem l_strings_Builder_copyCheck : compF Tryz.prog gt false false [] Tryz.f223 = some c_strings_Builder_copyCheck := by kernel_rfl
theorem l_walk_walk : compF Tryz.prog gt false false [] Tryz.f224 = some c_walk_walk := by kernel_rfl
theorem l_prim_remove : compF Tryz.prog gt false false [] Tryz.f225 = some c_prim_remove := by kernel_rfl
theorem l_prim_RemoveDir_1 : compF Tryz.prog gt false false [] Tryz.f226 = some c_prim_RemoveDir_1 := by kernel_rfl
theorem l_strings_LastIndexByte : compF Tryz.prog gt false false [] Tryz.f227 = some c_strings_LastIndexByte := by kernel_rfl
theorem l_prim_at : compF Tryz.prog gt false false [] Tryz.f228 = some c_prim_at := by kernel_rfl
theorem l_prim_Touch_1 : compF Tryz.prog gt false false [] Tryz.f229 = some c_prim_Touch_1 := by kernel_rfl
theorem l_prim_Unlink_1 : compF Tryz.prog gt false false [] Tryz.f230 = some c_prim_Unlink_1 := by kernel_rfl
theorem l_prim_RemoveAll_1 : compF Tryz.prog gt false false [] Tryz.f231 = some c_prim_RemoveAll_1 := by kernel_rfl
theorem l_strings_splitSeq : compF Tryz.prog gt false false [] Tryz.f232 = some c_strings_splitSeq := by kernel_rfl
theorem l_strings_IndexRune : compF Tryz.prog gt false false [] Tryz.f235 = some c_strings_IndexRune := by kernel_rfl
theorem l_strings_shouldUseASCIISet : compF Tryz.prog gt false false [] Tryz.f236 = some c_strings_shouldUseASCIISet := by kernel_rfl
theorem l_strings_makeASCIISet : compF Tryz.prog gt false false [] Tryz.f237 = some c_strings_makeASCIISet := by kernel_rfl
theorem l_strings_asciiSet_contains : compF Tryz.prog gt false false [] Tryz.f238 = some c_strings_asciiSet_contains := by kernel_rfl
theorem l_prim_put_1 : compF Tryz.prog gt false false [] Tryz.f252 = some c_prim_put_1 := by kernel_rfl
theorem l_walk_walker_run : compF Tryz.prog gt false false [5] Tryz.f254 = some c_walk_walker_run := by kernel_rfl
theorem l_prim_remove_1 : compF Tryz.prog gt false false [] Tryz.f255 = some c_prim_remove_1 := by kernel_rfl
theorem l_internal_bytealg_LastIndexByteString : compF Tryz.prog gt false false [] Tryz.f256 = some c_internal_bytealg_LastIndexByteString := by kernel_rfl
theorem l_prim_taken : compF Tryz.prog gt false false [] Tryz.f257 = some c_prim_taken := by kernel_rfl
theorem l_strings_splitSeq_1 : compF Tryz.prog gt false false [] Tryz.f258 = some c_strings_splitSeq_1 := by kernel_rfl
theorem l_unicode_utf8_DecodeRuneInString : compF Tryz.prog gt false false [] Tryz.f259 = some c_unicode_utf8_DecodeRuneInString := by kernel_rfl
theorem l_unicode_utf8_ValidRune : compF Tryz.prog gt false false [] Tryz.f260 = some c_unicode_utf8_ValidRune := by kernel_rfl
theorem l_walk_walker_name : compF Tryz.prog gt false false [] Tryz.f269 = some c_walk_walker_name := by kernel_rfl
theorem l_unicode_utf8_decodeRuneInStringSlow : compF Tryz.prog gt false false [] Tryz.f270 = some c_unicode_utf8_decodeRuneInStringSlow := by kernel_rfl
theorem l_walk_walker_below : compF Tryz.prog gt false false [] Tryz.f274 = some c_walk_walker_below := by kernel_rfl
theorem l_walk_walker_follow : compF Tryz.prog gt false false [] Tryz.f275 = some c_walk_walker_follow := by kernel_rfl
theorem l_ftree_Tree_Del : compF Tryz.prog gt false false [] Tryz.f294 = some c_ftree_Tree_Del := by kernel_rfl
theorem l_ftree_Tree_Empty : compF Tryz.prog gt false false [] Tryz.f295 = some c_ftree_Tree_Empty := by kernel_rfl
theorem l_ftree_Tree_Put : compF Tryz.prog gt false false [] Tryz.f296 = some c_ftree_Tree_Put := by kernel_rfl
theorem l_ftree_Tree_Text : compF Tryz.prog gt false false [] Tryz.f297 = some c_ftree_Tree_Text := by kernel_rfl
theorem l_ftree_change : compF Tryz.prog gt false false [3000000006] Tryz.f298 = some c_ftree_change := by kernel_rfl
theorem l_ftree_Tree_Del_1 : compF Tryz.prog gt false false [3000000002, 3000000003] Tryz.f299 = some c_ftree_Tree_Del_1 := by kernel_rfl
theorem l_slices_Delete_string_string : compF Tryz.prog gt false false [] Tryz.f300 = some c_slices_Delete_string_string := by kernel_rfl
theorem l_slices_Delete_api_Node_api_Node : compF Tryz.prog gt false false [] Tryz.f301 = some c_slices_Delete_api_Node_api_Node := by kernel_rfl
theorem l_slices_Clone_api_Node_api_Node : compF Tryz.prog gt true false [] Tryz.f302 = some c_slices_Clone_api_Node_api_Node := by kernel_rfl
theorem l_ftree_Tree_open : compF Tryz.prog gt false false [] Tryz.f303 = some c_ftree_Tree_open := by kernel_rfl
theorem l_ftree_Tree_set : compF Tryz.prog gt false false [] Tryz.f304 = some c_ftree_Tree_set := by kernel_rfl
theorem l_ftree_Tree_set_1 : compF Tryz.prog gt false false [3000000002, 4000000005, 4000000006] Tryz.f305 = some c_ftree_Tree_set_1 := by kernel_rfl
theorem tab_ok : tab.All (FunOk Tryz.prog gt) :=
  ⟨.inl ⟨rfl, Tryz.f194, [], false, Tryz.func194, l_strings_Builder_WriteString⟩, ⟨.inl ⟨rfl, Tryz.f143, [], false, Tryz.func143, l_cmp_Less_string⟩, ⟨.inl ⟨rfl, Tryz.f107, [1000010009, 1000011009, 13, 1000015000, 1000016000, 1000018000], true, Tryz.func107, l_slices_Insert_string_string⟩, ⟨.inl ⟨rfl, Tryz.f66, [], false, Tryz.func66, l_touchstonelaw12_example⟩, ⟨.inl ⟨rfl, Tryz.f30, [], false, Tryz.func30, l_touchstonelaw12_awake⟩, ⟨.inl ⟨rfl, Tryz.f28, [], false, Tryz.func28, l_dirs_Reason⟩, ⟨.inl ⟨rfl, Tryz.f6, [], false, Tryz.func6, l_touchstonelaw12_DirsReason⟩, trivial, trivial⟩, ⟨.inl ⟨rfl, Tryz.f29, [], false, Tryz.func29, l_touchstoneref12_Reason⟩, trivial, trivial⟩⟩, ⟨.inl ⟨rfl, Tryz.f65, [], false, Tryz.func65, l_ftree_May⟩, ⟨.inl ⟨rfl, Tryz.f53, [], false, Tryz.func53, l_strings_Contains⟩, trivial, trivial⟩, trivial⟩⟩, ⟨.inl ⟨rfl, Tryz.f86, [], false, Tryz.func86, l_strings_HasPrefix⟩, ⟨.inl ⟨rfl, Tryz.f68, [], false, Tryz.func68, l_ftree_Tree_Kind⟩, ⟨.inl ⟨rfl, Tryz.f67, [], false, Tryz.func67, l_dirs_Run⟩, trivial, trivial⟩, ⟨.inl ⟨rfl, Tryz.f69, [], false, Tryz.func69, l_slices_Collect_string⟩, trivial, trivial⟩⟩, ⟨.inl ⟨rfl, Tryz.f106, [], false, Tryz.func106, l_slices_BinarySearch_string_string⟩, ⟨.inl ⟨rfl, Tryz.f90, [], false, Tryz.func90, l_strings_Index⟩, trivial, trivial⟩, trivial⟩⟩⟩, ⟨.inl ⟨rfl, Tryz.f114, [2000000030], false, Tryz.func114, l_opts_Parse⟩, ⟨.inl ⟨rfl, Tryz.f111, [], false, Tryz.func111, l_ftree_depth⟩, ⟨.inl ⟨rfl, Tryz.f109, [], false, Tryz.func109, l_ftree_Well⟩, ⟨.inl ⟨rfl, Tryz.f108, [1000010009, 1000011009, 13, 1000015000, 1000016000, 1000018000], true, Tryz.func108, l_slices_Insert_api_Node_api_Node⟩, trivial, trivial⟩, ⟨.inl ⟨rfl, Tryz.f110, [], false, Tryz.func110, l_ftree_Nodes⟩, trivial, trivial⟩⟩, ⟨.inl ⟨rfl, Tryz.f113, [], false, Tryz.func113, l_dirs_utilities⟩, ⟨.inl ⟨rfl, Tryz.f112, [], false, Tryz.func112, l_ftree_New⟩, trivial, trivial⟩, trivial⟩⟩, ⟨.inl ⟨rfl, Tryz.f131, [], false, Tryz.func131, l_internal_stringslite_HasPrefix⟩, ⟨.inl ⟨rfl, Tryz.f116, [], false, Tryz.func116, l_ftree_Tree_at⟩, ⟨.inl ⟨rfl, Tryz.f115, [], false, Tryz.func115, l_path_Check⟩, trivial, trivial⟩, ⟨.inl ⟨rfl, Tryz.f117, [], true, Tryz.func117, l_slices_AppendSeq_string_string⟩, trivial, trivial⟩⟩, ⟨.inl ⟨rfl, Tryz.f136, [], false, Tryz.func136, l_path_Name⟩, ⟨.inl ⟨rfl, Tryz.f133, [], false, Tryz.func133, l_internal_stringslite_Index⟩, trivial, trivial⟩, trivial⟩⟩⟩⟩, ⟨.inl ⟨rfl, Tryz.f159, [], false, Tryz.func159, l_slices_Clone_string_string⟩, ⟨.inl ⟨rfl, Tryz.f152, [], false, Tryz.func152, l_dirs_call_mkdir⟩, ⟨.inl ⟨rfl, Tryz.f149, [], false, Tryz.func149, l_strings_IndexByte⟩, ⟨.inl ⟨rfl, Tryz.f146, [], false, Tryz.func146, l_slices_rotateRight_string⟩, ⟨.inl ⟨rfl, Tryz.f144, [], false, Tryz.func144, l_slices_isNaN_string⟩, trivial, trivial⟩, ⟨.inl ⟨rfl, Tryz.f148, [], false, Tryz.func148, l_slices_rotateRight_api_Node⟩, trivial, trivial⟩⟩, ⟨.inl ⟨rfl, Tryz.f151, [], false, Tryz.func151, l_dirs_utilities_1⟩, ⟨.inl ⟨rfl, Tryz.f150, [], false, Tryz.func150, l_ftree_own⟩, trivial, trivial⟩, trivial⟩⟩, ⟨.inl ⟨rfl, Tryz.f156, [], false, Tryz.func156, l_opts_Opts_Has⟩, ⟨.inl ⟨rfl, Tryz.f154, [], false, Tryz.func154, l_dirs_call_touch⟩, ⟨.inl ⟨rfl, Tryz.f153, [], false, Tryz.func153, l_dirs_call_rmdir⟩, trivial, trivial⟩, ⟨.inl ⟨rfl, Tryz.f155, [], false, Tryz.func155, l_dirs_utilities_2⟩, trivial, trivial⟩⟩, ⟨.inl ⟨rfl, Tryz.f158, [], false, Tryz.func158, l_opts_letter⟩, ⟨.inl ⟨rfl, Tryz.f157, [], false, Tryz.func157, l_dirs_call_rm⟩, trivial, trivial⟩, trivial⟩⟩⟩, ⟨.inl ⟨rfl, Tryz.f188, [], false, Tryz.func188, l_cmp_isNaN_string⟩, ⟨.inl ⟨rfl, Tryz.f179, [], false, Tryz.func179, l_internal_stringslite_IndexByte⟩, ⟨.inl ⟨rfl, Tryz.f161, [], false, Tryz.func161, l_ftree_find⟩, ⟨.inl ⟨rfl, Tryz.f160, [], false, Tryz.func160, l_path_steps⟩, trivial, trivial⟩, ⟨.inl ⟨rfl, Tryz.f178, [], false, Tryz.func178, l_strings_ContainsAny⟩, trivial, trivial⟩⟩, ⟨.inl ⟨rfl, Tryz.f182, [], false, Tryz.func182, l_internal_bytealg_IndexRabinKarp_string⟩, ⟨.inl ⟨rfl, Tryz.f181, [], false, Tryz.func181, l_internal_bytealg_Cutover⟩, trivial, trivial⟩, trivial⟩⟩, ⟨.inl ⟨rfl, Tryz.f191, [], false, Tryz.func191, l_dirs_call_spot⟩, ⟨.inl ⟨rfl, Tryz.f190, [1000002000], false, Tryz.func190, l_slices_rotateLeft_api_Node⟩, ⟨.inl ⟨rfl, Tryz.f189, [1000002000], false, Tryz.func189, l_slices_rotateLeft_string⟩, trivial, trivial⟩, trivial⟩, ⟨.inl ⟨rfl, Tryz.f193, [], false, Tryz.func193, l_path_Steps⟩, ⟨.inl ⟨rfl, Tryz.f192, [], false, Tryz.func192, l_prim_MakeDir⟩, trivial, trivial⟩, trivial⟩⟩⟩⟩⟩, ⟨.inl ⟨rfl, Tryz.f236, [], false, Tryz.func236, l_strings_shouldUseASCIISet⟩, ⟨.inl ⟨rfl, Tryz.f221, [1000003000], false, Tryz.func221, l_slices_Reverse_api_Node_api_Node⟩, ⟨.inl ⟨rfl, Tryz.f201, [], false, Tryz.func201, l_prim_Unlink⟩, ⟨.inl ⟨rfl, Tryz.f198, [], false, Tryz.func198, l_walk_Spot⟩, ⟨.inl ⟨rfl, Tryz.f196, [], false, Tryz.func196, l_strings_Builder_String⟩, ⟨.inl ⟨rfl, Tryz.f195, [], false, Tryz.func195, l_walk_Find⟩, trivial, trivial⟩, ⟨.inl ⟨rfl, Tryz.f197, [], false, Tryz.func197, l_prim_RemoveDir⟩, trivial, trivial⟩⟩, ⟨.inl ⟨rfl, Tryz.f200, [], false, Tryz.func200, l_prim_Touch⟩, ⟨.inl ⟨rfl, Tryz.f199, [], false, Tryz.func199, l_path_Dir⟩, trivial, trivial⟩, trivial⟩⟩, ⟨.inl ⟨rfl, Tryz.f214, [], false, Tryz.func214, l_strings_IndexAny⟩, ⟨.inl ⟨rfl, Tryz.f203, [], false, Tryz.func203, l_path_steps_1⟩, ⟨.inl ⟨rfl, Tryz.f202, [], false, Tryz.func202, l_prim_RemoveAll⟩, trivial, trivial⟩, ⟨.inl ⟨rfl, Tryz.f204, [], false, Tryz.func204, l_strings_SplitSeq⟩, trivial, trivial⟩⟩, ⟨.inl ⟨rfl, Tryz.f220, [1000003000], false, Tryz.func220, l_slices_Reverse_string_string⟩, ⟨.inl ⟨rfl, Tryz.f216, [], false, Tryz.func216, l_internal_bytealg_hashStr_string⟩, trivial, trivial⟩, trivial⟩⟩⟩, ⟨.inl ⟨rfl, Tryz.f228, [], false, Tryz.func228, l_prim_at⟩, ⟨.inl ⟨rfl, Tryz.f225, [], false, Tryz.func225, l_prim_remove⟩, ⟨.inl ⟨rfl, Tryz.f223, [], false, Tryz.func223, l_strings_Builder_copyCheck⟩, ⟨.inl ⟨rfl, Tryz.f222, [], false, Tryz.func222, l_prim_put⟩, trivial, trivial⟩, ⟨.inl ⟨rfl, Tryz.f224, [], false, Tryz.func224, l_walk_walk⟩, trivial, trivial⟩⟩, ⟨.inl ⟨rfl, Tryz.f227, [], false, Tryz.func227, l_strings_LastIndexByte⟩, ⟨.inl ⟨rfl, Tryz.f226, [], false, Tryz.func226, l_prim_RemoveDir_1⟩, trivial, trivial⟩, trivial⟩⟩, ⟨.inl ⟨rfl, Tryz.f231, [], false, Tryz.func231, l_prim_RemoveAll_1⟩, ⟨.inl ⟨rfl, Tryz.f230, [], false, Tryz.func230, l_prim_Unlink_1⟩, ⟨.inl ⟨rfl, Tryz.f229, [], false, Tryz.func229, l_prim_Touch_1⟩, trivial, trivial⟩, trivial⟩, ⟨.inl ⟨rfl, Tryz.f235, [], false, Tryz.func235, l_strings_IndexRune⟩, ⟨.inl ⟨rfl, Tryz.f232, [], false, Tryz.func232, l_strings_splitSeq⟩, trivial, trivial⟩, trivial⟩⟩⟩⟩, ⟨.inl ⟨rfl, Tryz.f275, [], false, Tryz.func275, l_walk_walker_follow⟩, ⟨.inl ⟨rfl, Tryz.f257, [], false, Tryz.func257, l_prim_taken⟩, ⟨.inl ⟨rfl, Tryz.f254, [5], false, Tryz.func254, l_walk_walker_run⟩, ⟨.inl ⟨rfl, Tryz.f238, [], false, Tryz.func238, l_strings_asciiSet_contains⟩, ⟨.inl ⟨rfl, Tryz.f237, [], false, Tryz.func237, l_strings_makeASCIISet⟩, trivial, trivial⟩, ⟨.inl ⟨rfl, Tryz.f252, [], false, Tryz.func252, l_prim_put_1⟩, trivial, trivial⟩⟩, ⟨.inl ⟨rfl, Tryz.f256, [], false, Tryz.func256, l_internal_bytealg_LastIndexByteString⟩, ⟨.inl ⟨rfl, Tryz.f255, [], false, Tryz.func255, l_prim_remove_1⟩, trivial, trivial⟩, trivial⟩⟩, ⟨.inl ⟨rfl, Tryz.f269, [], false, Tryz.func269, l_walk_walker_name⟩, ⟨.inl ⟨rfl, Tryz.f259, [], false, Tryz.func259, l_unicode_utf8_DecodeRuneInString⟩, ⟨.inl ⟨rfl, Tryz.f258, [], false, Tryz.func258, l_strings_splitSeq_1⟩, trivial, trivial⟩, ⟨.inl ⟨rfl, Tryz.f260, [], false, Tryz.func260, l_unicode_utf8_ValidRune⟩, trivial, trivial⟩⟩, ⟨.inl ⟨rfl, Tryz.f274, [], false, Tryz.func274, l_walk_walker_below⟩, ⟨.inl ⟨rfl, Tryz.f270, [], false, Tryz.func270, l_unicode_utf8_decodeRuneInStringSlow⟩, trivial, trivial⟩, trivial⟩⟩⟩, ⟨.inl ⟨rfl, Tryz.f300, [], false, Tryz.func300, l_slices_Delete_string_string⟩, ⟨.inl ⟨rfl, Tryz.f297, [], false, Tryz.func297, l_ftree_Tree_Text⟩, ⟨.inl ⟨rfl, Tryz.f295, [], false, Tryz.func295, l_ftree_Tree_Empty⟩, ⟨.inl ⟨rfl, Tryz.f294, [], false, Tryz.func294, l_ftree_Tree_Del⟩, trivial, trivial⟩, ⟨.inl ⟨rfl, Tryz.f296, [], false, Tryz.func296, l_ftree_Tree_Put⟩, trivial, trivial⟩⟩, ⟨.inl ⟨rfl, Tryz.f299, [3000000002, 3000000003], false, Tryz.func299, l_ftree_Tree_Del_1⟩, ⟨.inl ⟨rfl, Tryz.f298, [3000000006], false, Tryz.func298, l_ftree_change⟩, trivial, trivial⟩, trivial⟩⟩, ⟨.inl ⟨rfl, Tryz.f303, [], false, Tryz.func303, l_ftree_Tree_open⟩, ⟨.inl ⟨rfl, Tryz.f302, [], false, Tryz.func302, l_slices_Clone_api_Node_api_Node⟩, ⟨.inl ⟨rfl, Tryz.f301, [], false, Tryz.func301, l_slices_Delete_api_Node_api_Node⟩, trivial, trivial⟩, trivial⟩, ⟨.inl ⟨rfl, Tryz.f305, [3000000002, 4000000005, 4000000006], false, Tryz.func305, l_ftree_Tree_set_1⟩, ⟨.inl ⟨rfl, Tryz.f304, [], false, Tryz.func304, l_ftree_Tree_set⟩, trivial, trivial⟩, trivial⟩⟩⟩⟩⟩⟩
theorem fns_ok : ∀ (f : Nat) (fn : Fun), prog f = some fn → FunOk Tryz.prog gt f fn := fun f fn h => PT.all_get tab_ok h
end Go.Proofs.YtekhkkodgjfidaaGreatDoor
