/-
  The abstract machine's functions are the dump's. By program.
-/
import Derived.Test.YtmeahkccilkofaaDoorRows
import Derived.Test.YtmeahkccilkofaaDoorAmSound
import Derived.Test.YtmeahkccilkofaaDoorFns
set_option linter.all false
set_option linter.unusedVariables false
set_option linter.unusedSimpArgs false
set_option linter.unusedSectionVars false
set_option maxRecDepth 100000
namespace Go.Proofs.YtmeahkccilkofaaDoor
open Go.Proofs.YtmeahkccilkofaaDoor.Am Go.Proofs
def gt : Nat → Option (List AV) := fun _ => none
theorem l_touchstonelaw09_WalkNames : compF Tryd.prog gt false false [] Tryd.f8 = some c_touchstonelaw09_WalkNames := by kernel_rfl
theorem l_touchstonelaw06_PathNames : compF Tryd.prog gt false false [] Tryd.f10 = some c_touchstonelaw06_PathNames := by kernel_rfl
theorem l_touchstonelaw06_awake : compF Tryd.prog gt false false [] Tryd.f30 = some c_touchstonelaw06_awake := by kernel_rfl
theorem l_path_Show : compF Tryd.prog gt false false [] Tryd.f31 = some c_path_Show := by kernel_rfl
theorem l_path_Under : compF Tryd.prog gt false false [] Tryd.f33 = some c_path_Under := by kernel_rfl
theorem l_touchstoneref06_Under : compF Tryd.prog gt false false [] Tryd.f34 = some c_touchstoneref06_Under := by kernel_rfl
theorem l_path_Less : compF Tryd.prog gt false false [] Tryd.f35 = some c_path_Less := by kernel_rfl
theorem l_touchstoneref06_Same : compF Tryd.prog gt false false [] Tryd.f37 = some c_touchstoneref06_Same := by kernel_rfl
theorem l_path_Name : compF Tryd.prog gt false false [] Tryd.f38 = some c_path_Name := by kernel_rfl
theorem l_path_Clean : compF Tryd.prog gt false false [7] Tryd.f39 = some c_path_Clean := by kernel_rfl
theorem l_path_Steps : compF Tryd.prog gt false false [] Tryd.f40 = some c_path_Steps := by kernel_rfl
theorem l_touchstonelaw09_works : compF Tryd.prog gt false false [] Tryd.f41 = some c_touchstonelaw09_works := by kernel_rfl
theorem l_ftree_New : compF Tryd.prog gt false false [] Tryd.f42 = some c_ftree_New := by kernel_rfl
theorem l_touchstonelaw09_dir : compF Tryd.prog gt false false [] Tryd.f43 = some c_touchstonelaw09_dir := by kernel_rfl
theorem l_touchstonelaw09_file : compF Tryd.prog gt false false [] Tryd.f44 = some c_touchstonelaw09_file := by kernel_rfl
theorem l_touchstonelaw09_link : compF Tryd.prog gt false false [] Tryd.f45 = some c_touchstonelaw09_link := by kernel_rfl
theorem l_walk_Find : compF Tryd.prog gt false false [] Tryd.f46 = some c_walk_Find := by kernel_rfl
theorem l_walk_Spot : compF Tryd.prog gt false false [] Tryd.f47 = some c_walk_Spot := by kernel_rfl
theorem l_touchstonelaw09_finds : compF Tryd.prog gt false false [] Tryd.f48 = some c_touchstonelaw09_finds := by kernel_rfl
theorem l_touchstonelaw09_refused : compF Tryd.prog gt false false [] Tryd.f49 = some c_touchstonelaw09_refused := by kernel_rfl
theorem l_touchstonelaw09_spots : compF Tryd.prog gt false false [] Tryd.f50 = some c_touchstonelaw09_spots := by kernel_rfl
theorem l_path_Last : compF Tryd.prog gt false false [] Tryd.f54 = some c_path_Last := by kernel_rfl
theorem l_path_Dir : compF Tryd.prog gt false false [] Tryd.f57 = some c_path_Dir := by kernel_rfl
theorem l_path_Check : compF Tryd.prog gt false false [] Tryd.f59 = some c_path_Check := by kernel_rfl
theorem l_ftree_Tree_Kind : compF Tryd.prog gt false false [] Tryd.f62 = some c_ftree_Tree_Kind := by kernel_rfl
theorem l_strings_Builder_WriteString : compF Tryd.prog gt false false [] Tryd.f75 = some c_strings_Builder_WriteString := by kernel_rfl
theorem l_strings_Builder_String : compF Tryd.prog gt false false [] Tryd.f76 = some c_strings_Builder_String := by kernel_rfl
theorem l_strings_Join : compF Tryd.prog gt false false [] Tryd.f82 = some c_strings_Join := by kernel_rfl
theorem l_slices_Equal_string_string : compF Tryd.prog gt false false [] Tryd.f83 = some c_slices_Equal_string_string := by kernel_rfl
theorem l_slices_Compare_string_string : compF Tryd.prog gt false false [] Tryd.f84 = some c_slices_Compare_string_string := by kernel_rfl
theorem l_strings_ContainsAny : compF Tryd.prog gt false false [] Tryd.f85 = some c_strings_ContainsAny := by kernel_rfl
theorem l_path_steps : compF Tryd.prog gt false false [] Tryd.f86 = some c_path_steps := by kernel_rfl
theorem l_slices_Collect_string : compF Tryd.prog gt false false [] Tryd.f87 = some c_slices_Collect_string := by kernel_rfl
theorem l_ftree_May : compF Tryd.prog gt false false [] Tryd.f88 = some c_ftree_May := by kernel_rfl
theorem l_ftree_own : compF Tryd.prog gt false false [] Tryd.f89 = some c_ftree_own := by kernel_rfl
theorem l_walk_walk : compF Tryd.prog gt false false [] Tryd.f90 = some c_walk_walk := by kernel_rfl
theorem l_strings_TrimRight : compF Tryd.prog gt false false [] Tryd.f92 = some c_strings_TrimRight := by kernel_rfl
theorem l_strings_LastIndexByte : compF Tryd.prog gt false false [] Tryd.f93 = some c_strings_LastIndexByte := by kernel_rfl
theorem l_strings_Contains : compF Tryd.prog gt false false [] Tryd.f94 = some c_strings_Contains := by kernel_rfl
theorem l_ftree_Tree_at : compF Tryd.prog gt false false [] Tryd.f95 = some c_ftree_Tree_at := by kernel_rfl
theorem l_slices_Clone_string_string : compF Tryd.prog gt true false [] Tryd.f97 = some c_slices_Clone_string_string := by kernel_rfl
theorem l_strings_Builder_copyCheck : compF Tryd.prog gt false false [] Tryd.f101 = some c_strings_Builder_copyCheck := by kernel_rfl
theorem l_strings_Builder_Grow : compF Tryd.prog gt false false [] Tryd.f103 = some c_strings_Builder_Grow := by kernel_rfl
theorem l_cmp_Compare_string : compF Tryd.prog gt false false [] Tryd.f104 = some c_cmp_Compare_string := by kernel_rfl
theorem l_strings_IndexAny : compF Tryd.prog gt false false [] Tryd.f105 = some c_strings_IndexAny := by kernel_rfl
theorem l_path_steps_1 : compF Tryd.prog gt false false [] Tryd.f106 = some c_path_steps_1 := by kernel_rfl
theorem l_strings_SplitSeq : compF Tryd.prog gt false false [] Tryd.f107 = some c_strings_SplitSeq := by kernel_rfl
theorem l_slices_AppendSeq_string_string : compF Tryd.prog gt false true [] Tryd.f108 = some c_slices_AppendSeq_string_string := by kernel_rfl
theorem l_ftree_Well : compF Tryd.prog gt false false [] Tryd.f109 = some c_ftree_Well := by kernel_rfl
theorem l_ftree_Nodes : compF Tryd.prog gt false false [] Tryd.f110 = some c_ftree_Nodes := by kernel_rfl
theorem l_ftree_depth : compF Tryd.prog gt false false [] Tryd.f111 = some c_ftree_depth := by kernel_rfl
theorem l_walk_walker_run : compF Tryd.prog gt false false [5] Tryd.f112 = some c_walk_walker_run := by kernel_rfl
theorem l_strings_trimRightByte : compF Tryd.prog gt false false [2] Tryd.f113 = some c_strings_trimRightByte := by kernel_rfl
theorem l_strings_makeASCIISet : compF Tryd.prog gt false false [] Tryd.f114 = some c_strings_makeASCIISet := by kernel_rfl
theorem l_strings_trimRightASCII : compF Tryd.prog gt false false [3] Tryd.f115 = some c_strings_trimRightASCII := by kernel_rfl
theorem l_strings_trimRightUnicode : compF Tryd.prog gt false false [6] Tryd.f116 = some c_strings_trimRightUnicode := by kernel_rfl
theorem l_internal_bytealg_LastIndexByteString : compF Tryd.prog gt false false [] Tryd.f117 = some c_internal_bytealg_LastIndexByteString := by kernel_rfl
theorem l_strings_Index : compF Tryd.prog gt false false [] Tryd.f118 = some c_strings_Index := by kernel_rfl
theorem l_ftree_find : compF Tryd.prog gt false false [] Tryd.f119 = some c_ftree_find := by kernel_rfl
theorem l_strings_Builder_grow : compF Tryd.prog gt false false [0] Tryd.f125 = some c_strings_Builder_grow := by kernel_rfl
theorem l_cmp_isNaN_string : compF Tryd.prog gt false false [] Tryd.f126 = some c_cmp_isNaN_string := by kernel_rfl
theorem l_strings_IndexRune : compF Tryd.prog gt false false [] Tryd.f127 = some c_strings_IndexRune := by kernel_rfl
theorem l_strings_shouldUseASCIISet : compF Tryd.prog gt false false [] Tryd.f128 = some c_strings_shouldUseASCIISet := by kernel_rfl
theorem l_strings_asciiSet_contains : compF Tryd.prog gt false false [] Tryd.f129 = some c_strings_asciiSet_contains := by kernel_rfl
theorem l_strings_splitSeq : compF Tryd.prog gt false false [] Tryd.f130 = some c_strings_splitSeq := by kernel_rfl
theorem l_strings_IndexByte : compF Tryd.prog gt false false [] Tryd.f131 = some c_strings_IndexByte := by kernel_rfl
theorem l_walk_walker_name : compF Tryd.prog gt false false [] Tryd.f132 = some c_walk_walker_name := by kernel_rfl
theorem l_unicode_utf8_DecodeLastRuneInString : compF Tryd.prog gt false false [] Tryd.f133 = some c_unicode_utf8_DecodeLastRuneInString := by kernel_rfl
theorem l_strings_ContainsRune : compF Tryd.prog gt false false [] Tryd.f134 = some c_strings_ContainsRune := by kernel_rfl
theorem l_internal_stringslite_Index : compF Tryd.prog gt false false [] Tryd.f135 = some c_internal_stringslite_Index := by kernel_rfl
theorem l_slices_BinarySearch_string_string : compF Tryd.prog gt false false [] Tryd.f136 = some c_slices_BinarySearch_string_string := by kernel_rfl
theorem l_cmp_Less_string : compF Tryd.prog gt false false [] Tryd.f144 = some c_cmp_Less_string := by kernel_rfl
theorem l_unicode_utf8_ValidRune : compF Tryd.prog gt false false [] Tryd.f154 = some c_unicode_utf8_ValidRune := by kernel_rfl
theorem l_internal_bytealg_Cutover : compF Tryd.prog gt false false [] Tryd.f155 = some c_internal_bytealg_Cutover := by kernel_rfl
theorem l_strings_splitSeq_1 : compF Tryd.prog gt false false [] Tryd.f157 = some c_strings_splitSeq_1 := by kernel_rfl
theorem l_unicode_utf8_DecodeRuneInString : compF Tryd.prog gt false false [] Tryd.f158 = some c_unicode_utf8_DecodeRuneInString := by kernel_rfl
theorem l_internal_stringslite_IndexByte : compF Tryd.prog gt false false [] Tryd.f159 = some c_internal_stringslite_IndexByte := by kernel_rfl
theorem l_walk_walker_below : compF Tryd.prog gt false false [] Tryd.f160 = some c_walk_walker_below := by kernel_rfl
theorem l_walk_walker_follow : compF Tryd.prog gt false false [] Tryd.f161 = some c_walk_walker_follow := by kernel_rfl
theorem l_unicode_utf8_RuneStart : compF Tryd.prog gt false false [] Tryd.f162 = some c_unicode_utf8_RuneStart := by kernel_rfl
theorem l_internal_bytealg_IndexRabinKarp_string : compF Tryd.prog gt false false [] Tryd.f163 = some c_internal_bytealg_IndexRabinKarp_string := by kernel_rfl
theorem l_slices_isNaN_string : compF Tryd.prog gt false false [] Tryd.f164 = some c_slices_isNaN_string := by kernel_rfl
theorem l_unicode_utf8_decodeRuneInStringSlow : compF Tryd.prog gt false false [] Tryd.f176 = some c_unicode_utf8_decodeRuneInStringSlow := by kernel_rfl
theorem l_strings_HasPrefix : compF Tryd.prog gt false false [] Tryd.f178 = some c_strings_HasPrefix := by kernel_rfl
theorem l_internal_bytealg_hashStr_string : compF Tryd.prog gt false false [] Tryd.f179 = some c_internal_bytealg_hashStr_string := by kernel_rfl
theorem l_internal_stringslite_HasPrefix : compF Tryd.prog gt false false [] Tryd.f183 = some c_internal_stringslite_HasPrefix := by kernel_rfl
theorem l_ftree_Tree_Text : compF Tryd.prog gt false false [] Tryd.f201 = some c_ftree_Tree_Text := by kernel_rfl
theorem tab_ok : tab.All fun f fn => ∃ F pops raw, Tryd.prog.funcs[f]? = some F ∧ compF Tryd.prog gt fn.keep raw pops F = some fn :=
  ⟨⟨Tryd.f104, [], false, Tryd.func104, l_cmp_Compare_string⟩, ⟨⟨Tryd.f54, [], false, Tryd.func54, l_path_Last⟩, ⟨⟨Tryd.f40, [], false, Tryd.func40, l_path_Steps⟩, ⟨⟨Tryd.f34, [], false, Tryd.func34, l_touchstoneref06_Under⟩, ⟨⟨Tryd.f30, [], false, Tryd.func30, l_touchstonelaw06_awake⟩, ⟨⟨Tryd.f10, [], false, Tryd.func10, l_touchstonelaw06_PathNames⟩, ⟨⟨Tryd.f8, [], false, Tryd.func8, l_touchstonelaw09_WalkNames⟩, trivial, trivial⟩, trivial⟩, ⟨⟨Tryd.f33, [], false, Tryd.func33, l_path_Under⟩, ⟨⟨Tryd.f31, [], false, Tryd.func31, l_path_Show⟩, trivial, trivial⟩, trivial⟩⟩, ⟨⟨Tryd.f38, [], false, Tryd.func38, l_path_Name⟩, ⟨⟨Tryd.f37, [], false, Tryd.func37, l_touchstoneref06_Same⟩, ⟨⟨Tryd.f35, [], false, Tryd.func35, l_path_Less⟩, trivial, trivial⟩, trivial⟩, ⟨⟨Tryd.f39, [7], false, Tryd.func39, l_path_Clean⟩, trivial, trivial⟩⟩⟩, ⟨⟨Tryd.f46, [], false, Tryd.func46, l_walk_Find⟩, ⟨⟨Tryd.f43, [], false, Tryd.func43, l_touchstonelaw09_dir⟩, ⟨⟨Tryd.f42, [], false, Tryd.func42, l_ftree_New⟩, ⟨⟨Tryd.f41, [], false, Tryd.func41, l_touchstonelaw09_works⟩, trivial, trivial⟩, trivial⟩, ⟨⟨Tryd.f45, [], false, Tryd.func45, l_touchstonelaw09_link⟩, ⟨⟨Tryd.f44, [], false, Tryd.func44, l_touchstonelaw09_file⟩, trivial, trivial⟩, trivial⟩⟩, ⟨⟨Tryd.f49, [], false, Tryd.func49, l_touchstonelaw09_refused⟩, ⟨⟨Tryd.f48, [], false, Tryd.func48, l_touchstonelaw09_finds⟩, ⟨⟨Tryd.f47, [], false, Tryd.func47, l_walk_Spot⟩, trivial, trivial⟩, trivial⟩, ⟨⟨Tryd.f50, [], false, Tryd.func50, l_touchstonelaw09_spots⟩, trivial, trivial⟩⟩⟩⟩, ⟨⟨Tryd.f87, [], false, Tryd.func87, l_slices_Collect_string⟩, ⟨⟨Tryd.f82, [], false, Tryd.func82, l_strings_Join⟩, ⟨⟨Tryd.f62, [], false, Tryd.func62, l_ftree_Tree_Kind⟩, ⟨⟨Tryd.f59, [], false, Tryd.func59, l_path_Check⟩, ⟨⟨Tryd.f57, [], false, Tryd.func57, l_path_Dir⟩, trivial, trivial⟩, trivial⟩, ⟨⟨Tryd.f76, [], false, Tryd.func76, l_strings_Builder_String⟩, ⟨⟨Tryd.f75, [], false, Tryd.func75, l_strings_Builder_WriteString⟩, trivial, trivial⟩, trivial⟩⟩, ⟨⟨Tryd.f85, [], false, Tryd.func85, l_strings_ContainsAny⟩, ⟨⟨Tryd.f84, [], false, Tryd.func84, l_slices_Compare_string_string⟩, ⟨⟨Tryd.f83, [], false, Tryd.func83, l_slices_Equal_string_string⟩, trivial, trivial⟩, trivial⟩, ⟨⟨Tryd.f86, [], false, Tryd.func86, l_path_steps⟩, trivial, trivial⟩⟩⟩, ⟨⟨Tryd.f94, [], false, Tryd.func94, l_strings_Contains⟩, ⟨⟨Tryd.f90, [], false, Tryd.func90, l_walk_walk⟩, ⟨⟨Tryd.f89, [], false, Tryd.func89, l_ftree_own⟩, ⟨⟨Tryd.f88, [], false, Tryd.func88, l_ftree_May⟩, trivial, trivial⟩, trivial⟩, ⟨⟨Tryd.f93, [], false, Tryd.func93, l_strings_LastIndexByte⟩, ⟨⟨Tryd.f92, [], false, Tryd.func92, l_strings_TrimRight⟩, trivial, trivial⟩, trivial⟩⟩, ⟨⟨Tryd.f101, [], false, Tryd.func101, l_strings_Builder_copyCheck⟩, ⟨⟨Tryd.f97, [], false, Tryd.func97, l_slices_Clone_string_string⟩, ⟨⟨Tryd.f95, [], false, Tryd.func95, l_ftree_Tree_at⟩, trivial, trivial⟩, trivial⟩, ⟨⟨Tryd.f103, [], false, Tryd.func103, l_strings_Builder_Grow⟩, trivial, trivial⟩⟩⟩⟩⟩, ⟨⟨Tryd.f131, [], false, Tryd.func131, l_strings_IndexByte⟩, ⟨⟨Tryd.f115, [3], false, Tryd.func115, l_strings_trimRightASCII⟩, ⟨⟨Tryd.f110, [], false, Tryd.func110, l_ftree_Nodes⟩, ⟨⟨Tryd.f107, [], false, Tryd.func107, l_strings_SplitSeq⟩, ⟨⟨Tryd.f106, [], false, Tryd.func106, l_path_steps_1⟩, ⟨⟨Tryd.f105, [], false, Tryd.func105, l_strings_IndexAny⟩, trivial, trivial⟩, trivial⟩, ⟨⟨Tryd.f109, [], false, Tryd.func109, l_ftree_Well⟩, ⟨⟨Tryd.f108, [], true, Tryd.func108, l_slices_AppendSeq_string_string⟩, trivial, trivial⟩, trivial⟩⟩, ⟨⟨Tryd.f113, [2], false, Tryd.func113, l_strings_trimRightByte⟩, ⟨⟨Tryd.f112, [5], false, Tryd.func112, l_walk_walker_run⟩, ⟨⟨Tryd.f111, [], false, Tryd.func111, l_ftree_depth⟩, trivial, trivial⟩, trivial⟩, ⟨⟨Tryd.f114, [], false, Tryd.func114, l_strings_makeASCIISet⟩, trivial, trivial⟩⟩⟩, ⟨⟨Tryd.f126, [], false, Tryd.func126, l_cmp_isNaN_string⟩, ⟨⟨Tryd.f118, [], false, Tryd.func118, l_strings_Index⟩, ⟨⟨Tryd.f117, [], false, Tryd.func117, l_internal_bytealg_LastIndexByteString⟩, ⟨⟨Tryd.f116, [6], false, Tryd.func116, l_strings_trimRightUnicode⟩, trivial, trivial⟩, trivial⟩, ⟨⟨Tryd.f125, [0], false, Tryd.func125, l_strings_Builder_grow⟩, ⟨⟨Tryd.f119, [], false, Tryd.func119, l_ftree_find⟩, trivial, trivial⟩, trivial⟩⟩, ⟨⟨Tryd.f129, [], false, Tryd.func129, l_strings_asciiSet_contains⟩, ⟨⟨Tryd.f128, [], false, Tryd.func128, l_strings_shouldUseASCIISet⟩, ⟨⟨Tryd.f127, [], false, Tryd.func127, l_strings_IndexRune⟩, trivial, trivial⟩, trivial⟩, ⟨⟨Tryd.f130, [], false, Tryd.func130, l_strings_splitSeq⟩, trivial, trivial⟩⟩⟩⟩, ⟨⟨Tryd.f159, [], false, Tryd.func159, l_internal_stringslite_IndexByte⟩, ⟨⟨Tryd.f144, [], false, Tryd.func144, l_cmp_Less_string⟩, ⟨⟨Tryd.f134, [], false, Tryd.func134, l_strings_ContainsRune⟩, ⟨⟨Tryd.f133, [], false, Tryd.func133, l_unicode_utf8_DecodeLastRuneInString⟩, ⟨⟨Tryd.f132, [], false, Tryd.func132, l_walk_walker_name⟩, trivial, trivial⟩, trivial⟩, ⟨⟨Tryd.f136, [], false, Tryd.func136, l_slices_BinarySearch_string_string⟩, ⟨⟨Tryd.f135, [], false, Tryd.func135, l_internal_stringslite_Index⟩, trivial, trivial⟩, trivial⟩⟩, ⟨⟨Tryd.f157, [], false, Tryd.func157, l_strings_splitSeq_1⟩, ⟨⟨Tryd.f155, [], false, Tryd.func155, l_internal_bytealg_Cutover⟩, ⟨⟨Tryd.f154, [], false, Tryd.func154, l_unicode_utf8_ValidRune⟩, trivial, trivial⟩, trivial⟩, ⟨⟨Tryd.f158, [], false, Tryd.func158, l_unicode_utf8_DecodeRuneInString⟩, trivial, trivial⟩⟩⟩, ⟨⟨Tryd.f176, [], false, Tryd.func176, l_unicode_utf8_decodeRuneInStringSlow⟩, ⟨⟨Tryd.f162, [], false, Tryd.func162, l_unicode_utf8_RuneStart⟩, ⟨⟨Tryd.f161, [], false, Tryd.func161, l_walk_walker_follow⟩, ⟨⟨Tryd.f160, [], false, Tryd.func160, l_walk_walker_below⟩, trivial, trivial⟩, trivial⟩, ⟨⟨Tryd.f164, [], false, Tryd.func164, l_slices_isNaN_string⟩, ⟨⟨Tryd.f163, [], false, Tryd.func163, l_internal_bytealg_IndexRabinKarp_string⟩, trivial, trivial⟩, trivial⟩⟩, ⟨⟨Tryd.f183, [], false, Tryd.func183, l_internal_stringslite_HasPrefix⟩, ⟨⟨Tryd.f179, [], false, Tryd.func179, l_internal_bytealg_hashStr_string⟩, ⟨⟨Tryd.f178, [], false, Tryd.func178, l_strings_HasPrefix⟩, trivial, trivial⟩, trivial⟩, ⟨⟨Tryd.f201, [], false, Tryd.func201, l_ftree_Tree_Text⟩, trivial, trivial⟩⟩⟩⟩⟩⟩
theorem fns_ok : ∀ (f : Nat) (fn : Fun), prog f = some fn → ∃ F pops raw, Tryd.prog.funcs[f]? = some F ∧ compF Tryd.prog gt fn.keep raw pops F = some fn := fun f fn h => PT.all_get tab_ok h
end Go.Proofs.YtmeahkccilkofaaDoor
