/-
  The abstract machine's functions are the dump's. By program.
-/
import Derived.Test.YtmeahkccilkofaaDoorRows
import Derived.Test.YtmeahkccilkofaaDoorAmSound
import Derived.Test.YtmeahkccilkofaaDoorFns
set_option linter.all false
set_option linter.unusedVariables false
set_option linter.unusedSimpArgs false
set_option linter.unusedSectionVars false
set_option maxRecDepth 100000
namespace Go.Proofs.YtmeahkccilkofaaDoor
open Go.Proofs.YtmeahkccilkofaaDoor.Am Go.Proofs
def gt : Nat → Option (List AV) := fun _ => none
theorem l_touchstonelaw06_PathPlaces : compF Tryd.prog gt false false [] Tryd.f5 = some c_touchstonelaw06_PathPlaces := by kernel_rfl
theorem l_touchstonelaw06_PathOrder : compF Tryd.prog gt false false [] Tryd.f6 = some c_touchstonelaw06_PathOrder := by kernel_rfl
theorem l_touchstonelaw06_PathCleans : compF Tryd.prog gt false false [] Tryd.f7 = some c_touchstonelaw06_PathCleans := by kernel_rfl
theorem l_touchstonelaw09_WalkNames : compF Tryd.prog gt false false [] Tryd.f8 = some c_touchstonelaw09_WalkNames := by kernel_rfl
theorem l_touchstonelaw06_PathTexts : compF Tryd.prog gt false false [] Tryd.f9 = some c_touchstonelaw06_PathTexts := by kernel_rfl
theorem l_touchstonelaw06_PathNames : compF Tryd.prog gt false false [] Tryd.f10 = some c_touchstonelaw06_PathNames := by kernel_rfl
theorem l_touchstonelaw06_long : compF Tryd.prog gt false false [] Tryd.f29 = some c_touchstonelaw06_long := by kernel_rfl
theorem l_touchstonelaw06_awake : compF Tryd.prog gt false false [] Tryd.f30 = some c_touchstonelaw06_awake := by kernel_rfl
theorem l_path_Show : compF Tryd.prog gt false false [] Tryd.f31 = some c_path_Show := by kernel_rfl
theorem l_touchstoneref06_Show : compF Tryd.prog gt false false [] Tryd.f32 = some c_touchstoneref06_Show := by kernel_rfl
theorem l_path_Under : compF Tryd.prog gt false false [] Tryd.f33 = some c_path_Under := by kernel_rfl
theorem l_touchstoneref06_Under : compF Tryd.prog gt false false [] Tryd.f34 = some c_touchstoneref06_Under := by kernel_rfl
theorem l_path_Less : compF Tryd.prog gt false false [] Tryd.f35 = some c_path_Less := by kernel_rfl
theorem l_touchstoneref06_Less : compF Tryd.prog gt false false [] Tryd.f36 = some c_touchstoneref06_Less := by kernel_rfl
theorem l_touchstoneref06_Same : compF Tryd.prog gt false false [] Tryd.f37 = some c_touchstoneref06_Same := by kernel_rfl
theorem l_path_Name : compF Tryd.prog gt false false [] Tryd.f38 = some c_path_Name := by kernel_rfl
theorem l_path_Clean : compF Tryd.prog gt false false [7] Tryd.f39 = some c_path_Clean := by kernel_rfl
theorem l_path_Steps : compF Tryd.prog gt false false [] Tryd.f40 = some c_path_Steps := by kernel_rfl
theorem l_touchstonelaw09_works : compF Tryd.prog gt false false [] Tryd.f41 = some c_touchstonelaw09_works := by kernel_rfl
theorem l_ftree_New : compF Tryd.prog gt false false [] Tryd.f42 = some c_ftree_New := by kernel_rfl
theorem l_touchstonelaw09_dir : compF Tryd.prog gt false false [] Tryd.f43 = some c_touchstonelaw09_dir := by kernel_rfl
theorem l_touchstonelaw09_file : compF Tryd.prog gt false false [] Tryd.f44 = some c_touchstonelaw09_file := by kernel_rfl
theorem l_touchstonelaw09_link : compF Tryd.prog gt false false [] Tryd.f45 = some c_touchstonelaw09_link := by kernel_rfl
theorem l_walk_Find : compF Tryd.prog gt false false [] Tryd.f46 = some c_walk_Find := by kernel_rfl
theorem l_walk_Spot : compF Tryd.prog gt false false [] Tryd.f47 = some c_walk_Spot := by kernel_rfl
theorem l_touchstonelaw09_finds : compF Tryd.prog gt false false [] Tryd.f48 = some c_touchstonelaw09_finds := by kernel_rfl
theorem l_touchstonelaw09_refused : compF Tryd.prog gt false false [] Tryd.f49 = some c_touchstonelaw09_refused := by kernel_rfl
theorem l_touchstonelaw09_spots : compF Tryd.prog gt false false [] Tryd.f50 = some c_touchstonelaw09_spots := by kernel_rfl
theorem l_touchstonelaw06_same : compF Tryd.prog gt false false [] Tryd.f51 = some c_touchstonelaw06_same := by kernel_rfl
theorem l_touchstoneref06_Steps : compF Tryd.prog gt false false [] Tryd.f52 = some c_touchstoneref06_Steps := by kernel_rfl
theorem l_touchstoneref06_Clean : compF Tryd.prog gt false false [9] Tryd.f53 = some c_touchstoneref06_Clean := by kernel_rfl
theorem l_path_Last : compF Tryd.prog gt false false [] Tryd.f54 = some c_path_Last := by kernel_rfl
theorem l_touchstoneref06_Last : compF Tryd.prog gt false false [] Tryd.f55 = some c_touchstoneref06_Last := by kernel_rfl
theorem l_touchstoneref06_Name : compF Tryd.prog gt false false [] Tryd.f56 = some c_touchstoneref06_Name := by kernel_rfl
theorem l_path_Dir : compF Tryd.prog gt false false [] Tryd.f57 = some c_path_Dir := by kernel_rfl
theorem l_touchstoneref06_Dir : compF Tryd.prog gt false false [] Tryd.f58 = some c_touchstoneref06_Dir := by kernel_rfl
theorem l_path_Check : compF Tryd.prog gt false false [] Tryd.f59 = some c_path_Check := by kernel_rfl
theorem l_touchstoneref06_Check : compF Tryd.prog gt false false [] Tryd.f60 = some c_touchstoneref06_Check := by kernel_rfl
theorem l_ftree_Tree_Kind : compF Tryd.prog gt false false [] Tryd.f62 = some c_ftree_Tree_Kind := by kernel_rfl
theorem l_strings_Builder_WriteString : compF Tryd.prog gt false false [] Tryd.f75 = some c_strings_Builder_WriteString := by kernel_rfl
theorem l_strings_Builder_String : compF Tryd.prog gt false false [] Tryd.f76 = some c_strings_Builder_String := by kernel_rfl
theorem l_strings_Join : compF Tryd.prog gt false false [] Tryd.f82 = some c_strings_Join := by kernel_rfl
theorem l_slices_Equal_string_string : compF Tryd.prog gt false false [] Tryd.f83 = some c_slices_Equal_string_string := by kernel_rfl
theorem l_slices_Compare_string_string : compF Tryd.prog gt false false [] Tryd.f84 = some c_slices_Compare_string_string := by kernel_rfl
theorem l_strings_ContainsAny : compF Tryd.prog gt false false [] Tryd.f85 = some c_strings_ContainsAny := by kernel_rfl
theorem l_path_steps : compF Tryd.prog gt false false [] Tryd.f86 = some c_path_steps := by kernel_rfl
theorem l_slices_Collect_string : compF Tryd.prog gt false false [] Tryd.f87 = some c_slices_Collect_string := by kernel_rfl
theorem l_ftree_May : compF Tryd.prog gt false false [] Tryd.f88 = some c_ftree_May := by kernel_rfl
theorem l_ftree_own : compF Tryd.prog gt false false [] Tryd.f89 = some c_ftree_own := by kernel_rfl
theorem l_walk_walk : compF Tryd.prog gt false false [] Tryd.f90 = some c_walk_walk := by kernel_rfl
theorem l_touchstoneref06_parts : compF Tryd.prog gt false false [] Tryd.f91 = some c_touchstoneref06_parts := by kernel_rfl
theorem l_strings_TrimRight : compF Tryd.prog gt false false [] Tryd.f92 = some c_strings_TrimRight := by kernel_rfl
theorem l_strings_LastIndexByte : compF Tryd.prog gt false false [] Tryd.f93 = some c_strings_LastIndexByte := by kernel_rfl
theorem l_strings_Contains : compF Tryd.prog gt false false [] Tryd.f94 = some c_strings_Contains := by kernel_rfl
theorem l_ftree_Tree_at : compF Tryd.prog gt false false [] Tryd.f95 = some c_ftree_Tree_at := by kernel_rfl
theorem l_slices_Clone_string_string : compF Tryd.prog gt true false [] Tryd.f97 = some c_slices_Clone_string_string := by kernel_rfl
theorem l_strings_Builder_copyCheck : compF Tryd.prog gt false false [] Tryd.f101 = some c_strings_Builder_copyCheck := by kernel_rfl
theorem l_strings_Builder_Grow : compF Tryd.prog gt false false [] Tryd.f103 = some c_strings_Builder_Grow := by kernel_rfl
theorem l_cmp_Compare_string : compF Tryd.prog gt false false [] Tryd.f104 = some c_cmp_Compare_string := by kernel_rfl
theorem l_strings_IndexAny : compF Tryd.prog gt false false [] Tryd.f105 = some c_strings_IndexAny := by kernel_rfl
theorem l_path_steps_1 : compF Tryd.prog gt false false [] Tryd.f106 = some c_path_steps_1 := by kernel_rfl
theorem l_strings_SplitSeq : compF Tryd.prog gt false false [] Tryd.f107 = some c_strings_SplitSeq := by kernel_rfl
theorem l_slices_AppendSeq_string_string : compF Tryd.prog gt false true [] Tryd.f108 = some c_slices_AppendSeq_string_string := by kernel_rfl
theorem l_ftree_Well : compF Tryd.prog gt false false [] Tryd.f109 = some c_ftree_Well := by kernel_rfl
theorem l_ftree_Nodes : compF Tryd.prog gt false false [] Tryd.f110 = some c_ftree_Nodes := by kernel_rfl
theorem l_ftree_depth : compF Tryd.prog gt false false [] Tryd.f111 = some c_ftree_depth := by kernel_rfl
theorem l_walk_walker_run : compF Tryd.prog gt false false [5] Tryd.f112 = some c_walk_walker_run := by kernel_rfl
theorem l_strings_trimRightByte : compF Tryd.prog gt false false [2] Tryd.f113 = some c_strings_trimRightByte := by kernel_rfl
theorem l_strings_makeASCIISet : compF Tryd.prog gt false false [] Tryd.f114 = some c_strings_makeASCIISet := by kernel_rfl
theorem l_strings_trimRightASCII : compF Tryd.prog gt false false [3] Tryd.f115 = some c_strings_trimRightASCII := by kernel_rfl
theorem l_strings_trimRightUnicode : compF Tryd.prog gt false false [6] Tryd.f116 = some c_strings_trimRightUnicode := by kernel_rfl
theorem l_internal_bytealg_LastIndexByteString : compF Tryd.prog gt false false [] Tryd.f117 = some c_internal_bytealg_LastIndexByteString := by kernel_rfl
theorem l_strings_Index : compF Tryd.prog gt false false [] Tryd.f118 = some c_strings_Index := by kernel_rfl
theorem l_ftree_find : compF Tryd.prog gt false false [] Tryd.f119 = some c_ftree_find := by kernel_rfl
theorem l_strings_Builder_grow : compF Tryd.prog gt false false [0] Tryd.f125 = some c_strings_Builder_grow := by kernel_rfl
theorem l_cmp_isNaN_string : compF Tryd.prog gt false false [] Tryd.f126 = some c_cmp_isNaN_string := by kernel_rfl
theorem l_strings_IndexRune : compF Tryd.prog gt false false [] Tryd.f127 = some c_strings_IndexRune := by kernel_rfl
theorem l_strings_shouldUseASCIISet : compF Tryd.prog gt false false [] Tryd.f128 = some c_strings_shouldUseASCIISet := by kernel_rfl
theorem l_strings_asciiSet_contains : compF Tryd.prog gt false false [] Tryd.f129 = some c_strings_asciiSet_contains := by kernel_rfl
theorem l_strings_splitSeq : compF Tryd.prog gt false false [] Tryd.f130 = some c_strings_splitSeq := by kernel_rfl
theorem l_strings_IndexByte : compF Tryd.prog gt false false [] Tryd.f131 = some c_strings_IndexByte := by kernel_rfl
theorem l_walk_walker_name : compF Tryd.prog gt false false [] Tryd.f132 = some c_walk_walker_name := by kernel_rfl
theorem l_unicode_utf8_DecodeLastRuneInString : compF Tryd.prog gt false false [] Tryd.f133 = some c_unicode_utf8_DecodeLastRuneInString := by kernel_rfl
theorem l_strings_ContainsRune : compF Tryd.prog gt false false [] Tryd.f134 = some c_strings_ContainsRune := by kernel_rfl
theorem l_internal_stringslite_Index : compF Tryd.prog gt false false [] Tryd.f135 = some c_internal_stringslite_Index := by kernel_rfl
theorem l_slices_BinarySearch_string_string : compF Tryd.prog gt false false [] Tryd.f136 = some c_slices_BinarySearch_string_string := by kernel_rfl
theorem l_cmp_Less_string : compF Tryd.prog gt false false [] Tryd.f144 = some c_cmp_Less_string := by kernel_rfl
theorem l_unicode_utf8_ValidRune : compF Tryd.prog gt false false [] Tryd.f154 = some c_unicode_utf8_ValidRune := by kernel_rfl
theorem l_internal_bytealg_Cutover : compF Tryd.prog gt false false [] Tryd.f155 = some c_internal_bytealg_Cutover := by kernel_rfl
theorem l_strings_splitSeq_1 : compF Tryd.prog gt false false [] Tryd.f157 = some c_strings_splitSeq_1 := by kernel_rfl
theorem l_unicode_utf8_DecodeRuneInString : compF Tryd.prog gt false false [] Tryd.f158 = some c_unicode_utf8_DecodeRuneInString := by kernel_rfl
theorem l_internal_stringslite_IndexByte : compF Tryd.prog gt false false [] Tryd.f159 = some c_internal_stringslite_IndexByte := by kernel_rfl
theorem l_walk_walker_below : compF Tryd.prog gt false false [] Tryd.f160 = some c_walk_walker_below := by kernel_rfl
theorem l_walk_walker_follow : compF Tryd.prog gt false false [] Tryd.f161 = some c_walk_walker_follow := by kernel_rfl
theorem l_unicode_utf8_RuneStart : compF Tryd.prog gt false false [] Tryd.f162 = some c_unicode_utf8_RuneStart := by kernel_rfl
theorem l_internal_bytealg_IndexRabinKarp_string : compF Tryd.prog gt false false [] Tryd.f163 = some c_internal_bytealg_IndexRabinKarp_string := by kernel_rfl
theorem l_slices_isNaN_string : compF Tryd.prog gt false false [] Tryd.f164 = some c_slices_isNaN_string := by kernel_rfl
theorem l_unicode_utf8_decodeRuneInStringSlow : compF Tryd.prog gt false false [] Tryd.f176 = some c_unicode_utf8_decodeRuneInStringSlow := by kernel_rfl
theorem l_strings_HasPrefix : compF Tryd.prog gt false false [] Tryd.f178 = some c_strings_HasPrefix := by kernel_rfl
theorem l_internal_bytealg_hashStr_string : compF Tryd.prog gt false false [] Tryd.f179 = some c_internal_bytealg_hashStr_string := by kernel_rfl
theorem l_internal_stringslite_HasPrefix : compF Tryd.prog gt false false [] Tryd.f183 = some c_internal_stringslite_HasPrefix := by kernel_rfl
theorem l_ftree_Tree_Text : compF Tryd.prog gt false false [] Tryd.f201 = some c_ftree_Tree_Text := by kernel_rfl
theorem tab_ok : tab.All fun f fn => ∃ F pops raw, Tryd.prog.funcs[f]? = some F ∧ compF Tryd.prog gt fn.keep raw pops F = some fn :=
  ⟨⟨Tryd.f92, [], false, Tryd.func92, l_strings_TrimRight⟩, ⟨⟨Tryd.f48, [], false, Tryd.func48, l_touchstonelaw09_finds⟩, ⟨⟨Tryd.f35, [], false, Tryd.func35, l_path_Less⟩, ⟨⟨Tryd.f29, [], false, Tryd.func29, l_touchstonelaw06_long⟩, ⟨⟨Tryd.f8, [], false, Tryd.func8, l_touchstonelaw09_WalkNames⟩, ⟨⟨Tryd.f6, [], false, Tryd.func6, l_touchstonelaw06_PathOrder⟩, ⟨⟨Tryd.f5, [], false, Tryd.func5, l_touchstonelaw06_PathPlaces⟩, trivial, trivial⟩, ⟨⟨Tryd.f7, [], false, Tryd.func7, l_touchstonelaw06_PathCleans⟩, trivial, trivial⟩⟩, ⟨⟨Tryd.f10, [], false, Tryd.func10, l_touchstonelaw06_PathNames⟩, ⟨⟨Tryd.f9, [], false, Tryd.func9, l_touchstonelaw06_PathTexts⟩, trivial, trivial⟩, trivial⟩⟩, ⟨⟨Tryd.f32, [], false, Tryd.func32, l_touchstoneref06_Show⟩, ⟨⟨Tryd.f31, [], false, Tryd.func31, l_path_Show⟩, ⟨⟨Tryd.f30, [], false, Tryd.func30, l_touchstonelaw06_awake⟩, trivial, trivial⟩, trivial⟩, ⟨⟨Tryd.f34, [], false, Tryd.func34, l_touchstoneref06_Under⟩, ⟨⟨Tryd.f33, [], false, Tryd.func33, l_path_Under⟩, trivial, trivial⟩, trivial⟩⟩⟩, ⟨⟨Tryd.f42, [], false, Tryd.func42, l_ftree_New⟩, ⟨⟨Tryd.f39, [7], false, Tryd.func39, l_path_Clean⟩, ⟨⟨Tryd.f37, [], false, Tryd.func37, l_touchstoneref06_Same⟩, ⟨⟨Tryd.f36, [], false, Tryd.func36, l_touchstoneref06_Less⟩, trivial, trivial⟩, ⟨⟨Tryd.f38, [], false, Tryd.func38, l_path_Name⟩, trivial, trivial⟩⟩, ⟨⟨Tryd.f41, [], false, Tryd.func41, l_touchstonelaw09_works⟩, ⟨⟨Tryd.f40, [], false, Tryd.func40, l_path_Steps⟩, trivial, trivial⟩, trivial⟩⟩, ⟨⟨Tryd.f45, [], false, Tryd.func45, l_touchstonelaw09_link⟩, ⟨⟨Tryd.f44, [], false, Tryd.func44, l_touchstonelaw09_file⟩, ⟨⟨Tryd.f43, [], false, Tryd.func43, l_touchstonelaw09_dir⟩, trivial, trivial⟩, trivial⟩, ⟨⟨Tryd.f47, [], false, Tryd.func47, l_walk_Spot⟩, ⟨⟨Tryd.f46, [], false, Tryd.func46, l_walk_Find⟩, trivial, trivial⟩, trivial⟩⟩⟩⟩, ⟨⟨Tryd.f62, [], false, Tryd.func62, l_ftree_Tree_Kind⟩, ⟨⟨Tryd.f55, [], false, Tryd.func55, l_touchstoneref06_Last⟩, ⟨⟨Tryd.f52, [], false, Tryd.func52, l_touchstoneref06_Steps⟩, ⟨⟨Tryd.f50, [], false, Tryd.func50, l_touchstonelaw09_spots⟩, ⟨⟨Tryd.f49, [], false, Tryd.func49, l_touchstonelaw09_refused⟩, trivial, trivial⟩, ⟨⟨Tryd.f51, [], false, Tryd.func51, l_touchstonelaw06_same⟩, trivial, trivial⟩⟩, ⟨⟨Tryd.f54, [], false, Tryd.func54, l_path_Last⟩, ⟨⟨Tryd.f53, [9], false, Tryd.func53, l_touchstoneref06_Clean⟩, trivial, trivial⟩, trivial⟩⟩, ⟨⟨Tryd.f58, [], false, Tryd.func58, l_touchstoneref06_Dir⟩, ⟨⟨Tryd.f57, [], false, Tryd.func57, l_path_Dir⟩, ⟨⟨Tryd.f56, [], false, Tryd.func56, l_touchstoneref06_Name⟩, trivial, trivial⟩, trivial⟩, ⟨⟨Tryd.f60, [], false, Tryd.func60, l_touchstoneref06_Check⟩, ⟨⟨Tryd.f59, [], false, Tryd.func59, l_path_Check⟩, trivial, trivial⟩, trivial⟩⟩⟩, ⟨⟨Tryd.f86, [], false, Tryd.func86, l_path_steps⟩, ⟨⟨Tryd.f83, [], false, Tryd.func83, l_slices_Equal_string_string⟩, ⟨⟨Tryd.f76, [], false, Tryd.func76, l_strings_Builder_String⟩, ⟨⟨Tryd.f75, [], false, Tryd.func75, l_strings_Builder_WriteString⟩, trivial, trivial⟩, ⟨⟨Tryd.f82, [], false, Tryd.func82, l_strings_Join⟩, trivial, trivial⟩⟩, ⟨⟨Tryd.f85, [], false, Tryd.func85, l_strings_ContainsAny⟩, ⟨⟨Tryd.f84, [], false, Tryd.func84, l_slices_Compare_string_string⟩, trivial, trivial⟩, trivial⟩⟩, ⟨⟨Tryd.f89, [], false, Tryd.func89, l_ftree_own⟩, ⟨⟨Tryd.f88, [], false, Tryd.func88, l_ftree_May⟩, ⟨⟨Tryd.f87, [], false, Tryd.func87, l_slices_Collect_string⟩, trivial, trivial⟩, trivial⟩, ⟨⟨Tryd.f91, [], false, Tryd.func91, l_touchstoneref06_parts⟩, ⟨⟨Tryd.f90, [], false, Tryd.func90, l_walk_walk⟩, trivial, trivial⟩, trivial⟩⟩⟩⟩⟩, ⟨⟨Tryd.f128, [], false, Tryd.func128, l_strings_shouldUseASCIISet⟩, ⟨⟨Tryd.f110, [], false, Tryd.func110, l_ftree_Nodes⟩, ⟨⟨Tryd.f104, [], false, Tryd.func104, l_cmp_Compare_string⟩, ⟨⟨Tryd.f97, [], false, Tryd.func97, l_slices_Clone_string_string⟩, ⟨⟨Tryd.f94, [], false, Tryd.func94, l_strings_Contains⟩, ⟨⟨Tryd.f93, [], false, Tryd.func93, l_strings_LastIndexByte⟩, trivial, trivial⟩, ⟨⟨Tryd.f95, [], false, Tryd.func95, l_ftree_Tree_at⟩, trivial, trivial⟩⟩, ⟨⟨Tryd.f103, [], false, Tryd.func103, l_strings_Builder_Grow⟩, ⟨⟨Tryd.f101, [], false, Tryd.func101, l_strings_Builder_copyCheck⟩, trivial, trivial⟩, trivial⟩⟩, ⟨⟨Tryd.f107, [], false, Tryd.func107, l_strings_SplitSeq⟩, ⟨⟨Tryd.f106, [], false, Tryd.func106, l_path_steps_1⟩, ⟨⟨Tryd.f105, [], false, Tryd.func105, l_strings_IndexAny⟩, trivial, trivial⟩, trivial⟩, ⟨⟨Tryd.f109, [], false, Tryd.func109, l_ftree_Well⟩, ⟨⟨Tryd.f108, [], true, Tryd.func108, l_slices_AppendSeq_string_string⟩, trivial, trivial⟩, trivial⟩⟩⟩, ⟨⟨Tryd.f117, [], false, Tryd.func117, l_internal_bytealg_LastIndexByteString⟩, ⟨⟨Tryd.f114, [], false, Tryd.func114, l_strings_makeASCIISet⟩, ⟨⟨Tryd.f112, [5], false, Tryd.func112, l_walk_walker_run⟩, ⟨⟨Tryd.f111, [], false, Tryd.func111, l_ftree_depth⟩, trivial, trivial⟩, ⟨⟨Tryd.f113, [2], false, Tryd.func113, l_strings_trimRightByte⟩, trivial, trivial⟩⟩, ⟨⟨Tryd.f116, [6], false, Tryd.func116, l_strings_trimRightUnicode⟩, ⟨⟨Tryd.f115, [3], false, Tryd.func115, l_strings_trimRightASCII⟩, trivial, trivial⟩, trivial⟩⟩, ⟨⟨Tryd.f125, [0], false, Tryd.func125, l_strings_Builder_grow⟩, ⟨⟨Tryd.f119, [], false, Tryd.func119, l_ftree_find⟩, ⟨⟨Tryd.f118, [], false, Tryd.func118, l_strings_Index⟩, trivial, trivial⟩, trivial⟩, ⟨⟨Tryd.f127, [], false, Tryd.func127, l_strings_IndexRune⟩, ⟨⟨Tryd.f126, [], false, Tryd.func126, l_cmp_isNaN_string⟩, trivial, trivial⟩, trivial⟩⟩⟩⟩, ⟨⟨Tryd.f158, [], false, Tryd.func158, l_unicode_utf8_DecodeRuneInString⟩, ⟨⟨Tryd.f135, [], false, Tryd.func135, l_internal_stringslite_Index⟩, ⟨⟨Tryd.f132, [], false, Tryd.func132, l_walk_walker_name⟩, ⟨⟨Tryd.f130, [], false, Tryd.func130, l_strings_splitSeq⟩, ⟨⟨Tryd.f129, [], false, Tryd.func129, l_strings_asciiSet_contains⟩, trivial, trivial⟩, ⟨⟨Tryd.f131, [], false, Tryd.func131, l_strings_IndexByte⟩, trivial, trivial⟩⟩, ⟨⟨Tryd.f134, [], false, Tryd.func134, l_strings_ContainsRune⟩, ⟨⟨Tryd.f133, [], false, Tryd.func133, l_unicode_utf8_DecodeLastRuneInString⟩, trivial, trivial⟩, trivial⟩⟩, ⟨⟨Tryd.f154, [], false, Tryd.func154, l_unicode_utf8_ValidRune⟩, ⟨⟨Tryd.f144, [], false, Tryd.func144, l_cmp_Less_string⟩, ⟨⟨Tryd.f136, [], false, Tryd.func136, l_slices_BinarySearch_string_string⟩, trivial, trivial⟩, trivial⟩, ⟨⟨Tryd.f157, [], false, Tryd.func157, l_strings_splitSeq_1⟩, ⟨⟨Tryd.f155, [], false, Tryd.func155, l_internal_bytealg_Cutover⟩, trivial, trivial⟩, trivial⟩⟩⟩, ⟨⟨Tryd.f164, [], false, Tryd.func164, l_slices_isNaN_string⟩, ⟨⟨Tryd.f161, [], false, Tryd.func161, l_walk_walker_follow⟩, ⟨⟨Tryd.f160, [], false, Tryd.func160, l_walk_walker_below⟩, ⟨⟨Tryd.f159, [], false, Tryd.func159, l_internal_stringslite_IndexByte⟩, trivial, trivial⟩, trivial⟩, ⟨⟨Tryd.f163, [], false, Tryd.func163, l_internal_bytealg_IndexRabinKarp_string⟩, ⟨⟨Tryd.f162, [], false, Tryd.func162, l_unicode_utf8_RuneStart⟩, trivial, trivial⟩, trivial⟩⟩, ⟨⟨Tryd.f179, [], false, Tryd.func179, l_internal_bytealg_hashStr_string⟩, ⟨⟨Tryd.f178, [], false, Tryd.func178, l_strings_HasPrefix⟩, ⟨⟨Tryd.f176, [], false, Tryd.func176, l_unicode_utf8_decodeRuneInStringSlow⟩, trivial, trivial⟩, trivial⟩, ⟨⟨Tryd.f201, [], false, Tryd.func201, l_ftree_Tree_Text⟩, ⟨⟨Tryd.f183, [], false, Tryd.func183, l_internal_stringslite_HasPrefix⟩, trivial, trivial⟩, trivial⟩⟩⟩⟩⟩⟩
theorem fns_ok : ∀ (f : Nat) (fn : Fun), prog f = some fn → ∃ F pops raw, Tryd.prog.funcs[f]? = some F ∧ compF Tryd.prog gt fn.keep raw pops F = some fn := fun f fn h => PT.all_get tab_ok h
end Go.Proofs.YtmeahkccilkofaaDoor
