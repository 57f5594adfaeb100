/-
  The abstract machine's functions are the dump's. By program.
-/
import Derived.Test.YtpghcnfeeakcpaaDoorRows
import Derived.Test.YtpghcnfeeakcpaaDoorAmSound
import Derived.Test.YtpghcnfeeakcpaaDoorFns
set_option linter.all false
set_option linter.unusedVariables false
set_option linter.unusedSimpArgs false
set_option linter.unusedSectionVars false
set_option maxRecDepth 100000
namespace Go.Proofs.YtpghcnfeeakcpaaDoor
open Go.Proofs.YtpghcnfeeakcpaaDoor.Am Go.Proofs
def gt : Nat → Option (List AV) := fun _ => none
theorem l_touchstonelaw14_ProbeNames : compF Tryd.prog gt false false [] Tryd.f3 = some c_touchstonelaw14_ProbeNames := by kernel_rfl
theorem l_touchstonelaw14_example : compF Tryd.prog gt false false [] Tryd.f5 = some c_touchstonelaw14_example := by kernel_rfl
theorem l_probe_Run : compF Tryd.prog gt false false [18] Tryd.f6 = some c_probe_Run := by kernel_rfl
theorem l_probe_Holds : compF Tryd.prog gt false false [] Tryd.f7 = some c_probe_Holds := by kernel_rfl
theorem l_touchstonelaw14_awake : compF Tryd.prog gt false false [] Tryd.f8 = some c_touchstonelaw14_awake := by kernel_rfl
theorem l_ftree_New : compF Tryd.prog gt false false [] Tryd.f21 = some c_ftree_New := by kernel_rfl
theorem l_strings_Join : compF Tryd.prog gt false false [] Tryd.f22 = some c_strings_Join := by kernel_rfl
theorem l_probe_asks : compF Tryd.prog gt false false [] Tryd.f23 = some c_probe_asks := by kernel_rfl
theorem l_slices_Clone_string_string : compF Tryd.prog gt true false [] Tryd.f29 = some c_slices_Clone_string_string := by kernel_rfl
theorem l_ftree_May : compF Tryd.prog gt false false [] Tryd.f32 = some c_ftree_May := by kernel_rfl
theorem l_ftree_own : compF Tryd.prog gt false false [] Tryd.f33 = some c_ftree_own := by kernel_rfl
theorem l_strings_Builder_Grow : compF Tryd.prog gt false false [] Tryd.f34 = some c_strings_Builder_Grow := by kernel_rfl
theorem l_strings_Builder_WriteString : compF Tryd.prog gt false false [] Tryd.f35 = some c_strings_Builder_WriteString := by kernel_rfl
theorem l_strings_Builder_String : compF Tryd.prog gt false false [] Tryd.f36 = some c_strings_Builder_String := by kernel_rfl
theorem l_probe_asks_1 : compF Tryd.prog gt false false [] Tryd.f37 = some c_probe_asks_1 := by kernel_rfl
theorem l_probe_asks_1_1 : compF Tryd.prog gt false false [] Tryd.f38 = some c_probe_asks_1_1 := by kernel_rfl
theorem l_probe_kind : compF Tryd.prog gt false false [] Tryd.f39 = some c_probe_kind := by kernel_rfl
theorem l_probe_asks_2 : compF Tryd.prog gt false false [] Tryd.f40 = some c_probe_asks_2 := by kernel_rfl
theorem l_probe_asks_2_1 : compF Tryd.prog gt false false [] Tryd.f41 = some c_probe_asks_2_1 := by kernel_rfl
theorem l_walk_Spot : compF Tryd.prog gt false false [] Tryd.f42 = some c_walk_Spot := by kernel_rfl
theorem l_probe_asks_3 : compF Tryd.prog gt false false [] Tryd.f43 = some c_probe_asks_3 := by kernel_rfl
theorem l_probe_asks_4 : compF Tryd.prog gt false false [] Tryd.f44 = some c_probe_asks_4 := by kernel_rfl
theorem l_walk_Find : compF Tryd.prog gt false false [] Tryd.f45 = some c_walk_Find := by kernel_rfl
theorem l_probe_asks_5 : compF Tryd.prog gt false false [] Tryd.f46 = some c_probe_asks_5 := by kernel_rfl
theorem l_ftree_Well : compF Tryd.prog gt false false [] Tryd.f55 = some c_ftree_Well := by kernel_rfl
theorem l_ftree_Nodes : compF Tryd.prog gt false false [] Tryd.f56 = some c_ftree_Nodes := by kernel_rfl
theorem l_ftree_depth : compF Tryd.prog gt false false [] Tryd.f57 = some c_ftree_depth := by kernel_rfl
theorem l_strings_Builder_copyCheck : compF Tryd.prog gt false false [] Tryd.f58 = some c_strings_Builder_copyCheck := by kernel_rfl
theorem l_strings_Builder_grow : compF Tryd.prog gt false false [0] Tryd.f59 = some c_strings_Builder_grow := by kernel_rfl
theorem l_path_Check : compF Tryd.prog gt false false [] Tryd.f60 = some c_path_Check := by kernel_rfl
theorem l_walk_walk : compF Tryd.prog gt false false [] Tryd.f61 = some c_walk_walk := by kernel_rfl
theorem l_strings_Contains : compF Tryd.prog gt false false [] Tryd.f64 = some c_strings_Contains := by kernel_rfl
theorem l_cmp_Less_string : compF Tryd.prog gt false false [] Tryd.f72 = some c_cmp_Less_string := by kernel_rfl
theorem l_strings_IndexByte : compF Tryd.prog gt false false [] Tryd.f77 = some c_strings_IndexByte := by kernel_rfl
theorem l_path_Name : compF Tryd.prog gt false false [] Tryd.f78 = some c_path_Name := by kernel_rfl
theorem l_path_steps : compF Tryd.prog gt false false [] Tryd.f81 = some c_path_steps := by kernel_rfl
theorem l_path_Steps : compF Tryd.prog gt false false [] Tryd.f82 = some c_path_Steps := by kernel_rfl
theorem l_path_Dir : compF Tryd.prog gt false false [] Tryd.f83 = some c_path_Dir := by kernel_rfl
theorem l_walk_walker_run : compF Tryd.prog gt false false [5] Tryd.f84 = some c_walk_walker_run := by kernel_rfl
theorem l_strings_Index : compF Tryd.prog gt false false [] Tryd.f89 = some c_strings_Index := by kernel_rfl
theorem l_cmp_isNaN_string : compF Tryd.prog gt false false [] Tryd.f97 = some c_cmp_isNaN_string := by kernel_rfl
theorem l_internal_stringslite_IndexByte : compF Tryd.prog gt false false [] Tryd.f98 = some c_internal_stringslite_IndexByte := by kernel_rfl
theorem l_strings_ContainsAny : compF Tryd.prog gt false false [] Tryd.f99 = some c_strings_ContainsAny := by kernel_rfl
theorem l_path_steps_1 : compF Tryd.prog gt false false [] Tryd.f100 = some c_path_steps_1 := by kernel_rfl
theorem l_strings_SplitSeq : compF Tryd.prog gt false false [] Tryd.f101 = some c_strings_SplitSeq := by kernel_rfl
theorem l_slices_Collect_string : compF Tryd.prog gt false false [] Tryd.f102 = some c_slices_Collect_string := by kernel_rfl
theorem l_strings_LastIndexByte : compF Tryd.prog gt false false [] Tryd.f103 = some c_strings_LastIndexByte := by kernel_rfl
theorem l_walk_walker_name : compF Tryd.prog gt false false [] Tryd.f104 = some c_walk_walker_name := by kernel_rfl
theorem l_internal_stringslite_Index : compF Tryd.prog gt false false [] Tryd.f109 = some c_internal_stringslite_Index := by kernel_rfl
theorem l_strings_IndexAny : compF Tryd.prog gt false false [] Tryd.f112 = some c_strings_IndexAny := by kernel_rfl
theorem l_strings_splitSeq : compF Tryd.prog gt false false [] Tryd.f113 = some c_strings_splitSeq := by kernel_rfl
theorem l_slices_AppendSeq_string_string : compF Tryd.prog gt false true [] Tryd.f114 = some c_slices_AppendSeq_string_string := by kernel_rfl
theorem l_internal_bytealg_LastIndexByteString : compF Tryd.prog gt false false [] Tryd.f115 = some c_internal_bytealg_LastIndexByteString := by kernel_rfl
theorem l_walk_walker_below : compF Tryd.prog gt false false [] Tryd.f116 = some c_walk_walker_below := by kernel_rfl
theorem l_walk_walker_follow : compF Tryd.prog gt false false [] Tryd.f117 = some c_walk_walker_follow := by kernel_rfl
theorem l_internal_bytealg_Cutover : compF Tryd.prog gt false false [] Tryd.f121 = some c_internal_bytealg_Cutover := by kernel_rfl
theorem l_internal_bytealg_IndexRabinKarp_string : compF Tryd.prog gt false false [] Tryd.f122 = some c_internal_bytealg_IndexRabinKarp_string := by kernel_rfl
theorem l_strings_IndexRune : compF Tryd.prog gt false false [] Tryd.f123 = some c_strings_IndexRune := by kernel_rfl
theorem l_strings_shouldUseASCIISet : compF Tryd.prog gt false false [] Tryd.f124 = some c_strings_shouldUseASCIISet := by kernel_rfl
theorem l_strings_makeASCIISet : compF Tryd.prog gt false false [] Tryd.f125 = some c_strings_makeASCIISet := by kernel_rfl
theorem l_strings_asciiSet_contains : compF Tryd.prog gt false false [] Tryd.f126 = some c_strings_asciiSet_contains := by kernel_rfl
theorem l_strings_splitSeq_1 : compF Tryd.prog gt false false [] Tryd.f127 = some c_strings_splitSeq_1 := by kernel_rfl
theorem l_unicode_utf8_DecodeRuneInString : compF Tryd.prog gt false false [] Tryd.f128 = some c_unicode_utf8_DecodeRuneInString := by kernel_rfl
theorem l_strings_HasPrefix : compF Tryd.prog gt false false [] Tryd.f129 = some c_strings_HasPrefix := by kernel_rfl
theorem l_internal_bytealg_hashStr_string : compF Tryd.prog gt false false [] Tryd.f130 = some c_internal_bytealg_hashStr_string := by kernel_rfl
theorem l_unicode_utf8_ValidRune : compF Tryd.prog gt false false [] Tryd.f131 = some c_unicode_utf8_ValidRune := by kernel_rfl
theorem l_unicode_utf8_decodeRuneInStringSlow : compF Tryd.prog gt false false [] Tryd.f132 = some c_unicode_utf8_decodeRuneInStringSlow := by kernel_rfl
theorem l_internal_stringslite_HasPrefix : compF Tryd.prog gt false false [] Tryd.f133 = some c_internal_stringslite_HasPrefix := by kernel_rfl
theorem l_ftree_Tree_Kind : compF Tryd.prog gt false false [] Tryd.f151 = some c_ftree_Tree_Kind := by kernel_rfl
theorem l_ftree_Tree_Text : compF Tryd.prog gt false false [] Tryd.f152 = some c_ftree_Tree_Text := by kernel_rfl
theorem l_ftree_Tree_at : compF Tryd.prog gt false false [] Tryd.f153 = some c_ftree_Tree_at := by kernel_rfl
theorem l_ftree_find : compF Tryd.prog gt false false [] Tryd.f154 = some c_ftree_find := by kernel_rfl
theorem l_slices_BinarySearch_string_string : compF Tryd.prog gt false false [] Tryd.f155 = some c_slices_BinarySearch_string_string := by kernel_rfl
theorem l_slices_isNaN_string : compF Tryd.prog gt false false [] Tryd.f156 = some c_slices_isNaN_string := by kernel_rfl
theorem tab_ok : tab.All fun f fn => ∃ F pops raw, Tryd.prog.funcs[f]? = some F ∧ compF Tryd.prog gt fn.keep raw pops F = some fn :=
  ⟨⟨Tryd.f83, [], false, Tryd.func83, l_path_Dir⟩, ⟨⟨Tryd.f41, [], false, Tryd.func41, l_probe_asks_2_1⟩, ⟨⟨Tryd.f32, [], false, Tryd.func32, l_ftree_May⟩, ⟨⟨Tryd.f8, [], false, Tryd.func8, l_touchstonelaw14_awake⟩, ⟨⟨Tryd.f6, [18], false, Tryd.func6, l_probe_Run⟩, ⟨⟨Tryd.f5, [], false, Tryd.func5, l_touchstonelaw14_example⟩, ⟨⟨Tryd.f3, [], false, Tryd.func3, l_touchstonelaw14_ProbeNames⟩, trivial, trivial⟩, trivial⟩, ⟨⟨Tryd.f7, [], false, Tryd.func7, l_probe_Holds⟩, trivial, trivial⟩⟩, ⟨⟨Tryd.f23, [], false, Tryd.func23, l_probe_asks⟩, ⟨⟨Tryd.f22, [], false, Tryd.func22, l_strings_Join⟩, ⟨⟨Tryd.f21, [], false, Tryd.func21, l_ftree_New⟩, trivial, trivial⟩, trivial⟩, ⟨⟨Tryd.f29, [], false, Tryd.func29, l_slices_Clone_string_string⟩, trivial, trivial⟩⟩⟩, ⟨⟨Tryd.f37, [], false, Tryd.func37, l_probe_asks_1⟩, ⟨⟨Tryd.f35, [], false, Tryd.func35, l_strings_Builder_WriteString⟩, ⟨⟨Tryd.f34, [], false, Tryd.func34, l_strings_Builder_Grow⟩, ⟨⟨Tryd.f33, [], false, Tryd.func33, l_ftree_own⟩, trivial, trivial⟩, trivial⟩, ⟨⟨Tryd.f36, [], false, Tryd.func36, l_strings_Builder_String⟩, trivial, trivial⟩⟩, ⟨⟨Tryd.f39, [], false, Tryd.func39, l_probe_kind⟩, ⟨⟨Tryd.f38, [], false, Tryd.func38, l_probe_asks_1_1⟩, trivial, trivial⟩, ⟨⟨Tryd.f40, [], false, Tryd.func40, l_probe_asks_2⟩, trivial, trivial⟩⟩⟩⟩, ⟨⟨Tryd.f59, [0], false, Tryd.func59, l_strings_Builder_grow⟩, ⟨⟨Tryd.f46, [], false, Tryd.func46, l_probe_asks_5⟩, ⟨⟨Tryd.f44, [], false, Tryd.func44, l_probe_asks_4⟩, ⟨⟨Tryd.f43, [], false, Tryd.func43, l_probe_asks_3⟩, ⟨⟨Tryd.f42, [], false, Tryd.func42, l_walk_Spot⟩, trivial, trivial⟩, trivial⟩, ⟨⟨Tryd.f45, [], false, Tryd.func45, l_walk_Find⟩, trivial, trivial⟩⟩, ⟨⟨Tryd.f57, [], false, Tryd.func57, l_ftree_depth⟩, ⟨⟨Tryd.f56, [], false, Tryd.func56, l_ftree_Nodes⟩, ⟨⟨Tryd.f55, [], false, Tryd.func55, l_ftree_Well⟩, trivial, trivial⟩, trivial⟩, ⟨⟨Tryd.f58, [], false, Tryd.func58, l_strings_Builder_copyCheck⟩, trivial, trivial⟩⟩⟩, ⟨⟨Tryd.f77, [], false, Tryd.func77, l_strings_IndexByte⟩, ⟨⟨Tryd.f64, [], false, Tryd.func64, l_strings_Contains⟩, ⟨⟨Tryd.f61, [], false, Tryd.func61, l_walk_walk⟩, ⟨⟨Tryd.f60, [], false, Tryd.func60, l_path_Check⟩, trivial, trivial⟩, trivial⟩, ⟨⟨Tryd.f72, [], false, Tryd.func72, l_cmp_Less_string⟩, trivial, trivial⟩⟩, ⟨⟨Tryd.f81, [], false, Tryd.func81, l_path_steps⟩, ⟨⟨Tryd.f78, [], false, Tryd.func78, l_path_Name⟩, trivial, trivial⟩, ⟨⟨Tryd.f82, [], false, Tryd.func82, l_path_Steps⟩, trivial, trivial⟩⟩⟩⟩⟩, ⟨⟨Tryd.f122, [], false, Tryd.func122, l_internal_bytealg_IndexRabinKarp_string⟩, ⟨⟨Tryd.f104, [], false, Tryd.func104, l_walk_walker_name⟩, ⟨⟨Tryd.f99, [], false, Tryd.func99, l_strings_ContainsAny⟩, ⟨⟨Tryd.f97, [], false, Tryd.func97, l_cmp_isNaN_string⟩, ⟨⟨Tryd.f89, [], false, Tryd.func89, l_strings_Index⟩, ⟨⟨Tryd.f84, [5], false, Tryd.func84, l_walk_walker_run⟩, trivial, trivial⟩, trivial⟩, ⟨⟨Tryd.f98, [], false, Tryd.func98, l_internal_stringslite_IndexByte⟩, trivial, trivial⟩⟩, ⟨⟨Tryd.f102, [], false, Tryd.func102, l_slices_Collect_string⟩, ⟨⟨Tryd.f101, [], false, Tryd.func101, l_strings_SplitSeq⟩, ⟨⟨Tryd.f100, [], false, Tryd.func100, l_path_steps_1⟩, trivial, trivial⟩, trivial⟩, ⟨⟨Tryd.f103, [], false, Tryd.func103, l_strings_LastIndexByte⟩, trivial, trivial⟩⟩⟩, ⟨⟨Tryd.f115, [], false, Tryd.func115, l_internal_bytealg_LastIndexByteString⟩, ⟨⟨Tryd.f113, [], false, Tryd.func113, l_strings_splitSeq⟩, ⟨⟨Tryd.f112, [], false, Tryd.func112, l_strings_IndexAny⟩, ⟨⟨Tryd.f109, [], false, Tryd.func109, l_internal_stringslite_Index⟩, trivial, trivial⟩, trivial⟩, ⟨⟨Tryd.f114, [], true, Tryd.func114, l_slices_AppendSeq_string_string⟩, trivial, trivial⟩⟩, ⟨⟨Tryd.f117, [], false, Tryd.func117, l_walk_walker_follow⟩, ⟨⟨Tryd.f116, [], false, Tryd.func116, l_walk_walker_below⟩, trivial, trivial⟩, ⟨⟨Tryd.f121, [], false, Tryd.func121, l_internal_bytealg_Cutover⟩, trivial, trivial⟩⟩⟩⟩, ⟨⟨Tryd.f131, [], false, Tryd.func131, l_unicode_utf8_ValidRune⟩, ⟨⟨Tryd.f127, [], false, Tryd.func127, l_strings_splitSeq_1⟩, ⟨⟨Tryd.f125, [], false, Tryd.func125, l_strings_makeASCIISet⟩, ⟨⟨Tryd.f124, [], false, Tryd.func124, l_strings_shouldUseASCIISet⟩, ⟨⟨Tryd.f123, [], false, Tryd.func123, l_strings_IndexRune⟩, trivial, trivial⟩, trivial⟩, ⟨⟨Tryd.f126, [], false, Tryd.func126, l_strings_asciiSet_contains⟩, trivial, trivial⟩⟩, ⟨⟨Tryd.f129, [], false, Tryd.func129, l_strings_HasPrefix⟩, ⟨⟨Tryd.f128, [], false, Tryd.func128, l_unicode_utf8_DecodeRuneInString⟩, trivial, trivial⟩, ⟨⟨Tryd.f130, [], false, Tryd.func130, l_internal_bytealg_hashStr_string⟩, trivial, trivial⟩⟩⟩, ⟨⟨Tryd.f153, [], false, Tryd.func153, l_ftree_Tree_at⟩, ⟨⟨Tryd.f151, [], false, Tryd.func151, l_ftree_Tree_Kind⟩, ⟨⟨Tryd.f133, [], false, Tryd.func133, l_internal_stringslite_HasPrefix⟩, ⟨⟨Tryd.f132, [], false, Tryd.func132, l_unicode_utf8_decodeRuneInStringSlow⟩, trivial, trivial⟩, trivial⟩, ⟨⟨Tryd.f152, [], false, Tryd.func152, l_ftree_Tree_Text⟩, trivial, trivial⟩⟩, ⟨⟨Tryd.f155, [], false, Tryd.func155, l_slices_BinarySearch_string_string⟩, ⟨⟨Tryd.f154, [], false, Tryd.func154, l_ftree_find⟩, trivial, trivial⟩, ⟨⟨Tryd.f156, [], false, Tryd.func156, l_slices_isNaN_string⟩, trivial, trivial⟩⟩⟩⟩⟩⟩
theorem fns_ok : ∀ (f : Nat) (fn : Fun), prog f = some fn → ∃ F pops raw, Tryd.prog.funcs[f]? = some F ∧ compF Tryd.prog gt fn.keep raw pops F = some fn := fun f fn h => PT.all_get tab_ok h
end Go.Proofs.YtpghcnfeeakcpaaDoor
