/-
  The abstract machine's functions are the dump's. By program.
-/
import Derived.Test.YtfaodjpibdhdjaaDoorRows
import Derived.Test.YtfaodjpibdhdjaaDoorAmSound
import Derived.Test.YtfaodjpibdhdjaaDoorFns
import Derived.Test.YtfaodjpibdhdjaaDoorPrims
set_option linter.all false
set_option linter.unusedVariables false
set_option linter.unusedSimpArgs false
set_option linter.unusedSectionVars false
set_option maxRecDepth 100000
namespace Go.Proofs.YtfaodjpibdhdjaaDoor
open Go.Proofs.YtfaodjpibdhdjaaDoor.Am Go.Proofs
def gt : Nat → Option (List AV)
  | _ => none
theorem l_touchstonelaw06_PathCleans : compF Tryd.prog gt false false [1000008000] Tryd.f3 = some c_touchstonelaw06_PathCleans := by kernel_rfl
theorem l_touchstonelaw06_PathTexts : compF Tryd.prog gt false false [6] Tryd.f4 = some c_touchstonelaw06_PathTexts := by kernel_rfl
theorem l_touchstonelaw06_long : compF Tryd.prog gt false false [] Tryd.f5 = some c_touchstonelaw06_long := by kernel_rfl
theorem l_touchstonelaw06_awake : compF Tryd.prog gt false false [1000002001] Tryd.f6 = some c_touchstonelaw06_awake := by kernel_rfl
theorem l_path_Name : compF Tryd.prog gt false false [] Tryd.f7 = some c_path_Name := by kernel_rfl
theorem l_touchstoneref06_Same : compF Tryd.prog gt false false [] Tryd.f8 = some c_touchstoneref06_Same := by kernel_rfl
theorem l_path_Clean : compF Tryd.prog gt true false [7] Tryd.f9 = some c_path_Clean := by kernel_rfl
theorem l_path_Show : compF Tryd.prog gt false false [] Tryd.f10 = some c_path_Show := by kernel_rfl
theorem l_path_Steps : compF Tryd.prog gt true false [] Tryd.f11 = some c_path_Steps := by kernel_rfl
theorem l_touchstonelaw06_same : compF Tryd.prog gt false true [1000001000, 1000001001, 1000005000] Tryd.f12 = some c_touchstonelaw06_same := by kernel_rfl
theorem l_touchstoneref06_Steps : compF Tryd.prog gt false false [] Tryd.f13 = some c_touchstoneref06_Steps := by kernel_rfl
theorem l_touchstoneref06_Clean : compF Tryd.prog gt false false [9] Tryd.f14 = some c_touchstoneref06_Clean := by kernel_rfl
theorem l_path_Last : compF Tryd.prog gt false false [] Tryd.f15 = some c_path_Last := by kernel_rfl
theorem l_touchstoneref06_Last : compF Tryd.prog gt false false [] Tryd.f16 = some c_touchstoneref06_Last := by kernel_rfl
theorem l_touchstoneref06_Name : compF Tryd.prog gt false false [] Tryd.f17 = some c_touchstoneref06_Name := by kernel_rfl
theorem l_path_Dir : compF Tryd.prog gt false false [] Tryd.f18 = some c_path_Dir := by kernel_rfl
theorem l_touchstoneref06_Dir : compF Tryd.prog gt false false [] Tryd.f19 = some c_touchstoneref06_Dir := by kernel_rfl
theorem l_path_Check : compF Tryd.prog gt false false [] Tryd.f20 = some c_path_Check := by kernel_rfl
theorem l_touchstoneref06_Check : compF Tryd.prog gt false false [] Tryd.f21 = some c_touchstoneref06_Check := by kernel_rfl
theorem l_path_Under : compF Tryd.prog gt false false [] Tryd.f22 = some c_path_Under := by kernel_rfl
theorem l_path_Less : compF Tryd.prog gt false false [] Tryd.f23 = some c_path_Less := by kernel_rfl
theorem l_strings_ContainsAny : compF Tryd.prog gt false false [] Tryd.f24 = some c_strings_ContainsAny := by kernel_rfl
theorem l_touchstoneref06_Under : compF Tryd.prog gt false false [] Tryd.f25 = some c_touchstoneref06_Under := by kernel_rfl
theorem l_path_steps : compF Tryd.prog gt false false [] Tryd.f26 = some c_path_steps := by kernel_rfl
theorem l_slices_Collect_string : compF Tryd.prog gt true false [] Tryd.f28 = some c_slices_Collect_string := by kernel_rfl
theorem l_touchstoneref06_parts : compF Tryd.prog gt false false [] Tryd.f29 = some c_touchstoneref06_parts := by kernel_rfl
theorem l_strings_TrimRight : compF Tryd.prog gt false false [] Tryd.f30 = some c_strings_TrimRight := by kernel_rfl
theorem l_strings_LastIndexByte : compF Tryd.prog gt false false [] Tryd.f31 = some c_strings_LastIndexByte := by kernel_rfl
theorem l_strings_Contains : compF Tryd.prog gt false false [] Tryd.f32 = some c_strings_Contains := by kernel_rfl
theorem l_slices_Equal_string_string : compF Tryd.prog gt false false [] Tryd.f33 = some c_slices_Equal_string_string := by kernel_rfl
theorem l_slices_Compare_string_string : compF Tryd.prog gt false false [] Tryd.f34 = some c_slices_Compare_string_string := by kernel_rfl
theorem l_strings_IndexAny : compF Tryd.prog gt false false [] Tryd.f35 = some c_strings_IndexAny := by kernel_rfl
theorem l_path_steps_1 : compF Tryd.prog gt false false [] Tryd.f36 = some c_path_steps_1 := by kernel_rfl
theorem l_strings_SplitSeq : compF Tryd.prog gt false false [] Tryd.f37 = some c_strings_SplitSeq := by kernel_rfl
theorem l_slices_AppendSeq_string_string : compF Tryd.prog gt true true [] Tryd.f41 = some c_slices_AppendSeq_string_string := by kernel_rfl
theorem l_strings_trimRightByte : compF Tryd.prog gt false false [2] Tryd.f42 = some c_strings_trimRightByte := by kernel_rfl
theorem l_strings_makeASCIISet : compF Tryd.prog gt false false [] Tryd.f43 = some c_strings_makeASCIISet := by kernel_rfl
theorem l_strings_trimRightASCII : compF Tryd.prog gt false false [3] Tryd.f44 = some c_strings_trimRightASCII := by kernel_rfl
theorem l_strings_trimRightUnicode : compF Tryd.prog gt false false [6] Tryd.f45 = some c_strings_trimRightUnicode := by kernel_rfl
theorem l_internal_bytealg_LastIndexByteString : compF Tryd.prog gt false false [] Tryd.f46 = some c_internal_bytealg_LastIndexByteString := by kernel_rfl
theorem l_strings_Index : compF Tryd.prog gt false false [] Tryd.f47 = some c_strings_Index := by kernel_rfl
theorem l_cmp_Compare_string : compF Tryd.prog gt false false [] Tryd.f48 = some c_cmp_Compare_string := by kernel_rfl
theorem l_strings_IndexRune : compF Tryd.prog gt false false [] Tryd.f49 = some c_strings_IndexRune := by kernel_rfl
theorem l_strings_shouldUseASCIISet : compF Tryd.prog gt false false [] Tryd.f50 = some c_strings_shouldUseASCIISet := by kernel_rfl
theorem l_strings_asciiSet_contains : compF Tryd.prog gt false false [] Tryd.f51 = some c_strings_asciiSet_contains := by kernel_rfl
theorem l_strings_splitSeq : compF Tryd.prog gt false false [] Tryd.f52 = some c_strings_splitSeq := by kernel_rfl
theorem l_unicode_utf8_DecodeLastRuneInString : compF Tryd.prog gt false false [] Tryd.f55 = some c_unicode_utf8_DecodeLastRuneInString := by kernel_rfl
theorem l_strings_ContainsRune : compF Tryd.prog gt false false [] Tryd.f56 = some c_strings_ContainsRune := by kernel_rfl
theorem l_internal_stringslite_Index : compF Tryd.prog gt false false [] Tryd.f57 = some c_internal_stringslite_Index := by kernel_rfl
theorem l_cmp_isNaN_string : compF Tryd.prog gt false false [] Tryd.f58 = some c_cmp_isNaN_string := by kernel_rfl
theorem l_strings_IndexByte : compF Tryd.prog gt false false [] Tryd.f59 = some c_strings_IndexByte := by kernel_rfl
theorem l_unicode_utf8_ValidRune : compF Tryd.prog gt false false [] Tryd.f60 = some c_unicode_utf8_ValidRune := by kernel_rfl
theorem l_internal_bytealg_Cutover : compF Tryd.prog gt false false [] Tryd.f61 = some c_internal_bytealg_Cutover := by kernel_rfl
theorem l_strings_splitSeq_1 : compF Tryd.prog gt false false [] Tryd.f63 = some c_strings_splitSeq_1 := by kernel_rfl
theorem l_unicode_utf8_DecodeRuneInString : compF Tryd.prog gt false false [] Tryd.f64 = some c_unicode_utf8_DecodeRuneInString := by kernel_rfl
theorem l_unicode_utf8_RuneStart : compF Tryd.prog gt false false [] Tryd.f67 = some c_unicode_utf8_RuneStart := by kernel_rfl
theorem l_internal_stringslite_IndexByte : compF Tryd.prog gt false false [] Tryd.f68 = some c_internal_stringslite_IndexByte := by kernel_rfl
theorem l_internal_bytealg_IndexRabinKarp_string : compF Tryd.prog gt false false [] Tryd.f69 = some c_internal_bytealg_IndexRabinKarp_string := by kernel_rfl
theorem l_unicode_utf8_decodeRuneInStringSlow : compF Tryd.prog gt false false [] Tryd.f70 = some c_unicode_utf8_decodeRuneInStringSlow := by kernel_rfl
theorem l_internal_bytealg_hashStr_string : compF Tryd.prog gt false false [] Tryd.f72 = some c_internal_bytealg_hashStr_string := by kernel_rfl
theorem tab_ok : tab.All (FunOk Tryd.prog gt) :=
  ⟨.inl ⟨rfl, Tryd.f33, [], false, Tryd.func33, l_slices_Equal_string_string⟩, ⟨.inl ⟨rfl, Tryd.f18, [], false, Tryd.func18, l_path_Dir⟩, ⟨.inl ⟨rfl, Tryd.f10, [], false, Tryd.func10, l_path_Show⟩, ⟨.inl ⟨rfl, Tryd.f6, [1000002001], false, Tryd.func6, l_touchstonelaw06_awake⟩, ⟨.inl ⟨rfl, Tryd.f4, [6], false, Tryd.func4, l_touchstonelaw06_PathTexts⟩, ⟨.inl ⟨rfl, Tryd.f3, [1000008000], false, Tryd.func3, l_touchstonelaw06_PathCleans⟩, trivial, trivial⟩, ⟨.inl ⟨rfl, Tryd.f5, [], false, Tryd.func5, l_touchstonelaw06_long⟩, trivial, trivial⟩⟩, ⟨.inl ⟨rfl, Tryd.f8, [], false, Tryd.func8, l_touchstoneref06_Same⟩, ⟨.inl ⟨rfl, Tryd.f7, [], false, Tryd.func7, l_path_Name⟩, trivial, trivial⟩, ⟨.inl ⟨rfl, Tryd.f9, [7], false, Tryd.func9, l_path_Clean⟩, trivial, trivial⟩⟩⟩, ⟨.inl ⟨rfl, Tryd.f14, [9], false, Tryd.func14, l_touchstoneref06_Clean⟩, ⟨.inl ⟨rfl, Tryd.f12, [1000001000, 1000001001, 1000005000], true, Tryd.func12, l_touchstonelaw06_same⟩, ⟨.inl ⟨rfl, Tryd.f11, [], false, Tryd.func11, l_path_Steps⟩, trivial, trivial⟩, ⟨.inl ⟨rfl, Tryd.f13, [], false, Tryd.func13, l_touchstoneref06_Steps⟩, trivial, trivial⟩⟩, ⟨.inl ⟨rfl, Tryd.f16, [], false, Tryd.func16, l_touchstoneref06_Last⟩, ⟨.inl ⟨rfl, Tryd.f15, [], false, Tryd.func15, l_path_Last⟩, trivial, trivial⟩, ⟨.inl ⟨rfl, Tryd.f17, [], false, Tryd.func17, l_touchstoneref06_Name⟩, trivial, trivial⟩⟩⟩⟩, ⟨.inl ⟨rfl, Tryd.f26, [], false, Tryd.func26, l_path_steps⟩, ⟨.inl ⟨rfl, Tryd.f22, [], false, Tryd.func22, l_path_Under⟩, ⟨.inl ⟨rfl, Tryd.f20, [], false, Tryd.func20, l_path_Check⟩, ⟨.inl ⟨rfl, Tryd.f19, [], false, Tryd.func19, l_touchstoneref06_Dir⟩, trivial, trivial⟩, ⟨.inl ⟨rfl, Tryd.f21, [], false, Tryd.func21, l_touchstoneref06_Check⟩, trivial, trivial⟩⟩, ⟨.inl ⟨rfl, Tryd.f24, [], false, Tryd.func24, l_strings_ContainsAny⟩, ⟨.inl ⟨rfl, Tryd.f23, [], false, Tryd.func23, l_path_Less⟩, trivial, trivial⟩, ⟨.inl ⟨rfl, Tryd.f25, [], false, Tryd.func25, l_touchstoneref06_Under⟩, trivial, trivial⟩⟩⟩, ⟨.inl ⟨rfl, Tryd.f30, [], false, Tryd.func30, l_strings_TrimRight⟩, ⟨.inl ⟨rfl, Tryd.f28, [], false, Tryd.func28, l_slices_Collect_string⟩, ⟨.inr ⟨_, rfl, primOk_strings_Join⟩, trivial, trivial⟩, ⟨.inl ⟨rfl, Tryd.f29, [], false, Tryd.func29, l_touchstoneref06_parts⟩, trivial, trivial⟩⟩, ⟨.inl ⟨rfl, Tryd.f32, [], false, Tryd.func32, l_strings_Contains⟩, ⟨.inl ⟨rfl, Tryd.f31, [], false, Tryd.func31, l_strings_LastIndexByte⟩, trivial, trivial⟩, trivial⟩⟩⟩⟩, ⟨.inl ⟨rfl, Tryd.f52, [], false, Tryd.func52, l_strings_splitSeq⟩, ⟨.inl ⟨rfl, Tryd.f44, [3], false, Tryd.func44, l_strings_trimRightASCII⟩, ⟨.inl ⟨rfl, Tryd.f37, [], false, Tryd.func37, l_strings_SplitSeq⟩, ⟨.inl ⟨rfl, Tryd.f35, [], false, Tryd.func35, l_strings_IndexAny⟩, ⟨.inl ⟨rfl, Tryd.f34, [], false, Tryd.func34, l_slices_Compare_string_string⟩, trivial, trivial⟩, ⟨.inl ⟨rfl, Tryd.f36, [], false, Tryd.func36, l_path_steps_1⟩, trivial, trivial⟩⟩, ⟨.inl ⟨rfl, Tryd.f42, [2], false, Tryd.func42, l_strings_trimRightByte⟩, ⟨.inl ⟨rfl, Tryd.f41, [], true, Tryd.func41, l_slices_AppendSeq_string_string⟩, trivial, trivial⟩, ⟨.inl ⟨rfl, Tryd.f43, [], false, Tryd.func43, l_strings_makeASCIISet⟩, trivial, trivial⟩⟩⟩, ⟨.inl ⟨rfl, Tryd.f48, [], false, Tryd.func48, l_cmp_Compare_string⟩, ⟨.inl ⟨rfl, Tryd.f46, [], false, Tryd.func46, l_internal_bytealg_LastIndexByteString⟩, ⟨.inl ⟨rfl, Tryd.f45, [6], false, Tryd.func45, l_strings_trimRightUnicode⟩, trivial, trivial⟩, ⟨.inl ⟨rfl, Tryd.f47, [], false, Tryd.func47, l_strings_Index⟩, trivial, trivial⟩⟩, ⟨.inl ⟨rfl, Tryd.f50, [], false, Tryd.func50, l_strings_shouldUseASCIISet⟩, ⟨.inl ⟨rfl, Tryd.f49, [], false, Tryd.func49, l_strings_IndexRune⟩, trivial, trivial⟩, ⟨.inl ⟨rfl, Tryd.f51, [], false, Tryd.func51, l_strings_asciiSet_contains⟩, trivial, trivial⟩⟩⟩⟩, ⟨.inl ⟨rfl, Tryd.f63, [], false, Tryd.func63, l_strings_splitSeq_1⟩, ⟨.inl ⟨rfl, Tryd.f58, [], false, Tryd.func58, l_cmp_isNaN_string⟩, ⟨.inl ⟨rfl, Tryd.f56, [], false, Tryd.func56, l_strings_ContainsRune⟩, ⟨.inl ⟨rfl, Tryd.f55, [], false, Tryd.func55, l_unicode_utf8_DecodeLastRuneInString⟩, trivial, trivial⟩, ⟨.inl ⟨rfl, Tryd.f57, [], false, Tryd.func57, l_internal_stringslite_Index⟩, trivial, trivial⟩⟩, ⟨.inl ⟨rfl, Tryd.f60, [], false, Tryd.func60, l_unicode_utf8_ValidRune⟩, ⟨.inl ⟨rfl, Tryd.f59, [], false, Tryd.func59, l_strings_IndexByte⟩, trivial, trivial⟩, ⟨.inl ⟨rfl, Tryd.f61, [], false, Tryd.func61, l_internal_bytealg_Cutover⟩, trivial, trivial⟩⟩⟩, ⟨.inl ⟨rfl, Tryd.f69, [], false, Tryd.func69, l_internal_bytealg_IndexRabinKarp_string⟩, ⟨.inl ⟨rfl, Tryd.f67, [], false, Tryd.func67, l_unicode_utf8_RuneStart⟩, ⟨.inl ⟨rfl, Tryd.f64, [], false, Tryd.func64, l_unicode_utf8_DecodeRuneInString⟩, trivial, trivial⟩, ⟨.inl ⟨rfl, Tryd.f68, [], false, Tryd.func68, l_internal_stringslite_IndexByte⟩, trivial, trivial⟩⟩, ⟨.inl ⟨rfl, Tryd.f72, [], false, Tryd.func72, l_internal_bytealg_hashStr_string⟩, ⟨.inl ⟨rfl, Tryd.f70, [], false, Tryd.func70, l_unicode_utf8_decodeRuneInStringSlow⟩, trivial, trivial⟩, trivial⟩⟩⟩⟩⟩
theorem fns_ok : ∀ (f : Nat) (fn : Fun), prog f = some fn → FunOk Tryd.prog gt f fn := fun f fn h => PT.all_get tab_ok h
end Go.Proofs.YtfaodjpibdhdjaaDoor
