/-
  The abstract machine's functions are the dump's. By program.
-/
import Derived.Test.YtmeahkccilkofaaDoorRows
import Derived.Test.YtmeahkccilkofaaDoorAmSound
import Derived.Test.YtmeahkccilkofaaDoorFns
import Derived.Test.YtmeahkccilkofaaDoorPrims
set_option linter.all false
set_option linter.unusedVariables false
set_option linter.unusedSimpArgs false
set_option linter.unusedSectionVars false
set_option maxRecDepth 100000
namespace Go.Proofs.YtmeahkccilkofaaDoor
open Go.Proofs.YtmeahkccilkofaaDoor.Am Go.Proofs
def gt : Nat → Option (List AV)
  | _ => none
theorem l_touchstonelaw06_PathPlaces : compF Tryd.prog gt false false [] Tryd.f5 = some c_touchstonelaw06_PathPlaces := by kernel_rfl
theorem l_touchstonelaw06_PathOrder : compF Tryd.prog gt false false [] Tryd.f6 = some c_touchstonelaw06_PathOrder := by kernel_rfl
theorem l_touchstonelaw06_PathNames : compF Tryd.prog gt false false [] Tryd.f10 = some c_touchstonelaw06_PathNames := by kernel_rfl
theorem l_touchstonelaw06_long : compF Tryd.prog gt false false [] Tryd.f29 = some c_touchstonelaw06_long := by kernel_rfl
theorem l_touchstonelaw06_awake : compF Tryd.prog gt false false [] Tryd.f30 = some c_touchstonelaw06_awake := by kernel_rfl
theorem l_path_Show : compF Tryd.prog gt false false [] Tryd.f31 = some c_path_Show := by kernel_rfl
theorem l_touchstoneref06_Show : compF Tryd.prog gt false false [] Tryd.f32 = some c_touchstoneref06_Show := by kernel_rfl
theorem l_path_Under : compF Tryd.prog gt false false [] Tryd.f33 = some c_path_Under := by kernel_rfl
theorem l_touchstoneref06_Under : compF Tryd.prog gt false false [] Tryd.f34 = some c_touchstoneref06_Under := by kernel_rfl
theorem l_path_Less : compF Tryd.prog gt false false [] Tryd.f35 = some c_path_Less := by kernel_rfl
theorem l_touchstoneref06_Less : compF Tryd.prog gt false false [] Tryd.f36 = some c_touchstoneref06_Less := by kernel_rfl
theorem l_touchstoneref06_Same : compF Tryd.prog gt false false [] Tryd.f37 = some c_touchstoneref06_Same := by kernel_rfl
theorem l_path_Name : compF Tryd.prog gt false false [] Tryd.f38 = some c_path_Name := by kernel_rfl
theorem l_path_Clean : compF Tryd.prog gt false false [7] Tryd.f39 = some c_path_Clean := by kernel_rfl
theorem l_path_Steps : compF Tryd.prog gt false false [] Tryd.f40 = some c_path_Steps := by kernel_rfl
theorem l_path_Last : compF Tryd.prog gt false false [] Tryd.f54 = some c_path_Last := by kernel_rfl
theorem l_path_Dir : compF Tryd.prog gt false false [] Tryd.f57 = some c_path_Dir := by kernel_rfl
theorem l_path_Check : compF Tryd.prog gt false false [] Tryd.f59 = some c_path_Check := by kernel_rfl
theorem l_slices_Equal_string_string : compF Tryd.prog gt false false [] Tryd.f83 = some c_slices_Equal_string_string := by kernel_rfl
theorem l_slices_Compare_string_string : compF Tryd.prog gt false false [] Tryd.f84 = some c_slices_Compare_string_string := by kernel_rfl
theorem l_strings_ContainsAny : compF Tryd.prog gt false false [] Tryd.f85 = some c_strings_ContainsAny := by kernel_rfl
theorem l_path_steps : compF Tryd.prog gt false false [] Tryd.f86 = some c_path_steps := by kernel_rfl
theorem l_slices_Collect_string : compF Tryd.prog gt false false [] Tryd.f87 = some c_slices_Collect_string := by kernel_rfl
theorem l_strings_TrimRight : compF Tryd.prog gt false false [] Tryd.f92 = some c_strings_TrimRight := by kernel_rfl
theorem l_strings_LastIndexByte : compF Tryd.prog gt false false [] Tryd.f93 = some c_strings_LastIndexByte := by kernel_rfl
theorem l_strings_Contains : compF Tryd.prog gt false false [] Tryd.f94 = some c_strings_Contains := by kernel_rfl
theorem l_cmp_Compare_string : compF Tryd.prog gt false false [] Tryd.f104 = some c_cmp_Compare_string := by kernel_rfl
theorem l_strings_IndexAny : compF Tryd.prog gt false false [] Tryd.f105 = some c_strings_IndexAny := by kernel_rfl
theorem l_path_steps_1 : compF Tryd.prog gt false false [] Tryd.f106 = some c_path_steps_1 := by kernel_rfl
theorem l_strings_SplitSeq : compF Tryd.prog gt false false [] Tryd.f107 = some c_strings_SplitSeq := by kernel_rfl
theorem l_slices_AppendSeq_string_string : compF Tryd.prog gt false true [] Tryd.f108 = some c_slices_AppendSeq_string_string := by kernel_rfl
theorem l_strings_trimRightByte : compF Tryd.prog gt false false [2] Tryd.f113 = some c_strings_trimRightByte := by kernel_rfl
theorem l_strings_makeASCIISet : compF Tryd.prog gt false false [] Tryd.f114 = some c_strings_makeASCIISet := by kernel_rfl
theorem l_strings_trimRightASCII : compF Tryd.prog gt false false [3] Tryd.f115 = some c_strings_trimRightASCII := by kernel_rfl
theorem l_strings_trimRightUnicode : compF Tryd.prog gt false false [6] Tryd.f116 = some c_strings_trimRightUnicode := by kernel_rfl
theorem l_internal_bytealg_LastIndexByteString : compF Tryd.prog gt false false [] Tryd.f117 = some c_internal_bytealg_LastIndexByteString := by kernel_rfl
theorem l_strings_Index : compF Tryd.prog gt false false [] Tryd.f118 = some c_strings_Index := by kernel_rfl
theorem l_cmp_isNaN_string : compF Tryd.prog gt false false [] Tryd.f126 = some c_cmp_isNaN_string := by kernel_rfl
theorem l_strings_IndexRune : compF Tryd.prog gt false false [] Tryd.f127 = some c_strings_IndexRune := by kernel_rfl
theorem l_strings_shouldUseASCIISet : compF Tryd.prog gt false false [] Tryd.f128 = some c_strings_shouldUseASCIISet := by kernel_rfl
theorem l_strings_asciiSet_contains : compF Tryd.prog gt false false [] Tryd.f129 = some c_strings_asciiSet_contains := by kernel_rfl
theorem l_strings_splitSeq : compF Tryd.prog gt false false [] Tryd.f130 = some c_strings_splitSeq := by kernel_rfl
theorem l_strings_IndexByte : compF Tryd.prog gt false false [] Tryd.f131 = some c_strings_IndexByte := by kernel_rfl
theorem l_unicode_utf8_DecodeLastRuneInString : compF Tryd.prog gt false false [] Tryd.f133 = some c_unicode_utf8_DecodeLastRuneInString := by kernel_rfl
theorem l_strings_ContainsRune : compF Tryd.prog gt false false [] Tryd.f134 = some c_strings_ContainsRune := by kernel_rfl
theorem l_internal_stringslite_Index : compF Tryd.prog gt false false [] Tryd.f135 = some c_internal_stringslite_Index := by kernel_rfl
theorem l_unicode_utf8_ValidRune : compF Tryd.prog gt false false [] Tryd.f154 = some c_unicode_utf8_ValidRune := by kernel_rfl
theorem l_internal_bytealg_Cutover : compF Tryd.prog gt false false [] Tryd.f155 = some c_internal_bytealg_Cutover := by kernel_rfl
theorem l_strings_splitSeq_1 : compF Tryd.prog gt false false [] Tryd.f157 = some c_strings_splitSeq_1 := by kernel_rfl
theorem l_unicode_utf8_DecodeRuneInString : compF Tryd.prog gt false false [] Tryd.f158 = some c_unicode_utf8_DecodeRuneInString := by kernel_rfl
theorem l_internal_stringslite_IndexByte : compF Tryd.prog gt false false [] Tryd.f159 = some c_internal_stringslite_IndexByte := by kernel_rfl
theorem l_unicode_utf8_RuneStart : compF Tryd.prog gt false false [] Tryd.f162 = some c_unicode_utf8_RuneStart := by kernel_rfl
theorem l_internal_bytealg_IndexRabinKarp_string : compF Tryd.prog gt false false [] Tryd.f163 = some c_internal_bytealg_IndexRabinKarp_string := by kernel_rfl
theorem l_unicode_utf8_decodeRuneInStringSlow : compF Tryd.prog gt false false [] Tryd.f176 = some c_unicode_utf8_decodeRuneInStringSlow := by kernel_rfl
theorem l_internal_bytealg_hashStr_string : compF Tryd.prog gt false false [] Tryd.f179 = some c_internal_bytealg_hashStr_string := by kernel_rfl
theorem tab_ok : tab.All (FunOk Tryd.prog gt) :=
  ⟨.inl ⟨rfl, Tryd.f105, [], false, Tryd.func105, l_strings_IndexAny⟩, ⟨.inl ⟨rfl, Tryd.f40, [], false, Tryd.func40, l_path_Steps⟩, ⟨.inl ⟨rfl, Tryd.f33, [], false, Tryd.func33, l_path_Under⟩, ⟨.inl ⟨rfl, Tryd.f29, [], false, Tryd.func29, l_touchstonelaw06_long⟩, ⟨.inl ⟨rfl, Tryd.f6, [], false, Tryd.func6, l_touchstonelaw06_PathOrder⟩, ⟨.inl ⟨rfl, Tryd.f5, [], false, Tryd.func5, l_touchstonelaw06_PathPlaces⟩, trivial, trivial⟩, ⟨.inl ⟨rfl, Tryd.f10, [], false, Tryd.func10, l_touchstonelaw06_PathNames⟩, trivial, trivial⟩⟩, ⟨.inl ⟨rfl, Tryd.f31, [], false, Tryd.func31, l_path_Show⟩, ⟨.inl ⟨rfl, Tryd.f30, [], false, Tryd.func30, l_touchstonelaw06_awake⟩, trivial, trivial⟩, ⟨.inl ⟨rfl, Tryd.f32, [], false, Tryd.func32, l_touchstoneref06_Show⟩, trivial, trivial⟩⟩⟩, ⟨.inl ⟨rfl, Tryd.f37, [], false, Tryd.func37, l_touchstoneref06_Same⟩, ⟨.inl ⟨rfl, Tryd.f35, [], false, Tryd.func35, l_path_Less⟩, ⟨.inl ⟨rfl, Tryd.f34, [], false, Tryd.func34, l_touchstoneref06_Under⟩, trivial, trivial⟩, ⟨.inl ⟨rfl, Tryd.f36, [], false, Tryd.func36, l_touchstoneref06_Less⟩, trivial, trivial⟩⟩, ⟨.inl ⟨rfl, Tryd.f39, [7], false, Tryd.func39, l_path_Clean⟩, ⟨.inl ⟨rfl, Tryd.f38, [], false, Tryd.func38, l_path_Name⟩, trivial, trivial⟩, trivial⟩⟩⟩, ⟨.inl ⟨rfl, Tryd.f85, [], false, Tryd.func85, l_strings_ContainsAny⟩, ⟨.inr ⟨_, rfl, primOk_strings_Join⟩, ⟨.inl ⟨rfl, Tryd.f57, [], false, Tryd.func57, l_path_Dir⟩, ⟨.inl ⟨rfl, Tryd.f54, [], false, Tryd.func54, l_path_Last⟩, trivial, trivial⟩, ⟨.inl ⟨rfl, Tryd.f59, [], false, Tryd.func59, l_path_Check⟩, trivial, trivial⟩⟩, ⟨.inl ⟨rfl, Tryd.f84, [], false, Tryd.func84, l_slices_Compare_string_string⟩, ⟨.inl ⟨rfl, Tryd.f83, [], false, Tryd.func83, l_slices_Equal_string_string⟩, trivial, trivial⟩, trivial⟩⟩, ⟨.inl ⟨rfl, Tryd.f93, [], false, Tryd.func93, l_strings_LastIndexByte⟩, ⟨.inl ⟨rfl, Tryd.f87, [], false, Tryd.func87, l_slices_Collect_string⟩, ⟨.inl ⟨rfl, Tryd.f86, [], false, Tryd.func86, l_path_steps⟩, trivial, trivial⟩, ⟨.inl ⟨rfl, Tryd.f92, [], false, Tryd.func92, l_strings_TrimRight⟩, trivial, trivial⟩⟩, ⟨.inl ⟨rfl, Tryd.f104, [], false, Tryd.func104, l_cmp_Compare_string⟩, ⟨.inl ⟨rfl, Tryd.f94, [], false, Tryd.func94, l_strings_Contains⟩, trivial, trivial⟩, trivial⟩⟩⟩⟩, ⟨.inl ⟨rfl, Tryd.f130, [], false, Tryd.func130, l_strings_splitSeq⟩, ⟨.inl ⟨rfl, Tryd.f116, [6], false, Tryd.func116, l_strings_trimRightUnicode⟩, ⟨.inl ⟨rfl, Tryd.f113, [2], false, Tryd.func113, l_strings_trimRightByte⟩, ⟨.inl ⟨rfl, Tryd.f107, [], false, Tryd.func107, l_strings_SplitSeq⟩, ⟨.inl ⟨rfl, Tryd.f106, [], false, Tryd.func106, l_path_steps_1⟩, trivial, trivial⟩, ⟨.inl ⟨rfl, Tryd.f108, [], true, Tryd.func108, l_slices_AppendSeq_string_string⟩, trivial, trivial⟩⟩, ⟨.inl ⟨rfl, Tryd.f115, [3], false, Tryd.func115, l_strings_trimRightASCII⟩, ⟨.inl ⟨rfl, Tryd.f114, [], false, Tryd.func114, l_strings_makeASCIISet⟩, trivial, trivial⟩, trivial⟩⟩, ⟨.inl ⟨rfl, Tryd.f127, [], false, Tryd.func127, l_strings_IndexRune⟩, ⟨.inl ⟨rfl, Tryd.f118, [], false, Tryd.func118, l_strings_Index⟩, ⟨.inl ⟨rfl, Tryd.f117, [], false, Tryd.func117, l_internal_bytealg_LastIndexByteString⟩, trivial, trivial⟩, ⟨.inl ⟨rfl, Tryd.f126, [], false, Tryd.func126, l_cmp_isNaN_string⟩, trivial, trivial⟩⟩, ⟨.inl ⟨rfl, Tryd.f129, [], false, Tryd.func129, l_strings_asciiSet_contains⟩, ⟨.inl ⟨rfl, Tryd.f128, [], false, Tryd.func128, l_strings_shouldUseASCIISet⟩, trivial, trivial⟩, trivial⟩⟩⟩, ⟨.inl ⟨rfl, Tryd.f157, [], false, Tryd.func157, l_strings_splitSeq_1⟩, ⟨.inl ⟨rfl, Tryd.f135, [], false, Tryd.func135, l_internal_stringslite_Index⟩, ⟨.inl ⟨rfl, Tryd.f133, [], false, Tryd.func133, l_unicode_utf8_DecodeLastRuneInString⟩, ⟨.inl ⟨rfl, Tryd.f131, [], false, Tryd.func131, l_strings_IndexByte⟩, trivial, trivial⟩, ⟨.inl ⟨rfl, Tryd.f134, [], false, Tryd.func134, l_strings_ContainsRune⟩, trivial, trivial⟩⟩, ⟨.inl ⟨rfl, Tryd.f155, [], false, Tryd.func155, l_internal_bytealg_Cutover⟩, ⟨.inl ⟨rfl, Tryd.f154, [], false, Tryd.func154, l_unicode_utf8_ValidRune⟩, trivial, trivial⟩, trivial⟩⟩, ⟨.inl ⟨rfl, Tryd.f163, [], false, Tryd.func163, l_internal_bytealg_IndexRabinKarp_string⟩, ⟨.inl ⟨rfl, Tryd.f159, [], false, Tryd.func159, l_internal_stringslite_IndexByte⟩, ⟨.inl ⟨rfl, Tryd.f158, [], false, Tryd.func158, l_unicode_utf8_DecodeRuneInString⟩, trivial, trivial⟩, ⟨.inl ⟨rfl, Tryd.f162, [], false, Tryd.func162, l_unicode_utf8_RuneStart⟩, trivial, trivial⟩⟩, ⟨.inl ⟨rfl, Tryd.f179, [], false, Tryd.func179, l_internal_bytealg_hashStr_string⟩, ⟨.inl ⟨rfl, Tryd.f176, [], false, Tryd.func176, l_unicode_utf8_decodeRuneInStringSlow⟩, trivial, trivial⟩, trivial⟩⟩⟩⟩⟩
theorem fns_ok : ∀ (f : Nat) (fn : Fun), prog f = some fn → FunOk Tryd.prog gt f fn := fun f fn h => PT.all_get tab_ok h
end Go.Proofs.YtmeahkccilkofaaDoor
