/-
  The abstract machine's functions are the dump's. By program.
-/
import Derived.Test.YtpghcnfeeakcpaaDoorRows
import Derived.Test.YtpghcnfeeakcpaaDoorAmSound
import Derived.Test.YtpghcnfeeakcpaaDoorFns
set_option linter.all false
set_option linter.unusedVariables false
set_option linter.unusedSimpArgs false
set_option linter.unusedSectionVars false
set_option maxRecDepth 100000
namespace Go.Proofs.YtpghcnfeeakcpaaDoor
open Go.Proofs.YtpghcnfeeakcpaaDoor.Am Go.Proofs
def zs_1 : List Int := [1, 10, 100, 1000, 10000, 100000, 1000000, 10000000, 100000000, 1000000000, 10000000000, 100000000000, 1000000000000, 10000000000000, 100000000000000, 1000000000000000, 10000000000000000, 100000000000000000, 1000000000000000000, 10000000000000000000]
def gt : Nat → Option (List AV)
  | 1 => some (zs_1.map fun z => AV.i .u64 z)
  | _ => none
theorem l_touchstonelaw05_ExpandNames : compF Tryd.prog gt false false [2000000005, 2000000009, 2000000023] Tryd.f4 = some c_touchstonelaw05_ExpandNames := by kernel_rfl
theorem l_touchstonelaw05_works : compF Tryd.prog gt false false [2000000002] Tryd.f9 = some c_touchstonelaw05_works := by kernel_rfl
theorem l_touchstonelaw05_vars : compF Tryd.prog gt false false [] Tryd.f10 = some c_touchstonelaw05_vars := by kernel_rfl
theorem l_touchstonelaw05_fields : compF Tryd.prog gt false false [] Tryd.f11 = some c_touchstonelaw05_fields := by kernel_rfl
theorem l_touchstonelaw05_lit : compF Tryd.prog gt false false [] Tryd.f12 = some c_touchstonelaw05_lit := by kernel_rfl
theorem l_touchstonelaw05_par : compF Tryd.prog gt false false [] Tryd.f13 = some c_touchstonelaw05_par := by kernel_rfl
theorem l_touchstonelaw05_quo : compF Tryd.prog gt false false [] Tryd.f14 = some c_touchstonelaw05_quo := by kernel_rfl
theorem l_touchstonelaw05_qpar : compF Tryd.prog gt false false [] Tryd.f15 = some c_touchstonelaw05_qpar := by kernel_rfl
theorem l_expand_Value : compF Tryd.prog gt false false [] Tryd.f16 = some c_expand_Value := by kernel_rfl
theorem l_expand_Items : compF Tryd.prog gt false false [] Tryd.f17 = some c_expand_Items := by kernel_rfl
theorem l_touchstonelaw05_same : compF Tryd.prog gt false false [] Tryd.f18 = some c_touchstonelaw05_same := by kernel_rfl
theorem l_expand_Set : compF Tryd.prog gt false false [2000000005, 1000007009, 1000008009] Tryd.f19 = some c_expand_Set := by kernel_rfl
theorem l_touchstonelaw05_many : compF Tryd.prog gt false false [1000005003] Tryd.f20 = some c_touchstonelaw05_many := by kernel_rfl
theorem l_expand_Text : compF Tryd.prog gt false false [] Tryd.f24 = some c_expand_Text := by kernel_rfl
theorem l_expand_Fields : compF Tryd.prog gt false false [] Tryd.f25 = some c_expand_Fields := by kernel_rfl
theorem l_strconv_Itoa : compF Tryd.prog gt false false [] Tryd.f26 = some c_strconv_Itoa := by kernel_rfl
theorem l_slices_Index_string_string : compF Tryd.prog gt false false [] Tryd.f27 = some c_slices_Index_string_string := by kernel_rfl
theorem l_expand_isName : compF Tryd.prog gt false false [] Tryd.f28 = some c_expand_isName := by kernel_rfl
theorem l_slices_Clone_string_string : compF Tryd.prog gt true false [] Tryd.f29 = some c_slices_Clone_string_string := by kernel_rfl
theorem l_slices_Sort_string_string : compF Tryd.prog gt false false [] Tryd.f30 = some c_slices_Sort_string_string := by kernel_rfl
theorem l_slices_Compact_string_string : compF Tryd.prog gt false false [1000012000] Tryd.f31 = some c_slices_Compact_string_string := by kernel_rfl
theorem l_strings_Builder_WriteString : compF Tryd.prog gt false false [] Tryd.f35 = some c_strings_Builder_WriteString := by kernel_rfl
theorem l_strings_Builder_String : compF Tryd.prog gt false false [] Tryd.f36 = some c_strings_Builder_String := by kernel_rfl
theorem l_expand_values : compF Tryd.prog gt false false [] Tryd.f47 = some c_expand_values := by kernel_rfl
theorem l_expand_builder_split : compF Tryd.prog gt false false [] Tryd.f48 = some c_expand_builder_split := by kernel_rfl
theorem l_expand_builder_add : compF Tryd.prog gt false false [] Tryd.f49 = some c_expand_builder_add := by kernel_rfl
theorem l_expand_builder_end : compF Tryd.prog gt false false [] Tryd.f50 = some c_expand_builder_end := by kernel_rfl
theorem l_internal_strconv_Itoa : compF Tryd.prog gt false false [] Tryd.f51 = some c_internal_strconv_Itoa := by kernel_rfl
theorem l_word_Param : compF Tryd.prog gt false false [] Tryd.f52 = some c_word_Param := by kernel_rfl
theorem l_slices_pdqsortOrdered_string : compF Tryd.prog gt false false [] Tryd.f53 = some c_slices_pdqsortOrdered_string := by kernel_rfl
theorem l_math_bits_Len : compF Tryd.prog gt false false [] Tryd.f54 = some c_math_bits_Len := by kernel_rfl
theorem l_strings_Builder_copyCheck : compF Tryd.prog gt false false [] Tryd.f58 = some c_strings_Builder_copyCheck := by kernel_rfl
theorem l_expand_values_1 : compF Tryd.prog gt false false [] Tryd.f62 = some c_expand_values_1 := by kernel_rfl
theorem l_internal_strconv_FormatInt : compF Tryd.prog gt false false [] Tryd.f63 = some c_internal_strconv_FormatInt := by kernel_rfl
theorem l_strings_Contains : compF Tryd.prog gt false false [] Tryd.f64 = some c_strings_Contains := by kernel_rfl
theorem l_word_lead : compF Tryd.prog gt false false [] Tryd.f65 = some c_word_lead := by kernel_rfl
theorem l_slices_insertionSortOrdered_string : compF Tryd.prog gt false false [1000006000] Tryd.f66 = some c_slices_insertionSortOrdered_string := by kernel_rfl
theorem l_slices_heapSortOrdered_string : compF Tryd.prog gt false false [1000010000] Tryd.f67 = some c_slices_heapSortOrdered_string := by kernel_rfl
theorem l_slices_breakPatternsOrdered_string : compF Tryd.prog gt false false [1000010000] Tryd.f68 = some c_slices_breakPatternsOrdered_string := by kernel_rfl
theorem l_slices_choosePivotOrdered_string : compF Tryd.prog gt false false [] Tryd.f69 = some c_slices_choosePivotOrdered_string := by kernel_rfl
theorem l_slices_reverseRangeOrdered_string : compF Tryd.prog gt false false [1000003000] Tryd.f70 = some c_slices_reverseRangeOrdered_string := by kernel_rfl
theorem l_slices_partialInsertionSortOrdered_string : compF Tryd.prog gt false false [1000011000, 1000017000, 1000023000] Tryd.f71 = some c_slices_partialInsertionSortOrdered_string := by kernel_rfl
theorem l_cmp_Less_string : compF Tryd.prog gt false false [] Tryd.f72 = some c_cmp_Less_string := by kernel_rfl
theorem l_slices_partitionEqualOrdered_string : compF Tryd.prog gt false false [1000001000, 1000008000] Tryd.f73 = some c_slices_partitionEqualOrdered_string := by kernel_rfl
theorem l_slices_partitionOrdered_string : compF Tryd.prog gt false false [1000001000, 1000008000, 1000010000, 1000018000, 1000021000] Tryd.f74 = some c_slices_partitionOrdered_string := by kernel_rfl
theorem l_math_bits_Len32 : compF Tryd.prog gt false false [] Tryd.f75 = some c_math_bits_Len32 := by kernel_rfl
theorem l_math_bits_Len64 : compF Tryd.prog gt false false [] Tryd.f76 = some c_math_bits_Len64 := by kernel_rfl
theorem l_internal_strconv_small : compF Tryd.prog gt false false [] Tryd.f85 = some c_internal_strconv_small := by kernel_rfl
theorem l_internal_strconv_numDigits : compF Tryd.prog gt false false [] Tryd.f86 = some c_internal_strconv_numDigits := by kernel_rfl
theorem l_internal_strconv_formatBase10 : compF Tryd.prog gt false false [1000007000, 1000008000, 1000009000, 1000010000, 1000017000, 1000018000, 1000023000, 1000026000] Tryd.f87 = some c_internal_strconv_formatBase10 := by kernel_rfl
theorem l_internal_strconv_formatBits : compF Tryd.prog gt false false [] Tryd.f88 = some c_internal_strconv_formatBits := by kernel_rfl
theorem l_strings_Index : compF Tryd.prog gt false false [] Tryd.f89 = some c_strings_Index := by kernel_rfl
theorem l_word_letter : compF Tryd.prog gt false false [] Tryd.f90 = some c_word_letter := by kernel_rfl
theorem l_word_digit : compF Tryd.prog gt false false [] Tryd.f91 = some c_word_digit := by kernel_rfl
theorem l_slices_siftDownOrdered_string : compF Tryd.prog gt false false [1000006000] Tryd.f92 = some c_slices_siftDownOrdered_string := by kernel_rfl
theorem l_slices_nextPowerOfTwo : compF Tryd.prog gt false false [] Tryd.f93 = some c_slices_nextPowerOfTwo := by kernel_rfl
theorem l_slices_xorshift_Next : compF Tryd.prog gt false false [] Tryd.f94 = some c_slices_xorshift_Next := by kernel_rfl
theorem l_slices_medianAdjacentOrdered_string : compF Tryd.prog gt false false [] Tryd.f95 = some c_slices_medianAdjacentOrdered_string := by kernel_rfl
theorem l_slices_medianOrdered_string : compF Tryd.prog gt false false [] Tryd.f96 = some c_slices_medianOrdered_string := by kernel_rfl
theorem l_cmp_isNaN_string : compF Tryd.prog gt false false [] Tryd.f97 = some c_cmp_isNaN_string := by kernel_rfl
theorem l_internal_stringslite_IndexByte : compF Tryd.prog gt false false [] Tryd.f98 = some c_internal_stringslite_IndexByte := by kernel_rfl
theorem l_internal_strconv_log10Pow2 : compF Tryd.prog gt false false [] Tryd.f105 = some c_internal_strconv_log10Pow2 := by kernel_rfl
theorem l_internal_strconv_bool2_int : compF Tryd.prog gt false false [] Tryd.f106 = some c_internal_strconv_bool2_int := by kernel_rfl
theorem l_internal_strconv_isPowerOfTwo : compF Tryd.prog gt false false [] Tryd.f107 = some c_internal_strconv_isPowerOfTwo := by kernel_rfl
theorem l_math_bits_TrailingZeros : compF Tryd.prog gt false false [] Tryd.f108 = some c_math_bits_TrailingZeros := by kernel_rfl
theorem l_internal_stringslite_Index : compF Tryd.prog gt false false [] Tryd.f109 = some c_internal_stringslite_Index := by kernel_rfl
theorem l_slices_order2Ordered_string : compF Tryd.prog gt false false [] Tryd.f110 = some c_slices_order2Ordered_string := by kernel_rfl
theorem l_math_bits_TrailingZeros32 : compF Tryd.prog gt false false [] Tryd.f118 = some c_math_bits_TrailingZeros32 := by kernel_rfl
theorem l_math_bits_TrailingZeros64 : compF Tryd.prog gt false false [] Tryd.f119 = some c_math_bits_TrailingZeros64 := by kernel_rfl
theorem l_internal_bytealg_Cutover : compF Tryd.prog gt false false [] Tryd.f121 = some c_internal_bytealg_Cutover := by kernel_rfl
theorem l_internal_bytealg_IndexRabinKarp_string : compF Tryd.prog gt false false [] Tryd.f122 = some c_internal_bytealg_IndexRabinKarp_string := by kernel_rfl
theorem l_internal_bytealg_hashStr_string : compF Tryd.prog gt false false [] Tryd.f130 = some c_internal_bytealg_hashStr_string := by kernel_rfl
theorem tab_ok : tab.All (FunOk Tryd.prog gt) :=
  ⟨.inl ⟨rfl, Tryd.f66, [1000006000], false, Tryd.func66, l_slices_insertionSortOrdered_string⟩, ⟨.inl ⟨rfl, Tryd.f29, [], false, Tryd.func29, l_slices_Clone_string_string⟩, ⟨.inl ⟨rfl, Tryd.f17, [], false, Tryd.func17, l_expand_Items⟩, ⟨.inl ⟨rfl, Tryd.f12, [], false, Tryd.func12, l_touchstonelaw05_lit⟩, ⟨.inl ⟨rfl, Tryd.f10, [], false, Tryd.func10, l_touchstonelaw05_vars⟩, ⟨.inl ⟨rfl, Tryd.f9, [2000000002], false, Tryd.func9, l_touchstonelaw05_works⟩, ⟨.inl ⟨rfl, Tryd.f4, [2000000005, 2000000009, 2000000023], false, Tryd.func4, l_touchstonelaw05_ExpandNames⟩, trivial, trivial⟩, trivial⟩, ⟨.inl ⟨rfl, Tryd.f11, [], false, Tryd.func11, l_touchstonelaw05_fields⟩, trivial, trivial⟩⟩, ⟨.inl ⟨rfl, Tryd.f15, [], false, Tryd.func15, l_touchstonelaw05_qpar⟩, ⟨.inl ⟨rfl, Tryd.f14, [], false, Tryd.func14, l_touchstonelaw05_quo⟩, ⟨.inl ⟨rfl, Tryd.f13, [], false, Tryd.func13, l_touchstonelaw05_par⟩, trivial, trivial⟩, trivial⟩, ⟨.inl ⟨rfl, Tryd.f16, [], false, Tryd.func16, l_expand_Value⟩, trivial, trivial⟩⟩⟩, ⟨.inl ⟨rfl, Tryd.f25, [], false, Tryd.func25, l_expand_Fields⟩, ⟨.inl ⟨rfl, Tryd.f20, [1000005003], false, Tryd.func20, l_touchstonelaw05_many⟩, ⟨.inl ⟨rfl, Tryd.f19, [2000000005, 1000007009, 1000008009], false, Tryd.func19, l_expand_Set⟩, ⟨.inl ⟨rfl, Tryd.f18, [], false, Tryd.func18, l_touchstonelaw05_same⟩, trivial, trivial⟩, trivial⟩, ⟨.inl ⟨rfl, Tryd.f24, [], false, Tryd.func24, l_expand_Text⟩, trivial, trivial⟩⟩, ⟨.inl ⟨rfl, Tryd.f27, [], false, Tryd.func27, l_slices_Index_string_string⟩, ⟨.inl ⟨rfl, Tryd.f26, [], false, Tryd.func26, l_strconv_Itoa⟩, trivial, trivial⟩, ⟨.inl ⟨rfl, Tryd.f28, [], false, Tryd.func28, l_expand_isName⟩, trivial, trivial⟩⟩⟩⟩, ⟨.inl ⟨rfl, Tryd.f51, [], false, Tryd.func51, l_internal_strconv_Itoa⟩, ⟨.inl ⟨rfl, Tryd.f47, [], false, Tryd.func47, l_expand_values⟩, ⟨.inl ⟨rfl, Tryd.f35, [], false, Tryd.func35, l_strings_Builder_WriteString⟩, ⟨.inl ⟨rfl, Tryd.f31, [1000012000], false, Tryd.func31, l_slices_Compact_string_string⟩, ⟨.inl ⟨rfl, Tryd.f30, [], false, Tryd.func30, l_slices_Sort_string_string⟩, trivial, trivial⟩, trivial⟩, ⟨.inl ⟨rfl, Tryd.f36, [], false, Tryd.func36, l_strings_Builder_String⟩, trivial, trivial⟩⟩, ⟨.inl ⟨rfl, Tryd.f49, [], false, Tryd.func49, l_expand_builder_add⟩, ⟨.inl ⟨rfl, Tryd.f48, [], false, Tryd.func48, l_expand_builder_split⟩, trivial, trivial⟩, ⟨.inl ⟨rfl, Tryd.f50, [], false, Tryd.func50, l_expand_builder_end⟩, trivial, trivial⟩⟩⟩, ⟨.inl ⟨rfl, Tryd.f62, [], false, Tryd.func62, l_expand_values_1⟩, ⟨.inl ⟨rfl, Tryd.f54, [], false, Tryd.func54, l_math_bits_Len⟩, ⟨.inl ⟨rfl, Tryd.f53, [], false, Tryd.func53, l_slices_pdqsortOrdered_string⟩, ⟨.inl ⟨rfl, Tryd.f52, [], false, Tryd.func52, l_word_Param⟩, trivial, trivial⟩, trivial⟩, ⟨.inl ⟨rfl, Tryd.f58, [], false, Tryd.func58, l_strings_Builder_copyCheck⟩, trivial, trivial⟩⟩, ⟨.inl ⟨rfl, Tryd.f64, [], false, Tryd.func64, l_strings_Contains⟩, ⟨.inl ⟨rfl, Tryd.f63, [], false, Tryd.func63, l_internal_strconv_FormatInt⟩, trivial, trivial⟩, ⟨.inl ⟨rfl, Tryd.f65, [], false, Tryd.func65, l_word_lead⟩, trivial, trivial⟩⟩⟩⟩⟩, ⟨.inl ⟨rfl, Tryd.f92, [1000006000], false, Tryd.func92, l_slices_siftDownOrdered_string⟩, ⟨.inl ⟨rfl, Tryd.f75, [], false, Tryd.func75, l_math_bits_Len32⟩, ⟨.inl ⟨rfl, Tryd.f71, [1000011000, 1000017000, 1000023000], false, Tryd.func71, l_slices_partialInsertionSortOrdered_string⟩, ⟨.inl ⟨rfl, Tryd.f69, [], false, Tryd.func69, l_slices_choosePivotOrdered_string⟩, ⟨.inl ⟨rfl, Tryd.f68, [1000010000], false, Tryd.func68, l_slices_breakPatternsOrdered_string⟩, ⟨.inl ⟨rfl, Tryd.f67, [1000010000], false, Tryd.func67, l_slices_heapSortOrdered_string⟩, trivial, trivial⟩, trivial⟩, ⟨.inl ⟨rfl, Tryd.f70, [1000003000], false, Tryd.func70, l_slices_reverseRangeOrdered_string⟩, trivial, trivial⟩⟩, ⟨.inl ⟨rfl, Tryd.f73, [1000001000, 1000008000], false, Tryd.func73, l_slices_partitionEqualOrdered_string⟩, ⟨.inl ⟨rfl, Tryd.f72, [], false, Tryd.func72, l_cmp_Less_string⟩, trivial, trivial⟩, ⟨.inl ⟨rfl, Tryd.f74, [1000001000, 1000008000, 1000010000, 1000018000, 1000021000], false, Tryd.func74, l_slices_partitionOrdered_string⟩, trivial, trivial⟩⟩⟩, ⟨.inl ⟨rfl, Tryd.f88, [], false, Tryd.func88, l_internal_strconv_formatBits⟩, ⟨.inl ⟨rfl, Tryd.f86, [], false, Tryd.func86, l_internal_strconv_numDigits⟩, ⟨.inl ⟨rfl, Tryd.f85, [], false, Tryd.func85, l_internal_strconv_small⟩, ⟨.inl ⟨rfl, Tryd.f76, [], false, Tryd.func76, l_math_bits_Len64⟩, trivial, trivial⟩, trivial⟩, ⟨.inl ⟨rfl, Tryd.f87, [1000007000, 1000008000, 1000009000, 1000010000, 1000017000, 1000018000, 1000023000, 1000026000], false, Tryd.func87, l_internal_strconv_formatBase10⟩, trivial, trivial⟩⟩, ⟨.inl ⟨rfl, Tryd.f90, [], false, Tryd.func90, l_word_letter⟩, ⟨.inl ⟨rfl, Tryd.f89, [], false, Tryd.func89, l_strings_Index⟩, trivial, trivial⟩, ⟨.inl ⟨rfl, Tryd.f91, [], false, Tryd.func91, l_word_digit⟩, trivial, trivial⟩⟩⟩⟩, ⟨.inl ⟨rfl, Tryd.f107, [], false, Tryd.func107, l_internal_strconv_isPowerOfTwo⟩, ⟨.inl ⟨rfl, Tryd.f97, [], false, Tryd.func97, l_cmp_isNaN_string⟩, ⟨.inl ⟨rfl, Tryd.f95, [], false, Tryd.func95, l_slices_medianAdjacentOrdered_string⟩, ⟨.inl ⟨rfl, Tryd.f94, [], false, Tryd.func94, l_slices_xorshift_Next⟩, ⟨.inl ⟨rfl, Tryd.f93, [], false, Tryd.func93, l_slices_nextPowerOfTwo⟩, trivial, trivial⟩, trivial⟩, ⟨.inl ⟨rfl, Tryd.f96, [], false, Tryd.func96, l_slices_medianOrdered_string⟩, trivial, trivial⟩⟩, ⟨.inl ⟨rfl, Tryd.f105, [], false, Tryd.func105, l_internal_strconv_log10Pow2⟩, ⟨.inl ⟨rfl, Tryd.f98, [], false, Tryd.func98, l_internal_stringslite_IndexByte⟩, trivial, trivial⟩, ⟨.inl ⟨rfl, Tryd.f106, [], false, Tryd.func106, l_internal_strconv_bool2_int⟩, trivial, trivial⟩⟩⟩, ⟨.inl ⟨rfl, Tryd.f119, [], false, Tryd.func119, l_math_bits_TrailingZeros64⟩, ⟨.inl ⟨rfl, Tryd.f110, [], false, Tryd.func110, l_slices_order2Ordered_string⟩, ⟨.inl ⟨rfl, Tryd.f109, [], false, Tryd.func109, l_internal_stringslite_Index⟩, ⟨.inl ⟨rfl, Tryd.f108, [], false, Tryd.func108, l_math_bits_TrailingZeros⟩, trivial, trivial⟩, trivial⟩, ⟨.inl ⟨rfl, Tryd.f118, [], false, Tryd.func118, l_math_bits_TrailingZeros32⟩, trivial, trivial⟩⟩, ⟨.inl ⟨rfl, Tryd.f122, [], false, Tryd.func122, l_internal_bytealg_IndexRabinKarp_string⟩, ⟨.inl ⟨rfl, Tryd.f121, [], false, Tryd.func121, l_internal_bytealg_Cutover⟩, trivial, trivial⟩, ⟨.inl ⟨rfl, Tryd.f130, [], false, Tryd.func130, l_internal_bytealg_hashStr_string⟩, trivial, trivial⟩⟩⟩⟩⟩⟩
theorem fns_ok : ∀ (f : Nat) (fn : Fun), prog f = some fn → FunOk Tryd.prog gt f fn := fun f fn h => PT.all_get tab_ok h
end Go.Proofs.YtpghcnfeeakcpaaDoor
