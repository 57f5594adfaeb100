/-
  The abstract machine's functions are the dump's. By program.
-/
import Derived.Test.YtpghcnfeeakcpaaRows
import Derived.Test.YtpghcnfeeakcpaaAmSound
import Derived.Test.YtpghcnfeeakcpaaFns
set_option linter.all false
set_option linter.unusedVariables false
set_option linter.unusedSimpArgs false
set_option linter.unusedSectionVars false
set_option maxRecDepth 100000
namespace Go.Proofs.Ytpghcnfeeakcpaa
open Go.Proofs.Ytpghcnfeeakcpaa.Am Go.Proofs
def gt : Nat → Option (List AV)
  | _ => none
theorem l_touchstonelaw24_ForkNames : compF Try.prog gt false false [1000013022] Try.f3 = some c_touchstonelaw24_ForkNames := by kernel_rfl
theorem l_touchstonelaw22_StoreNames : compF Try.prog gt false false [] Try.f4 = some c_touchstonelaw22_StoreNames := by kernel_rfl
theorem l_fork_Ways : compF Try.prog gt false false [] Try.f5 = some c_fork_Ways := by kernel_rfl
theorem l_fork_Follow : compF Try.prog gt false false [] Try.f6 = some c_fork_Follow := by kernel_rfl
theorem l_touchstonelaw24_awake : compF Try.prog gt false false [1000005006] Try.f7 = some c_touchstonelaw24_awake := by kernel_rfl
theorem l_store_Ask : compF Try.prog gt false false [] Try.f8 = some c_store_Ask := by kernel_rfl
theorem l_store_Know : compF Try.prog gt false false [] Try.f9 = some c_store_Know := by kernel_rfl
theorem l_store_Whole : compF Try.prog gt false false [] Try.f10 = some c_store_Whole := by kernel_rfl
theorem l_store_More : compF Try.prog gt false false [] Try.f11 = some c_store_More := by kernel_rfl
theorem l_touchstonelaw22_awake : compF Try.prog gt false false [1000006001] Try.f12 = some c_touchstonelaw22_awake := by kernel_rfl
theorem l_fork_Split_calls : compF Try.prog gt false false [] Try.f13 = some c_fork_Split_calls := by kernel_rfl
theorem l_slices_Clone_api_Fact_api_Fact : compF Try.prog gt true false [] Try.f14 = some c_slices_Clone_api_Fact_api_Fact := by kernel_rfl
theorem l_store_change : compF Try.prog gt false false [1000009011] Try.f15 = some c_store_change := by kernel_rfl
theorem l_store_Ask_1 : compF Try.prog gt false false [] Try.f16 = some c_store_Ask_1 := by kernel_rfl
theorem l_store_dir : compF Try.prog gt false false [] Try.f17 = some c_store_dir := by kernel_rfl
theorem l_path_Name : compF Try.prog gt false false [] Try.f18 = some c_path_Name := by kernel_rfl
theorem l_store_Ask_2 : compF Try.prog gt false false [5, 6] Try.f19 = some c_store_Ask_2 := by kernel_rfl
theorem l_slices_BinarySearch_string_string : compF Try.prog gt false false [] Try.f20 = some c_slices_BinarySearch_string_string := by kernel_rfl
theorem l_slices_Insert_string_string : compF Try.prog gt true true [13] Try.f21 = some c_slices_Insert_string_string := by kernel_rfl
theorem l_slices_Insert_int_int : compF Try.prog gt true true [13] Try.f22 = some c_slices_Insert_int_int := by kernel_rfl
theorem l_store_Know_1 : compF Try.prog gt false false [] Try.f23 = some c_store_Know_1 := by kernel_rfl
theorem l_store_Know_2 : compF Try.prog gt false false [] Try.f24 = some c_store_Know_2 := by kernel_rfl
theorem l_store_Whole_1 : compF Try.prog gt false false [] Try.f25 = some c_store_Whole_1 := by kernel_rfl
theorem l_store_there : compF Try.prog gt false false [] Try.f26 = some c_store_there := by kernel_rfl
theorem l_store_Whole_2 : compF Try.prog gt false false [] Try.f27 = some c_store_Whole_2 := by kernel_rfl
theorem l_store_More_1 : compF Try.prog gt false false [] Try.f28 = some c_store_More_1 := by kernel_rfl
theorem l_store_More_2 : compF Try.prog gt false false [] Try.f29 = some c_store_More_2 := by kernel_rfl
theorem l_pat_Root : compF Try.prog gt false false [] Try.f30 = some c_pat_Root := by kernel_rfl
theorem l_fork_Split_calls_1 : compF Try.prog gt false false [] Try.f31 = some c_fork_Split_calls_1 := by kernel_rfl
theorem l_fork_Split_calls_2 : compF Try.prog gt false false [] Try.f32 = some c_fork_Split_calls_2 := by kernel_rfl
theorem l_fork_kinds : compF Try.prog gt false false [] Try.f33 = some c_fork_kinds := by kernel_rfl
theorem l_fork_Split_calls_3 : compF Try.prog gt false false [] Try.f34 = some c_fork_Split_calls_3 := by kernel_rfl
theorem l_pat_May : compF Try.prog gt false false [1000014003] Try.f35 = some c_pat_May := by kernel_rfl
theorem l_store_own : compF Try.prog gt true false [1000005003] Try.f36 = some c_store_own := by kernel_rfl
theorem l_strings_ContainsAny : compF Try.prog gt false false [] Try.f37 = some c_strings_ContainsAny := by kernel_rfl
theorem l_cmp_Less_string : compF Try.prog gt false false [] Try.f38 = some c_cmp_Less_string := by kernel_rfl
theorem l_slices_isNaN_string : compF Try.prog gt false false [] Try.f39 = some c_slices_isNaN_string := by kernel_rfl
theorem l_slices_rotateRight_string : compF Try.prog gt false false [] Try.f41 = some c_slices_rotateRight_string := by kernel_rfl
theorem l_slices_rotateRight_int : compF Try.prog gt false false [] Try.f43 = some c_slices_rotateRight_int := by kernel_rfl
theorem l_slices_Sorted_int : compF Try.prog gt false false [1000002003] Try.f44 = some c_slices_Sorted_int := by kernel_rfl
theorem l_slices_Values_int_int : compF Try.prog gt false false [] Try.f45 = some c_slices_Values_int_int := by kernel_rfl
theorem l_slices_ContainsFunc_int_int : compF Try.prog gt false false [] Try.f46 = some c_slices_ContainsFunc_int_int := by kernel_rfl
theorem l_store_there_1 : compF Try.prog gt false false [] Try.f47 = some c_store_there_1 := by kernel_rfl
theorem l_fork_kinds_1 : compF Try.prog gt false false [] Try.f48 = some c_fork_kinds_1 := by kernel_rfl
theorem l_pat_dir : compF Try.prog gt false false [] Try.f49 = some c_pat_dir := by kernel_rfl
theorem l_pat_one : compF Try.prog gt false false [] Try.f50 = some c_pat_one := by kernel_rfl
theorem l_pat_May_1 : compF Try.prog gt false false [] Try.f51 = some c_pat_May_1 := by kernel_rfl
theorem l_slices_Clone_string_string : compF Try.prog gt true false [] Try.f52 = some c_slices_Clone_string_string := by kernel_rfl
theorem l_slices_Clone_int_int : compF Try.prog gt true false [] Try.f53 = some c_slices_Clone_int_int := by kernel_rfl
theorem l_strings_IndexAny : compF Try.prog gt false false [] Try.f54 = some c_strings_IndexAny := by kernel_rfl
theorem l_cmp_isNaN_string : compF Try.prog gt false false [] Try.f55 = some c_cmp_isNaN_string := by kernel_rfl
theorem l_slices_rotateLeft_string : compF Try.prog gt false false [1000002000] Try.f56 = some c_slices_rotateLeft_string := by kernel_rfl
theorem l_slices_rotateLeft_int : compF Try.prog gt false false [1000002000] Try.f57 = some c_slices_rotateLeft_int := by kernel_rfl
theorem l_slices_Collect_int : compF Try.prog gt false false [] Try.f58 = some c_slices_Collect_int := by kernel_rfl
theorem l_slices_Sort_int_int : compF Try.prog gt false false [] Try.f59 = some c_slices_Sort_int_int := by kernel_rfl
theorem l_slices_Values_int_int_1 : compF Try.prog gt false false [] Try.f60 = some c_slices_Values_int_int_1 := by kernel_rfl
theorem l_slices_IndexFunc_int_int : compF Try.prog gt false false [] Try.f61 = some c_slices_IndexFunc_int_int := by kernel_rfl
theorem l_strings_IndexRune : compF Try.prog gt false false [] Try.f62 = some c_strings_IndexRune := by kernel_rfl
theorem l_strings_shouldUseASCIISet : compF Try.prog gt false false [] Try.f63 = some c_strings_shouldUseASCIISet := by kernel_rfl
theorem l_strings_makeASCIISet : compF Try.prog gt false false [] Try.f64 = some c_strings_makeASCIISet := by kernel_rfl
theorem l_strings_asciiSet_contains : compF Try.prog gt false false [] Try.f65 = some c_strings_asciiSet_contains := by kernel_rfl
theorem l_slices_Reverse_string_string : compF Try.prog gt false false [1000003000] Try.f66 = some c_slices_Reverse_string_string := by kernel_rfl
theorem l_slices_Reverse_int_int : compF Try.prog gt false false [1000003000] Try.f67 = some c_slices_Reverse_int_int := by kernel_rfl
theorem l_slices_AppendSeq_int_int : compF Try.prog gt false true [] Try.f68 = some c_slices_AppendSeq_int_int := by kernel_rfl
theorem l_slices_pdqsortOrdered_int : compF Try.prog gt false false [] Try.f69 = some c_slices_pdqsortOrdered_int := by kernel_rfl
theorem l_math_bits_Len : compF Try.prog gt false false [] Try.f70 = some c_math_bits_Len := by kernel_rfl
theorem l_strings_IndexByte : compF Try.prog gt false false [] Try.f71 = some c_strings_IndexByte := by kernel_rfl
theorem l_unicode_utf8_ValidRune : compF Try.prog gt false false [] Try.f72 = some c_unicode_utf8_ValidRune := by kernel_rfl
theorem l_internal_bytealg_Cutover : compF Try.prog gt false false [] Try.f73 = some c_internal_bytealg_Cutover := by kernel_rfl
theorem l_slices_insertionSortOrdered_int : compF Try.prog gt false false [1000006000] Try.f75 = some c_slices_insertionSortOrdered_int := by kernel_rfl
theorem l_slices_heapSortOrdered_int : compF Try.prog gt false false [1000010000] Try.f76 = some c_slices_heapSortOrdered_int := by kernel_rfl
theorem l_slices_breakPatternsOrdered_int : compF Try.prog gt false false [1000010000] Try.f77 = some c_slices_breakPatternsOrdered_int := by kernel_rfl
theorem l_slices_choosePivotOrdered_int : compF Try.prog gt false false [] Try.f78 = some c_slices_choosePivotOrdered_int := by kernel_rfl
theorem l_slices_reverseRangeOrdered_int : compF Try.prog gt false false [1000003000] Try.f79 = some c_slices_reverseRangeOrdered_int := by kernel_rfl
theorem l_slices_partialInsertionSortOrdered_int : compF Try.prog gt false false [1000011000, 1000017000, 1000023000] Try.f80 = some c_slices_partialInsertionSortOrdered_int := by kernel_rfl
theorem l_cmp_Less_int : compF Try.prog gt false false [] Try.f81 = some c_cmp_Less_int := by kernel_rfl
theorem l_slices_partitionEqualOrdered_int : compF Try.prog gt false false [1000001000, 1000008000] Try.f82 = some c_slices_partitionEqualOrdered_int := by kernel_rfl
theorem l_slices_partitionOrdered_int : compF Try.prog gt false false [1000001000, 1000008000, 1000010000, 1000018000, 1000021000] Try.f83 = some c_slices_partitionOrdered_int := by kernel_rfl
theorem l_math_bits_Len32 : compF Try.prog gt false false [] Try.f84 = some c_math_bits_Len32 := by kernel_rfl
theorem l_math_bits_Len64 : compF Try.prog gt false false [] Try.f85 = some c_math_bits_Len64 := by kernel_rfl
theorem l_internal_stringslite_IndexByte : compF Try.prog gt false false [] Try.f86 = some c_internal_stringslite_IndexByte := by kernel_rfl
theorem l_slices_siftDownOrdered_int : compF Try.prog gt false false [1000006000] Try.f87 = some c_slices_siftDownOrdered_int := by kernel_rfl
theorem l_slices_nextPowerOfTwo : compF Try.prog gt false false [] Try.f88 = some c_slices_nextPowerOfTwo := by kernel_rfl
theorem l_slices_xorshift_Next : compF Try.prog gt false false [] Try.f89 = some c_slices_xorshift_Next := by kernel_rfl
theorem l_slices_medianAdjacentOrdered_int : compF Try.prog gt false false [] Try.f90 = some c_slices_medianAdjacentOrdered_int := by kernel_rfl
theorem l_slices_medianOrdered_int : compF Try.prog gt false false [] Try.f91 = some c_slices_medianOrdered_int := by kernel_rfl
theorem l_cmp_isNaN_int : compF Try.prog gt false false [] Try.f92 = some c_cmp_isNaN_int := by kernel_rfl
theorem l_slices_order2Ordered_int : compF Try.prog gt false false [] Try.f94 = some c_slices_order2Ordered_int := by kernel_rfl
theorem tab_ok : tab.All (FunOk Try.prog gt) :=
  ⟨.inl ⟨rfl, Try.f49, [], false, Try.func49, l_pat_dir⟩, ⟨.inl ⟨rfl, Try.f25, [], false, Try.func25, l_store_Whole_1⟩, ⟨.inl ⟨rfl, Try.f14, [], false, Try.func14, l_slices_Clone_api_Fact_api_Fact⟩, ⟨.inl ⟨rfl, Try.f8, [], false, Try.func8, l_store_Ask⟩, ⟨.inl ⟨rfl, Try.f5, [], false, Try.func5, l_fork_Ways⟩, ⟨.inl ⟨rfl, Try.f4, [], false, Try.func4, l_touchstonelaw22_StoreNames⟩, ⟨.inl ⟨rfl, Try.f3, [1000013022], false, Try.func3, l_touchstonelaw24_ForkNames⟩, trivial, trivial⟩, trivial⟩, ⟨.inl ⟨rfl, Try.f7, [1000005006], false, Try.func7, l_touchstonelaw24_awake⟩, ⟨.inl ⟨rfl, Try.f6, [], false, Try.func6, l_fork_Follow⟩, trivial, trivial⟩, trivial⟩⟩, ⟨.inl ⟨rfl, Try.f11, [], false, Try.func11, l_store_More⟩, ⟨.inl ⟨rfl, Try.f10, [], false, Try.func10, l_store_Whole⟩, ⟨.inl ⟨rfl, Try.f9, [], false, Try.func9, l_store_Know⟩, trivial, trivial⟩, trivial⟩, ⟨.inl ⟨rfl, Try.f13, [], false, Try.func13, l_fork_Split_calls⟩, ⟨.inl ⟨rfl, Try.f12, [1000006001], false, Try.func12, l_touchstonelaw22_awake⟩, trivial, trivial⟩, trivial⟩⟩⟩, ⟨.inl ⟨rfl, Try.f20, [], false, Try.func20, l_slices_BinarySearch_string_string⟩, ⟨.inl ⟨rfl, Try.f17, [], false, Try.func17, l_store_dir⟩, ⟨.inl ⟨rfl, Try.f16, [], false, Try.func16, l_store_Ask_1⟩, ⟨.inl ⟨rfl, Try.f15, [1000009011], false, Try.func15, l_store_change⟩, trivial, trivial⟩, trivial⟩, ⟨.inl ⟨rfl, Try.f19, [5, 6], false, Try.func19, l_store_Ask_2⟩, ⟨.inl ⟨rfl, Try.f18, [], false, Try.func18, l_path_Name⟩, trivial, trivial⟩, trivial⟩⟩, ⟨.inl ⟨rfl, Try.f23, [], false, Try.func23, l_store_Know_1⟩, ⟨.inl ⟨rfl, Try.f22, [13], true, Try.func22, l_slices_Insert_int_int⟩, ⟨.inl ⟨rfl, Try.f21, [13], true, Try.func21, l_slices_Insert_string_string⟩, trivial, trivial⟩, trivial⟩, ⟨.inl ⟨rfl, Try.f24, [], false, Try.func24, l_store_Know_2⟩, trivial, trivial⟩⟩⟩⟩, ⟨.inl ⟨rfl, Try.f36, [1000005003], false, Try.func36, l_store_own⟩, ⟨.inl ⟨rfl, Try.f31, [], false, Try.func31, l_fork_Split_calls_1⟩, ⟨.inl ⟨rfl, Try.f28, [], false, Try.func28, l_store_More_1⟩, ⟨.inl ⟨rfl, Try.f27, [], false, Try.func27, l_store_Whole_2⟩, ⟨.inl ⟨rfl, Try.f26, [], false, Try.func26, l_store_there⟩, trivial, trivial⟩, trivial⟩, ⟨.inl ⟨rfl, Try.f30, [], false, Try.func30, l_pat_Root⟩, ⟨.inl ⟨rfl, Try.f29, [], false, Try.func29, l_store_More_2⟩, trivial, trivial⟩, trivial⟩⟩, ⟨.inl ⟨rfl, Try.f34, [], false, Try.func34, l_fork_Split_calls_3⟩, ⟨.inl ⟨rfl, Try.f33, [], false, Try.func33, l_fork_kinds⟩, ⟨.inl ⟨rfl, Try.f32, [], false, Try.func32, l_fork_Split_calls_2⟩, trivial, trivial⟩, trivial⟩, ⟨.inl ⟨rfl, Try.f35, [1000014003], false, Try.func35, l_pat_May⟩, trivial, trivial⟩⟩⟩, ⟨.inl ⟨rfl, Try.f44, [1000002003], false, Try.func44, l_slices_Sorted_int⟩, ⟨.inl ⟨rfl, Try.f39, [], false, Try.func39, l_slices_isNaN_string⟩, ⟨.inl ⟨rfl, Try.f38, [], false, Try.func38, l_cmp_Less_string⟩, ⟨.inl ⟨rfl, Try.f37, [], false, Try.func37, l_strings_ContainsAny⟩, trivial, trivial⟩, trivial⟩, ⟨.inl ⟨rfl, Try.f43, [], false, Try.func43, l_slices_rotateRight_int⟩, ⟨.inl ⟨rfl, Try.f41, [], false, Try.func41, l_slices_rotateRight_string⟩, trivial, trivial⟩, trivial⟩⟩, ⟨.inl ⟨rfl, Try.f47, [], false, Try.func47, l_store_there_1⟩, ⟨.inl ⟨rfl, Try.f46, [], false, Try.func46, l_slices_ContainsFunc_int_int⟩, ⟨.inl ⟨rfl, Try.f45, [], false, Try.func45, l_slices_Values_int_int⟩, trivial, trivial⟩, trivial⟩, ⟨.inl ⟨rfl, Try.f48, [], false, Try.func48, l_fork_kinds_1⟩, trivial, trivial⟩⟩⟩⟩⟩, ⟨.inl ⟨rfl, Try.f71, [], false, Try.func71, l_strings_IndexByte⟩, ⟨.inl ⟨rfl, Try.f60, [], false, Try.func60, l_slices_Values_int_int_1⟩, ⟨.inl ⟨rfl, Try.f55, [], false, Try.func55, l_cmp_isNaN_string⟩, ⟨.inl ⟨rfl, Try.f52, [], false, Try.func52, l_slices_Clone_string_string⟩, ⟨.inl ⟨rfl, Try.f51, [], false, Try.func51, l_pat_May_1⟩, ⟨.inl ⟨rfl, Try.f50, [], false, Try.func50, l_pat_one⟩, trivial, trivial⟩, trivial⟩, ⟨.inl ⟨rfl, Try.f54, [], false, Try.func54, l_strings_IndexAny⟩, ⟨.inl ⟨rfl, Try.f53, [], false, Try.func53, l_slices_Clone_int_int⟩, trivial, trivial⟩, trivial⟩⟩, ⟨.inl ⟨rfl, Try.f58, [], false, Try.func58, l_slices_Collect_int⟩, ⟨.inl ⟨rfl, Try.f57, [1000002000], false, Try.func57, l_slices_rotateLeft_int⟩, ⟨.inl ⟨rfl, Try.f56, [1000002000], false, Try.func56, l_slices_rotateLeft_string⟩, trivial, trivial⟩, trivial⟩, ⟨.inl ⟨rfl, Try.f59, [], false, Try.func59, l_slices_Sort_int_int⟩, trivial, trivial⟩⟩⟩, ⟨.inl ⟨rfl, Try.f66, [1000003000], false, Try.func66, l_slices_Reverse_string_string⟩, ⟨.inl ⟨rfl, Try.f63, [], false, Try.func63, l_strings_shouldUseASCIISet⟩, ⟨.inl ⟨rfl, Try.f62, [], false, Try.func62, l_strings_IndexRune⟩, ⟨.inl ⟨rfl, Try.f61, [], false, Try.func61, l_slices_IndexFunc_int_int⟩, trivial, trivial⟩, trivial⟩, ⟨.inl ⟨rfl, Try.f65, [], false, Try.func65, l_strings_asciiSet_contains⟩, ⟨.inl ⟨rfl, Try.f64, [], false, Try.func64, l_strings_makeASCIISet⟩, trivial, trivial⟩, trivial⟩⟩, ⟨.inl ⟨rfl, Try.f69, [], false, Try.func69, l_slices_pdqsortOrdered_int⟩, ⟨.inl ⟨rfl, Try.f68, [], true, Try.func68, l_slices_AppendSeq_int_int⟩, ⟨.inl ⟨rfl, Try.f67, [1000003000], false, Try.func67, l_slices_Reverse_int_int⟩, trivial, trivial⟩, trivial⟩, ⟨.inl ⟨rfl, Try.f70, [], false, Try.func70, l_math_bits_Len⟩, trivial, trivial⟩⟩⟩⟩, ⟨.inl ⟨rfl, Try.f83, [1000001000, 1000008000, 1000010000, 1000018000, 1000021000], false, Try.func83, l_slices_partitionOrdered_int⟩, ⟨.inl ⟨rfl, Try.f78, [], false, Try.func78, l_slices_choosePivotOrdered_int⟩, ⟨.inl ⟨rfl, Try.f75, [1000006000], false, Try.func75, l_slices_insertionSortOrdered_int⟩, ⟨.inl ⟨rfl, Try.f73, [], false, Try.func73, l_internal_bytealg_Cutover⟩, ⟨.inl ⟨rfl, Try.f72, [], false, Try.func72, l_unicode_utf8_ValidRune⟩, trivial, trivial⟩, trivial⟩, ⟨.inl ⟨rfl, Try.f77, [1000010000], false, Try.func77, l_slices_breakPatternsOrdered_int⟩, ⟨.inl ⟨rfl, Try.f76, [1000010000], false, Try.func76, l_slices_heapSortOrdered_int⟩, trivial, trivial⟩, trivial⟩⟩, ⟨.inl ⟨rfl, Try.f81, [], false, Try.func81, l_cmp_Less_int⟩, ⟨.inl ⟨rfl, Try.f80, [1000011000, 1000017000, 1000023000], false, Try.func80, l_slices_partialInsertionSortOrdered_int⟩, ⟨.inl ⟨rfl, Try.f79, [1000003000], false, Try.func79, l_slices_reverseRangeOrdered_int⟩, trivial, trivial⟩, trivial⟩, ⟨.inl ⟨rfl, Try.f82, [1000001000, 1000008000], false, Try.func82, l_slices_partitionEqualOrdered_int⟩, trivial, trivial⟩⟩⟩, ⟨.inl ⟨rfl, Try.f89, [], false, Try.func89, l_slices_xorshift_Next⟩, ⟨.inl ⟨rfl, Try.f86, [], false, Try.func86, l_internal_stringslite_IndexByte⟩, ⟨.inl ⟨rfl, Try.f85, [], false, Try.func85, l_math_bits_Len64⟩, ⟨.inl ⟨rfl, Try.f84, [], false, Try.func84, l_math_bits_Len32⟩, trivial, trivial⟩, trivial⟩, ⟨.inl ⟨rfl, Try.f88, [], false, Try.func88, l_slices_nextPowerOfTwo⟩, ⟨.inl ⟨rfl, Try.f87, [1000006000], false, Try.func87, l_slices_siftDownOrdered_int⟩, trivial, trivial⟩, trivial⟩⟩, ⟨.inl ⟨rfl, Try.f92, [], false, Try.func92, l_cmp_isNaN_int⟩, ⟨.inl ⟨rfl, Try.f91, [], false, Try.func91, l_slices_medianOrdered_int⟩, ⟨.inl ⟨rfl, Try.f90, [], false, Try.func90, l_slices_medianAdjacentOrdered_int⟩, trivial, trivial⟩, trivial⟩, ⟨.inl ⟨rfl, Try.f94, [], false, Try.func94, l_slices_order2Ordered_int⟩, trivial, trivial⟩⟩⟩⟩⟩⟩
theorem fns_ok : ∀ (f : Nat) (fn : Fun), prog f = some fn → FunOk Try.prog gt f fn := fun f fn h => PT.all_get tab_ok h
end Go.Proofs.Ytpghcnfeeakcpaa
