/-
  The abstract machine's functions are the dump's. By program.
-/
import Derived.Test.YtcdbpkfbnhjgdaaGreatDoorRows
import Derived.Test.YtcdbpkfbnhjgdaaGreatDoorAmSound
import Derived.Test.YtcdbpkfbnhjgdaaGreatDoorFns
set_option linter.all false
set_option linter.unusedVariables false
set_option linter.unusedSimpArgs false
set_option linter.unusedSectionVars false
set_option maxRecDepth 100000
namespace Go.Proofs.YtcdbpkfbnhjgdaaGreatDoor
open Go.Proofs.YtcdbpkfbnhjgdaaGreatDoor.Am Go.Proofs
def gt : Nat → Option (List AV)
  | _ => none
theorem l_touchstonelaw16_IlNames : compF Tryz.prog gt false false [] Tryz.f10 = some c_touchstonelaw16_IlNames := by kernel_rfl
theorem l_touchstonelaw16_awake : compF Tryz.prog gt false false [] Tryz.f45 = some c_touchstonelaw16_awake := by kernel_rfl
theorem l_il_Show : compF Tryz.prog gt false false [2000000016] Tryz.f46 = some c_il_Show := by kernel_rfl
theorem l_il_May : compF Tryz.prog gt false false [] Tryz.f47 = some c_il_May := by kernel_rfl
theorem l_il_Size : compF Tryz.prog gt false false [] Tryz.f48 = some c_il_Size := by kernel_rfl
theorem l_touchstoneref06_Same : compF Tryz.prog gt false false [] Tryz.f49 = some c_touchstoneref06_Same := by kernel_rfl
theorem l_il_Same : compF Tryz.prog gt false false [] Tryz.f50 = some c_il_Same := by kernel_rfl
theorem l_touchstonelaw16_IlNames_1 : compF Tryz.prog gt false false [] Tryz.f51 = some c_touchstonelaw16_IlNames_1 := by kernel_rfl
theorem l_il_Reads : compF Tryz.prog gt false false [] Tryz.f52 = some c_il_Reads := by kernel_rfl
theorem l_il_Sets : compF Tryz.prog gt false false [] Tryz.f54 = some c_il_Sets := by kernel_rfl
theorem l_strings_IndexByte : compF Tryz.prog gt false false [] Tryz.f71 = some c_strings_IndexByte := by kernel_rfl
theorem l_strings_Contains : compF Tryz.prog gt false false [] Tryz.f75 = some c_strings_Contains := by kernel_rfl
theorem l_strings_Join : compF Tryz.prog gt false false [] Tryz.f77 = some c_strings_Join := by kernel_rfl
theorem l_il_rules : compF Tryz.prog gt false false [] Tryz.f85 = some c_il_rules := by kernel_rfl
theorem l_il_all : compF Tryz.prog gt false false [] Tryz.f86 = some c_il_all := by kernel_rfl
theorem l_strings_Repeat : compF Tryz.prog gt false false [] Tryz.f87 = some c_strings_Repeat := by kernel_rfl
theorem l_il_text : compF Tryz.prog gt false false [] Tryz.f88 = some c_il_text := by kernel_rfl
theorem l_il_variable : compF Tryz.prog gt false false [] Tryz.f89 = some c_il_variable := by kernel_rfl
theorem l_slices_ContainsFunc_api_Item_api_Item : compF Tryz.prog gt false false [] Tryz.f90 = some c_slices_ContainsFunc_api_Item_api_Item := by kernel_rfl
theorem l_il_May_1 : compF Tryz.prog gt false false [] Tryz.f91 = some c_il_May_1 := by kernel_rfl
theorem l_il_may : compF Tryz.prog gt false false [1000004003] Tryz.f92 = some c_il_may := by kernel_rfl
theorem l_slices_ContainsFunc_api_Ins_api_Ins : compF Tryz.prog gt false false [] Tryz.f93 = some c_slices_ContainsFunc_api_Ins_api_Ins := by kernel_rfl
theorem l_il_May_2 : compF Tryz.prog gt false false [] Tryz.f94 = some c_il_May_2 := by kernel_rfl
theorem l_touchstoneref06_Under : compF Tryz.prog gt false false [] Tryz.f95 = some c_touchstoneref06_Under := by kernel_rfl
theorem l_il_Same_1 : compF Tryz.prog gt false false [] Tryz.f96 = some c_il_Same_1 := by kernel_rfl
theorem l_slices_Equal_api_Part_api_Part : compF Tryz.prog gt false false [] Tryz.f97 = some c_slices_Equal_api_Part_api_Part := by kernel_rfl
theorem l_slices_EqualFunc_api_Item_api_Item_api_Item_api_Item : compF Tryz.prog gt false false [] Tryz.f98 = some c_slices_EqualFunc_api_Item_api_Item_api_Item_api_Item := by kernel_rfl
theorem l_slices_EqualFunc_api_Ins_api_Ins_api_Ins_api_Ins : compF Tryz.prog gt false false [] Tryz.f99 = some c_slices_EqualFunc_api_Ins_api_Ins_api_Ins_api_Ins := by kernel_rfl
theorem l_il_names : compF Tryz.prog gt false false [] Tryz.f100 = some c_il_names := by kernel_rfl
theorem l_il_Reads_1 : compF Tryz.prog gt false false [] Tryz.f101 = some c_il_Reads_1 := by kernel_rfl
theorem l_il_Sets_1 : compF Tryz.prog gt false false [] Tryz.f102 = some c_il_Sets_1 := by kernel_rfl
theorem l_internal_stringslite_IndexByte : compF Tryz.prog gt false false [] Tryz.f123 = some c_internal_stringslite_IndexByte := by kernel_rfl
theorem l_strings_ContainsAny : compF Tryz.prog gt false false [] Tryz.f124 = some c_strings_ContainsAny := by kernel_rfl
theorem l_strings_Index : compF Tryz.prog gt false false [] Tryz.f128 = some c_strings_Index := by kernel_rfl
theorem l_strings_Builder_Grow : compF Tryz.prog gt false false [] Tryz.f131 = some c_strings_Builder_Grow := by kernel_rfl
theorem l_strings_Builder_WriteString : compF Tryz.prog gt false false [] Tryz.f132 = some c_strings_Builder_WriteString := by kernel_rfl
theorem l_strings_Builder_String : compF Tryz.prog gt false false [] Tryz.f133 = some c_strings_Builder_String := by kernel_rfl
theorem l_il_rules_1 : compF Tryz.prog gt false false [] Tryz.f147 = some c_il_rules_1 := by kernel_rfl
theorem l_il_rules_1_1 : compF Tryz.prog gt false false [] Tryz.f148 = some c_il_rules_1_1 := by kernel_rfl
theorem l_il_rules_2 : compF Tryz.prog gt false false [] Tryz.f149 = some c_il_rules_2 := by kernel_rfl
theorem l_il_all_1 : compF Tryz.prog gt false false [] Tryz.f150 = some c_il_all_1 := by kernel_rfl
theorem l_math_bits_Mul : compF Tryz.prog gt false false [] Tryz.f151 = some c_math_bits_Mul := by kernel_rfl
theorem l_strings_HasPrefix : compF Tryz.prog gt false false [] Tryz.f152 = some c_strings_HasPrefix := by kernel_rfl
theorem l_strings_Builder_Len : compF Tryz.prog gt false false [] Tryz.f153 = some c_strings_Builder_Len := by kernel_rfl
theorem l_il_pick : compF Tryz.prog gt false false [] Tryz.f154 = some c_il_pick := by kernel_rfl
theorem l_il_counted : compF Tryz.prog gt false false [] Tryz.f155 = some c_il_counted := by kernel_rfl
theorem l_word_Param : compF Tryz.prog gt false false [] Tryz.f156 = some c_word_Param := by kernel_rfl
theorem l_slices_IndexFunc_api_Item_api_Item : compF Tryz.prog gt false false [] Tryz.f157 = some c_slices_IndexFunc_api_Item_api_Item := by kernel_rfl
theorem l_slices_Clone_api_Part_api_Part : compF Tryz.prog gt true false [] Tryz.f158 = some c_slices_Clone_api_Part_api_Part := by kernel_rfl
theorem l_word_May : compF Tryz.prog gt false false [] Tryz.f159 = some c_word_May := by kernel_rfl
theorem l_slices_IndexFunc_api_Ins_api_Ins : compF Tryz.prog gt false false [] Tryz.f160 = some c_slices_IndexFunc_api_Ins_api_Ins := by kernel_rfl
theorem l_slices_Sort_string_string : compF Tryz.prog gt false false [] Tryz.f161 = some c_slices_Sort_string_string := by kernel_rfl
theorem l_slices_Compact_string_string : compF Tryz.prog gt false false [1000012000] Tryz.f162 = some c_slices_Compact_string_string := by kernel_rfl
theorem l_strings_IndexAny : compF Tryz.prog gt false false [] Tryz.f188 = some c_strings_IndexAny := by kernel_rfl
theorem l_internal_stringslite_Index : compF Tryz.prog gt false false [] Tryz.f191 = some c_internal_stringslite_Index := by kernel_rfl
theorem l_strings_Builder_copyCheck : compF Tryz.prog gt false false [] Tryz.f193 = some c_strings_Builder_copyCheck := by kernel_rfl
theorem l_strings_Builder_grow : compF Tryz.prog gt false false [0] Tryz.f194 = some c_strings_Builder_grow := by kernel_rfl
theorem l_strings_makeASCIISet : compF Tryz.prog gt false false [] Tryz.f201 = some c_strings_makeASCIISet := by kernel_rfl
theorem l_cmp_Less_string : compF Tryz.prog gt false false [] Tryz.f205 = some c_cmp_Less_string := by kernel_rfl
theorem l_math_bits_Mul32 : compF Tryz.prog gt false false [] Tryz.f207 = some c_math_bits_Mul32 := by kernel_rfl
theorem l_math_bits_Mul64 : compF Tryz.prog gt false false [] Tryz.f208 = some c_math_bits_Mul64 := by kernel_rfl
theorem l_internal_stringslite_HasPrefix : compF Tryz.prog gt false false [] Tryz.f209 = some c_internal_stringslite_HasPrefix := by kernel_rfl
theorem l_strconv_Itoa : compF Tryz.prog gt false false [] Tryz.f210 = some c_strconv_Itoa := by kernel_rfl
theorem l_word_lead : compF Tryz.prog gt false false [] Tryz.f211 = some c_word_lead := by kernel_rfl
theorem l_word_plain : compF Tryz.prog gt false false [] Tryz.f212 = some c_word_plain := by kernel_rfl
theorem l_slices_pdqsortOrdered_string : compF Tryz.prog gt false false [] Tryz.f213 = some c_slices_pdqsortOrdered_string := by kernel_rfl
theorem l_math_bits_Len : compF Tryz.prog gt false false [] Tryz.f214 = some c_math_bits_Len := by kernel_rfl
theorem l_strings_IndexRune : compF Tryz.prog gt false false [] Tryz.f238 = some c_strings_IndexRune := by kernel_rfl
theorem l_strings_shouldUseASCIISet : compF Tryz.prog gt false false [] Tryz.f239 = some c_strings_shouldUseASCIISet := by kernel_rfl
theorem l_strings_asciiSet_contains : compF Tryz.prog gt false false [] Tryz.f240 = some c_strings_asciiSet_contains := by kernel_rfl
theorem l_internal_bytealg_Cutover : compF Tryz.prog gt false false [] Tryz.f245 = some c_internal_bytealg_Cutover := by kernel_rfl
theorem l_internal_bytealg_IndexRabinKarp_string : compF Tryz.prog gt false false [] Tryz.f246 = some c_internal_bytealg_IndexRabinKarp_string := by kernel_rfl
theorem l_cmp_isNaN_string : compF Tryz.prog gt false false [] Tryz.f257 = some c_cmp_isNaN_string := by kernel_rfl
theorem l_internal_strconv_Itoa : compF Tryz.prog gt false false [] Tryz.f258 = some c_internal_strconv_Itoa := by kernel_rfl
theorem l_word_letter : compF Tryz.prog gt false false [] Tryz.f259 = some c_word_letter := by kernel_rfl
theorem l_word_digit : compF Tryz.prog gt false false [] Tryz.f260 = some c_word_digit := by kernel_rfl
theorem l_slices_insertionSortOrdered_string : compF Tryz.prog gt false false [1000006000] Tryz.f261 = some c_slices_insertionSortOrdered_string := by kernel_rfl
theorem l_slices_heapSortOrdered_string : compF Tryz.prog gt false false [1000010000] Tryz.f262 = some c_slices_heapSortOrdered_string := by kernel_rfl
theorem l_slices_breakPatternsOrdered_string : compF Tryz.prog gt false false [1000010000] Tryz.f263 = some c_slices_breakPatternsOrdered_string := by kernel_rfl
theorem l_slices_choosePivotOrdered_string : compF Tryz.prog gt false false [] Tryz.f264 = some c_slices_choosePivotOrdered_string := by kernel_rfl
theorem l_slices_reverseRangeOrdered_string : compF Tryz.prog gt false false [1000003000] Tryz.f265 = some c_slices_reverseRangeOrdered_string := by kernel_rfl
theorem l_slices_partialInsertionSortOrdered_string : compF Tryz.prog gt false false [1000011000, 1000017000, 1000023000] Tryz.f266 = some c_slices_partialInsertionSortOrdered_string := by kernel_rfl
theorem l_slices_partitionEqualOrdered_string : compF Tryz.prog gt false false [1000001000, 1000008000] Tryz.f267 = some c_slices_partitionEqualOrdered_string := by kernel_rfl
theorem l_slices_partitionOrdered_string : compF Tryz.prog gt false false [1000001000, 1000008000, 1000010000, 1000018000, 1000021000] Tryz.f268 = some c_slices_partitionOrdered_string := by kernel_rfl
theorem l_math_bits_Len32 : compF Tryz.prog gt false false [] Tryz.f269 = some c_math_bits_Len32 := by kernel_rfl
theorem l_math_bits_Len64 : compF Tryz.prog gt false false [] Tryz.f270 = some c_math_bits_Len64 := by kernel_rfl
theorem l_unicode_utf8_ValidRune : compF Tryz.prog gt false false [] Tryz.f291 = some c_unicode_utf8_ValidRune := by kernel_rfl
theorem l_internal_bytealg_hashStr_string : compF Tryz.prog gt false false [] Tryz.f292 = some c_internal_bytealg_hashStr_string := by kernel_rfl
theorem l_internal_strconv_FormatInt : compF Tryz.prog gt false false [] Tryz.f295 = some c_internal_strconv_FormatInt := by kernel_rfl
theorem l_slices_siftDownOrdered_string : compF Tryz.prog gt false false [1000006000] Tryz.f296 = some c_slices_siftDownOrdered_string := by kernel_rfl
theorem l_slices_nextPowerOfTwo : compF Tryz.prog gt false false [] Tryz.f297 = some c_slices_nextPowerOfTwo := by kernel_rfl
theorem l_slices_xorshift_Next : compF Tryz.prog gt false false [] Tryz.f298 = some c_slices_xorshift_Next := by kernel_rfl
theorem l_slices_medianAdjacentOrdered_string : compF Tryz.prog gt false false [] Tryz.f299 = some c_slices_medianAdjacentOrdered_string := by kernel_rfl
theorem l_slices_medianOrdered_string : compF Tryz.prog gt false false [] Tryz.f300 = some c_slices_medianOrdered_string := by kernel_rfl
theorem l_internal_strconv_small : compF Tryz.prog gt false false [] Tryz.f309 = some c_internal_strconv_small := by kernel_rfl
theorem l_internal_strconv_numDigits : compF Tryz.prog gt false false [] Tryz.f310 = some c_internal_strconv_numDigits := by kernel_rfl
theorem l_internal_strconv_formatBase10 : compF Tryz.prog gt false false [1000007000, 1000008000, 1000009000, 1000010000, 1000017000, 1000018000, 1000023000, 1000026000] Tryz.f311 = some c_internal_strconv_formatBase10 := by kernel_rfl
theorem l_internal_strconv_formatBits : compF Tryz.prog gt false false [] Tryz.f312 = some c_internal_strconv_formatBits := by kernel_rfl
theorem l_slices_order2Ordered_string : compF Tryz.prog gt false false [] Tryz.f313 = some c_slices_order2Ordered_string := by kernel_rfl
theorem l_internal_strconv_log10Pow2 : compF Tryz.prog gt false false [] Tryz.f327 = some c_internal_strconv_log10Pow2 := by kernel_rfl
theorem l_internal_strconv_bool2_int : compF Tryz.prog gt false false [] Tryz.f328 = some c_internal_strconv_bool2_int := by kernel_rfl
theorem l_internal_strconv_isPowerOfTwo : compF Tryz.prog gt false false [] Tryz.f329 = some c_internal_strconv_isPowerOfTwo := by kernel_rfl
theorem l_math_bits_TrailingZeros : compF Tryz.prog gt false false [] Tryz.f330 = some c_math_bits_TrailingZeros := by kernel_rfl
theorem l_math_bits_TrailingZeros32 : compF Tryz.prog gt false false [] Tryz.f334 = some c_math_bits_TrailingZeros32 := by kernel_rfl
theorem l_math_bits_TrailingZeros64 : compF Tryz.prog gt false false [] Tryz.f335 = some c_math_bits_TrailingZeros64 := by kernel_rfl
theorem tab_ok : tab.All (FunOk Tryz.prog gt) :=
  ⟨.inl ⟨rfl, Tryz.f162, [1000012000], false, Tryz.func162, l_slices_Compact_string_string⟩, ⟨.inl ⟨rfl, Tryz.f98, [], false, Tryz.func98, l_slices_EqualFunc_api_Item_api_Item_api_Item_api_Item⟩, ⟨.inl ⟨rfl, Tryz.f85, [], false, Tryz.func85, l_il_rules⟩, ⟨.inl ⟨rfl, Tryz.f50, [], false, Tryz.func50, l_il_Same⟩, ⟨.inl ⟨rfl, Tryz.f47, [], false, Tryz.func47, l_il_May⟩, ⟨.inl ⟨rfl, Tryz.f45, [], false, Tryz.func45, l_touchstonelaw16_awake⟩, ⟨.inl ⟨rfl, Tryz.f10, [], false, Tryz.func10, l_touchstonelaw16_IlNames⟩, trivial, trivial⟩, ⟨.inl ⟨rfl, Tryz.f46, [2000000016], false, Tryz.func46, l_il_Show⟩, trivial, trivial⟩⟩, ⟨.inl ⟨rfl, Tryz.f49, [], false, Tryz.func49, l_touchstoneref06_Same⟩, ⟨.inl ⟨rfl, Tryz.f48, [], false, Tryz.func48, l_il_Size⟩, trivial, trivial⟩, trivial⟩⟩, ⟨.inl ⟨rfl, Tryz.f71, [], false, Tryz.func71, l_strings_IndexByte⟩, ⟨.inl ⟨rfl, Tryz.f52, [], false, Tryz.func52, l_il_Reads⟩, ⟨.inl ⟨rfl, Tryz.f51, [], false, Tryz.func51, l_touchstonelaw16_IlNames_1⟩, trivial, trivial⟩, ⟨.inl ⟨rfl, Tryz.f54, [], false, Tryz.func54, l_il_Sets⟩, trivial, trivial⟩⟩, ⟨.inl ⟨rfl, Tryz.f77, [], false, Tryz.func77, l_strings_Join⟩, ⟨.inl ⟨rfl, Tryz.f75, [], false, Tryz.func75, l_strings_Contains⟩, trivial, trivial⟩, trivial⟩⟩⟩, ⟨.inl ⟨rfl, Tryz.f92, [1000004003], false, Tryz.func92, l_il_may⟩, ⟨.inl ⟨rfl, Tryz.f89, [], false, Tryz.func89, l_il_variable⟩, ⟨.inl ⟨rfl, Tryz.f87, [], false, Tryz.func87, l_strings_Repeat⟩, ⟨.inl ⟨rfl, Tryz.f86, [], false, Tryz.func86, l_il_all⟩, trivial, trivial⟩, ⟨.inl ⟨rfl, Tryz.f88, [], false, Tryz.func88, l_il_text⟩, trivial, trivial⟩⟩, ⟨.inl ⟨rfl, Tryz.f91, [], false, Tryz.func91, l_il_May_1⟩, ⟨.inl ⟨rfl, Tryz.f90, [], false, Tryz.func90, l_slices_ContainsFunc_api_Item_api_Item⟩, trivial, trivial⟩, trivial⟩⟩, ⟨.inl ⟨rfl, Tryz.f95, [], false, Tryz.func95, l_touchstoneref06_Under⟩, ⟨.inl ⟨rfl, Tryz.f94, [], false, Tryz.func94, l_il_May_2⟩, ⟨.inl ⟨rfl, Tryz.f93, [], false, Tryz.func93, l_slices_ContainsFunc_api_Ins_api_Ins⟩, trivial, trivial⟩, trivial⟩, ⟨.inl ⟨rfl, Tryz.f97, [], false, Tryz.func97, l_slices_Equal_api_Part_api_Part⟩, ⟨.inl ⟨rfl, Tryz.f96, [], false, Tryz.func96, l_il_Same_1⟩, trivial, trivial⟩, trivial⟩⟩⟩⟩, ⟨.inl ⟨rfl, Tryz.f149, [], false, Tryz.func149, l_il_rules_2⟩, ⟨.inl ⟨rfl, Tryz.f128, [], false, Tryz.func128, l_strings_Index⟩, ⟨.inl ⟨rfl, Tryz.f102, [], false, Tryz.func102, l_il_Sets_1⟩, ⟨.inl ⟨rfl, Tryz.f100, [], false, Tryz.func100, l_il_names⟩, ⟨.inl ⟨rfl, Tryz.f99, [], false, Tryz.func99, l_slices_EqualFunc_api_Ins_api_Ins_api_Ins_api_Ins⟩, trivial, trivial⟩, ⟨.inl ⟨rfl, Tryz.f101, [], false, Tryz.func101, l_il_Reads_1⟩, trivial, trivial⟩⟩, ⟨.inl ⟨rfl, Tryz.f124, [], false, Tryz.func124, l_strings_ContainsAny⟩, ⟨.inl ⟨rfl, Tryz.f123, [], false, Tryz.func123, l_internal_stringslite_IndexByte⟩, trivial, trivial⟩, trivial⟩⟩, ⟨.inl ⟨rfl, Tryz.f133, [], false, Tryz.func133, l_strings_Builder_String⟩, ⟨.inl ⟨rfl, Tryz.f132, [], false, Tryz.func132, l_strings_Builder_WriteString⟩, ⟨.inl ⟨rfl, Tryz.f131, [], false, Tryz.func131, l_strings_Builder_Grow⟩, trivial, trivial⟩, trivial⟩, ⟨.inl ⟨rfl, Tryz.f148, [], false, Tryz.func148, l_il_rules_1_1⟩, ⟨.inl ⟨rfl, Tryz.f147, [], false, Tryz.func147, l_il_rules_1⟩, trivial, trivial⟩, trivial⟩⟩⟩, ⟨.inl ⟨rfl, Tryz.f156, [], false, Tryz.func156, l_word_Param⟩, ⟨.inl ⟨rfl, Tryz.f153, [], false, Tryz.func153, l_strings_Builder_Len⟩, ⟨.inl ⟨rfl, Tryz.f151, [], false, Tryz.func151, l_math_bits_Mul⟩, ⟨.inl ⟨rfl, Tryz.f150, [], false, Tryz.func150, l_il_all_1⟩, trivial, trivial⟩, ⟨.inl ⟨rfl, Tryz.f152, [], false, Tryz.func152, l_strings_HasPrefix⟩, trivial, trivial⟩⟩, ⟨.inl ⟨rfl, Tryz.f155, [], false, Tryz.func155, l_il_counted⟩, ⟨.inl ⟨rfl, Tryz.f154, [], false, Tryz.func154, l_il_pick⟩, trivial, trivial⟩, trivial⟩⟩, ⟨.inl ⟨rfl, Tryz.f159, [], false, Tryz.func159, l_word_May⟩, ⟨.inl ⟨rfl, Tryz.f158, [], false, Tryz.func158, l_slices_Clone_api_Part_api_Part⟩, ⟨.inl ⟨rfl, Tryz.f157, [], false, Tryz.func157, l_slices_IndexFunc_api_Item_api_Item⟩, trivial, trivial⟩, trivial⟩, ⟨.inl ⟨rfl, Tryz.f161, [], false, Tryz.func161, l_slices_Sort_string_string⟩, ⟨.inl ⟨rfl, Tryz.f160, [], false, Tryz.func160, l_slices_IndexFunc_api_Ins_api_Ins⟩, trivial, trivial⟩, trivial⟩⟩⟩⟩⟩, ⟨.inl ⟨rfl, Tryz.f264, [], false, Tryz.func264, l_slices_choosePivotOrdered_string⟩, ⟨.inl ⟨rfl, Tryz.f214, [], false, Tryz.func214, l_math_bits_Len⟩, ⟨.inl ⟨rfl, Tryz.f207, [], false, Tryz.func207, l_math_bits_Mul32⟩, ⟨.inl ⟨rfl, Tryz.f194, [0], false, Tryz.func194, l_strings_Builder_grow⟩, ⟨.inl ⟨rfl, Tryz.f191, [], false, Tryz.func191, l_internal_stringslite_Index⟩, ⟨.inl ⟨rfl, Tryz.f188, [], false, Tryz.func188, l_strings_IndexAny⟩, trivial, trivial⟩, ⟨.inl ⟨rfl, Tryz.f193, [], false, Tryz.func193, l_strings_Builder_copyCheck⟩, trivial, trivial⟩⟩, ⟨.inl ⟨rfl, Tryz.f205, [], false, Tryz.func205, l_cmp_Less_string⟩, ⟨.inl ⟨rfl, Tryz.f201, [], false, Tryz.func201, l_strings_makeASCIISet⟩, trivial, trivial⟩, trivial⟩⟩, ⟨.inl ⟨rfl, Tryz.f211, [], false, Tryz.func211, l_word_lead⟩, ⟨.inl ⟨rfl, Tryz.f209, [], false, Tryz.func209, l_internal_stringslite_HasPrefix⟩, ⟨.inl ⟨rfl, Tryz.f208, [], false, Tryz.func208, l_math_bits_Mul64⟩, trivial, trivial⟩, ⟨.inl ⟨rfl, Tryz.f210, [], false, Tryz.func210, l_strconv_Itoa⟩, trivial, trivial⟩⟩, ⟨.inl ⟨rfl, Tryz.f213, [], false, Tryz.func213, l_slices_pdqsortOrdered_string⟩, ⟨.inl ⟨rfl, Tryz.f212, [], false, Tryz.func212, l_word_plain⟩, trivial, trivial⟩, trivial⟩⟩⟩, ⟨.inl ⟨rfl, Tryz.f258, [], false, Tryz.func258, l_internal_strconv_Itoa⟩, ⟨.inl ⟨rfl, Tryz.f245, [], false, Tryz.func245, l_internal_bytealg_Cutover⟩, ⟨.inl ⟨rfl, Tryz.f239, [], false, Tryz.func239, l_strings_shouldUseASCIISet⟩, ⟨.inl ⟨rfl, Tryz.f238, [], false, Tryz.func238, l_strings_IndexRune⟩, trivial, trivial⟩, ⟨.inl ⟨rfl, Tryz.f240, [], false, Tryz.func240, l_strings_asciiSet_contains⟩, trivial, trivial⟩⟩, ⟨.inl ⟨rfl, Tryz.f257, [], false, Tryz.func257, l_cmp_isNaN_string⟩, ⟨.inl ⟨rfl, Tryz.f246, [], false, Tryz.func246, l_internal_bytealg_IndexRabinKarp_string⟩, trivial, trivial⟩, trivial⟩⟩, ⟨.inl ⟨rfl, Tryz.f261, [1000006000], false, Tryz.func261, l_slices_insertionSortOrdered_string⟩, ⟨.inl ⟨rfl, Tryz.f260, [], false, Tryz.func260, l_word_digit⟩, ⟨.inl ⟨rfl, Tryz.f259, [], false, Tryz.func259, l_word_letter⟩, trivial, trivial⟩, trivial⟩, ⟨.inl ⟨rfl, Tryz.f263, [1000010000], false, Tryz.func263, l_slices_breakPatternsOrdered_string⟩, ⟨.inl ⟨rfl, Tryz.f262, [1000010000], false, Tryz.func262, l_slices_heapSortOrdered_string⟩, trivial, trivial⟩, trivial⟩⟩⟩⟩, ⟨.inl ⟨rfl, Tryz.f299, [], false, Tryz.func299, l_slices_medianAdjacentOrdered_string⟩, ⟨.inl ⟨rfl, Tryz.f291, [], false, Tryz.func291, l_unicode_utf8_ValidRune⟩, ⟨.inl ⟨rfl, Tryz.f268, [1000001000, 1000008000, 1000010000, 1000018000, 1000021000], false, Tryz.func268, l_slices_partitionOrdered_string⟩, ⟨.inl ⟨rfl, Tryz.f266, [1000011000, 1000017000, 1000023000], false, Tryz.func266, l_slices_partialInsertionSortOrdered_string⟩, ⟨.inl ⟨rfl, Tryz.f265, [1000003000], false, Tryz.func265, l_slices_reverseRangeOrdered_string⟩, trivial, trivial⟩, ⟨.inl ⟨rfl, Tryz.f267, [1000001000, 1000008000], false, Tryz.func267, l_slices_partitionEqualOrdered_string⟩, trivial, trivial⟩⟩, ⟨.inl ⟨rfl, Tryz.f270, [], false, Tryz.func270, l_math_bits_Len64⟩, ⟨.inl ⟨rfl, Tryz.f269, [], false, Tryz.func269, l_math_bits_Len32⟩, trivial, trivial⟩, trivial⟩⟩, ⟨.inl ⟨rfl, Tryz.f296, [1000006000], false, Tryz.func296, l_slices_siftDownOrdered_string⟩, ⟨.inl ⟨rfl, Tryz.f295, [], false, Tryz.func295, l_internal_strconv_FormatInt⟩, ⟨.inl ⟨rfl, Tryz.f292, [], false, Tryz.func292, l_internal_bytealg_hashStr_string⟩, trivial, trivial⟩, trivial⟩, ⟨.inl ⟨rfl, Tryz.f298, [], false, Tryz.func298, l_slices_xorshift_Next⟩, ⟨.inl ⟨rfl, Tryz.f297, [], false, Tryz.func297, l_slices_nextPowerOfTwo⟩, trivial, trivial⟩, trivial⟩⟩⟩, ⟨.inl ⟨rfl, Tryz.f327, [], false, Tryz.func327, l_internal_strconv_log10Pow2⟩, ⟨.inl ⟨rfl, Tryz.f311, [1000007000, 1000008000, 1000009000, 1000010000, 1000017000, 1000018000, 1000023000, 1000026000], false, Tryz.func311, l_internal_strconv_formatBase10⟩, ⟨.inl ⟨rfl, Tryz.f309, [], false, Tryz.func309, l_internal_strconv_small⟩, ⟨.inl ⟨rfl, Tryz.f300, [], false, Tryz.func300, l_slices_medianOrdered_string⟩, trivial, trivial⟩, ⟨.inl ⟨rfl, Tryz.f310, [], false, Tryz.func310, l_internal_strconv_numDigits⟩, trivial, trivial⟩⟩, ⟨.inl ⟨rfl, Tryz.f313, [], false, Tryz.func313, l_slices_order2Ordered_string⟩, ⟨.inl ⟨rfl, Tryz.f312, [], false, Tryz.func312, l_internal_strconv_formatBits⟩, trivial, trivial⟩, trivial⟩⟩, ⟨.inl ⟨rfl, Tryz.f330, [], false, Tryz.func330, l_math_bits_TrailingZeros⟩, ⟨.inl ⟨rfl, Tryz.f329, [], false, Tryz.func329, l_internal_strconv_isPowerOfTwo⟩, ⟨.inl ⟨rfl, Tryz.f328, [], false, Tryz.func328, l_internal_strconv_bool2_int⟩, trivial, trivial⟩, trivial⟩, ⟨.inl ⟨rfl, Tryz.f335, [], false, Tryz.func335, l_math_bits_TrailingZeros64⟩, ⟨.inl ⟨rfl, Tryz.f334, [], false, Tryz.func334, l_math_bits_TrailingZeros32⟩, trivial, trivial⟩, trivial⟩⟩⟩⟩⟩⟩
theorem fns_ok : ∀ (f : Nat) (fn : Fun), prog f = some fn → FunOk Tryz.prog gt f fn := fun f fn h => PT.all_get tab_ok h
end Go.Proofs.YtcdbpkfbnhjgdaaGreatDoor
