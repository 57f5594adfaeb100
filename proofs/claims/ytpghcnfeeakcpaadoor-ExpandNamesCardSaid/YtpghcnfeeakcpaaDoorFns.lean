/-
  The functions, as the abstract machine's: numbers and texts. By program.
-/
import Derived.Test.YtpghcnfeeakcpaaDoorAmTab
set_option linter.all false
set_option linter.unusedVariables false
set_option linter.unusedSimpArgs false
set_option linter.unusedSectionVars false
set_option maxRecDepth 100000
namespace Go.Proofs.YtpghcnfeeakcpaaDoor
open Go.Proofs.YtpghcnfeeakcpaaDoor.Am
def f_touchstonelaw05_ExpandNames : Nat := 4
def f_touchstonelaw05_works : Nat := 9
def f_touchstonelaw05_vars : Nat := 10
def f_touchstonelaw05_fields : Nat := 11
def f_touchstonelaw05_lit : Nat := 12
def f_touchstonelaw05_par : Nat := 13
def f_touchstonelaw05_quo : Nat := 14
def f_touchstonelaw05_qpar : Nat := 15
def f_expand_Value : Nat := 16
def f_expand_Items : Nat := 17
def f_touchstonelaw05_same : Nat := 18
def f_expand_Set : Nat := 19
def f_touchstonelaw05_many : Nat := 20
def f_expand_Text : Nat := 24
def f_expand_Fields : Nat := 25
def f_strconv_Itoa : Nat := 26
def f_slices_Index_string_string : Nat := 27
def f_expand_isName : Nat := 28
def f_slices_Clone_string_string : Nat := 29
def f_slices_Sort_string_string : Nat := 30
def f_slices_Compact_string_string : Nat := 31
def f_strings_Builder_WriteString : Nat := 35
def f_strings_Builder_String : Nat := 36
def f_expand_values : Nat := 47
def f_expand_builder_split : Nat := 48
def f_expand_builder_add : Nat := 49
def f_expand_builder_end : Nat := 50
def f_internal_strconv_Itoa : Nat := 51
def f_word_Param : Nat := 52
def f_slices_pdqsortOrdered_string : Nat := 53
def f_math_bits_Len : Nat := 54
def f_strings_Builder_copyCheck : Nat := 58
def f_expand_values_1 : Nat := 62
def f_internal_strconv_FormatInt : Nat := 63
def f_strings_Contains : Nat := 64
def f_word_lead : Nat := 65
def f_slices_insertionSortOrdered_string : Nat := 66
def f_slices_heapSortOrdered_string : Nat := 67
def f_slices_breakPatternsOrdered_string : Nat := 68
def f_slices_choosePivotOrdered_string : Nat := 69
def f_slices_reverseRangeOrdered_string : Nat := 70
def f_slices_partialInsertionSortOrdered_string : Nat := 71
def f_cmp_Less_string : Nat := 72
def f_slices_partitionEqualOrdered_string : Nat := 73
def f_slices_partitionOrdered_string : Nat := 74
def f_math_bits_Len32 : Nat := 75
def f_math_bits_Len64 : Nat := 76
def f_internal_abi_NoEscape : Nat := 79
def f_internal_strconv_small : Nat := 85
def f_internal_strconv_numDigits : Nat := 86
def f_internal_strconv_formatBase10 : Nat := 87
def f_internal_strconv_formatBits : Nat := 88
def f_strings_Index : Nat := 89
def f_word_letter : Nat := 90
def f_word_digit : Nat := 91
def f_slices_siftDownOrdered_string : Nat := 92
def f_slices_nextPowerOfTwo : Nat := 93
def f_slices_xorshift_Next : Nat := 94
def f_slices_medianAdjacentOrdered_string : Nat := 95
def f_slices_medianOrdered_string : Nat := 96
def f_cmp_isNaN_string : Nat := 97
def f_internal_stringslite_IndexByte : Nat := 98
def f_internal_strconv_log10Pow2 : Nat := 105
def f_internal_strconv_bool2_int : Nat := 106
def f_internal_strconv_isPowerOfTwo : Nat := 107
def f_math_bits_TrailingZeros : Nat := 108
def f_internal_stringslite_Index : Nat := 109
def f_slices_order2Ordered_string : Nat := 110
def f_internal_bytealg_IndexByteString : Nat := 111
def f_math_bits_TrailingZeros32 : Nat := 118
def f_math_bits_TrailingZeros64 : Nat := 119
def f_internal_bytealg_IndexString : Nat := 120
def f_internal_bytealg_Cutover : Nat := 121
def f_internal_bytealg_IndexRabinKarp_string : Nat := 122
def f_internal_bytealg_hashStr_string : Nat := 130
def c_touchstonelaw05_ExpandNames : Fun := { cin := [], cout := [.id], ntmps := 281, keep := false, res := [(0, none)], body :=
  (.seq (.reg [⟨(some 0), .mv (.c (.b false)), none⟩])
  (.seq (.seq (.reg [⟨(some 15), .call f_touchstonelaw05_works [], none⟩,
    ⟨(some 16), .un .not (.t 15), none⟩,
    ⟨(some 17), .mv (.t 16), none⟩,
    ⟨(some 18), .pick (.t 17) (.c (.b true)) (.c (.b false)), none⟩,
    ⟨(some 19), .mv (.t 18), none⟩,
    ⟨(some 20), .pick (.t 19) (.c (.b true)) (.c (.b false)), none⟩,
    ⟨(some 21), .mv (.t 20), none⟩,
    ⟨(some 22), .pick (.t 21) (.c (.b true)) (.c (.b false)), none⟩,
    ⟨(some 23), .mv (.t 22), none⟩,
    ⟨(some 24), .pick (.t 23) (.c (.b true)) (.c (.b false)), none⟩])
  (.cond (.t 24)
   (.seq (.reg [⟨(some 0), .mv (.c (.b false)), none⟩])
   .ret)
   .skip))
  (.seq (.reg [⟨(some 25), .call f_touchstonelaw05_vars [(.c (.s [32, 9, 97, 10, 98]))], none⟩,
    ⟨(some 1), .alloc 33 [.nsl, .nsl, .nsl, (.i .i64 0)], none⟩,
    ⟨none, .st 4 (.t 1) (.t 25), none⟩])
  (.seq (.reg [⟨(some 26), .fa 3 (.t 1), none⟩,
    ⟨none, .st 1 (.t 26) (.c (.i .i64 255)), none⟩])
  (.seq (.seq (.regD [⟨(some 27), .ld true 4 (.t 1), none⟩,
    ⟨(some 28), .callQ f_touchstonelaw05_lit [(.c (.s [99]))], none⟩,
    ⟨(some 29), .callQ f_touchstonelaw05_par [(.c (.s [120]))], none⟩,
    ⟨(some 30), .callQ f_touchstonelaw05_lit [(.c (.s [100]))], none⟩,
    ⟨(some 31), .bsl 3 [(.t 28), (.t 29), (.t 30)], none⟩,
    ⟨(some 32), .bsl 1 [(.c (.s [99])), (.c (.s [97])), (.c (.s [98, 100]))], none⟩,
    ⟨(some 33), .callQ f_touchstonelaw05_fields [(.t 27), (.t 31), (.t 32)], none⟩,
    ⟨(some 34), .un .not (.t 33), none⟩,
    ⟨(some 35), .mv (.t 34), none⟩,
    ⟨(some 36), .ld true 4 (.t 1), (some (35, false))⟩,
    ⟨(some 37), .callQ f_touchstonelaw05_quo [(.c (.s [99]))], (some (35, false))⟩,
    ⟨(some 38), .callQ f_touchstonelaw05_par [(.c (.s [120]))], (some (35, false))⟩,
    ⟨(some 39), .bsl 3 [(.t 37), (.t 38)], (some (35, false))⟩,
    ⟨(some 40), .bsl 1 [(.c (.s [99])), (.c (.s [97])), (.c (.s [98]))], (some (35, false))⟩,
    ⟨(some 41), .callQ f_touchstonelaw05_fields [(.t 36), (.t 39), (.t 40)], (some (35, false))⟩,
    ⟨(some 42), .un .not (.t 41), (some (35, false))⟩,
    ⟨(some 43), .pick (.t 35) (.c (.b true)) (.t 42), none⟩,
    ⟨(some 44), .mv (.t 43), none⟩,
    ⟨(some 45), .ld true 4 (.t 1), (some (44, false))⟩,
    ⟨(some 46), .callQ f_touchstonelaw05_fields [(.t 45), (.c .nsl), (.c .nsl)], (some (44, false))⟩,
    ⟨(some 47), .un .not (.t 46), (some (44, false))⟩,
    ⟨(some 48), .pick (.t 44) (.c (.b true)) (.t 47), none⟩,
    ⟨(some 49), .mv (.t 48), none⟩,
    ⟨(some 50), .ld true 4 (.t 1), (some (49, false))⟩,
    ⟨(some 51), .callQ f_touchstonelaw05_lit [(.c (.s []))], (some (49, false))⟩,
    ⟨(some 52), .bsl 3 [(.t 51)], (some (49, false))⟩,
    ⟨(some 53), .callQ f_touchstonelaw05_fields [(.t 50), (.t 52), (.c .nsl)], (some (49, false))⟩,
    ⟨(some 54), .un .not (.t 53), (some (49, false))⟩,
    ⟨(some 55), .pick (.t 49) (.c (.b true)) (.t 54), none⟩,
    ⟨(some 56), .mv (.t 55), none⟩,
    ⟨(some 57), .ld true 4 (.t 1), (some (56, false))⟩,
    ⟨(some 58), .callQ f_touchstonelaw05_par [(.c (.s [121]))], (some (56, false))⟩,
    ⟨(some 59), .callQ f_touchstonelaw05_quo [(.c (.s []))], (some (56, false))⟩,
    ⟨(some 60), .callQ f_touchstonelaw05_par [(.c (.s [121]))], (some (56, false))⟩,
    ⟨(some 61), .bsl 3 [(.t 58), (.t 59), (.t 60)], (some (56, false))⟩,
    ⟨(some 62), .bsl 1 [(.c (.s []))], (some (56, false))⟩,
    ⟨(some 63), .callQ f_touchstonelaw05_fields [(.t 57), (.t 61), (.t 62)], (some (56, false))⟩,
    ⟨(some 64), .un .not (.t 63), (some (56, false))⟩,
    ⟨(some 65), .pick (.t 56) (.c (.b true)) (.t 64), none⟩,
    ⟨(some 66), .mv (.t 65), none⟩,
    ⟨(some 67), .ld true 4 (.t 1), (some (66, false))⟩,
    ⟨(some 68), .callQ f_touchstonelaw05_qpar [(.c (.s [121]))], (some (66, false))⟩,
    ⟨(some 69), .bsl 3 [(.t 68)], (some (66, false))⟩,
    ⟨(some 70), .bsl 1 [(.c (.s []))], (some (66, false))⟩,
    ⟨(some 71), .callQ f_touchstonelaw05_fields [(.t 67), (.t 69), (.t 70)], (some (66, false))⟩,
    ⟨(some 72), .un .not (.t 71), (some (66, false))⟩,
    ⟨(some 73), .pick (.t 66) (.c (.b true)) (.t 72), none⟩,
    ⟨(some 74), .mv (.t 73), none⟩,
    ⟨(some 75), .ld true 4 (.t 1), (some (74, false))⟩,
    ⟨(some 76), .callQ f_touchstonelaw05_lit [(.c (.s [97, 32, 98]))], (some (74, false))⟩,
    ⟨(some 77), .bsl 3 [(.t 76)], (some (74, false))⟩,
    ⟨(some 78), .bsl 1 [(.c (.s [97, 32, 98]))], (some (74, false))⟩,
    ⟨(some 79), .callQ f_touchstonelaw05_fields [(.t 75), (.t 77), (.t 78)], (some (74, false))⟩,
    ⟨(some 80), .un .not (.t 79), (some (74, false))⟩,
    ⟨(some 81), .pick (.t 74) (.c (.b true)) (.t 80), none⟩,
    ⟨(some 82), .mv (.t 81), none⟩,
    ⟨(some 83), .ld true 4 (.t 1), (some (82, false))⟩,
    ⟨(some 84), .callQ f_touchstonelaw05_par [(.c (.s [49]))], (some (82, false))⟩,
    ⟨(some 85), .callQ f_touchstonelaw05_par [(.c (.s [50]))], (some (82, false))⟩,
    ⟨(some 86), .bsl 3 [(.t 84), (.t 85)], (some (82, false))⟩,
    ⟨(some 87), .bsl 1 [(.c (.s [111, 110, 101, 116, 119, 111]))], (some (82, false))⟩,
    ⟨(some 88), .callQ f_touchstonelaw05_fields [(.t 83), (.t 86), (.t 87)], (some (82, false))⟩,
    ⟨(some 89), .un .not (.t 88), (some (82, false))⟩,
    ⟨(some 90), .pick (.t 82) (.c (.b true)) (.t 89), none⟩,
    ⟨(some 91), .mv (.t 90), none⟩,
    ⟨(some 92), .ld true 4 (.t 1), (some (91, false))⟩,
    ⟨(some 93), .callQ f_touchstonelaw05_par [(.c (.s [63]))], (some (91, false))⟩,
    ⟨(some 94), .callQ f_touchstonelaw05_par [(.c (.s [35]))], (some (91, false))⟩,
    ⟨(some 95), .bsl 3 [(.t 93), (.t 94)], (some (91, false))⟩,
    ⟨(some 96), .bsl 1 [(.c (.s [50, 53, 53, 50]))], (some (91, false))⟩,
    ⟨(some 97), .callQ f_touchstonelaw05_fields [(.t 92), (.t 95), (.t 96)], (some (91, false))⟩,
    ⟨(some 98), .un .not (.t 97), (some (91, false))⟩,
    ⟨(some 99), .pick (.t 91) (.c (.b true)) (.t 98), none⟩,
    ⟨(some 100), .mv (.t 99), none⟩,
    ⟨(some 101), .callQ f_touchstonelaw05_vars [(.c (.s [32, 32]))], (some (100, false))⟩,
    ⟨(some 102), .callQ f_touchstonelaw05_par [(.c (.s [120]))], (some (100, false))⟩,
    ⟨(some 103), .bsl 3 [(.t 102)], (some (100, false))⟩,
    ⟨(some 104), .callQ f_touchstonelaw05_fields [(.t 101), (.t 103), (.c .nsl)], (some (100, false))⟩,
    ⟨(some 105), .un .not (.t 104), (some (100, false))⟩,
    ⟨(some 106), .pick (.t 100) (.c (.b true)) (.t 105), none⟩,
    ⟨(some 107), .mv (.t 106), none⟩,
    ⟨(some 108), .callQ f_touchstonelaw05_vars [(.c (.s [32, 32]))], (some (107, false))⟩,
    ⟨(some 109), .callQ f_touchstonelaw05_lit [(.c (.s [97]))], (some (107, false))⟩,
    ⟨(some 110), .callQ f_touchstonelaw05_par [(.c (.s [120]))], (some (107, false))⟩,
    ⟨(some 111), .callQ f_touchstonelaw05_lit [(.c (.s [98]))], (some (107, false))⟩,
    ⟨(some 112), .bsl 3 [(.t 109), (.t 110), (.t 111)], (some (107, false))⟩,
    ⟨(some 113), .bsl 1 [(.c (.s [97])), (.c (.s [98]))], (some (107, false))⟩,
    ⟨(some 114), .callQ f_touchstonelaw05_fields [(.t 108), (.t 112), (.t 113)], (some (107, false))⟩,
    ⟨(some 115), .un .not (.t 114), (some (107, false))⟩,
    ⟨(some 116), .pick (.t 107) (.c (.b true)) (.t 115), none⟩,
    ⟨(some 117), .mv (.t 116), none⟩,
    ⟨(some 118), .callQ f_touchstonelaw05_vars [(.c (.s [97, 13, 98, 0]))], (some (117, false))⟩,
    ⟨(some 119), .callQ f_touchstonelaw05_par [(.c (.s [120]))], (some (117, false))⟩,
    ⟨(some 120), .bsl 3 [(.t 119)], (some (117, false))⟩,
    ⟨(some 121), .bsl 1 [(.c (.s [97, 13, 98, 0]))], (some (117, false))⟩,
    ⟨(some 122), .callQ f_touchstonelaw05_fields [(.t 118), (.t 120), (.t 121)], (some (117, false))⟩,
    ⟨(some 123), .un .not (.t 122), (some (117, false))⟩,
    ⟨(some 124), .pick (.t 117) (.c (.b true)) (.t 123), none⟩] [(0, (0, 4)), (9, (9, 12)), (23, (23, 25)), (30, (30, 34)), (40, (40, 42)), (48, (48, 50)), (56, (56, 59)), (65, (65, 68))])
  (.cond (.t 124)
   (.seq (.reg [⟨(some 0), .mv (.c (.b false)), none⟩])
   .ret)
   .skip))
  (.seq (.seq (.reg [⟨(some 125), .ld true 4 (.t 1), none⟩,
    ⟨(some 126), .call f_expand_Value [(.t 125), (.c (.s [49]))], none⟩,
    ⟨(some 127), .bin .neq (.t 126) (.c (.s [111, 110, 101])), none⟩,
    ⟨(some 128), .mv (.t 127), none⟩,
    ⟨(some 129), .ld true 4 (.t 1), (some (128, false))⟩,
    ⟨(some 130), .call f_expand_Value [(.t 129), (.c (.s [57]))], (some (128, false))⟩,
    ⟨(some 131), .bin .neq (.t 130) (.c (.s [])), (some (128, false))⟩,
    ⟨(some 132), .pick (.t 128) (.c (.b true)) (.t 131), none⟩,
    ⟨(some 133), .mv (.t 132), none⟩,
    ⟨(some 134), .ld true 4 (.t 1), (some (133, false))⟩,
    ⟨(some 135), .call f_expand_Value [(.t 134), (.c (.s [48]))], (some (133, false))⟩,
    ⟨(some 136), .bin .neq (.t 135) (.c (.s [])), (some (133, false))⟩,
    ⟨(some 137), .pick (.t 133) (.c (.b true)) (.t 136), none⟩,
    ⟨(some 138), .mv (.t 137), none⟩,
    ⟨(some 139), .ld true 4 (.t 1), (some (138, false))⟩,
    ⟨(some 140), .call f_expand_Value [(.t 139), (.c (.s []))], (some (138, false))⟩,
    ⟨(some 141), .bin .neq (.t 140) (.c (.s [])), (some (138, false))⟩,
    ⟨(some 142), .pick (.t 138) (.c (.b true)) (.t 141), none⟩,
    ⟨(some 143), .mv (.t 142), none⟩,
    ⟨(some 144), .ld true 4 (.t 1), (some (143, false))⟩,
    ⟨(some 145), .call f_expand_Value [(.t 144), (.c (.s [63]))], (some (143, false))⟩,
    ⟨(some 146), .bin .neq (.t 145) (.c (.s [50, 53, 53])), (some (143, false))⟩,
    ⟨(some 147), .pick (.t 143) (.c (.b true)) (.t 146), none⟩,
    ⟨(some 148), .mv (.t 147), none⟩,
    ⟨(some 149), .build [.nsl, .nsl, .nsl, (.i .i64 0)] [(3, 1, (.c (.i .i64 (-5))))], (some (148, false))⟩,
    ⟨(some 150), .call f_expand_Value [(.t 149), (.c (.s [63]))], (some (148, false))⟩,
    ⟨(some 151), .bin .neq (.t 150) (.c (.s [45, 53])), (some (148, false))⟩,
    ⟨(some 152), .pick (.t 148) (.c (.b true)) (.t 151), none⟩,
    ⟨(some 153), .mv (.t 152), none⟩,
    ⟨(some 154), .bsl 1 [(.c (.s [98])), (.c (.s [97])), (.c (.s [98]))], (some (153, false))⟩,
    ⟨(some 155), .bsl 1 [(.c (.s [49])), (.c (.s [50]))], (some (153, false))⟩,
    ⟨(some 156), .build [.nsl, .nsl, .nsl, (.i .i64 0)] [(0, 1, (.t 154)), (1, 1, (.t 155))], (some (153, false))⟩,
    ⟨(some 157), .call f_expand_Value [(.t 156), (.c (.s [98]))], (some (153, false))⟩,
    ⟨(some 158), .bin .neq (.t 157) (.c (.s [49])), (some (153, false))⟩,
    ⟨(some 159), .pick (.t 153) (.c (.b true)) (.t 158), none⟩,
    ⟨(some 160), .mv (.t 159), none⟩,
    ⟨(some 161), .bsl 1 [(.c (.s [98])), (.c (.s [97]))], (some (160, false))⟩,
    ⟨(some 162), .bsl 1 [(.c (.s [49]))], (some (160, false))⟩,
    ⟨(some 163), .build [.nsl, .nsl, .nsl, (.i .i64 0)] [(0, 1, (.t 161)), (1, 1, (.t 162))], (some (160, false))⟩,
    ⟨(some 164), .call f_expand_Value [(.t 163), (.c (.s [97]))], (some (160, false))⟩,
    ⟨(some 165), .bin .neq (.t 164) (.c (.s [])), (some (160, false))⟩,
    ⟨(some 166), .pick (.t 160) (.c (.b true)) (.t 165), none⟩])
  (.cond (.t 166)
   (.seq (.reg [⟨(some 0), .mv (.c (.b false)), none⟩])
   .ret)
   .skip))
  (.seq (.regD [⟨(some 167), .ld true 4 (.t 1), none⟩,
    ⟨(some 168), .callQ f_touchstonelaw05_par [(.c (.s [120]))], none⟩,
    ⟨(some 169), .bsl 3 [(.t 168)], none⟩,
    ⟨(some 170), .build [.nsl, (.b false)] [(0, 1, (.t 169)), (1, 1, (.c (.b true)))], none⟩,
    ⟨(some 171), .callQ f_touchstonelaw05_par [(.c (.s [120]))], none⟩,
    ⟨(some 172), .bsl 3 [(.t 171)], none⟩,
    ⟨(some 173), .build [.nsl, (.b false)] [(0, 1, (.t 172))], none⟩,
    ⟨(some 174), .build [.nsl, (.b false)] [], none⟩,
    ⟨(some 175), .build [.nsl, (.b false)] [(1, 1, (.c (.b true)))], none⟩,
    ⟨(some 176), .bsl 2 [(.t 170), (.t 173), (.t 174), (.t 175)], none⟩,
    ⟨(some 177), .callQ f_expand_Items [(.t 167), (.t 176)], none⟩,
    ⟨(some 2), .mv (.t 177), none⟩] [(0, (0, 5))])
  (.seq (.seq (.reg [⟨(some 178), .mv (.t 2), none⟩,
    ⟨(some 179), .bsl 1 [(.c (.s [97])), (.c (.s [98])), (.c (.s [32, 9, 97, 10, 98])), (.c (.s []))], none⟩,
    ⟨(some 180), .call f_touchstonelaw05_same [(.t 178), (.t 179)], none⟩,
    ⟨(some 181), .un .not (.t 180), none⟩])
  (.cond (.t 181)
   (.seq (.reg [⟨(some 0), .mv (.c (.b false)), none⟩])
   .ret)
   .skip))
  (.seq (.reg [⟨(some 183), .ld true 4 (.t 1), none⟩,
    ⟨(some 184), .call f_expand_Set [(.t 183), (.c (.s [97])), (.c (.s []))], none⟩,
    ⟨(some 182), .mv (.t 184), none⟩,
    ⟨(some 185), .ext (.t 182) 0, none⟩,
    ⟨(some 186), .ext (.t 182) 1, none⟩,
    ⟨(some 3), .alloc 33 [.nsl, .nsl, .nsl, (.i .i64 0)], none⟩,
    ⟨none, .st 4 (.t 3) (.t 185), none⟩,
    ⟨(some 4), .mv (.t 186), none⟩])
  (.seq (.regD [⟨(some 188), .ld true 4 (.t 3), none⟩,
    ⟨(some 189), .call f_touchstonelaw05_many [(.c (.i .i64 1024))], none⟩,
    ⟨(some 190), .call f_expand_Set [(.t 188), (.c (.s [120])), (.t 189)], none⟩,
    ⟨(some 187), .mv (.t 190), none⟩,
    ⟨(some 191), .ext (.t 187) 0, none⟩,
    ⟨(some 192), .ext (.t 187) 1, none⟩,
    ⟨none, .mv (.c (.tup [])), none⟩,
    ⟨(some 5), .adp 33 [.nsl, .nsl, .nsl, (.i .i64 0)] 4 (.t 191), none⟩,
    ⟨(some 6), .mv (.t 192), none⟩] [(0, (0, 2))])
  (.seq (.regD [⟨(some 194), .ld true 4 (.t 1), none⟩,
    ⟨(some 195), .call f_touchstonelaw05_many [(.c (.i .i64 1025))], none⟩,
    ⟨(some 196), .call f_expand_Set [(.t 194), (.c (.s [120])), (.t 195)], none⟩,
    ⟨(some 193), .mv (.t 196), none⟩,
    ⟨(some 197), .ext (.t 193) 0, none⟩,
    ⟨(some 198), .ext (.t 193) 1, none⟩,
    ⟨none, .mv (.c (.tup [])), none⟩,
    ⟨(some 7), .adp 33 [.nsl, .nsl, .nsl, (.i .i64 0)] 4 (.t 197), none⟩,
    ⟨(some 8), .mv (.t 198), none⟩] [(0, (0, 2))])
  (.seq (.seq (.reg [⟨(some 199), .call f_touchstonelaw05_many [(.c (.i .i64 65))], none⟩,
    ⟨(some 200), .bsl 1 [(.c (.s [])), (.c (.s [49])), (.c (.s [35])), (.c (.s [63])), (.c (.s [49, 97])), (.c (.s [97, 45, 98])), (.c (.s [97, 32, 98])), (.t 199)], none⟩,
    ⟨(some 201), .len 1 (.t 200), none⟩,
    ⟨(some 202), .mv (.c (.i .i64 0)), none⟩])
  (.blk 0 (.loop (.seq (.reg [⟨(some 203), .bin .lss (.t 202) (.t 201), none⟩])
    (.seq (.cond (.t 203)
     .skip
     (.exit 0))
    (.seq (.blk 1 (.seq (.reg [⟨(some 204), .ia 1 (.t 200) (.t 202), none⟩,
       ⟨(some 205), .ld false 1 (.t 204), none⟩,
       ⟨(some 10), .mv (.t 205), none⟩])
     (.seq (.regD [⟨(some 207), .ld true 4 (.t 1), none⟩,
       ⟨(some 208), .mv (.t 10), none⟩,
       ⟨(some 209), .call f_touchstonelaw05_many [(.c (.i .i64 1025))], none⟩,
       ⟨(some 210), .call f_expand_Set [(.t 207), (.t 208), (.t 209)], none⟩,
       ⟨(some 206), .mv (.t 210), none⟩,
       ⟨(some 211), .ext (.t 206) 0, none⟩,
       ⟨(some 212), .ext (.t 206) 1, none⟩,
       ⟨none, .mv (.c (.tup [])), none⟩,
       ⟨(some 11), .adp 33 [.nsl, .nsl, .nsl, (.i .i64 0)] 4 (.t 211), none⟩,
       ⟨(some 12), .mv (.t 212), none⟩] [(0, (0, 3))])
     (.seq (.reg [⟨(some 213), .mv (.t 12), none⟩,
       ⟨(some 214), .bin .neq (.t 213) (.c (.i .i64 1)), none⟩])
     (.cond (.t 214)
      (.seq (.reg [⟨(some 0), .mv (.c (.b false)), none⟩])
      .ret)
      .skip)))))
    (.reg [⟨(some 215), .bin .add (.t 202) (.c (.i .i64 1)), none⟩,
      ⟨(some 202), .mv (.t 215), none⟩])))))))
  (.seq (.reg [⟨(some 217), .bsl 1 [(.c (.s [98])), (.c (.s [97])), (.c (.s [98]))], none⟩,
    ⟨(some 218), .bsl 1 [(.c (.s [49]))], none⟩,
    ⟨(some 219), .build [.nsl, .nsl, .nsl, (.i .i64 0)] [(0, 1, (.t 217)), (1, 1, (.t 218))], none⟩,
    ⟨(some 220), .call f_touchstonelaw05_many [(.c (.i .i64 64))], none⟩,
    ⟨(some 221), .call f_expand_Set [(.t 219), (.t 220), (.c (.s [50]))], none⟩,
    ⟨(some 216), .mv (.t 221), none⟩,
    ⟨(some 222), .ext (.t 216) 0, none⟩,
    ⟨(some 223), .ext (.t 216) 1, none⟩,
    ⟨(some 13), .alloc 33 [.nsl, .nsl, .nsl, (.i .i64 0)], none⟩,
    ⟨none, .st 4 (.t 13) (.t 222), none⟩,
    ⟨(some 14), .mv (.t 223), none⟩])
  (.seq (.regD [⟨(some 224), .mv (.t 4), none⟩,
    ⟨(some 225), .bin .eql (.t 224) (.c (.i .i64 0)), none⟩,
    ⟨(some 226), .mv (.t 225), none⟩,
    ⟨(some 227), .fa 0 (.t 3), (some (226, true))⟩,
    ⟨(some 228), .ld false 1 (.t 227), (some (226, true))⟩,
    ⟨(some 229), .bsl 1 [(.c (.s [97])), (.c (.s [120]))], (some (226, true))⟩,
    ⟨(some 230), .callQ f_touchstonelaw05_same [(.t 228), (.t 229)], (some (226, true))⟩,
    ⟨(some 231), .pick (.t 226) (.t 230) (.c (.b false)), none⟩,
    ⟨(some 232), .mv (.t 231), none⟩,
    ⟨(some 233), .fa 1 (.t 3), (some (232, true))⟩,
    ⟨(some 234), .ld false 1 (.t 233), (some (232, true))⟩,
    ⟨(some 235), .bsl 1 [(.c (.s [])), (.c (.s [32, 9, 97, 10, 98]))], (some (232, true))⟩,
    ⟨(some 236), .callQ f_touchstonelaw05_same [(.t 234), (.t 235)], (some (232, true))⟩,
    ⟨(some 237), .pick (.t 232) (.t 236) (.c (.b false)), none⟩,
    ⟨(some 238), .mv (.t 237), none⟩,
    ⟨(some 239), .fa 2 (.t 3), (some (238, true))⟩,
    ⟨(some 240), .ld false 1 (.t 239), (some (238, true))⟩,
    ⟨(some 241), .bsl 1 [(.c (.s [111, 110, 101])), (.c (.s [116, 119, 111]))], (some (238, true))⟩,
    ⟨(some 242), .callQ f_touchstonelaw05_same [(.t 240), (.t 241)], (some (238, true))⟩,
    ⟨(some 243), .pick (.t 238) (.t 242) (.c (.b false)), none⟩,
    ⟨(some 244), .mv (.t 243), none⟩,
    ⟨(some 245), .fa 3 (.t 3), (some (244, true))⟩,
    ⟨(some 246), .ld false 1 (.t 245), (some (244, true))⟩,
    ⟨(some 247), .bin .eql (.t 246) (.c (.i .i64 255)), (some (244, true))⟩,
    ⟨(some 248), .pick (.t 244) (.t 247) (.c (.b false)), none⟩,
    ⟨(some 249), .mv (.t 248), none⟩,
    ⟨(some 250), .mv (.t 6), (some (249, true))⟩,
    ⟨(some 251), .bin .eql (.t 250) (.c (.i .i64 0)), (some (249, true))⟩,
    ⟨(some 252), .pick (.t 249) (.t 251) (.c (.b false)), none⟩,
    ⟨(some 253), .mv (.t 252), none⟩,
    ⟨(some 254), .fa 1 (.t 5), (some (253, true))⟩,
    ⟨(some 255), .ld false 1 (.t 254), (some (253, true))⟩,
    ⟨(some 256), .callQ f_touchstonelaw05_many [(.c (.i .i64 1024))], (some (253, true))⟩,
    ⟨(some 257), .bsl 1 [(.c (.s [])), (.t 256)], (some (253, true))⟩,
    ⟨(some 258), .callQ f_touchstonelaw05_same [(.t 255), (.t 257)], (some (253, true))⟩,
    ⟨(some 259), .pick (.t 253) (.t 258) (.c (.b false)), none⟩,
    ⟨(some 260), .mv (.t 259), none⟩,
    ⟨(some 261), .mv (.t 8), (some (260, true))⟩,
    ⟨(some 262), .bin .eql (.t 261) (.c (.i .i64 40)), (some (260, true))⟩,
    ⟨(some 263), .pick (.t 260) (.t 262) (.c (.b false)), none⟩,
    ⟨(some 264), .mv (.t 263), none⟩,
    ⟨(some 265), .mv (.t 14), (some (264, true))⟩,
    ⟨(some 266), .bin .eql (.t 265) (.c (.i .i64 0)), (some (264, true))⟩,
    ⟨(some 267), .pick (.t 264) (.t 266) (.c (.b false)), none⟩,
    ⟨(some 268), .mv (.t 267), none⟩,
    ⟨(some 269), .fa 0 (.t 13), (some (268, true))⟩,
    ⟨(some 270), .ld false 1 (.t 269), (some (268, true))⟩,
    ⟨(some 271), .callQ f_touchstonelaw05_many [(.c (.i .i64 64))], (some (268, true))⟩,
    ⟨(some 272), .bsl 1 [(.c (.s [97])), (.t 271), (.c (.s [98]))], (some (268, true))⟩,
    ⟨(some 273), .callQ f_touchstonelaw05_same [(.t 270), (.t 272)], (some (268, true))⟩,
    ⟨(some 274), .pick (.t 268) (.t 273) (.c (.b false)), none⟩,
    ⟨(some 275), .mv (.t 274), none⟩,
    ⟨(some 276), .fa 1 (.t 13), (some (275, true))⟩,
    ⟨(some 277), .ld false 1 (.t 276), (some (275, true))⟩,
    ⟨(some 278), .bsl 1 [(.c (.s [])), (.c (.s [50])), (.c (.s [49]))], (some (275, true))⟩,
    ⟨(some 279), .callQ f_touchstonelaw05_same [(.t 277), (.t 278)], (some (275, true))⟩,
    ⟨(some 280), .pick (.t 275) (.t 279) (.c (.b false)), none⟩,
    ⟨(some 0), .mv (.t 280), none⟩] [(31, (31, 33)), (46, (46, 48))])
  .ret)))))))))))))) }
def c_touchstonelaw05_works : Fun := { cin := [], cout := [.id], ntmps := 63, keep := false, res := [(0, none)], body :=
  (.seq (.reg [⟨(some 0), .mv (.c (.b false)), none⟩])
  (.seq (.reg [⟨(some 2), .call f_touchstonelaw05_vars [(.c (.s [97, 32, 32, 98, 32]))], none⟩,
    ⟨(some 1), .alloc 33 [.nsl, .nsl, .nsl, (.i .i64 0)], none⟩,
    ⟨none, .st 4 (.t 1) (.t 2), none⟩])
  (.seq (.regD [⟨(some 3), .ld true 4 (.t 1), none⟩,
    ⟨(some 4), .callQ f_touchstonelaw05_par [(.c (.s [120]))], none⟩,
    ⟨(some 5), .bsl 3 [(.t 4)], none⟩,
    ⟨(some 6), .bsl 1 [(.c (.s [97])), (.c (.s [98]))], none⟩,
    ⟨(some 7), .callQ f_touchstonelaw05_fields [(.t 3), (.t 5), (.t 6)], none⟩,
    ⟨(some 8), .mv (.t 7), none⟩,
    ⟨(some 9), .ld true 4 (.t 1), (some (8, true))⟩,
    ⟨(some 10), .callQ f_touchstonelaw05_qpar [(.c (.s [120]))], (some (8, true))⟩,
    ⟨(some 11), .bsl 3 [(.t 10)], (some (8, true))⟩,
    ⟨(some 12), .bsl 1 [(.c (.s [97, 32, 32, 98, 32]))], (some (8, true))⟩,
    ⟨(some 13), .callQ f_touchstonelaw05_fields [(.t 9), (.t 11), (.t 12)], (some (8, true))⟩,
    ⟨(some 14), .pick (.t 8) (.t 13) (.c (.b false)), none⟩,
    ⟨(some 15), .mv (.t 14), none⟩,
    ⟨(some 16), .ld true 4 (.t 1), (some (15, true))⟩,
    ⟨(some 17), .callQ f_touchstonelaw05_lit [(.c (.s [99]))], (some (15, true))⟩,
    ⟨(some 18), .callQ f_touchstonelaw05_par [(.c (.s [120]))], (some (15, true))⟩,
    ⟨(some 19), .callQ f_touchstonelaw05_quo [(.c (.s [100]))], (some (15, true))⟩,
    ⟨(some 20), .bsl 3 [(.t 17), (.t 18), (.t 19)], (some (15, true))⟩,
    ⟨(some 21), .bsl 1 [(.c (.s [99, 97])), (.c (.s [98])), (.c (.s [100]))], (some (15, true))⟩,
    ⟨(some 22), .callQ f_touchstonelaw05_fields [(.t 16), (.t 20), (.t 21)], (some (15, true))⟩,
    ⟨(some 23), .pick (.t 15) (.t 22) (.c (.b false)), none⟩,
    ⟨(some 24), .mv (.t 23), none⟩,
    ⟨(some 25), .ld true 4 (.t 1), (some (24, true))⟩,
    ⟨(some 26), .callQ f_touchstonelaw05_par [(.c (.s [121]))], (some (24, true))⟩,
    ⟨(some 27), .bsl 3 [(.t 26)], (some (24, true))⟩,
    ⟨(some 28), .callQ f_touchstonelaw05_fields [(.t 25), (.t 27), (.c .nsl)], (some (24, true))⟩,
    ⟨(some 29), .pick (.t 24) (.t 28) (.c (.b false)), none⟩,
    ⟨(some 30), .mv (.t 29), none⟩,
    ⟨(some 31), .ld true 4 (.t 1), (some (30, true))⟩,
    ⟨(some 32), .callQ f_touchstonelaw05_quo [(.c (.s []))], (some (30, true))⟩,
    ⟨(some 33), .bsl 3 [(.t 32)], (some (30, true))⟩,
    ⟨(some 34), .bsl 1 [(.c (.s []))], (some (30, true))⟩,
    ⟨(some 35), .callQ f_touchstonelaw05_fields [(.t 31), (.t 33), (.t 34)], (some (30, true))⟩,
    ⟨(some 36), .pick (.t 30) (.t 35) (.c (.b false)), none⟩,
    ⟨(some 37), .mv (.t 36), none⟩,
    ⟨(some 38), .ld true 4 (.t 1), (some (37, true))⟩,
    ⟨(some 39), .callQ f_touchstonelaw05_lit [(.c (.s [99]))], (some (37, true))⟩,
    ⟨(some 40), .callQ f_touchstonelaw05_par [(.c (.s [121]))], (some (37, true))⟩,
    ⟨(some 41), .bsl 3 [(.t 39), (.t 40)], (some (37, true))⟩,
    ⟨(some 42), .bsl 1 [(.c (.s [99]))], (some (37, true))⟩,
    ⟨(some 43), .callQ f_touchstonelaw05_fields [(.t 38), (.t 41), (.t 42)], (some (37, true))⟩,
    ⟨(some 44), .pick (.t 37) (.t 43) (.c (.b false)), none⟩,
    ⟨(some 45), .mv (.t 44), none⟩,
    ⟨(some 46), .ld true 4 (.t 1), (some (45, true))⟩,
    ⟨(some 47), .callQ f_touchstonelaw05_lit [(.c (.s [99]))], (some (45, true))⟩,
    ⟨(some 48), .callQ f_touchstonelaw05_par [(.c (.s [120]))], (some (45, true))⟩,
    ⟨(some 49), .bsl 3 [(.t 47), (.t 48)], (some (45, true))⟩,
    ⟨(some 50), .callQ f_expand_Text [(.t 46), (.t 49)], (some (45, true))⟩,
    ⟨(some 51), .bin .eql (.t 50) (.c (.s [99, 97, 32, 32, 98, 32])), (some (45, true))⟩,
    ⟨(some 52), .pick (.t 45) (.t 51) (.c (.b false)), none⟩,
    ⟨(some 53), .mv (.t 52), none⟩,
    ⟨(some 54), .ld true 4 (.t 1), (some (53, true))⟩,
    ⟨(some 55), .callQ f_expand_Value [(.t 54), (.c (.s [35]))], (some (53, true))⟩,
    ⟨(some 56), .bin .eql (.t 55) (.c (.s [50])), (some (53, true))⟩,
    ⟨(some 57), .pick (.t 53) (.t 56) (.c (.b false)), none⟩,
    ⟨(some 58), .mv (.t 57), none⟩,
    ⟨(some 59), .ld true 4 (.t 1), (some (58, true))⟩,
    ⟨(some 60), .callQ f_expand_Value [(.t 59), (.c (.s [51]))], (some (58, true))⟩,
    ⟨(some 61), .bin .eql (.t 60) (.c (.s [])), (some (58, true))⟩,
    ⟨(some 62), .pick (.t 58) (.t 61) (.c (.b false)), none⟩,
    ⟨(some 0), .mv (.t 62), none⟩] [(0, (0, 2)), (6, (6, 8)), (13, (13, 17)), (22, (22, 24)), (28, (28, 30)), (35, (35, 38)), (43, (43, 46))])
  .ret))) }
def c_touchstonelaw05_vars : Fun := { cin := [.id], cout := [(.agg [(.sl 1 .id), (.sl 1 .id), (.sl 1 .id), .id])], ntmps := 8, keep := false, res := [(2, some (true, 4))], body :=
  (.seq (.reg [⟨(some 2), .alloc 33 [.nsl, .nsl, .nsl, (.i .i64 0)], none⟩])
  (.seq (.reg [⟨(some 3), .bsl 1 [(.c (.s [120]))], none⟩,
    ⟨(some 4), .mv (.t 0), none⟩,
    ⟨(some 5), .bsl 1 [(.t 4)], none⟩,
    ⟨(some 6), .bsl 1 [(.c (.s [111, 110, 101])), (.c (.s [116, 119, 111]))], none⟩,
    ⟨(some 7), .build [.nsl, .nsl, .nsl, (.i .i64 0)] [(0, 1, (.t 3)), (1, 1, (.t 5)), (2, 1, (.t 6))], none⟩,
    ⟨none, .st 4 (.t 2) (.t 7), none⟩])
  .ret)) }
def c_touchstonelaw05_fields : Fun := { cin := [(.agg [(.sl 1 .id), (.sl 1 .id), (.sl 1 .id), .id]), (.sl 3 (.agg [.id, .id, .id])), (.sl 1 .id)], cout := [.id], ntmps := 12, keep := false, res := [(6, none)], body :=
  (.seq (.reg [⟨(some 3), .box 33 4 (.t 0), none⟩,
    ⟨(some 6), .mv (.c (.b false)), none⟩])
  (.seq (.reg [⟨(some 7), .ld true 4 (.t 3), none⟩,
    ⟨(some 8), .mv (.t 1), none⟩,
    ⟨(some 9), .call f_expand_Fields [(.t 7), (.t 8)], none⟩,
    ⟨(some 10), .mv (.t 2), none⟩,
    ⟨(some 11), .call f_touchstonelaw05_same [(.t 9), (.t 10)], none⟩,
    ⟨(some 6), .mv (.t 11), none⟩])
  .ret)) }
def c_touchstonelaw05_lit : Fun := { cin := [.id], cout := [(.agg [.id, .id, .id])], ntmps := 5, keep := false, res := [(2, some (true, 3))], body :=
  (.seq (.reg [⟨(some 2), .alloc 37 [(.b false), (.s []), (.b false)], none⟩])
  (.seq (.reg [⟨(some 3), .mv (.t 0), none⟩,
    ⟨(some 4), .build [(.b false), (.s []), (.b false)] [(1, 1, (.t 3))], none⟩,
    ⟨none, .st 3 (.t 2) (.t 4), none⟩])
  .ret)) }
def c_touchstonelaw05_par : Fun := { cin := [.id], cout := [(.agg [.id, .id, .id])], ntmps := 5, keep := false, res := [(2, some (true, 3))], body :=
  (.seq (.reg [⟨(some 2), .alloc 37 [(.b false), (.s []), (.b false)], none⟩])
  (.seq (.reg [⟨(some 3), .mv (.t 0), none⟩,
    ⟨(some 4), .build [(.b false), (.s []), (.b false)] [(0, 1, (.c (.b true))), (1, 1, (.t 3))], none⟩,
    ⟨none, .st 3 (.t 2) (.t 4), none⟩])
  .ret)) }
def c_touchstonelaw05_quo : Fun := { cin := [.id], cout := [(.agg [.id, .id, .id])], ntmps := 5, keep := false, res := [(2, some (true, 3))], body :=
  (.seq (.reg [⟨(some 2), .alloc 37 [(.b false), (.s []), (.b false)], none⟩])
  (.seq (.reg [⟨(some 3), .mv (.t 0), none⟩,
    ⟨(some 4), .build [(.b false), (.s []), (.b false)] [(1, 1, (.t 3)), (2, 1, (.c (.b true)))], none⟩,
    ⟨none, .st 3 (.t 2) (.t 4), none⟩])
  .ret)) }
def c_touchstonelaw05_qpar : Fun := { cin := [.id], cout := [(.agg [.id, .id, .id])], ntmps := 5, keep := false, res := [(2, some (true, 3))], body :=
  (.seq (.reg [⟨(some 2), .alloc 37 [(.b false), (.s []), (.b false)], none⟩])
  (.seq (.reg [⟨(some 3), .mv (.t 0), none⟩,
    ⟨(some 4), .build [(.b false), (.s []), (.b false)] [(0, 1, (.c (.b true))), (1, 1, (.t 3)), (2, 1, (.c (.b true)))], none⟩,
    ⟨none, .st 3 (.t 2) (.t 4), none⟩])
  .ret)) }
def c_expand_Value : Fun := { cin := [(.agg [(.sl 1 .id), (.sl 1 .id), (.sl 1 .id), .id]), .id], cout := [.id], ntmps := 66, keep := false, res := [(4, none)], body :=
  (.seq (.reg [⟨(some 2), .box 33 4 (.t 0), none⟩,
    ⟨(some 4), .mv (.c (.s [])), none⟩])
  (.seq (.blk 0 (.seq (.reg [⟨(some 8), .mv (.t 1), none⟩,
     ⟨(some 9), .bin .eql (.t 8) (.c (.s [35])), none⟩,
     ⟨(some 7), .mv (.t 9), none⟩])
   (.cond (.t 7)
    (.seq (.reg [⟨(some 10), .fa 2 (.t 2), none⟩,
      ⟨(some 11), .ld false 1 (.t 10), none⟩,
      ⟨(some 12), .len 1 (.t 11), none⟩,
      ⟨(some 13), .call f_strconv_Itoa [(.t 12)], none⟩,
      ⟨(some 4), .mv (.t 13), none⟩])
    .ret)
    (.seq (.reg [⟨(some 15), .mv (.t 1), none⟩,
      ⟨(some 16), .bin .eql (.t 15) (.c (.s [63])), none⟩,
      ⟨(some 14), .mv (.t 16), none⟩])
    (.cond (.t 14)
     (.seq (.reg [⟨(some 17), .fa 3 (.t 2), none⟩,
       ⟨(some 18), .ld false 1 (.t 17), none⟩,
       ⟨(some 19), .call f_strconv_Itoa [(.t 18)], none⟩,
       ⟨(some 4), .mv (.t 19), none⟩])
     .ret)
     (.seq (.reg [⟨(some 21), .mv (.t 1), none⟩,
       ⟨(some 22), .len 0 (.t 21), none⟩,
       ⟨(some 23), .bin .eql (.t 22) (.c (.i .i64 1)), none⟩,
       ⟨(some 24), .mv (.t 23), none⟩,
       ⟨(some 25), .mv (.t 1), (some (24, true))⟩,
       ⟨(some 26), .ixS (.t 25) (.c (.i .i64 0)), (some (24, true))⟩,
       ⟨(some 27), .bin .geq (.t 26) (.c (.i .u8 49)), (some (24, true))⟩,
       ⟨(some 28), .pick (.t 24) (.t 27) (.c (.b false)), none⟩,
       ⟨(some 29), .mv (.t 28), none⟩,
       ⟨(some 30), .mv (.t 1), (some (29, true))⟩,
       ⟨(some 31), .ixS (.t 30) (.c (.i .i64 0)), (some (29, true))⟩,
       ⟨(some 32), .bin .leq (.t 31) (.c (.i .u8 57)), (some (29, true))⟩,
       ⟨(some 33), .pick (.t 29) (.t 32) (.c (.b false)), none⟩,
       ⟨(some 20), .mv (.t 33), none⟩])
     (.cond (.t 20)
      (.seq (.seq (.reg [⟨(some 34), .mv (.t 1), none⟩,
        ⟨(some 35), .ixS (.t 34) (.c (.i .i64 0)), none⟩,
        ⟨(some 36), .bin .sub (.t 35) (.c (.i .u8 49)), none⟩,
        ⟨(some 37), .cvI .i64 (.t 36), none⟩,
        ⟨(some 5), .mv (.t 37), none⟩])
      (.seq (.reg [⟨(some 38), .mv (.t 5), none⟩,
        ⟨(some 39), .fa 2 (.t 2), none⟩,
        ⟨(some 40), .ld false 1 (.t 39), none⟩,
        ⟨(some 41), .len 1 (.t 40), none⟩,
        ⟨(some 42), .bin .lss (.t 38) (.t 41), none⟩])
      (.cond (.t 42)
       (.seq (.reg [⟨(some 43), .fa 2 (.t 2), none⟩,
         ⟨(some 44), .ld false 1 (.t 43), none⟩,
         ⟨(some 45), .mv (.t 5), none⟩,
         ⟨(some 46), .ia 1 (.t 44) (.t 45), none⟩,
         ⟨(some 47), .ld false 1 (.t 46), none⟩,
         ⟨(some 4), .mv (.t 47), none⟩])
       .ret)
       .skip)))
      (.seq (.reg [⟨(some 4), .mv (.c (.s [])), none⟩])
      .ret))
      .skip)))))))
  (.seq (.seq (.reg [⟨(some 48), .fa 0 (.t 2), none⟩,
    ⟨(some 49), .ld false 1 (.t 48), none⟩,
    ⟨(some 50), .mv (.t 1), none⟩,
    ⟨(some 51), .call f_slices_Index_string_string [(.t 49), (.t 50)], none⟩,
    ⟨(some 6), .mv (.t 51), none⟩])
  (.seq (.reg [⟨(some 52), .mv (.t 6), none⟩,
    ⟨(some 53), .bin .geq (.t 52) (.c (.i .i64 0)), none⟩,
    ⟨(some 54), .mv (.t 53), none⟩,
    ⟨(some 55), .mv (.t 6), (some (54, true))⟩,
    ⟨(some 56), .fa 1 (.t 2), (some (54, true))⟩,
    ⟨(some 57), .ld false 1 (.t 56), (some (54, true))⟩,
    ⟨(some 58), .len 1 (.t 57), (some (54, true))⟩,
    ⟨(some 59), .bin .lss (.t 55) (.t 58), (some (54, true))⟩,
    ⟨(some 60), .pick (.t 54) (.t 59) (.c (.b false)), none⟩])
  (.cond (.t 60)
   (.seq (.reg [⟨(some 61), .fa 1 (.t 2), none⟩,
     ⟨(some 62), .ld false 1 (.t 61), none⟩,
     ⟨(some 63), .mv (.t 6), none⟩,
     ⟨(some 64), .ia 1 (.t 62) (.t 63), none⟩,
     ⟨(some 65), .ld false 1 (.t 64), none⟩,
     ⟨(some 4), .mv (.t 65), none⟩])
   .ret)
   .skip)))
  (.seq (.reg [⟨(some 4), .mv (.c (.s [])), none⟩])
  .ret)))) }
def c_expand_Items : Fun := { cin := [(.agg [(.sl 1 .id), (.sl 1 .id), (.sl 1 .id), .id]), (.sl 2 (.agg [(.sl 3 (.agg [.id, .id, .id])), .id]))], cout := [(.sl 1 .id)], ntmps := 31, keep := false, res := [(4, none)], body :=
  (.seq (.reg [⟨(some 2), .box 33 4 (.t 0), none⟩,
    ⟨(some 4), .mv (.c .nsl), none⟩])
  (.seq (.reg [⟨(some 5), .mv (.c .nsl), none⟩])
  (.seq (.seq (.reg [⟨(some 8), .mv (.t 1), none⟩,
    ⟨(some 9), .len 1 (.t 8), none⟩,
    ⟨(some 10), .mv (.c (.i .i64 0)), none⟩])
  (.blk 0 (.loop (.seq (.reg [⟨(some 11), .bin .lss (.t 10) (.t 9), none⟩])
    (.seq (.cond (.t 11)
     .skip
     (.exit 0))
    (.seq (.blk 1 (.seq (.reg [⟨(some 12), .ia 2 (.t 8) (.t 10), none⟩,
       ⟨(some 13), .ld true 2 (.t 12), none⟩,
       ⟨(some 7), .alloc 43 [.nsl, (.b false)], none⟩,
       ⟨none, .st 2 (.t 7) (.t 13), none⟩])
     (.seq (.reg [⟨(some 14), .fa 1 (.t 7), none⟩,
       ⟨(some 15), .ld false 1 (.t 14), none⟩])
     (.cond (.t 15)
      (.reg [⟨(some 16), .mv (.t 5), none⟩,
        ⟨(some 17), .ld true 4 (.t 2), none⟩,
        ⟨(some 18), .fa 0 (.t 7), none⟩,
        ⟨(some 19), .ld false 1 (.t 18), none⟩,
        ⟨(some 20), .call f_expand_Fields [(.t 17), (.t 19)], none⟩,
        ⟨(some 21), .app 1 9 (.t 16) (.t 20), none⟩,
        ⟨(some 5), .mv (.t 21), none⟩])
      (.reg [⟨(some 22), .mv (.t 5), none⟩,
        ⟨(some 23), .ld true 4 (.t 2), none⟩,
        ⟨(some 24), .fa 0 (.t 7), none⟩,
        ⟨(some 25), .ld false 1 (.t 24), none⟩,
        ⟨(some 26), .call f_expand_Text [(.t 23), (.t 25)], none⟩,
        ⟨(some 27), .bsl 1 [(.t 26)], none⟩,
        ⟨(some 28), .app 1 9 (.t 22) (.t 27), none⟩,
        ⟨(some 5), .mv (.t 28), none⟩])))))
    (.reg [⟨(some 29), .bin .add (.t 10) (.c (.i .i64 1)), none⟩,
      ⟨(some 10), .mv (.t 29), none⟩])))))))
  (.seq (.reg [⟨(some 30), .mv (.t 5), none⟩,
    ⟨(some 4), .mv (.t 30), none⟩])
  .ret)))) }
def c_touchstonelaw05_same : Fun := { cin := [(.sl 1 .id), (.sl 1 .id)], cout := [.id], ntmps := 26, keep := false, res := [(4, none)], body :=
  (.seq (.reg [⟨(some 4), .mv (.c (.b false)), none⟩])
  (.seq (.seq (.reg [⟨(some 6), .mv (.t 0), none⟩,
    ⟨(some 7), .len 1 (.t 6), none⟩,
    ⟨(some 8), .mv (.t 1), none⟩,
    ⟨(some 9), .len 1 (.t 8), none⟩,
    ⟨(some 10), .bin .neq (.t 7) (.t 9), none⟩])
  (.cond (.t 10)
   (.seq (.reg [⟨(some 4), .mv (.c (.b false)), none⟩])
   .ret)
   .skip))
  (.seq (.seq (.reg [⟨(some 5), .mv (.c (.i .i64 0)), none⟩])
  (.blk 0 (.loop (.seq (.seq (.reg [⟨(some 11), .mv (.t 5), none⟩,
      ⟨(some 12), .mv (.t 0), none⟩,
      ⟨(some 13), .len 1 (.t 12), none⟩,
      ⟨(some 14), .bin .lss (.t 11) (.t 13), none⟩])
    (.cond (.t 14)
     .skip
     (.exit 0)))
    (.seq (.blk 1 (.seq (.regD [⟨(some 17), .mv (.t 0), none⟩,
       ⟨(some 18), .mv (.t 5), none⟩,
       ⟨(some 19), .ia 1 (.t 17) (.t 18), none⟩,
       ⟨(some 20), .ld false 1 (.t 19), none⟩,
       ⟨(some 21), .mv (.t 1), none⟩,
       ⟨(some 22), .mv (.t 5), none⟩,
       ⟨(some 23), .ia 1 (.t 21) (.t 22), none⟩,
       ⟨(some 24), .ld false 1 (.t 23), none⟩,
       ⟨(some 25), .bin .neq (.t 20) (.t 24), none⟩] [])
     (.cond (.t 25)
      (.seq (.reg [⟨(some 4), .mv (.c (.b false)), none⟩])
      .ret)
      .skip)))
    (.reg [⟨(some 15), .mv (.t 5), none⟩,
      ⟨(some 16), .bin .add (.t 15) (.c (.i .i64 1)), none⟩,
      ⟨(some 5), .mv (.t 16), none⟩]))))))
  (.seq (.reg [⟨(some 4), .mv (.c (.b true)), none⟩])
  .ret)))) }
def c_expand_Set : Fun := { cin := [(.agg [(.sl 1 .id), (.sl 1 .id), (.sl 1 .id), .id]), .id, .id], cout := [(.agg [(.sl 1 .id), (.sl 1 .id), (.sl 1 .id), .id]), .id], ntmps := 77, keep := false, res := [(6, some (true, 4)), (7, none)], body :=
  (.seq (.reg [⟨(some 3), .box 33 4 (.t 0), none⟩,
    ⟨(some 6), .alloc 33 [.nsl, .nsl, .nsl, (.i .i64 0)], none⟩,
    ⟨(some 7), .mv (.c (.i .i64 0)), none⟩])
  (.seq (.blk 0 (.seq (.reg [⟨(some 15), .mv (.t 1), none⟩,
     ⟨(some 16), .call f_expand_isName [(.t 15)], none⟩,
     ⟨(some 17), .un .not (.t 16), none⟩,
     ⟨(some 14), .mv (.t 17), none⟩])
   (.cond (.t 14)
    (.seq (.reg [⟨(some 18), .build [.nsl, .nsl, .nsl, (.i .i64 0)] [], none⟩,
      ⟨none, .st 4 (.t 6) (.t 18), none⟩,
      ⟨(some 7), .mv (.c (.i .i64 1)), none⟩])
    .ret)
    (.seq (.reg [⟨(some 20), .mv (.t 2), none⟩,
      ⟨(some 21), .len 0 (.t 20), none⟩,
      ⟨(some 22), .bin .gtr (.t 21) (.c (.i .i64 1024)), none⟩,
      ⟨(some 19), .mv (.t 22), none⟩])
    (.cond (.t 19)
     (.seq (.reg [⟨(some 23), .build [.nsl, .nsl, .nsl, (.i .i64 0)] [], none⟩,
       ⟨none, .st 4 (.t 6) (.t 23), none⟩,
       ⟨(some 7), .mv (.c (.i .i64 40)), none⟩])
     .ret)
     .skip)))))
  (.seq (.regD [⟨(some 24), .fa 2 (.t 3), none⟩,
    ⟨(some 25), .ld false 1 (.t 24), none⟩,
    ⟨(some 26), .callQ f_slices_Clone_string_string [(.t 25)], none⟩,
    ⟨(some 27), .fa 3 (.t 3), none⟩,
    ⟨(some 28), .ld false 1 (.t 27), none⟩,
    ⟨(some 29), .build [.nsl, .nsl, .nsl, (.i .i64 0)] [(2, 1, (.t 26)), (3, 1, (.t 28))], none⟩,
    ⟨none, .mv (.c (.tup [])), none⟩,
    ⟨(some 8), .adp 33 [.nsl, .nsl, .nsl, (.i .i64 0)] 4 (.t 29), none⟩] [(4, (2, 4))])
  (.seq (.reg [⟨(some 30), .fa 0 (.t 3), none⟩,
    ⟨(some 31), .ld false 1 (.t 30), none⟩,
    ⟨(some 32), .call f_slices_Clone_string_string [(.t 31)], none⟩,
    ⟨(some 33), .mv (.t 1), none⟩,
    ⟨(some 34), .bsl 1 [(.t 33)], none⟩,
    ⟨(some 35), .app 1 9 (.t 32) (.t 34), none⟩,
    ⟨(some 9), .mv (.t 35), none⟩])
  (.seq (.seq (.thw 9)
  (.reg [⟨(some 36), .mv (.t 9), none⟩,
    ⟨(some 37), .call f_slices_Sort_string_string [(.t 36)], none⟩]))
  (.seq (.seq (.seq (.thw 9)
  (.reg [⟨(some 38), .mv (.t 9), none⟩,
    ⟨(some 39), .call f_slices_Compact_string_string [(.t 38)], none⟩,
    ⟨(some 40), .len 1 (.t 39), none⟩,
    ⟨(some 41), .mv (.c (.i .i64 0)), none⟩]))
  (.blk 1 (.loop (.seq (.reg [⟨(some 42), .bin .lss (.t 41) (.t 40), none⟩])
    (.seq (.cond (.t 42)
     .skip
     (.exit 1))
    (.seq (.blk 2 (.seq (.reg [⟨(some 43), .ia 1 (.t 39) (.t 41), none⟩,
       ⟨(some 44), .ld false 1 (.t 43), none⟩,
       ⟨(some 11), .mv (.t 44), none⟩])
     (.seq (.reg [⟨(some 45), .mv (.t 2), none⟩,
       ⟨(some 12), .mv (.t 45), none⟩])
     (.seq (.seq (.reg [⟨(some 46), .mv (.t 11), none⟩,
       ⟨(some 47), .mv (.t 1), none⟩,
       ⟨(some 48), .bin .neq (.t 46) (.t 47), none⟩])
     (.cond (.t 48)
      (.seq (.reg [⟨(some 12), .mv (.c (.s [])), none⟩])
      (.seq (.reg [⟨(some 49), .fa 0 (.t 3), none⟩,
        ⟨(some 50), .ld false 1 (.t 49), none⟩,
        ⟨(some 51), .mv (.t 11), none⟩,
        ⟨(some 52), .call f_slices_Index_string_string [(.t 50), (.t 51)], none⟩,
        ⟨(some 13), .mv (.t 52), none⟩])
      (.seq (.reg [⟨(some 53), .mv (.t 13), none⟩,
        ⟨(some 54), .fa 1 (.t 3), none⟩,
        ⟨(some 55), .ld false 1 (.t 54), none⟩,
        ⟨(some 56), .len 1 (.t 55), none⟩,
        ⟨(some 57), .bin .lss (.t 53) (.t 56), none⟩])
      (.cond (.t 57)
       (.reg [⟨(some 58), .fa 1 (.t 3), none⟩,
         ⟨(some 59), .ld false 1 (.t 58), none⟩,
         ⟨(some 60), .mv (.t 13), none⟩,
         ⟨(some 61), .ia 1 (.t 59) (.t 60), none⟩,
         ⟨(some 62), .ld false 1 (.t 61), none⟩,
         ⟨(some 12), .mv (.t 62), none⟩])
       .skip))))
      .skip))
     (.regD [⟨(some 63), .fa 0 (.t 8), none⟩,
       ⟨(some 64), .ld false 1 (.t 63), none⟩,
       ⟨(some 65), .mv (.t 11), none⟩,
       ⟨(some 66), .bsl 1 [(.t 65)], none⟩,
       ⟨(some 67), .app 1 9 (.t 64) (.t 66), none⟩,
       ⟨(some 68), .fa 1 (.t 8), none⟩,
       ⟨(some 69), .ld false 1 (.t 68), none⟩,
       ⟨(some 70), .mv (.t 12), none⟩,
       ⟨(some 71), .bsl 1 [(.t 70)], none⟩,
       ⟨(some 72), .app 1 9 (.t 69) (.t 71), none⟩,
       ⟨(some 73), .fa 0 (.t 8), none⟩,
       ⟨none, .st 1 (.t 73) (.t 67), none⟩,
       ⟨(some 74), .fa 1 (.t 8), none⟩,
       ⟨none, .st 1 (.t 74) (.t 72), none⟩] [(6, (4, 6))])))))
    (.reg [⟨(some 75), .bin .add (.t 41) (.c (.i .i64 1)), none⟩,
      ⟨(some 41), .mv (.t 75), none⟩])))))))
  (.seq (.reg [⟨(some 76), .ld true 4 (.t 8), none⟩,
    ⟨none, .st 4 (.t 6) (.t 76), none⟩,
    ⟨(some 7), .mv (.c (.i .i64 0)), none⟩])
  .ret))))))) }
def c_touchstonelaw05_many : Fun := { cin := [.id], cout := [.id], ntmps := 17, keep := false, res := [(2, none)], body :=
  (.seq (.reg [⟨(some 2), .mv (.c (.s [])), none⟩])
  (.seq (.reg [⟨(some 5), .mv (.t 0), none⟩,
    ⟨(some 6), .mks 5 1 [(.i .u8 0)] (.t 5) (.t 5), none⟩,
    ⟨(some 3), .mv (.t 6), none⟩])
  (.seq (.seq (.reg [⟨(some 4), .mv (.c (.i .i64 0)), none⟩])
  (.blk 0 (.loop (.seq (.seq (.reg [⟨(some 7), .mv (.t 4), none⟩,
      ⟨(some 8), .mv (.t 0), none⟩,
      ⟨(some 9), .bin .lss (.t 7) (.t 8), none⟩])
    (.cond (.t 9)
     .skip
     (.exit 0)))
    (.seq (.blk 1 (.seq (.thw 3)
     (.reg [⟨(some 12), .mv (.t 3), none⟩,
       ⟨(some 13), .mv (.t 4), none⟩,
       ⟨(some 14), .ia 1 (.t 12) (.t 13), none⟩,
       ⟨none, .st 1 (.t 14) (.c (.i .u8 97)), none⟩])))
    (.reg [⟨(some 10), .mv (.t 4), none⟩,
      ⟨(some 11), .bin .add (.t 10) (.c (.i .i64 1)), none⟩,
      ⟨(some 4), .mv (.t 11), none⟩]))))))
  (.seq (.reg [⟨(some 15), .mv (.t 3), none⟩,
    ⟨(some 16), .cvBS (.t 15), none⟩,
    ⟨(some 2), .mv (.t 16), none⟩])
  .ret)))) }
def c_expand_Text : Fun := { cin := [(.agg [(.sl 1 .id), (.sl 1 .id), (.sl 1 .id), .id]), (.sl 3 (.agg [.id, .id, .id]))], cout := [.id], ntmps := 23, keep := false, res := [(4, none)], body :=
  (.seq (.reg [⟨(some 2), .box 33 4 (.t 0), none⟩,
    ⟨(some 4), .mv (.c (.s [])), none⟩])
  (.seq (.reg [⟨(some 9), .ld true 4 (.t 2), none⟩,
    ⟨(some 10), .call f_expand_values [(.t 9)], none⟩,
    ⟨(some 5), .mv (.t 10), none⟩])
  (.seq (.reg [⟨(some 6), .alloc 74 [.np, .nsl], none⟩])
  (.seq (.seq (.reg [⟨(some 11), .mv (.t 1), none⟩,
    ⟨(some 12), .len 1 (.t 11), none⟩,
    ⟨(some 13), .mv (.c (.i .i64 0)), none⟩])
  (.blk 0 (.loop (.seq (.reg [⟨(some 14), .bin .lss (.t 13) (.t 12), none⟩])
    (.seq (.cond (.t 14)
     .skip
     (.exit 0))
    (.seq (.blk 1 (.seq (.reg [⟨(some 15), .ia 3 (.t 11) (.t 13), none⟩,
       ⟨(some 16), .ld true 3 (.t 15), none⟩,
       ⟨(some 8), .alloc 37 [(.b false), (.s []), (.b false)], none⟩,
       ⟨none, .st 3 (.t 8) (.t 16), none⟩])
     (.reg [⟨(some 17), .mv (.t 5), none⟩,
       ⟨(some 18), .ld true 3 (.t 8), none⟩,
       ⟨(some 19), .callX (.t 17) [(.t 18)], none⟩,
       ⟨(some 20), .call f_strings_Builder_WriteString [(.t 6), (.t 19)], none⟩])))
    (.reg [⟨(some 21), .bin .add (.t 13) (.c (.i .i64 1)), none⟩,
      ⟨(some 13), .mv (.t 21), none⟩])))))))
  (.seq (.reg [⟨(some 22), .call f_strings_Builder_String [(.t 6)], none⟩,
    ⟨(some 4), .mv (.t 22), none⟩])
  .ret))))) }
def c_expand_Fields : Fun := { cin := [(.agg [(.sl 1 .id), (.sl 1 .id), (.sl 1 .id), .id]), (.sl 3 (.agg [.id, .id, .id]))], cout := [(.sl 1 .id)], ntmps := 51, keep := false, res := [(4, none)], body :=
  (.seq (.reg [⟨(some 2), .box 33 4 (.t 0), none⟩,
    ⟨(some 4), .mv (.c .nsl), none⟩])
  (.seq (.reg [⟨(some 10), .ld true 4 (.t 2), none⟩,
    ⟨(some 11), .call f_expand_values [(.t 10)], none⟩,
    ⟨(some 5), .mv (.t 11), none⟩])
  (.seq (.reg [⟨(some 12), .build [.nsl, .nsl, (.b false)] [], none⟩,
    ⟨(some 13), .box 91 3 (.t 12), none⟩,
    ⟨(some 6), .mv (.t 13), none⟩])
  (.seq (.seq (.reg [⟨(some 14), .mv (.t 1), none⟩,
    ⟨(some 15), .len 1 (.t 14), none⟩,
    ⟨(some 16), .mv (.c (.i .i64 0)), none⟩])
  (.blk 0 (.loop (.seq (.reg [⟨(some 17), .bin .lss (.t 16) (.t 15), none⟩])
    (.seq (.cond (.t 17)
     .skip
     (.exit 0))
    (.seq (.blk 1 (.seq (.reg [⟨(some 18), .ia 3 (.t 14) (.t 16), none⟩,
       ⟨(some 19), .ld true 3 (.t 18), none⟩,
       ⟨(some 8), .alloc 37 [(.b false), (.s []), (.b false)], none⟩,
       ⟨none, .st 3 (.t 8) (.t 19), none⟩])
     (.seq (.reg [⟨(some 20), .mv (.t 5), none⟩,
       ⟨(some 21), .ld true 3 (.t 8), none⟩,
       ⟨(some 22), .callX (.t 20) [(.t 21)], none⟩,
       ⟨(some 9), .mv (.t 22), none⟩])
     (.blk 2 (.seq (.reg [⟨(some 24), .fa 0 (.t 8), none⟩,
        ⟨(some 25), .ld false 1 (.t 24), none⟩,
        ⟨(some 26), .mv (.t 25), none⟩,
        ⟨(some 27), .fa 2 (.t 8), (some (26, true))⟩,
        ⟨(some 28), .ld false 1 (.t 27), (some (26, true))⟩,
        ⟨(some 29), .un .not (.t 28), (some (26, true))⟩,
        ⟨(some 30), .pick (.t 26) (.t 29) (.c (.b false)), none⟩,
        ⟨(some 23), .mv (.t 30), none⟩])
      (.cond (.t 23)
       (.reg [⟨(some 31), .mv (.t 6), none⟩,
         ⟨(some 32), .mv (.t 9), none⟩,
         ⟨(some 33), .call f_expand_builder_split [(.t 31), (.t 32)], none⟩])
       (.seq (.reg [⟨(some 35), .fa 2 (.t 8), none⟩,
         ⟨(some 36), .ld false 1 (.t 35), none⟩,
         ⟨(some 37), .mv (.t 36), none⟩,
         ⟨(some 38), .mv (.t 9), (some (37, false))⟩,
         ⟨(some 39), .bin .neq (.t 38) (.c (.s [])), (some (37, false))⟩,
         ⟨(some 40), .pick (.t 37) (.c (.b true)) (.t 39), none⟩,
         ⟨(some 34), .mv (.t 40), none⟩])
       (.cond (.t 34)
        (.reg [⟨(some 41), .mv (.t 6), none⟩,
          ⟨(some 42), .mv (.t 9), none⟩,
          ⟨(some 43), .call f_expand_builder_add [(.t 41), (.t 42)], none⟩])
        .skip))))))))
    (.reg [⟨(some 44), .bin .add (.t 16) (.c (.i .i64 1)), none⟩,
      ⟨(some 16), .mv (.t 44), none⟩])))))))
  (.seq (.reg [⟨(some 45), .mv (.t 6), none⟩,
    ⟨(some 46), .call f_expand_builder_end [(.t 45)], none⟩])
  (.seq (.reg [⟨(some 47), .mv (.t 6), none⟩,
    ⟨(some 48), .nck (.t 47), none⟩,
    ⟨(some 49), .fa 0 (.t 48), none⟩,
    ⟨(some 50), .ld false 1 (.t 49), none⟩,
    ⟨(some 4), .mv (.t 50), none⟩])
  .ret)))))) }
def c_strconv_Itoa : Fun := { cin := [.id], cout := [.id], ntmps := 5, keep := false, res := [(2, none)], body :=
  (.seq (.reg [⟨(some 2), .mv (.c (.s [])), none⟩])
  (.seq (.reg [⟨(some 3), .mv (.t 0), none⟩,
    ⟨(some 4), .call f_internal_strconv_Itoa [(.t 3)], none⟩,
    ⟨(some 2), .mv (.t 4), none⟩])
  .ret)) }
def c_slices_Index_string_string : Fun := { cin := [(.sl 1 .id), .id], cout := [.id], ntmps := 19, keep := false, res := [(4, none)], body :=
  (.seq (.reg [⟨(some 4), .mv (.c (.i .i64 0)), none⟩])
  (.seq (.seq (.reg [⟨(some 6), .mv (.t 0), none⟩,
    ⟨(some 7), .len 1 (.t 6), none⟩,
    ⟨(some 8), .mv (.c (.i .i64 0)), none⟩])
  (.blk 0 (.loop (.seq (.reg [⟨(some 9), .bin .lss (.t 8) (.t 7), none⟩])
    (.seq (.cond (.t 9)
     .skip
     (.exit 0))
    (.seq (.blk 1 (.seq (.reg [⟨(some 10), .mv (.t 8), none⟩,
       ⟨(some 5), .mv (.t 10), none⟩])
     (.seq (.reg [⟨(some 11), .mv (.t 1), none⟩,
       ⟨(some 12), .mv (.t 0), none⟩,
       ⟨(some 13), .mv (.t 5), none⟩,
       ⟨(some 14), .ia 1 (.t 12) (.t 13), none⟩,
       ⟨(some 15), .ld false 1 (.t 14), none⟩,
       ⟨(some 16), .bin .eql (.t 11) (.t 15), none⟩])
     (.cond (.t 16)
      (.seq (.reg [⟨(some 17), .mv (.t 5), none⟩,
        ⟨(some 4), .mv (.t 17), none⟩])
      .ret)
      .skip))))
    (.reg [⟨(some 18), .bin .add (.t 8) (.c (.i .i64 1)), none⟩,
      ⟨(some 8), .mv (.t 18), none⟩])))))))
  (.seq (.reg [⟨(some 4), .mv (.c (.i .i64 (-1))), none⟩])
  .ret))) }
def c_expand_isName : Fun := { cin := [.id], cout := [.id], ntmps := 23, keep := false, res := [(2, none)], body :=
  (.seq (.reg [⟨(some 2), .mv (.c (.b false)), none⟩])
  (.seq (.reg [⟨(some 3), .mv (.t 0), none⟩,
    ⟨(some 4), .call f_word_Param [(.t 3)], none⟩,
    ⟨(some 5), .mv (.t 4), none⟩,
    ⟨(some 6), .mv (.t 0), (some (5, true))⟩,
    ⟨(some 7), .bin .neq (.t 6) (.c (.s [35])), (some (5, true))⟩,
    ⟨(some 8), .pick (.t 5) (.t 7) (.c (.b false)), none⟩,
    ⟨(some 9), .mv (.t 8), none⟩,
    ⟨(some 10), .mv (.t 0), (some (9, true))⟩,
    ⟨(some 11), .bin .neq (.t 10) (.c (.s [63])), (some (9, true))⟩,
    ⟨(some 12), .pick (.t 9) (.t 11) (.c (.b false)), none⟩,
    ⟨(some 13), .mv (.t 12), none⟩,
    ⟨(some 14), .mv (.t 0), (some (13, true))⟩,
    ⟨(some 15), .ixS (.t 14) (.c (.i .i64 0)), (some (13, true))⟩,
    ⟨(some 16), .bin .lss (.t 15) (.c (.i .u8 48)), (some (13, true))⟩,
    ⟨(some 17), .mv (.t 16), (some (13, true))⟩,
    ⟨(some 18), .mv (.t 0), (some (17, false))⟩,
    ⟨(some 19), .ixS (.t 18) (.c (.i .i64 0)), (some (17, false))⟩,
    ⟨(some 20), .bin .gtr (.t 19) (.c (.i .u8 57)), (some (17, false))⟩,
    ⟨(some 21), .pick (.t 17) (.c (.b true)) (.t 20), (some (13, true))⟩,
    ⟨(some 22), .pick (.t 13) (.t 21) (.c (.b false)), none⟩,
    ⟨(some 2), .mv (.t 22), none⟩])
  .ret)) }
def c_slices_Clone_string_string : Fun := { cin := [(.sl 1 .id)], cout := [], ntmps := 8, keep := true, res := [(2, none)], body :=
  (.seq (.reg [⟨(some 2), .mv (.c .nsl), none⟩])
  (.seq (.seq (.reg [⟨(some 3), .mv (.t 0), none⟩,
    ⟨(some 4), .eq .sl false (.t 3) (.c .nsl), none⟩])
  (.cond (.t 4)
   (.seq (.reg [⟨(some 2), .mv (.c .nsl), none⟩])
   .ret)
   .skip))
  (.seq (.reg [⟨(some 5), .bsl 1 [], none⟩,
    ⟨(some 6), .mv (.t 0), none⟩,
    ⟨(some 7), .app 1 9 (.t 5) (.t 6), none⟩,
    ⟨(some 2), .mv (.t 7), none⟩])
  .ret))) }
def c_slices_Sort_string_string : Fun := { cin := [(.sl 1 .id)], cout := [], ntmps := 11, keep := false, res := [], body :=
  (.seq (.reg [⟨(some 3), .mv (.t 0), none⟩,
    ⟨(some 4), .len 1 (.t 3), none⟩,
    ⟨(some 2), .mv (.t 4), none⟩])
  (.reg [⟨(some 5), .mv (.t 0), none⟩,
    ⟨(some 6), .mv (.t 2), none⟩,
    ⟨(some 7), .mv (.t 2), none⟩,
    ⟨(some 8), .cvI .u64 (.t 7), none⟩,
    ⟨(some 9), .call f_math_bits_Len [(.t 8)], none⟩,
    ⟨(some 10), .call f_slices_pdqsortOrdered_string [(.t 5), (.c (.i .i64 0)), (.t 6), (.t 9)], none⟩])) }
def c_slices_Compact_string_string : Fun := { cin := [(.sl 1 .id)], cout := [(.sl 1 .id)], ntmps := 61, keep := false, res := [(2, none)], body :=
  (.seq (.reg [⟨(some 2), .mv (.c .nsl), none⟩])
  (.seq (.seq (.reg [⟨(some 6), .mv (.t 0), none⟩,
    ⟨(some 7), .len 1 (.t 6), none⟩,
    ⟨(some 8), .bin .lss (.t 7) (.c (.i .i64 2)), none⟩])
  (.cond (.t 8)
   (.seq (.reg [⟨(some 9), .mv (.t 0), none⟩,
     ⟨(some 2), .mv (.t 9), none⟩])
   .ret)
   .skip))
  (.seq (.seq (.reg [⟨(some 3), .mv (.c (.i .i64 1)), none⟩])
  (.blk 0 (.loop (.seq (.seq (.reg [⟨(some 10), .mv (.t 3), none⟩,
      ⟨(some 11), .mv (.t 0), none⟩,
      ⟨(some 12), .len 1 (.t 11), none⟩,
      ⟨(some 13), .bin .lss (.t 10) (.t 12), none⟩])
    (.cond (.t 13)
     .skip
     (.exit 0)))
    (.seq (.blk 1 (.seq (.regD [⟨(some 16), .mv (.t 0), none⟩,
       ⟨(some 17), .mv (.t 3), none⟩,
       ⟨(some 18), .ia 1 (.t 16) (.t 17), none⟩,
       ⟨(some 19), .ld false 1 (.t 18), none⟩,
       ⟨(some 20), .mv (.t 0), none⟩,
       ⟨(some 21), .mv (.t 3), none⟩,
       ⟨(some 22), .bin .sub (.t 21) (.c (.i .i64 1)), none⟩,
       ⟨(some 23), .ia 1 (.t 20) (.t 22), none⟩,
       ⟨(some 24), .ld false 1 (.t 23), none⟩,
       ⟨(some 25), .bin .eql (.t 19) (.t 24), none⟩] [])
     (.cond (.t 25)
      (.seq (.reg [⟨(some 26), .mv (.t 0), none⟩,
        ⟨(some 27), .mv (.t 3), none⟩,
        ⟨(some 28), .slc false 1 (.t 26) (some (.t 27)) none none, none⟩,
        ⟨(some 4), .mv (.t 28), none⟩])
      (.seq (.seq (.reg [⟨(some 5), .mv (.c (.i .i64 1)), none⟩])
      (.blk 2 (.loop (.seq (.seq (.reg [⟨(some 29), .mv (.t 5), none⟩,
          ⟨(some 30), .mv (.t 4), none⟩,
          ⟨(some 31), .len 1 (.t 30), none⟩,
          ⟨(some 32), .bin .lss (.t 29) (.t 31), none⟩])
        (.cond (.t 32)
         .skip
         (.exit 2)))
        (.seq (.blk 3 (.seq (.regD [⟨(some 35), .mv (.t 4), none⟩,
           ⟨(some 36), .mv (.t 5), none⟩,
           ⟨(some 37), .ia 1 (.t 35) (.t 36), none⟩,
           ⟨(some 38), .ld false 1 (.t 37), none⟩,
           ⟨(some 39), .mv (.t 4), none⟩,
           ⟨(some 40), .mv (.t 5), none⟩,
           ⟨(some 41), .bin .sub (.t 40) (.c (.i .i64 1)), none⟩,
           ⟨(some 42), .ia 1 (.t 39) (.t 41), none⟩,
           ⟨(some 43), .ld false 1 (.t 42), none⟩,
           ⟨(some 44), .bin .neq (.t 38) (.t 43), none⟩] [])
         (.cond (.t 44)
          (.seq (.seq (.thw 0)
          (.reg [⟨(some 45), .mv (.t 0), none⟩,
            ⟨(some 46), .mv (.t 3), none⟩,
            ⟨(some 47), .mv (.t 4), none⟩,
            ⟨(some 48), .mv (.t 5), none⟩,
            ⟨(some 49), .ia 1 (.t 47) (.t 48), none⟩,
            ⟨(some 50), .ld false 1 (.t 49), none⟩,
            ⟨(some 51), .ia 1 (.t 45) (.t 46), none⟩,
            ⟨none, .st 1 (.t 51) (.t 50), none⟩]))
          (.reg [⟨(some 52), .mv (.t 3), none⟩,
            ⟨(some 53), .bin .add (.t 52) (.c (.i .i64 1)), none⟩,
            ⟨(some 3), .mv (.t 53), none⟩]))
          .skip)))
        (.reg [⟨(some 33), .mv (.t 5), none⟩,
          ⟨(some 34), .bin .add (.t 33) (.c (.i .i64 1)), none⟩,
          ⟨(some 5), .mv (.t 34), none⟩]))))))
      (.seq (.reg [⟨(some 54), .mv (.t 0), none⟩,
        ⟨(some 55), .mv (.t 3), none⟩,
        ⟨(some 56), .slc false 1 (.t 54) (some (.t 55)) none none, none⟩,
        ⟨none, .clr 1 [(.s [])] (.t 56), none⟩])
      (.seq (.reg [⟨(some 57), .mv (.t 0), none⟩,
        ⟨(some 58), .mv (.t 3), none⟩,
        ⟨(some 59), .slc false 1 (.t 57) none (some (.t 58)) none, none⟩,
        ⟨(some 2), .mv (.t 59), none⟩])
      .ret))))
      .skip)))
    (.reg [⟨(some 14), .mv (.t 3), none⟩,
      ⟨(some 15), .bin .add (.t 14) (.c (.i .i64 1)), none⟩,
      ⟨(some 3), .mv (.t 15), none⟩]))))))
  (.seq (.reg [⟨(some 60), .mv (.t 0), none⟩,
    ⟨(some 2), .mv (.t 60), none⟩])
  .ret)))) }
def c_strings_Builder_WriteString : Fun := { cin := [.id, .id], cout := [.id, .id], ntmps := 19, keep := false, res := [(4, none), (5, none)], body :=
  (.seq (.reg [⟨(some 4), .mv (.c (.i .i64 0)), none⟩,
    ⟨(some 5), .mv (.c .ni), none⟩])
  (.seq (.reg [⟨(some 6), .mv (.t 0), none⟩,
    ⟨(some 7), .call f_strings_Builder_copyCheck [(.t 6)], none⟩])
  (.seq (.reg [⟨(some 8), .mv (.t 0), none⟩,
    ⟨(some 9), .mv (.t 0), none⟩,
    ⟨(some 10), .nck (.t 9), none⟩,
    ⟨(some 11), .fa 1 (.t 10), none⟩,
    ⟨(some 12), .ld false 1 (.t 11), none⟩,
    ⟨(some 13), .mv (.t 1), none⟩,
    ⟨(some 14), .app 1 5 (.t 12) (.t 13), none⟩,
    ⟨(some 15), .nck (.t 8), none⟩,
    ⟨(some 16), .fa 1 (.t 15), none⟩,
    ⟨none, .st 1 (.t 16) (.t 14), none⟩])
  (.seq (.reg [⟨(some 17), .mv (.t 1), none⟩,
    ⟨(some 18), .len 0 (.t 17), none⟩,
    ⟨(some 4), .mv (.t 18), none⟩,
    ⟨(some 5), .mv (.c .ni), none⟩])
  .ret)))) }
def c_strings_Builder_String : Fun := { cin := [.id], cout := [.id], ntmps := 14, keep := false, res := [(2, none)], body :=
  (.seq (.reg [⟨(some 2), .mv (.c (.s [])), none⟩])
  (.seq (.regD [⟨(some 3), .mv (.t 0), none⟩,
    ⟨(some 4), .nck (.t 3), none⟩,
    ⟨(some 5), .fa 1 (.t 4), none⟩,
    ⟨(some 6), .ld false 1 (.t 5), none⟩,
    ⟨(some 7), .ud (.t 6), none⟩,
    ⟨(some 8), .mv (.t 0), none⟩,
    ⟨(some 9), .nck (.t 8), none⟩,
    ⟨(some 10), .fa 1 (.t 9), none⟩,
    ⟨(some 11), .ld false 1 (.t 10), none⟩,
    ⟨(some 12), .len 1 (.t 11), none⟩,
    ⟨(some 13), .us 5 (.t 7) (.t 12), none⟩,
    ⟨(some 2), .mv (.t 13), none⟩] [])
  .ret)) }
def c_expand_values : Fun := { cin := [(.agg [(.sl 1 .id), (.sl 1 .id), (.sl 1 .id), .id])], cout := [.id], ntmps := 4, keep := false, res := [(2, none)], body :=
  (.seq (.reg [⟨(some 1), .box 33 4 (.t 0), none⟩,
    ⟨(some 2), .mv (.c .nf), none⟩])
  (.seq (.reg [⟨(some 3), .mkf f_expand_values_1 [(.t 1)], none⟩,
    ⟨(some 2), .mv (.t 3), none⟩])
  .ret)) }
def c_expand_builder_split : Fun := { cin := [.id, .id], cout := [], ntmps := 34, keep := false, res := [], body :=
  (.seq (.reg [⟨(some 6), .mv (.t 1), none⟩,
    ⟨(some 7), .len 0 (.t 6), none⟩,
    ⟨(some 8), .mv (.c (.i .i64 0)), none⟩])
  (.blk 0 (.loop (.seq (.reg [⟨(some 9), .bin .lss (.t 8) (.t 7), none⟩])
    (.seq (.cond (.t 9)
     .skip
     (.exit 0))
    (.seq (.blk 1 (.seq (.reg [⟨(some 10), .mv (.t 8), none⟩,
       ⟨(some 4), .mv (.t 10), none⟩])
     (.seq (.reg [⟨(some 11), .mv (.t 1), none⟩,
       ⟨(some 12), .mv (.t 4), none⟩,
       ⟨(some 13), .ixS (.t 11) (.t 12), none⟩,
       ⟨(some 5), .mv (.t 13), none⟩])
     (.seq (.reg [⟨(some 14), .mv (.t 5), none⟩,
       ⟨(some 15), .bin .eql (.t 14) (.c (.i .u8 32)), none⟩,
       ⟨(some 16), .mv (.t 15), none⟩,
       ⟨(some 17), .mv (.t 5), (some (16, false))⟩,
       ⟨(some 18), .bin .eql (.t 17) (.c (.i .u8 9)), (some (16, false))⟩,
       ⟨(some 19), .pick (.t 16) (.c (.b true)) (.t 18), none⟩,
       ⟨(some 20), .mv (.t 19), none⟩,
       ⟨(some 21), .mv (.t 5), (some (20, false))⟩,
       ⟨(some 22), .bin .eql (.t 21) (.c (.i .u8 10)), (some (20, false))⟩,
       ⟨(some 23), .pick (.t 20) (.c (.b true)) (.t 22), none⟩])
     (.cond (.t 23)
      (.reg [⟨(some 24), .mv (.t 0), none⟩,
        ⟨(some 25), .call f_expand_builder_end [(.t 24)], none⟩])
      (.reg [⟨(some 26), .mv (.t 0), none⟩,
        ⟨(some 27), .mv (.t 1), none⟩,
        ⟨(some 28), .mv (.t 4), none⟩,
        ⟨(some 29), .mv (.t 4), none⟩,
        ⟨(some 30), .bin .add (.t 29) (.c (.i .i64 1)), none⟩,
        ⟨(some 31), .slS (.t 27) (some (.t 28)) (some (.t 30)), none⟩,
        ⟨(some 32), .call f_expand_builder_add [(.t 26), (.t 31)], none⟩]))))))
    (.reg [⟨(some 33), .bin .add (.t 8) (.c (.i .i64 1)), none⟩,
      ⟨(some 8), .mv (.t 33), none⟩]))))))) }
def c_expand_builder_add : Fun := { cin := [.id, .id], cout := [], ntmps := 16, keep := false, res := [], body :=
  (.seq (.reg [⟨(some 4), .mv (.t 0), none⟩,
    ⟨(some 5), .nck (.t 4), none⟩,
    ⟨(some 6), .fa 2 (.t 5), none⟩,
    ⟨none, .st 1 (.t 6) (.c (.b true)), none⟩])
  (.reg [⟨(some 7), .mv (.t 0), none⟩,
    ⟨(some 8), .mv (.t 0), none⟩,
    ⟨(some 9), .nck (.t 8), none⟩,
    ⟨(some 10), .fa 1 (.t 9), none⟩,
    ⟨(some 11), .ld false 1 (.t 10), none⟩,
    ⟨(some 12), .mv (.t 1), none⟩,
    ⟨(some 13), .app 1 5 (.t 11) (.t 12), none⟩,
    ⟨(some 14), .nck (.t 7), none⟩,
    ⟨(some 15), .fa 1 (.t 14), none⟩,
    ⟨none, .st 1 (.t 15) (.t 13), none⟩])) }
def c_expand_builder_end : Fun := { cin := [.id], cout := [], ntmps := 26, keep := false, res := [], body :=
  (.seq (.seq (.reg [⟨(some 2), .mv (.t 0), none⟩,
    ⟨(some 3), .nck (.t 2), none⟩,
    ⟨(some 4), .fa 2 (.t 3), none⟩,
    ⟨(some 5), .ld false 1 (.t 4), none⟩])
  (.cond (.t 5)
   (.regD [⟨(some 6), .mv (.t 0), none⟩,
     ⟨(some 7), .mv (.t 0), none⟩,
     ⟨(some 8), .nck (.t 7), none⟩,
     ⟨(some 9), .fa 0 (.t 8), none⟩,
     ⟨(some 10), .ld false 1 (.t 9), none⟩,
     ⟨(some 11), .mv (.t 0), none⟩,
     ⟨(some 12), .nck (.t 11), none⟩,
     ⟨(some 13), .fa 1 (.t 12), none⟩,
     ⟨(some 14), .ld false 1 (.t 13), none⟩,
     ⟨(some 15), .cvBS (.t 14), none⟩,
     ⟨(some 16), .bsl 1 [(.t 15)], none⟩,
     ⟨(some 17), .app 1 9 (.t 10) (.t 16), none⟩,
     ⟨(some 18), .nck (.t 6), none⟩,
     ⟨(some 19), .fa 0 (.t 18), none⟩,
     ⟨none, .st 1 (.t 19) (.t 17), none⟩] [])
   .skip))
  (.reg [⟨(some 20), .mv (.t 0), none⟩,
    ⟨(some 21), .mv (.t 0), none⟩,
    ⟨(some 22), .nck (.t 20), none⟩,
    ⟨(some 23), .fa 1 (.t 22), none⟩,
    ⟨none, .st 1 (.t 23) (.c .nsl), none⟩,
    ⟨(some 24), .nck (.t 21), none⟩,
    ⟨(some 25), .fa 2 (.t 24), none⟩,
    ⟨none, .st 1 (.t 25) (.c (.b false)), none⟩])) }
def c_internal_strconv_Itoa : Fun := { cin := [.id], cout := [.id], ntmps := 5, keep := false, res := [(2, none)], body :=
  (.seq (.reg [⟨(some 2), .mv (.c (.s [])), none⟩])
  (.seq (.reg [⟨(some 3), .mv (.t 0), none⟩,
    ⟨(some 4), .call f_internal_strconv_FormatInt [(.t 3), (.c (.i .i64 10))], none⟩,
    ⟨(some 2), .mv (.t 4), none⟩])
  .ret)) }
def c_word_Param : Fun := { cin := [.id], cout := [.id], ntmps := 19, keep := false, res := [(2, none)], body :=
  (.seq (.reg [⟨(some 2), .mv (.c (.b false)), none⟩])
  (.seq (.seq (.reg [⟨(some 3), .mv (.t 0), none⟩,
    ⟨(some 4), .len 0 (.t 3), none⟩,
    ⟨(some 5), .bin .eql (.t 4) (.c (.i .i64 1)), none⟩,
    ⟨(some 6), .mv (.t 5), none⟩,
    ⟨(some 7), .mv (.t 0), (some (6, true))⟩,
    ⟨(some 8), .call f_strings_Contains [(.c (.s [49, 50, 51, 52, 53, 54, 55, 56, 57, 35, 63])), (.t 7)], (some (6, true))⟩,
    ⟨(some 9), .pick (.t 6) (.t 8) (.c (.b false)), none⟩])
  (.cond (.t 9)
   (.seq (.reg [⟨(some 2), .mv (.c (.b true)), none⟩])
   .ret)
   .skip))
  (.seq (.reg [⟨(some 10), .mv (.t 0), none⟩,
    ⟨(some 11), .bin .neq (.t 10) (.c (.s [])), none⟩,
    ⟨(some 12), .mv (.t 11), none⟩,
    ⟨(some 13), .mv (.t 0), (some (12, true))⟩,
    ⟨(some 14), .call f_word_lead [(.t 13)], (some (12, true))⟩,
    ⟨(some 15), .mv (.t 0), (some (12, true))⟩,
    ⟨(some 16), .len 0 (.t 15), (some (12, true))⟩,
    ⟨(some 17), .bin .eql (.t 14) (.t 16), (some (12, true))⟩,
    ⟨(some 18), .pick (.t 12) (.t 17) (.c (.b false)), none⟩,
    ⟨(some 2), .mv (.t 18), none⟩])
  .ret))) }
def c_slices_pdqsortOrdered_string : Fun := { cin := [(.sl 1 .id), .id, .id, .id], cout := [], ntmps := 134, keep := false, res := [], body :=
  (.seq (.reg [⟨(some 8), .mv (.c (.b true)), none⟩])
  (.seq (.reg [⟨(some 9), .mv (.c (.b true)), none⟩])
  (.blk 0 (.loop (.blk 1 (.seq (.reg [⟨(some 19), .mv (.t 2), none⟩,
       ⟨(some 20), .mv (.t 1), none⟩,
       ⟨(some 21), .bin .sub (.t 19) (.t 20), none⟩,
       ⟨(some 10), .mv (.t 21), none⟩])
     (.seq (.seq (.reg [⟨(some 22), .mv (.t 10), none⟩,
       ⟨(some 23), .bin .leq (.t 22) (.c (.i .i64 12)), none⟩])
     (.cond (.t 23)
      (.seq (.reg [⟨(some 24), .mv (.t 0), none⟩,
        ⟨(some 25), .mv (.t 1), none⟩,
        ⟨(some 26), .mv (.t 2), none⟩,
        ⟨(some 27), .call f_slices_insertionSortOrdered_string [(.t 24), (.t 25), (.t 26)], none⟩])
      .ret)
      .skip))
     (.seq (.seq (.reg [⟨(some 28), .mv (.t 3), none⟩,
       ⟨(some 29), .bin .eql (.t 28) (.c (.i .i64 0)), none⟩])
     (.cond (.t 29)
      (.seq (.reg [⟨(some 30), .mv (.t 0), none⟩,
        ⟨(some 31), .mv (.t 1), none⟩,
        ⟨(some 32), .mv (.t 2), none⟩,
        ⟨(some 33), .call f_slices_heapSortOrdered_string [(.t 30), (.t 31), (.t 32)], none⟩])
      .ret)
      .skip))
     (.seq (.seq (.reg [⟨(some 34), .mv (.t 8), none⟩,
       ⟨(some 35), .un .not (.t 34), none⟩])
     (.cond (.t 35)
      (.seq (.reg [⟨(some 36), .mv (.t 0), none⟩,
        ⟨(some 37), .mv (.t 1), none⟩,
        ⟨(some 38), .mv (.t 2), none⟩,
        ⟨(some 39), .call f_slices_breakPatternsOrdered_string [(.t 36), (.t 37), (.t 38)], none⟩])
      (.reg [⟨(some 40), .mv (.t 3), none⟩,
        ⟨(some 41), .bin .sub (.t 40) (.c (.i .i64 1)), none⟩,
        ⟨(some 3), .mv (.t 41), none⟩]))
      .skip))
     (.seq (.reg [⟨(some 43), .mv (.t 0), none⟩,
       ⟨(some 44), .mv (.t 1), none⟩,
       ⟨(some 45), .mv (.t 2), none⟩,
       ⟨(some 46), .call f_slices_choosePivotOrdered_string [(.t 43), (.t 44), (.t 45)], none⟩,
       ⟨(some 42), .mv (.t 46), none⟩,
       ⟨(some 47), .ext (.t 42) 0, none⟩,
       ⟨(some 48), .ext (.t 42) 1, none⟩,
       ⟨(some 11), .mv (.t 47), none⟩,
       ⟨(some 12), .mv (.t 48), none⟩])
     (.seq (.seq (.reg [⟨(some 49), .mv (.t 12), none⟩,
       ⟨(some 50), .bin .eql (.t 49) (.c (.i .i64 2)), none⟩])
     (.cond (.t 50)
      (.seq (.reg [⟨(some 51), .mv (.t 0), none⟩,
        ⟨(some 52), .mv (.t 1), none⟩,
        ⟨(some 53), .mv (.t 2), none⟩,
        ⟨(some 54), .call f_slices_reverseRangeOrdered_string [(.t 51), (.t 52), (.t 53)], none⟩])
      (.seq (.reg [⟨(some 55), .mv (.t 2), none⟩,
        ⟨(some 56), .bin .sub (.t 55) (.c (.i .i64 1)), none⟩,
        ⟨(some 57), .mv (.t 11), none⟩,
        ⟨(some 58), .mv (.t 1), none⟩,
        ⟨(some 59), .bin .sub (.t 57) (.t 58), none⟩,
        ⟨(some 60), .bin .sub (.t 56) (.t 59), none⟩,
        ⟨(some 11), .mv (.t 60), none⟩])
      (.reg [⟨(some 12), .mv (.c (.i .i64 1)), none⟩])))
      .skip))
     (.seq (.seq (.reg [⟨(some 61), .mv (.t 8), none⟩,
       ⟨(some 62), .mv (.t 61), none⟩,
       ⟨(some 63), .mv (.t 9), (some (62, true))⟩,
       ⟨(some 64), .pick (.t 62) (.t 63) (.c (.b false)), none⟩,
       ⟨(some 65), .mv (.t 64), none⟩,
       ⟨(some 66), .mv (.t 12), (some (65, true))⟩,
       ⟨(some 67), .bin .eql (.t 66) (.c (.i .i64 1)), (some (65, true))⟩,
       ⟨(some 68), .pick (.t 65) (.t 67) (.c (.b false)), none⟩])
     (.cond (.t 68)
      (.seq (.reg [⟨(some 69), .mv (.t 0), none⟩,
        ⟨(some 70), .mv (.t 1), none⟩,
        ⟨(some 71), .mv (.t 2), none⟩,
        ⟨(some 72), .call f_slices_partialInsertionSortOrdered_string [(.t 69), (.t 70), (.t 71)], none⟩])
      (.cond (.t 72)
       .ret
       .skip))
      .skip))
     (.seq (.seq (.regD [⟨(some 73), .mv (.t 1), none⟩,
       ⟨(some 74), .bin .gtr (.t 73) (.c (.i .i64 0)), none⟩,
       ⟨(some 75), .mv (.t 74), none⟩,
       ⟨(some 76), .mv (.t 0), (some (75, true))⟩,
       ⟨(some 77), .mv (.t 1), (some (75, true))⟩,
       ⟨(some 78), .bin .sub (.t 77) (.c (.i .i64 1)), (some (75, true))⟩,
       ⟨(some 79), .ia 1 (.t 76) (.t 78), (some (75, true))⟩,
       ⟨(some 80), .ld false 1 (.t 79), (some (75, true))⟩,
       ⟨(some 81), .mv (.t 0), (some (75, true))⟩,
       ⟨(some 82), .mv (.t 11), (some (75, true))⟩,
       ⟨(some 83), .ia 1 (.t 81) (.t 82), (some (75, true))⟩,
       ⟨(some 84), .ld false 1 (.t 83), (some (75, true))⟩,
       ⟨(some 85), .call f_cmp_Less_string [(.t 80), (.t 84)], (some (75, true))⟩,
       ⟨(some 86), .un .not (.t 85), (some (75, true))⟩,
       ⟨(some 87), .pick (.t 75) (.t 86) (.c (.b false)), none⟩] [])
     (.cond (.t 87)
      (.seq (.reg [⟨(some 88), .mv (.t 0), none⟩,
        ⟨(some 89), .mv (.t 1), none⟩,
        ⟨(some 90), .mv (.t 2), none⟩,
        ⟨(some 91), .mv (.t 11), none⟩,
        ⟨(some 92), .call f_slices_partitionEqualOrdered_string [(.t 88), (.t 89), (.t 90), (.t 91)], none⟩,
        ⟨(some 13), .mv (.t 92), none⟩])
      (.seq (.reg [⟨(some 93), .mv (.t 13), none⟩,
        ⟨(some 1), .mv (.t 93), none⟩])
      (.exit 1)))
      .skip))
     (.seq (.reg [⟨(some 95), .mv (.t 0), none⟩,
       ⟨(some 96), .mv (.t 1), none⟩,
       ⟨(some 97), .mv (.t 2), none⟩,
       ⟨(some 98), .mv (.t 11), none⟩,
       ⟨(some 99), .call f_slices_partitionOrdered_string [(.t 95), (.t 96), (.t 97), (.t 98)], none⟩,
       ⟨(some 94), .mv (.t 99), none⟩,
       ⟨(some 100), .ext (.t 94) 0, none⟩,
       ⟨(some 101), .ext (.t 94) 1, none⟩,
       ⟨(some 14), .mv (.t 100), none⟩,
       ⟨(some 15), .mv (.t 101), none⟩])
     (.seq (.reg [⟨(some 102), .mv (.t 15), none⟩,
       ⟨(some 9), .mv (.t 102), none⟩])
     (.seq (.reg [⟨(some 103), .mv (.t 14), none⟩,
       ⟨(some 104), .mv (.t 1), none⟩,
       ⟨(some 105), .bin .sub (.t 103) (.t 104), none⟩,
       ⟨(some 106), .mv (.t 2), none⟩,
       ⟨(some 107), .mv (.t 14), none⟩,
       ⟨(some 108), .bin .sub (.t 106) (.t 107), none⟩,
       ⟨(some 16), .mv (.t 105), none⟩,
       ⟨(some 17), .mv (.t 108), none⟩])
     (.seq (.reg [⟨(some 109), .mv (.t 10), none⟩,
       ⟨(some 110), .bin .quo (.t 109) (.c (.i .i64 8)), none⟩,
       ⟨(some 18), .mv (.t 110), none⟩])
     (.seq (.reg [⟨(some 111), .mv (.t 16), none⟩,
       ⟨(some 112), .mv (.t 17), none⟩,
       ⟨(some 113), .bin .lss (.t 111) (.t 112), none⟩])
     (.cond (.t 113)
      (.seq (.reg [⟨(some 114), .mv (.t 16), none⟩,
        ⟨(some 115), .mv (.t 18), none⟩,
        ⟨(some 116), .bin .geq (.t 114) (.t 115), none⟩,
        ⟨(some 8), .mv (.t 116), none⟩])
      (.seq (.reg [⟨(some 117), .mv (.t 0), none⟩,
        ⟨(some 118), .mv (.t 1), none⟩,
        ⟨(some 119), .mv (.t 14), none⟩,
        ⟨(some 120), .mv (.t 3), none⟩,
        ⟨(some 121), .call f_slices_pdqsortOrdered_string [(.t 117), (.t 118), (.t 119), (.t 120)], none⟩])
      (.reg [⟨(some 122), .mv (.t 14), none⟩,
        ⟨(some 123), .bin .add (.t 122) (.c (.i .i64 1)), none⟩,
        ⟨(some 1), .mv (.t 123), none⟩])))
      (.seq (.reg [⟨(some 124), .mv (.t 17), none⟩,
        ⟨(some 125), .mv (.t 18), none⟩,
        ⟨(some 126), .bin .geq (.t 124) (.t 125), none⟩,
        ⟨(some 8), .mv (.t 126), none⟩])
      (.seq (.reg [⟨(some 127), .mv (.t 0), none⟩,
        ⟨(some 128), .mv (.t 14), none⟩,
        ⟨(some 129), .bin .add (.t 128) (.c (.i .i64 1)), none⟩,
        ⟨(some 130), .mv (.t 2), none⟩,
        ⟨(some 131), .mv (.t 3), none⟩,
        ⟨(some 132), .call f_slices_pdqsortOrdered_string [(.t 127), (.t 129), (.t 130), (.t 131)], none⟩])
      (.reg [⟨(some 133), .mv (.t 14), none⟩,
        ⟨(some 2), .mv (.t 133), none⟩])))))))))))))))))))))) }
def c_math_bits_Len : Fun := { cin := [.id], cout := [.id], ntmps := 8, keep := false, res := [(2, none)], body :=
  (.seq (.reg [⟨(some 2), .mv (.c (.i .i64 0)), none⟩])
  (.seq (.cond (.c (.b false))
   (.seq (.reg [⟨(some 3), .mv (.t 0), none⟩,
     ⟨(some 4), .cvI .u32 (.t 3), none⟩,
     ⟨(some 5), .call f_math_bits_Len32 [(.t 4)], none⟩,
     ⟨(some 2), .mv (.t 5), none⟩])
   .ret)
   .skip)
  (.seq (.reg [⟨(some 6), .mv (.t 0), none⟩,
    ⟨(some 7), .call f_math_bits_Len64 [(.t 6)], none⟩,
    ⟨(some 2), .mv (.t 7), none⟩])
  .ret))) }
def c_strings_Builder_copyCheck : Fun := { cin := [.id], cout := [], ntmps := 20, keep := false, res := [], body :=
  (.seq (.reg [⟨(some 2), .mv (.t 0), none⟩,
    ⟨(some 3), .nck (.t 2), none⟩,
    ⟨(some 4), .fa 0 (.t 3), none⟩,
    ⟨(some 5), .ld false 1 (.t 4), none⟩,
    ⟨(some 6), .eq .ptr false (.t 5) (.c .np), none⟩])
  (.cond (.t 6)
   (.reg [⟨(some 7), .mv (.t 0), none⟩,
     ⟨(some 8), .mv (.t 0), none⟩,
     ⟨(some 9), .cvU 74 2 (.t 8), none⟩,
     ⟨(some 10), .xtn 1 [(.t 9)], none⟩,
     ⟨(some 11), .cvU 74 2 (.t 10), none⟩,
     ⟨(some 12), .nck (.t 7), none⟩,
     ⟨(some 13), .fa 0 (.t 12), none⟩,
     ⟨none, .st 1 (.t 13) (.t 11), none⟩])
   (.seq (.reg [⟨(some 14), .mv (.t 0), none⟩,
     ⟨(some 15), .nck (.t 14), none⟩,
     ⟨(some 16), .fa 0 (.t 15), none⟩,
     ⟨(some 17), .ld false 1 (.t 16), none⟩,
     ⟨(some 18), .mv (.t 0), none⟩,
     ⟨(some 19), .eq .ptr true (.t 17) (.t 18), none⟩])
   (.cond (.t 19)
    .bad
    .skip)))) }
def c_expand_values_1 : Fun := { cin := [(.agg [.id, .id, .id])], cout := [.id], ntmps := 12, keep := false, res := [(3, none)], body :=
  (.seq (.reg [⟨(some 2), .box 37 3 (.t 0), none⟩,
    ⟨(some 3), .mv (.c (.s [])), none⟩])
  (.seq (.seq (.reg [⟨(some 4), .fa 0 (.t 2), none⟩,
    ⟨(some 5), .ld false 1 (.t 4), none⟩])
  (.cond (.t 5)
   (.seq (.reg [⟨(some 6), .ld true 4 (.t 1), none⟩,
     ⟨(some 7), .fa 1 (.t 2), none⟩,
     ⟨(some 8), .ld false 1 (.t 7), none⟩,
     ⟨(some 9), .call f_expand_Value [(.t 6), (.t 8)], none⟩,
     ⟨(some 3), .mv (.t 9), none⟩])
   .ret)
   .skip))
  (.seq (.reg [⟨(some 10), .fa 1 (.t 2), none⟩,
    ⟨(some 11), .ld false 1 (.t 10), none⟩,
    ⟨(some 3), .mv (.t 11), none⟩])
  .ret))) }
def c_internal_strconv_FormatInt : Fun := { cin := [.id, .id], cout := [.id], ntmps := 54, keep := false, res := [(4, none)], body :=
  (.seq (.reg [⟨(some 4), .mv (.c (.s [])), none⟩])
  (.seq (.seq (.reg [⟨(some 10), .mv (.t 1), none⟩,
    ⟨(some 11), .bin .eql (.t 10) (.c (.i .i64 10)), none⟩])
  (.cond (.t 11)
   (.seq (.seq (.reg [⟨(some 12), .mv (.t 0), none⟩,
     ⟨(some 13), .bin .leq (.c (.i .i64 0)) (.t 12), none⟩,
     ⟨(some 14), .mv (.t 13), none⟩,
     ⟨(some 15), .mv (.t 0), (some (14, true))⟩,
     ⟨(some 16), .bin .lss (.t 15) (.c (.i .i64 100)), (some (14, true))⟩,
     ⟨(some 17), .pick (.t 14) (.t 16) (.c (.b false)), none⟩])
   (.cond (.t 17)
    (.seq (.reg [⟨(some 18), .mv (.t 0), none⟩,
      ⟨(some 19), .call f_internal_strconv_small [(.t 18)], none⟩,
      ⟨(some 4), .mv (.t 19), none⟩])
    .ret)
    .skip))
   (.seq (.reg [⟨(some 5), .alloc 128 [(.i .u8 0), (.i .u8 0), (.i .u8 0), (.i .u8 0), (.i .u8 0), (.i .u8 0), (.i .u8 0), (.i .u8 0), (.i .u8 0), (.i .u8 0), (.i .u8 0), (.i .u8 0), (.i .u8 0), (.i .u8 0), (.i .u8 0), (.i .u8 0), (.i .u8 0), (.i .u8 0), (.i .u8 0), (.i .u8 0), (.i .u8 0), (.i .u8 0), (.i .u8 0), (.i .u8 0)], none⟩])
   (.seq (.reg [⟨(some 20), .mv (.t 0), none⟩,
     ⟨(some 21), .cvI .u64 (.t 20), none⟩,
     ⟨(some 6), .mv (.t 21), none⟩])
   (.seq (.seq (.reg [⟨(some 22), .mv (.t 0), none⟩,
     ⟨(some 23), .bin .lss (.t 22) (.c (.i .i64 0)), none⟩])
   (.cond (.t 23)
    (.reg [⟨(some 24), .mv (.t 6), none⟩,
      ⟨(some 25), .un .neg (.t 24), none⟩,
      ⟨(some 6), .mv (.t 25), none⟩])
    .skip))
   (.seq (.reg [⟨(some 26), .mv (.t 6), none⟩,
     ⟨(some 27), .call f_internal_strconv_numDigits [(.t 26)], none⟩,
     ⟨(some 7), .mv (.t 27), none⟩])
   (.seq (.reg [⟨(some 28), .mv (.t 7), none⟩,
     ⟨(some 29), .bin .add (.c (.i .i64 1)) (.t 28), none⟩,
     ⟨(some 30), .slcA 24 1 (.t 5) (some (.c (.i .i64 1))) (some (.t 29)), none⟩,
     ⟨(some 31), .mv (.t 6), none⟩,
     ⟨(some 32), .call f_internal_strconv_formatBase10 [(.t 30), (.t 31)], none⟩])
   (.seq (.seq (.reg [⟨(some 33), .mv (.t 0), none⟩,
     ⟨(some 34), .bin .lss (.t 33) (.c (.i .i64 0)), none⟩])
   (.cond (.t 34)
    (.seq (.reg [⟨(some 35), .iaA 24 1 (.t 5) (.c (.i .i64 0)), none⟩,
      ⟨none, .st 1 (.t 35) (.c (.i .u8 45)), none⟩])
    (.seq (.reg [⟨(some 36), .mv (.t 7), none⟩,
      ⟨(some 37), .bin .add (.c (.i .i64 1)) (.t 36), none⟩,
      ⟨(some 38), .slcA 24 1 (.t 5) none (some (.t 37)), none⟩,
      ⟨(some 39), .cvBS (.t 38), none⟩,
      ⟨(some 4), .mv (.t 39), none⟩])
    .ret))
    .skip))
   (.seq (.reg [⟨(some 40), .mv (.t 7), none⟩,
     ⟨(some 41), .bin .add (.c (.i .i64 1)) (.t 40), none⟩,
     ⟨(some 42), .slcA 24 1 (.t 5) (some (.c (.i .i64 1))) (some (.t 41)), none⟩,
     ⟨(some 43), .cvBS (.t 42), none⟩,
     ⟨(some 4), .mv (.t 43), none⟩])
   .ret))))))))
   .skip))
  (.seq (.reg [⟨(some 45), .mv (.t 0), none⟩,
    ⟨(some 46), .cvI .u64 (.t 45), none⟩,
    ⟨(some 47), .mv (.t 1), none⟩,
    ⟨(some 48), .mv (.t 0), none⟩,
    ⟨(some 49), .bin .lss (.t 48) (.c (.i .i64 0)), none⟩,
    ⟨(some 50), .call f_internal_strconv_formatBits [(.c .nsl), (.t 46), (.t 47), (.t 49), (.c (.b false))], none⟩,
    ⟨(some 44), .mv (.t 50), none⟩,
    ⟨(some 51), .ext (.t 44) 0, none⟩,
    ⟨(some 52), .ext (.t 44) 1, none⟩,
    ⟨(some 8), .mv (.t 51), none⟩,
    ⟨(some 9), .mv (.t 52), none⟩])
  (.seq (.reg [⟨(some 53), .mv (.t 9), none⟩,
    ⟨(some 4), .mv (.t 53), none⟩])
  .ret)))) }
def c_strings_Contains : Fun := { cin := [.id, .id], cout := [.id], ntmps := 9, keep := false, res := [(4, none)], body :=
  (.seq (.reg [⟨(some 4), .mv (.c (.b false)), none⟩])
  (.seq (.reg [⟨(some 5), .mv (.t 0), none⟩,
    ⟨(some 6), .mv (.t 1), none⟩,
    ⟨(some 7), .call f_strings_Index [(.t 5), (.t 6)], none⟩,
    ⟨(some 8), .bin .geq (.t 7) (.c (.i .i64 0)), none⟩,
    ⟨(some 4), .mv (.t 8), none⟩])
  .ret)) }
def c_word_lead : Fun := { cin := [.id], cout := [.id], ntmps := 35, keep := false, res := [(2, none)], body :=
  (.seq (.reg [⟨(some 2), .mv (.c (.i .i64 0)), none⟩])
  (.seq (.seq (.reg [⟨(some 4), .mv (.t 0), none⟩,
    ⟨(some 5), .bin .eql (.t 4) (.c (.s [])), none⟩,
    ⟨(some 6), .mv (.t 5), none⟩,
    ⟨(some 7), .mv (.t 0), (some (6, false))⟩,
    ⟨(some 8), .ixS (.t 7) (.c (.i .i64 0)), (some (6, false))⟩,
    ⟨(some 9), .call f_word_letter [(.t 8)], (some (6, false))⟩,
    ⟨(some 10), .un .not (.t 9), (some (6, false))⟩,
    ⟨(some 11), .pick (.t 6) (.c (.b true)) (.t 10), none⟩])
  (.cond (.t 11)
   (.seq (.reg [⟨(some 2), .mv (.c (.i .i64 0)), none⟩])
   .ret)
   .skip))
  (.seq (.reg [⟨(some 3), .mv (.c (.i .i64 1)), none⟩])
  (.seq (.blk 0 (.loop (.seq (.seq (.reg [⟨(some 12), .mv (.t 3), none⟩,
      ⟨(some 13), .mv (.t 0), none⟩,
      ⟨(some 14), .len 0 (.t 13), none⟩,
      ⟨(some 15), .bin .lss (.t 12) (.t 14), none⟩,
      ⟨(some 16), .mv (.t 15), none⟩,
      ⟨(some 17), .mv (.t 3), (some (16, true))⟩,
      ⟨(some 18), .bin .lss (.t 17) (.c (.i .i64 64)), (some (16, true))⟩,
      ⟨(some 19), .pick (.t 16) (.t 18) (.c (.b false)), none⟩,
      ⟨(some 20), .mv (.t 19), none⟩,
      ⟨(some 21), .mv (.t 0), (some (20, true))⟩,
      ⟨(some 22), .mv (.t 3), (some (20, true))⟩,
      ⟨(some 23), .ixS (.t 21) (.t 22), (some (20, true))⟩,
      ⟨(some 24), .call f_word_letter [(.t 23)], (some (20, true))⟩,
      ⟨(some 25), .mv (.t 24), (some (20, true))⟩,
      ⟨(some 26), .mv (.t 0), (some (25, false))⟩,
      ⟨(some 27), .mv (.t 3), (some (25, false))⟩,
      ⟨(some 28), .ixS (.t 26) (.t 27), (some (25, false))⟩,
      ⟨(some 29), .call f_word_digit [(.t 28)], (some (25, false))⟩,
      ⟨(some 30), .pick (.t 25) (.c (.b true)) (.t 29), (some (20, true))⟩,
      ⟨(some 31), .pick (.t 20) (.t 30) (.c (.b false)), none⟩])
    (.cond (.t 31)
     .skip
     (.exit 0)))
    (.blk 1 (.reg [⟨(some 32), .mv (.t 3), none⟩,
       ⟨(some 33), .bin .add (.t 32) (.c (.i .i64 1)), none⟩,
       ⟨(some 3), .mv (.t 33), none⟩])))))
  (.seq (.reg [⟨(some 34), .mv (.t 3), none⟩,
    ⟨(some 2), .mv (.t 34), none⟩])
  .ret))))) }
def c_slices_insertionSortOrdered_string : Fun := { cin := [(.sl 1 .id), .id, .id], cout := [], ntmps := 49, keep := false, res := [], body :=
  (.seq (.reg [⟨(some 8), .mv (.t 1), none⟩,
    ⟨(some 9), .bin .add (.t 8) (.c (.i .i64 1)), none⟩,
    ⟨(some 6), .mv (.t 9), none⟩])
  (.blk 0 (.loop (.seq (.seq (.reg [⟨(some 10), .mv (.t 6), none⟩,
      ⟨(some 11), .mv (.t 2), none⟩,
      ⟨(some 12), .bin .lss (.t 10) (.t 11), none⟩])
    (.cond (.t 12)
     .skip
     (.exit 0)))
    (.seq (.blk 1 (.seq (.reg [⟨(some 15), .mv (.t 6), none⟩,
       ⟨(some 7), .mv (.t 15), none⟩])
     (.blk 2 (.loop (.seq (.seq (.regD [⟨(some 16), .mv (.t 7), none⟩,
         ⟨(some 17), .mv (.t 1), none⟩,
         ⟨(some 18), .bin .gtr (.t 16) (.t 17), none⟩,
         ⟨(some 19), .mv (.t 18), none⟩,
         ⟨(some 20), .mv (.t 0), (some (19, true))⟩,
         ⟨(some 21), .mv (.t 7), (some (19, true))⟩,
         ⟨(some 22), .ia 1 (.t 20) (.t 21), (some (19, true))⟩,
         ⟨(some 23), .ld false 1 (.t 22), (some (19, true))⟩,
         ⟨(some 24), .mv (.t 0), (some (19, true))⟩,
         ⟨(some 25), .mv (.t 7), (some (19, true))⟩,
         ⟨(some 26), .bin .sub (.t 25) (.c (.i .i64 1)), (some (19, true))⟩,
         ⟨(some 27), .ia 1 (.t 24) (.t 26), (some (19, true))⟩,
         ⟨(some 28), .ld false 1 (.t 27), (some (19, true))⟩,
         ⟨(some 29), .call f_cmp_Less_string [(.t 23), (.t 28)], (some (19, true))⟩,
         ⟨(some 30), .pick (.t 19) (.t 29) (.c (.b false)), none⟩] [])
       (.cond (.t 30)
        .skip
        (.exit 2)))
       (.seq (.blk 3 (.seq (.thw 0)
        (.regD [⟨(some 33), .mv (.t 0), none⟩,
          ⟨(some 34), .mv (.t 7), none⟩,
          ⟨(some 35), .mv (.t 0), none⟩,
          ⟨(some 36), .mv (.t 7), none⟩,
          ⟨(some 37), .bin .sub (.t 36) (.c (.i .i64 1)), none⟩,
          ⟨(some 38), .mv (.t 0), none⟩,
          ⟨(some 39), .mv (.t 7), none⟩,
          ⟨(some 40), .bin .sub (.t 39) (.c (.i .i64 1)), none⟩,
          ⟨(some 41), .ia 1 (.t 38) (.t 40), none⟩,
          ⟨(some 42), .ld false 1 (.t 41), none⟩,
          ⟨(some 43), .mv (.t 0), none⟩,
          ⟨(some 44), .mv (.t 7), none⟩,
          ⟨(some 45), .ia 1 (.t 43) (.t 44), none⟩,
          ⟨(some 46), .ld false 1 (.t 45), none⟩,
          ⟨(some 47), .ia 1 (.t 33) (.t 34), none⟩,
          ⟨none, .st 1 (.t 47) (.t 42), none⟩,
          ⟨(some 48), .ia 1 (.t 35) (.t 37), none⟩,
          ⟨none, .st 1 (.t 48) (.t 46), none⟩] [])))
       (.reg [⟨(some 31), .mv (.t 7), none⟩,
         ⟨(some 32), .bin .sub (.t 31) (.c (.i .i64 1)), none⟩,
         ⟨(some 7), .mv (.t 32), none⟩])))))))
    (.reg [⟨(some 13), .mv (.t 6), none⟩,
      ⟨(some 14), .bin .add (.t 13) (.c (.i .i64 1)), none⟩,
      ⟨(some 6), .mv (.t 14), none⟩])))))) }
def c_slices_heapSortOrdered_string : Fun := { cin := [(.sl 1 .id), .id, .id], cout := [], ntmps := 56, keep := false, res := [], body :=
  (.seq (.reg [⟨(some 11), .mv (.t 1), none⟩,
    ⟨(some 6), .mv (.t 11), none⟩])
  (.seq (.reg [⟨(some 7), .mv (.c (.i .i64 0)), none⟩])
  (.seq (.reg [⟨(some 12), .mv (.t 2), none⟩,
    ⟨(some 13), .mv (.t 1), none⟩,
    ⟨(some 14), .bin .sub (.t 12) (.t 13), none⟩,
    ⟨(some 8), .mv (.t 14), none⟩])
  (.seq (.seq (.reg [⟨(some 15), .mv (.t 8), none⟩,
    ⟨(some 16), .bin .sub (.t 15) (.c (.i .i64 1)), none⟩,
    ⟨(some 17), .bin .quo (.t 16) (.c (.i .i64 2)), none⟩,
    ⟨(some 9), .mv (.t 17), none⟩])
  (.blk 0 (.loop (.seq (.seq (.reg [⟨(some 18), .mv (.t 9), none⟩,
      ⟨(some 19), .bin .geq (.t 18) (.c (.i .i64 0)), none⟩])
    (.cond (.t 19)
     .skip
     (.exit 0)))
    (.seq (.blk 1 (.reg [⟨(some 22), .mv (.t 0), none⟩,
       ⟨(some 23), .mv (.t 9), none⟩,
       ⟨(some 24), .mv (.t 8), none⟩,
       ⟨(some 25), .mv (.t 6), none⟩,
       ⟨(some 26), .call f_slices_siftDownOrdered_string [(.t 22), (.t 23), (.t 24), (.t 25)], none⟩]))
    (.reg [⟨(some 20), .mv (.t 9), none⟩,
      ⟨(some 21), .bin .sub (.t 20) (.c (.i .i64 1)), none⟩,
      ⟨(some 9), .mv (.t 21), none⟩]))))))
  (.seq (.reg [⟨(some 27), .mv (.t 8), none⟩,
    ⟨(some 28), .bin .sub (.t 27) (.c (.i .i64 1)), none⟩,
    ⟨(some 10), .mv (.t 28), none⟩])
  (.blk 2 (.loop (.seq (.seq (.reg [⟨(some 29), .mv (.t 10), none⟩,
      ⟨(some 30), .bin .geq (.t 29) (.c (.i .i64 0)), none⟩])
    (.cond (.t 30)
     .skip
     (.exit 2)))
    (.seq (.blk 3 (.seq (.seq (.thw 0)
     (.regD [⟨(some 33), .mv (.t 0), none⟩,
       ⟨(some 34), .mv (.t 6), none⟩,
       ⟨(some 35), .mv (.t 0), none⟩,
       ⟨(some 36), .mv (.t 6), none⟩,
       ⟨(some 37), .mv (.t 10), none⟩,
       ⟨(some 38), .bin .add (.t 36) (.t 37), none⟩,
       ⟨(some 39), .mv (.t 0), none⟩,
       ⟨(some 40), .mv (.t 6), none⟩,
       ⟨(some 41), .mv (.t 10), none⟩,
       ⟨(some 42), .bin .add (.t 40) (.t 41), none⟩,
       ⟨(some 43), .ia 1 (.t 39) (.t 42), none⟩,
       ⟨(some 44), .ld false 1 (.t 43), none⟩,
       ⟨(some 45), .mv (.t 0), none⟩,
       ⟨(some 46), .mv (.t 6), none⟩,
       ⟨(some 47), .ia 1 (.t 45) (.t 46), none⟩,
       ⟨(some 48), .ld false 1 (.t 47), none⟩,
       ⟨(some 49), .ia 1 (.t 33) (.t 34), none⟩,
       ⟨none, .st 1 (.t 49) (.t 44), none⟩,
       ⟨(some 50), .ia 1 (.t 35) (.t 38), none⟩,
       ⟨none, .st 1 (.t 50) (.t 48), none⟩] []))
     (.reg [⟨(some 51), .mv (.t 0), none⟩,
       ⟨(some 52), .mv (.t 7), none⟩,
       ⟨(some 53), .mv (.t 10), none⟩,
       ⟨(some 54), .mv (.t 6), none⟩,
       ⟨(some 55), .call f_slices_siftDownOrdered_string [(.t 51), (.t 52), (.t 53), (.t 54)], none⟩])))
    (.reg [⟨(some 31), .mv (.t 10), none⟩,
      ⟨(some 32), .bin .sub (.t 31) (.c (.i .i64 1)), none⟩,
      ⟨(some 10), .mv (.t 32), none⟩])))))))))) }
def c_slices_breakPatternsOrdered_string : Fun := { cin := [(.sl 1 .id), .id, .id], cout := [], ntmps := 65, keep := false, res := [], body :=
  (.seq (.reg [⟨(some 11), .mv (.t 2), none⟩,
    ⟨(some 12), .mv (.t 1), none⟩,
    ⟨(some 13), .bin .sub (.t 11) (.t 12), none⟩,
    ⟨(some 6), .mv (.t 13), none⟩])
  (.seq (.reg [⟨(some 14), .mv (.t 6), none⟩,
    ⟨(some 15), .bin .geq (.t 14) (.c (.i .i64 8)), none⟩])
  (.cond (.t 15)
   (.seq (.reg [⟨(some 16), .mv (.t 6), none⟩,
     ⟨(some 17), .cvI .u64 (.t 16), none⟩,
     ⟨(some 7), .alloc 133 [(.i .u64 0)], none⟩,
     ⟨none, .st 1 (.t 7) (.t 17), none⟩])
   (.seq (.reg [⟨(some 18), .mv (.t 6), none⟩,
     ⟨(some 19), .call f_slices_nextPowerOfTwo [(.t 18)], none⟩,
     ⟨(some 8), .mv (.t 19), none⟩])
   (.seq (.reg [⟨(some 20), .mv (.t 1), none⟩,
     ⟨(some 21), .mv (.t 6), none⟩,
     ⟨(some 22), .bin .quo (.t 21) (.c (.i .i64 4)), none⟩,
     ⟨(some 23), .bin .mul (.t 22) (.c (.i .i64 2)), none⟩,
     ⟨(some 24), .bin .add (.t 20) (.t 23), none⟩,
     ⟨(some 25), .bin .sub (.t 24) (.c (.i .i64 1)), none⟩,
     ⟨(some 9), .mv (.t 25), none⟩])
   (.blk 0 (.loop (.seq (.seq (.reg [⟨(some 26), .mv (.t 9), none⟩,
       ⟨(some 27), .mv (.t 1), none⟩,
       ⟨(some 28), .mv (.t 6), none⟩,
       ⟨(some 29), .bin .quo (.t 28) (.c (.i .i64 4)), none⟩,
       ⟨(some 30), .bin .mul (.t 29) (.c (.i .i64 2)), none⟩,
       ⟨(some 31), .bin .add (.t 27) (.t 30), none⟩,
       ⟨(some 32), .bin .add (.t 31) (.c (.i .i64 1)), none⟩,
       ⟨(some 33), .bin .leq (.t 26) (.t 32), none⟩])
     (.cond (.t 33)
      .skip
      (.exit 0)))
     (.seq (.blk 1 (.seq (.reg [⟨(some 36), .call f_slices_xorshift_Next [(.t 7)], none⟩,
        ⟨(some 37), .mv (.t 8), none⟩,
        ⟨(some 38), .bin .sub (.t 37) (.c (.i .u64 1)), none⟩,
        ⟨(some 39), .bin .and (.t 36) (.t 38), none⟩,
        ⟨(some 40), .cvI .i64 (.t 39), none⟩,
        ⟨(some 10), .mv (.t 40), none⟩])
      (.seq (.seq (.reg [⟨(some 41), .mv (.t 10), none⟩,
        ⟨(some 42), .mv (.t 6), none⟩,
        ⟨(some 43), .bin .geq (.t 41) (.t 42), none⟩])
      (.cond (.t 43)
       (.reg [⟨(some 44), .mv (.t 10), none⟩,
         ⟨(some 45), .mv (.t 6), none⟩,
         ⟨(some 46), .bin .sub (.t 44) (.t 45), none⟩,
         ⟨(some 10), .mv (.t 46), none⟩])
       .skip))
      (.seq (.thw 0)
      (.regD [⟨(some 47), .mv (.t 0), none⟩,
        ⟨(some 48), .mv (.t 9), none⟩,
        ⟨(some 49), .mv (.t 0), none⟩,
        ⟨(some 50), .mv (.t 1), none⟩,
        ⟨(some 51), .mv (.t 10), none⟩,
        ⟨(some 52), .bin .add (.t 50) (.t 51), none⟩,
        ⟨(some 53), .mv (.t 0), none⟩,
        ⟨(some 54), .mv (.t 1), none⟩,
        ⟨(some 55), .mv (.t 10), none⟩,
        ⟨(some 56), .bin .add (.t 54) (.t 55), none⟩,
        ⟨(some 57), .ia 1 (.t 53) (.t 56), none⟩,
        ⟨(some 58), .ld false 1 (.t 57), none⟩,
        ⟨(some 59), .mv (.t 0), none⟩,
        ⟨(some 60), .mv (.t 9), none⟩,
        ⟨(some 61), .ia 1 (.t 59) (.t 60), none⟩,
        ⟨(some 62), .ld false 1 (.t 61), none⟩,
        ⟨(some 63), .ia 1 (.t 47) (.t 48), none⟩,
        ⟨none, .st 1 (.t 63) (.t 58), none⟩,
        ⟨(some 64), .ia 1 (.t 49) (.t 52), none⟩,
        ⟨none, .st 1 (.t 64) (.t 62), none⟩] [])))))
     (.reg [⟨(some 34), .mv (.t 9), none⟩,
       ⟨(some 35), .bin .add (.t 34) (.c (.i .i64 1)), none⟩,
       ⟨(some 9), .mv (.t 35), none⟩]))))))))
   .skip))) }
def c_slices_choosePivotOrdered_string : Fun := { cin := [(.sl 1 .id), .id, .id], cout := [.id, .id], ntmps := 57, keep := false, res := [(6, none), (7, none)], body :=
  (.seq (.reg [⟨(some 6), .mv (.c (.i .i64 0)), none⟩,
    ⟨(some 7), .mv (.c (.i .i64 0)), none⟩])
  (.seq (.reg [⟨(some 13), .mv (.t 2), none⟩,
    ⟨(some 14), .mv (.t 1), none⟩,
    ⟨(some 15), .bin .sub (.t 13) (.t 14), none⟩,
    ⟨(some 8), .mv (.t 15), none⟩])
  (.seq (.reg [⟨(some 9), .alloc 3 [(.i .i64 0)], none⟩])
  (.seq (.reg [⟨(some 16), .mv (.t 1), none⟩,
    ⟨(some 17), .mv (.t 8), none⟩,
    ⟨(some 18), .bin .quo (.t 17) (.c (.i .i64 4)), none⟩,
    ⟨(some 19), .bin .mul (.t 18) (.c (.i .i64 1)), none⟩,
    ⟨(some 20), .bin .add (.t 16) (.t 19), none⟩,
    ⟨(some 10), .mv (.t 20), none⟩])
  (.seq (.reg [⟨(some 21), .mv (.t 1), none⟩,
    ⟨(some 22), .mv (.t 8), none⟩,
    ⟨(some 23), .bin .quo (.t 22) (.c (.i .i64 4)), none⟩,
    ⟨(some 24), .bin .mul (.t 23) (.c (.i .i64 2)), none⟩,
    ⟨(some 25), .bin .add (.t 21) (.t 24), none⟩,
    ⟨(some 11), .mv (.t 25), none⟩])
  (.seq (.reg [⟨(some 26), .mv (.t 1), none⟩,
    ⟨(some 27), .mv (.t 8), none⟩,
    ⟨(some 28), .bin .quo (.t 27) (.c (.i .i64 4)), none⟩,
    ⟨(some 29), .bin .mul (.t 28) (.c (.i .i64 3)), none⟩,
    ⟨(some 30), .bin .add (.t 26) (.t 29), none⟩,
    ⟨(some 12), .mv (.t 30), none⟩])
  (.seq (.seq (.reg [⟨(some 31), .mv (.t 8), none⟩,
    ⟨(some 32), .bin .geq (.t 31) (.c (.i .i64 8)), none⟩])
  (.cond (.t 32)
   (.seq (.seq (.reg [⟨(some 33), .mv (.t 8), none⟩,
     ⟨(some 34), .bin .geq (.t 33) (.c (.i .i64 50)), none⟩])
   (.cond (.t 34)
    (.seq (.reg [⟨(some 35), .mv (.t 0), none⟩,
      ⟨(some 36), .mv (.t 10), none⟩,
      ⟨(some 37), .call f_slices_medianAdjacentOrdered_string [(.t 35), (.t 36), (.t 9)], none⟩,
      ⟨(some 10), .mv (.t 37), none⟩])
    (.seq (.reg [⟨(some 38), .mv (.t 0), none⟩,
      ⟨(some 39), .mv (.t 11), none⟩,
      ⟨(some 40), .call f_slices_medianAdjacentOrdered_string [(.t 38), (.t 39), (.t 9)], none⟩,
      ⟨(some 11), .mv (.t 40), none⟩])
    (.reg [⟨(some 41), .mv (.t 0), none⟩,
      ⟨(some 42), .mv (.t 12), none⟩,
      ⟨(some 43), .call f_slices_medianAdjacentOrdered_string [(.t 41), (.t 42), (.t 9)], none⟩,
      ⟨(some 12), .mv (.t 43), none⟩])))
    .skip))
   (.reg [⟨(some 44), .mv (.t 0), none⟩,
     ⟨(some 45), .mv (.t 10), none⟩,
     ⟨(some 46), .mv (.t 11), none⟩,
     ⟨(some 47), .mv (.t 12), none⟩,
     ⟨(some 48), .call f_slices_medianOrdered_string [(.t 44), (.t 45), (.t 46), (.t 47), (.t 9)], none⟩,
     ⟨(some 11), .mv (.t 48), none⟩]))
   .skip))
  (.seq (.reg [⟨(some 49), .ld false 1 (.t 9), none⟩])
  (.blk 0 (.seq (.reg [⟨(some 52), .bin .eql (.t 49) (.c (.i .i64 0)), none⟩,
     ⟨(some 51), .mv (.t 52), none⟩])
   (.cond (.t 51)
    (.seq (.reg [⟨(some 53), .mv (.t 11), none⟩,
      ⟨(some 6), .mv (.t 53), none⟩,
      ⟨(some 7), .mv (.c (.i .i64 1)), none⟩])
    .ret)
    (.seq (.reg [⟨(some 55), .bin .eql (.t 49) (.c (.i .i64 12)), none⟩,
      ⟨(some 54), .mv (.t 55), none⟩])
    (.cond (.t 54)
     (.seq (.reg [⟨(some 56), .mv (.t 11), none⟩,
       ⟨(some 6), .mv (.t 56), none⟩,
       ⟨(some 7), .mv (.c (.i .i64 2)), none⟩])
     .ret)
     (.seq (.reg [⟨(some 50), .mv (.t 11), none⟩,
       ⟨(some 6), .mv (.t 50), none⟩,
       ⟨(some 7), .mv (.c (.i .i64 0)), none⟩])
     .ret)))))))))))))) }
def c_slices_reverseRangeOrdered_string : Fun := { cin := [(.sl 1 .id), .id, .id], cout := [], ntmps := 32, keep := false, res := [], body :=
  (.seq (.reg [⟨(some 8), .mv (.t 1), none⟩,
    ⟨(some 6), .mv (.t 8), none⟩])
  (.seq (.reg [⟨(some 9), .mv (.t 2), none⟩,
    ⟨(some 10), .bin .sub (.t 9) (.c (.i .i64 1)), none⟩,
    ⟨(some 7), .mv (.t 10), none⟩])
  (.blk 0 (.loop (.seq (.seq (.reg [⟨(some 11), .mv (.t 6), none⟩,
      ⟨(some 12), .mv (.t 7), none⟩,
      ⟨(some 13), .bin .lss (.t 11) (.t 12), none⟩])
    (.cond (.t 13)
     .skip
     (.exit 0)))
    (.blk 1 (.seq (.seq (.thw 0)
     (.regD [⟨(some 14), .mv (.t 0), none⟩,
       ⟨(some 15), .mv (.t 6), none⟩,
       ⟨(some 16), .mv (.t 0), none⟩,
       ⟨(some 17), .mv (.t 7), none⟩,
       ⟨(some 18), .mv (.t 0), none⟩,
       ⟨(some 19), .mv (.t 7), none⟩,
       ⟨(some 20), .ia 1 (.t 18) (.t 19), none⟩,
       ⟨(some 21), .ld false 1 (.t 20), none⟩,
       ⟨(some 22), .mv (.t 0), none⟩,
       ⟨(some 23), .mv (.t 6), none⟩,
       ⟨(some 24), .ia 1 (.t 22) (.t 23), none⟩,
       ⟨(some 25), .ld false 1 (.t 24), none⟩,
       ⟨(some 26), .ia 1 (.t 14) (.t 15), none⟩,
       ⟨none, .st 1 (.t 26) (.t 21), none⟩,
       ⟨(some 27), .ia 1 (.t 16) (.t 17), none⟩,
       ⟨none, .st 1 (.t 27) (.t 25), none⟩] []))
     (.seq (.reg [⟨(some 28), .mv (.t 6), none⟩,
       ⟨(some 29), .bin .add (.t 28) (.c (.i .i64 1)), none⟩,
       ⟨(some 6), .mv (.t 29), none⟩])
     (.reg [⟨(some 30), .mv (.t 7), none⟩,
       ⟨(some 31), .bin .sub (.t 30) (.c (.i .i64 1)), none⟩,
       ⟨(some 7), .mv (.t 31), none⟩]))))))))) }
def c_slices_partialInsertionSortOrdered_string : Fun := { cin := [(.sl 1 .id), .id, .id], cout := [.id], ntmps := 133, keep := false, res := [(6, none)], body :=
  (.seq (.reg [⟨(some 6), .mv (.c (.b false)), none⟩])
  (.seq (.reg [⟨(some 11), .mv (.t 1), none⟩,
    ⟨(some 12), .bin .add (.t 11) (.c (.i .i64 1)), none⟩,
    ⟨(some 7), .mv (.t 12), none⟩])
  (.seq (.seq (.reg [⟨(some 8), .mv (.c (.i .i64 0)), none⟩])
  (.blk 0 (.loop (.seq (.seq (.reg [⟨(some 13), .mv (.t 8), none⟩,
      ⟨(some 14), .bin .lss (.t 13) (.c (.i .i64 5)), none⟩])
    (.cond (.t 14)
     .skip
     (.exit 0)))
    (.seq (.blk 1 (.seq (.blk 2 (.loop (.seq (.seq (.regD [⟨(some 17), .mv (.t 7), none⟩,
         ⟨(some 18), .mv (.t 2), none⟩,
         ⟨(some 19), .bin .lss (.t 17) (.t 18), none⟩,
         ⟨(some 20), .mv (.t 19), none⟩,
         ⟨(some 21), .mv (.t 0), (some (20, true))⟩,
         ⟨(some 22), .mv (.t 7), (some (20, true))⟩,
         ⟨(some 23), .ia 1 (.t 21) (.t 22), (some (20, true))⟩,
         ⟨(some 24), .ld false 1 (.t 23), (some (20, true))⟩,
         ⟨(some 25), .mv (.t 0), (some (20, true))⟩,
         ⟨(some 26), .mv (.t 7), (some (20, true))⟩,
         ⟨(some 27), .bin .sub (.t 26) (.c (.i .i64 1)), (some (20, true))⟩,
         ⟨(some 28), .ia 1 (.t 25) (.t 27), (some (20, true))⟩,
         ⟨(some 29), .ld false 1 (.t 28), (some (20, true))⟩,
         ⟨(some 30), .call f_cmp_Less_string [(.t 24), (.t 29)], (some (20, true))⟩,
         ⟨(some 31), .un .not (.t 30), (some (20, true))⟩,
         ⟨(some 32), .pick (.t 20) (.t 31) (.c (.b false)), none⟩] [])
       (.cond (.t 32)
        .skip
        (.exit 2)))
       (.blk 3 (.reg [⟨(some 33), .mv (.t 7), none⟩,
          ⟨(some 34), .bin .add (.t 33) (.c (.i .i64 1)), none⟩,
          ⟨(some 7), .mv (.t 34), none⟩])))))
     (.seq (.seq (.reg [⟨(some 35), .mv (.t 7), none⟩,
       ⟨(some 36), .mv (.t 2), none⟩,
       ⟨(some 37), .bin .eql (.t 35) (.t 36), none⟩])
     (.cond (.t 37)
      (.seq (.reg [⟨(some 6), .mv (.c (.b true)), none⟩])
      .ret)
      .skip))
     (.seq (.seq (.reg [⟨(some 38), .mv (.t 2), none⟩,
       ⟨(some 39), .mv (.t 1), none⟩,
       ⟨(some 40), .bin .sub (.t 38) (.t 39), none⟩,
       ⟨(some 41), .bin .lss (.t 40) (.c (.i .i64 50)), none⟩])
     (.cond (.t 41)
      (.seq (.reg [⟨(some 6), .mv (.c (.b false)), none⟩])
      .ret)
      .skip))
     (.seq (.seq (.thw 0)
     (.regD [⟨(some 42), .mv (.t 0), none⟩,
       ⟨(some 43), .mv (.t 7), none⟩,
       ⟨(some 44), .mv (.t 0), none⟩,
       ⟨(some 45), .mv (.t 7), none⟩,
       ⟨(some 46), .bin .sub (.t 45) (.c (.i .i64 1)), none⟩,
       ⟨(some 47), .mv (.t 0), none⟩,
       ⟨(some 48), .mv (.t 7), none⟩,
       ⟨(some 49), .bin .sub (.t 48) (.c (.i .i64 1)), none⟩,
       ⟨(some 50), .ia 1 (.t 47) (.t 49), none⟩,
       ⟨(some 51), .ld false 1 (.t 50), none⟩,
       ⟨(some 52), .mv (.t 0), none⟩,
       ⟨(some 53), .mv (.t 7), none⟩,
       ⟨(some 54), .ia 1 (.t 52) (.t 53), none⟩,
       ⟨(some 55), .ld false 1 (.t 54), none⟩,
       ⟨(some 56), .ia 1 (.t 42) (.t 43), none⟩,
       ⟨none, .st 1 (.t 56) (.t 51), none⟩,
       ⟨(some 57), .ia 1 (.t 44) (.t 46), none⟩,
       ⟨none, .st 1 (.t 57) (.t 55), none⟩] []))
     (.seq (.seq (.reg [⟨(some 58), .mv (.t 7), none⟩,
       ⟨(some 59), .mv (.t 1), none⟩,
       ⟨(some 60), .bin .sub (.t 58) (.t 59), none⟩,
       ⟨(some 61), .bin .geq (.t 60) (.c (.i .i64 2)), none⟩])
     (.cond (.t 61)
      (.seq (.reg [⟨(some 62), .mv (.t 7), none⟩,
        ⟨(some 63), .bin .sub (.t 62) (.c (.i .i64 1)), none⟩,
        ⟨(some 9), .mv (.t 63), none⟩])
      (.blk 4 (.loop (.seq (.seq (.reg [⟨(some 64), .mv (.t 9), none⟩,
          ⟨(some 65), .bin .geq (.t 64) (.c (.i .i64 1)), none⟩])
        (.cond (.t 65)
         .skip
         (.exit 4)))
        (.seq (.blk 5 (.seq (.seq (.regD [⟨(some 68), .mv (.t 0), none⟩,
           ⟨(some 69), .mv (.t 9), none⟩,
           ⟨(some 70), .ia 1 (.t 68) (.t 69), none⟩,
           ⟨(some 71), .ld false 1 (.t 70), none⟩,
           ⟨(some 72), .mv (.t 0), none⟩,
           ⟨(some 73), .mv (.t 9), none⟩,
           ⟨(some 74), .bin .sub (.t 73) (.c (.i .i64 1)), none⟩,
           ⟨(some 75), .ia 1 (.t 72) (.t 74), none⟩,
           ⟨(some 76), .ld false 1 (.t 75), none⟩,
           ⟨(some 77), .call f_cmp_Less_string [(.t 71), (.t 76)], none⟩,
           ⟨(some 78), .un .not (.t 77), none⟩] [])
         (.cond (.t 78)
          (.exit 4)
          .skip))
         (.seq (.thw 0)
         (.regD [⟨(some 79), .mv (.t 0), none⟩,
           ⟨(some 80), .mv (.t 9), none⟩,
           ⟨(some 81), .mv (.t 0), none⟩,
           ⟨(some 82), .mv (.t 9), none⟩,
           ⟨(some 83), .bin .sub (.t 82) (.c (.i .i64 1)), none⟩,
           ⟨(some 84), .mv (.t 0), none⟩,
           ⟨(some 85), .mv (.t 9), none⟩,
           ⟨(some 86), .bin .sub (.t 85) (.c (.i .i64 1)), none⟩,
           ⟨(some 87), .ia 1 (.t 84) (.t 86), none⟩,
           ⟨(some 88), .ld false 1 (.t 87), none⟩,
           ⟨(some 89), .mv (.t 0), none⟩,
           ⟨(some 90), .mv (.t 9), none⟩,
           ⟨(some 91), .ia 1 (.t 89) (.t 90), none⟩,
           ⟨(some 92), .ld false 1 (.t 91), none⟩,
           ⟨(some 93), .ia 1 (.t 79) (.t 80), none⟩,
           ⟨none, .st 1 (.t 93) (.t 88), none⟩,
           ⟨(some 94), .ia 1 (.t 81) (.t 83), none⟩,
           ⟨none, .st 1 (.t 94) (.t 92), none⟩] []))))
        (.reg [⟨(some 66), .mv (.t 9), none⟩,
          ⟨(some 67), .bin .sub (.t 66) (.c (.i .i64 1)), none⟩,
          ⟨(some 9), .mv (.t 67), none⟩]))))))
      .skip))
     (.seq (.reg [⟨(some 95), .mv (.t 2), none⟩,
       ⟨(some 96), .mv (.t 7), none⟩,
       ⟨(some 97), .bin .sub (.t 95) (.t 96), none⟩,
       ⟨(some 98), .bin .geq (.t 97) (.c (.i .i64 2)), none⟩])
     (.cond (.t 98)
      (.seq (.reg [⟨(some 99), .mv (.t 7), none⟩,
        ⟨(some 100), .bin .add (.t 99) (.c (.i .i64 1)), none⟩,
        ⟨(some 10), .mv (.t 100), none⟩])
      (.blk 6 (.loop (.seq (.seq (.reg [⟨(some 101), .mv (.t 10), none⟩,
          ⟨(some 102), .mv (.t 2), none⟩,
          ⟨(some 103), .bin .lss (.t 101) (.t 102), none⟩])
        (.cond (.t 103)
         .skip
         (.exit 6)))
        (.seq (.blk 7 (.seq (.seq (.regD [⟨(some 106), .mv (.t 0), none⟩,
           ⟨(some 107), .mv (.t 10), none⟩,
           ⟨(some 108), .ia 1 (.t 106) (.t 107), none⟩,
           ⟨(some 109), .ld false 1 (.t 108), none⟩,
           ⟨(some 110), .mv (.t 0), none⟩,
           ⟨(some 111), .mv (.t 10), none⟩,
           ⟨(some 112), .bin .sub (.t 111) (.c (.i .i64 1)), none⟩,
           ⟨(some 113), .ia 1 (.t 110) (.t 112), none⟩,
           ⟨(some 114), .ld false 1 (.t 113), none⟩,
           ⟨(some 115), .call f_cmp_Less_string [(.t 109), (.t 114)], none⟩,
           ⟨(some 116), .un .not (.t 115), none⟩] [])
         (.cond (.t 116)
          (.exit 6)
          .skip))
         (.seq (.thw 0)
         (.regD [⟨(some 117), .mv (.t 0), none⟩,
           ⟨(some 118), .mv (.t 10), none⟩,
           ⟨(some 119), .mv (.t 0), none⟩,
           ⟨(some 120), .mv (.t 10), none⟩,
           ⟨(some 121), .bin .sub (.t 120) (.c (.i .i64 1)), none⟩,
           ⟨(some 122), .mv (.t 0), none⟩,
           ⟨(some 123), .mv (.t 10), none⟩,
           ⟨(some 124), .bin .sub (.t 123) (.c (.i .i64 1)), none⟩,
           ⟨(some 125), .ia 1 (.t 122) (.t 124), none⟩,
           ⟨(some 126), .ld false 1 (.t 125), none⟩,
           ⟨(some 127), .mv (.t 0), none⟩,
           ⟨(some 128), .mv (.t 10), none⟩,
           ⟨(some 129), .ia 1 (.t 127) (.t 128), none⟩,
           ⟨(some 130), .ld false 1 (.t 129), none⟩,
           ⟨(some 131), .ia 1 (.t 117) (.t 118), none⟩,
           ⟨none, .st 1 (.t 131) (.t 126), none⟩,
           ⟨(some 132), .ia 1 (.t 119) (.t 121), none⟩,
           ⟨none, .st 1 (.t 132) (.t 130), none⟩] []))))
        (.reg [⟨(some 104), .mv (.t 10), none⟩,
          ⟨(some 105), .bin .add (.t 104) (.c (.i .i64 1)), none⟩,
          ⟨(some 10), .mv (.t 105), none⟩]))))))
      .skip))))))))
    (.reg [⟨(some 15), .mv (.t 8), none⟩,
      ⟨(some 16), .bin .add (.t 15) (.c (.i .i64 1)), none⟩,
      ⟨(some 8), .mv (.t 16), none⟩]))))))
  (.seq (.reg [⟨(some 6), .mv (.c (.b false)), none⟩])
  .ret)))) }
def c_cmp_Less_string : Fun := { cin := [.id, .id], cout := [.id], ntmps := 17, keep := false, res := [(4, none)], body :=
  (.seq (.reg [⟨(some 4), .mv (.c (.b false)), none⟩])
  (.seq (.reg [⟨(some 5), .mv (.t 0), none⟩,
    ⟨(some 6), .call f_cmp_isNaN_string [(.t 5)], none⟩,
    ⟨(some 7), .mv (.t 6), none⟩,
    ⟨(some 8), .mv (.t 1), (some (7, true))⟩,
    ⟨(some 9), .call f_cmp_isNaN_string [(.t 8)], (some (7, true))⟩,
    ⟨(some 10), .un .not (.t 9), (some (7, true))⟩,
    ⟨(some 11), .pick (.t 7) (.t 10) (.c (.b false)), none⟩,
    ⟨(some 12), .mv (.t 11), none⟩,
    ⟨(some 13), .mv (.t 0), (some (12, false))⟩,
    ⟨(some 14), .mv (.t 1), (some (12, false))⟩,
    ⟨(some 15), .bin .lss (.t 13) (.t 14), (some (12, false))⟩,
    ⟨(some 16), .pick (.t 12) (.c (.b true)) (.t 15), none⟩,
    ⟨(some 4), .mv (.t 16), none⟩])
  .ret)) }
def c_slices_partitionEqualOrdered_string : Fun := { cin := [(.sl 1 .id), .id, .id, .id], cout := [.id], ntmps := 84, keep := false, res := [(8, none)], body :=
  (.seq (.reg [⟨(some 8), .mv (.c (.i .i64 0)), none⟩])
  (.seq (.seq (.thw 0)
  (.regD [⟨(some 11), .mv (.t 0), none⟩,
    ⟨(some 12), .mv (.t 1), none⟩,
    ⟨(some 13), .mv (.t 0), none⟩,
    ⟨(some 14), .mv (.t 3), none⟩,
    ⟨(some 15), .mv (.t 0), none⟩,
    ⟨(some 16), .mv (.t 3), none⟩,
    ⟨(some 17), .ia 1 (.t 15) (.t 16), none⟩,
    ⟨(some 18), .ld false 1 (.t 17), none⟩,
    ⟨(some 19), .mv (.t 0), none⟩,
    ⟨(some 20), .mv (.t 1), none⟩,
    ⟨(some 21), .ia 1 (.t 19) (.t 20), none⟩,
    ⟨(some 22), .ld false 1 (.t 21), none⟩,
    ⟨(some 23), .ia 1 (.t 11) (.t 12), none⟩,
    ⟨none, .st 1 (.t 23) (.t 18), none⟩,
    ⟨(some 24), .ia 1 (.t 13) (.t 14), none⟩,
    ⟨none, .st 1 (.t 24) (.t 22), none⟩] []))
  (.seq (.reg [⟨(some 25), .mv (.t 1), none⟩,
    ⟨(some 26), .bin .add (.t 25) (.c (.i .i64 1)), none⟩,
    ⟨(some 27), .mv (.t 2), none⟩,
    ⟨(some 28), .bin .sub (.t 27) (.c (.i .i64 1)), none⟩,
    ⟨(some 9), .mv (.t 26), none⟩,
    ⟨(some 10), .mv (.t 28), none⟩])
  (.seq (.blk 0 (.loop (.blk 1 (.seq (.blk 2 (.loop (.seq (.seq (.regD [⟨(some 29), .mv (.t 9), none⟩,
         ⟨(some 30), .mv (.t 10), none⟩,
         ⟨(some 31), .bin .leq (.t 29) (.t 30), none⟩,
         ⟨(some 32), .mv (.t 31), none⟩,
         ⟨(some 33), .mv (.t 0), (some (32, true))⟩,
         ⟨(some 34), .mv (.t 1), (some (32, true))⟩,
         ⟨(some 35), .ia 1 (.t 33) (.t 34), (some (32, true))⟩,
         ⟨(some 36), .ld false 1 (.t 35), (some (32, true))⟩,
         ⟨(some 37), .mv (.t 0), (some (32, true))⟩,
         ⟨(some 38), .mv (.t 9), (some (32, true))⟩,
         ⟨(some 39), .ia 1 (.t 37) (.t 38), (some (32, true))⟩,
         ⟨(some 40), .ld false 1 (.t 39), (some (32, true))⟩,
         ⟨(some 41), .call f_cmp_Less_string [(.t 36), (.t 40)], (some (32, true))⟩,
         ⟨(some 42), .un .not (.t 41), (some (32, true))⟩,
         ⟨(some 43), .pick (.t 32) (.t 42) (.c (.b false)), none⟩] [])
       (.cond (.t 43)
        .skip
        (.exit 2)))
       (.blk 3 (.reg [⟨(some 44), .mv (.t 9), none⟩,
          ⟨(some 45), .bin .add (.t 44) (.c (.i .i64 1)), none⟩,
          ⟨(some 9), .mv (.t 45), none⟩])))))
     (.seq (.blk 4 (.loop (.seq (.seq (.regD [⟨(some 46), .mv (.t 9), none⟩,
         ⟨(some 47), .mv (.t 10), none⟩,
         ⟨(some 48), .bin .leq (.t 46) (.t 47), none⟩,
         ⟨(some 49), .mv (.t 48), none⟩,
         ⟨(some 50), .mv (.t 0), (some (49, true))⟩,
         ⟨(some 51), .mv (.t 1), (some (49, true))⟩,
         ⟨(some 52), .ia 1 (.t 50) (.t 51), (some (49, true))⟩,
         ⟨(some 53), .ld false 1 (.t 52), (some (49, true))⟩,
         ⟨(some 54), .mv (.t 0), (some (49, true))⟩,
         ⟨(some 55), .mv (.t 10), (some (49, true))⟩,
         ⟨(some 56), .ia 1 (.t 54) (.t 55), (some (49, true))⟩,
         ⟨(some 57), .ld false 1 (.t 56), (some (49, true))⟩,
         ⟨(some 58), .call f_cmp_Less_string [(.t 53), (.t 57)], (some (49, true))⟩,
         ⟨(some 59), .pick (.t 49) (.t 58) (.c (.b false)), none⟩] [])
       (.cond (.t 59)
        .skip
        (.exit 4)))
       (.blk 5 (.reg [⟨(some 60), .mv (.t 10), none⟩,
          ⟨(some 61), .bin .sub (.t 60) (.c (.i .i64 1)), none⟩,
          ⟨(some 10), .mv (.t 61), none⟩])))))
     (.seq (.seq (.reg [⟨(some 62), .mv (.t 9), none⟩,
       ⟨(some 63), .mv (.t 10), none⟩,
       ⟨(some 64), .bin .gtr (.t 62) (.t 63), none⟩])
     (.cond (.t 64)
      (.exit 0)
      .skip))
     (.seq (.seq (.thw 0)
     (.regD [⟨(some 65), .mv (.t 0), none⟩,
       ⟨(some 66), .mv (.t 9), none⟩,
       ⟨(some 67), .mv (.t 0), none⟩,
       ⟨(some 68), .mv (.t 10), none⟩,
       ⟨(some 69), .mv (.t 0), none⟩,
       ⟨(some 70), .mv (.t 10), none⟩,
       ⟨(some 71), .ia 1 (.t 69) (.t 70), none⟩,
       ⟨(some 72), .ld false 1 (.t 71), none⟩,
       ⟨(some 73), .mv (.t 0), none⟩,
       ⟨(some 74), .mv (.t 9), none⟩,
       ⟨(some 75), .ia 1 (.t 73) (.t 74), none⟩,
       ⟨(some 76), .ld false 1 (.t 75), none⟩,
       ⟨(some 77), .ia 1 (.t 65) (.t 66), none⟩,
       ⟨none, .st 1 (.t 77) (.t 72), none⟩,
       ⟨(some 78), .ia 1 (.t 67) (.t 68), none⟩,
       ⟨none, .st 1 (.t 78) (.t 76), none⟩] []))
     (.seq (.reg [⟨(some 79), .mv (.t 9), none⟩,
       ⟨(some 80), .bin .add (.t 79) (.c (.i .i64 1)), none⟩,
       ⟨(some 9), .mv (.t 80), none⟩])
     (.reg [⟨(some 81), .mv (.t 10), none⟩,
       ⟨(some 82), .bin .sub (.t 81) (.c (.i .i64 1)), none⟩,
       ⟨(some 10), .mv (.t 82), none⟩])))))))))
  (.seq (.reg [⟨(some 83), .mv (.t 9), none⟩,
    ⟨(some 8), .mv (.t 83), none⟩])
  .ret))))) }
def c_slices_partitionOrdered_string : Fun := { cin := [(.sl 1 .id), .id, .id, .id], cout := [.id, .id], ntmps := 168, keep := false, res := [(8, none), (9, none)], body :=
  (.seq (.reg [⟨(some 8), .mv (.c (.i .i64 0)), none⟩,
    ⟨(some 9), .mv (.c (.b false)), none⟩])
  (.seq (.seq (.thw 0)
  (.regD [⟨(some 12), .mv (.t 0), none⟩,
    ⟨(some 13), .mv (.t 1), none⟩,
    ⟨(some 14), .mv (.t 0), none⟩,
    ⟨(some 15), .mv (.t 3), none⟩,
    ⟨(some 16), .mv (.t 0), none⟩,
    ⟨(some 17), .mv (.t 3), none⟩,
    ⟨(some 18), .ia 1 (.t 16) (.t 17), none⟩,
    ⟨(some 19), .ld false 1 (.t 18), none⟩,
    ⟨(some 20), .mv (.t 0), none⟩,
    ⟨(some 21), .mv (.t 1), none⟩,
    ⟨(some 22), .ia 1 (.t 20) (.t 21), none⟩,
    ⟨(some 23), .ld false 1 (.t 22), none⟩,
    ⟨(some 24), .ia 1 (.t 12) (.t 13), none⟩,
    ⟨none, .st 1 (.t 24) (.t 19), none⟩,
    ⟨(some 25), .ia 1 (.t 14) (.t 15), none⟩,
    ⟨none, .st 1 (.t 25) (.t 23), none⟩] []))
  (.seq (.reg [⟨(some 26), .mv (.t 1), none⟩,
    ⟨(some 27), .bin .add (.t 26) (.c (.i .i64 1)), none⟩,
    ⟨(some 28), .mv (.t 2), none⟩,
    ⟨(some 29), .bin .sub (.t 28) (.c (.i .i64 1)), none⟩,
    ⟨(some 10), .mv (.t 27), none⟩,
    ⟨(some 11), .mv (.t 29), none⟩])
  (.seq (.blk 0 (.loop (.seq (.seq (.regD [⟨(some 30), .mv (.t 10), none⟩,
      ⟨(some 31), .mv (.t 11), none⟩,
      ⟨(some 32), .bin .leq (.t 30) (.t 31), none⟩,
      ⟨(some 33), .mv (.t 32), none⟩,
      ⟨(some 34), .mv (.t 0), (some (33, true))⟩,
      ⟨(some 35), .mv (.t 10), (some (33, true))⟩,
      ⟨(some 36), .ia 1 (.t 34) (.t 35), (some (33, true))⟩,
      ⟨(some 37), .ld false 1 (.t 36), (some (33, true))⟩,
      ⟨(some 38), .mv (.t 0), (some (33, true))⟩,
      ⟨(some 39), .mv (.t 1), (some (33, true))⟩,
      ⟨(some 40), .ia 1 (.t 38) (.t 39), (some (33, true))⟩,
      ⟨(some 41), .ld false 1 (.t 40), (some (33, true))⟩,
      ⟨(some 42), .call f_cmp_Less_string [(.t 37), (.t 41)], (some (33, true))⟩,
      ⟨(some 43), .pick (.t 33) (.t 42) (.c (.b false)), none⟩] [])
    (.cond (.t 43)
     .skip
     (.exit 0)))
    (.blk 1 (.reg [⟨(some 44), .mv (.t 10), none⟩,
       ⟨(some 45), .bin .add (.t 44) (.c (.i .i64 1)), none⟩,
       ⟨(some 10), .mv (.t 45), none⟩])))))
  (.seq (.blk 2 (.loop (.seq (.seq (.regD [⟨(some 46), .mv (.t 10), none⟩,
      ⟨(some 47), .mv (.t 11), none⟩,
      ⟨(some 48), .bin .leq (.t 46) (.t 47), none⟩,
      ⟨(some 49), .mv (.t 48), none⟩,
      ⟨(some 50), .mv (.t 0), (some (49, true))⟩,
      ⟨(some 51), .mv (.t 11), (some (49, true))⟩,
      ⟨(some 52), .ia 1 (.t 50) (.t 51), (some (49, true))⟩,
      ⟨(some 53), .ld false 1 (.t 52), (some (49, true))⟩,
      ⟨(some 54), .mv (.t 0), (some (49, true))⟩,
      ⟨(some 55), .mv (.t 1), (some (49, true))⟩,
      ⟨(some 56), .ia 1 (.t 54) (.t 55), (some (49, true))⟩,
      ⟨(some 57), .ld false 1 (.t 56), (some (49, true))⟩,
      ⟨(some 58), .call f_cmp_Less_string [(.t 53), (.t 57)], (some (49, true))⟩,
      ⟨(some 59), .un .not (.t 58), (some (49, true))⟩,
      ⟨(some 60), .pick (.t 49) (.t 59) (.c (.b false)), none⟩] [])
    (.cond (.t 60)
     .skip
     (.exit 2)))
    (.blk 3 (.reg [⟨(some 61), .mv (.t 11), none⟩,
       ⟨(some 62), .bin .sub (.t 61) (.c (.i .i64 1)), none⟩,
       ⟨(some 11), .mv (.t 62), none⟩])))))
  (.seq (.seq (.reg [⟨(some 63), .mv (.t 10), none⟩,
    ⟨(some 64), .mv (.t 11), none⟩,
    ⟨(some 65), .bin .gtr (.t 63) (.t 64), none⟩])
  (.cond (.t 65)
   (.seq (.seq (.thw 0)
   (.regD [⟨(some 66), .mv (.t 0), none⟩,
     ⟨(some 67), .mv (.t 11), none⟩,
     ⟨(some 68), .mv (.t 0), none⟩,
     ⟨(some 69), .mv (.t 1), none⟩,
     ⟨(some 70), .mv (.t 0), none⟩,
     ⟨(some 71), .mv (.t 1), none⟩,
     ⟨(some 72), .ia 1 (.t 70) (.t 71), none⟩,
     ⟨(some 73), .ld false 1 (.t 72), none⟩,
     ⟨(some 74), .mv (.t 0), none⟩,
     ⟨(some 75), .mv (.t 11), none⟩,
     ⟨(some 76), .ia 1 (.t 74) (.t 75), none⟩,
     ⟨(some 77), .ld false 1 (.t 76), none⟩,
     ⟨(some 78), .ia 1 (.t 66) (.t 67), none⟩,
     ⟨none, .st 1 (.t 78) (.t 73), none⟩,
     ⟨(some 79), .ia 1 (.t 68) (.t 69), none⟩,
     ⟨none, .st 1 (.t 79) (.t 77), none⟩] []))
   (.seq (.reg [⟨(some 80), .mv (.t 11), none⟩,
     ⟨(some 8), .mv (.t 80), none⟩,
     ⟨(some 9), .mv (.c (.b true)), none⟩])
   .ret))
   .skip))
  (.seq (.seq (.thw 0)
  (.regD [⟨(some 81), .mv (.t 0), none⟩,
    ⟨(some 82), .mv (.t 10), none⟩,
    ⟨(some 83), .mv (.t 0), none⟩,
    ⟨(some 84), .mv (.t 11), none⟩,
    ⟨(some 85), .mv (.t 0), none⟩,
    ⟨(some 86), .mv (.t 11), none⟩,
    ⟨(some 87), .ia 1 (.t 85) (.t 86), none⟩,
    ⟨(some 88), .ld false 1 (.t 87), none⟩,
    ⟨(some 89), .mv (.t 0), none⟩,
    ⟨(some 90), .mv (.t 10), none⟩,
    ⟨(some 91), .ia 1 (.t 89) (.t 90), none⟩,
    ⟨(some 92), .ld false 1 (.t 91), none⟩,
    ⟨(some 93), .ia 1 (.t 81) (.t 82), none⟩,
    ⟨none, .st 1 (.t 93) (.t 88), none⟩,
    ⟨(some 94), .ia 1 (.t 83) (.t 84), none⟩,
    ⟨none, .st 1 (.t 94) (.t 92), none⟩] []))
  (.seq (.reg [⟨(some 95), .mv (.t 10), none⟩,
    ⟨(some 96), .bin .add (.t 95) (.c (.i .i64 1)), none⟩,
    ⟨(some 10), .mv (.t 96), none⟩])
  (.seq (.reg [⟨(some 97), .mv (.t 11), none⟩,
    ⟨(some 98), .bin .sub (.t 97) (.c (.i .i64 1)), none⟩,
    ⟨(some 11), .mv (.t 98), none⟩])
  (.seq (.blk 4 (.loop (.blk 5 (.seq (.blk 6 (.loop (.seq (.seq (.regD [⟨(some 99), .mv (.t 10), none⟩,
         ⟨(some 100), .mv (.t 11), none⟩,
         ⟨(some 101), .bin .leq (.t 99) (.t 100), none⟩,
         ⟨(some 102), .mv (.t 101), none⟩,
         ⟨(some 103), .mv (.t 0), (some (102, true))⟩,
         ⟨(some 104), .mv (.t 10), (some (102, true))⟩,
         ⟨(some 105), .ia 1 (.t 103) (.t 104), (some (102, true))⟩,
         ⟨(some 106), .ld false 1 (.t 105), (some (102, true))⟩,
         ⟨(some 107), .mv (.t 0), (some (102, true))⟩,
         ⟨(some 108), .mv (.t 1), (some (102, true))⟩,
         ⟨(some 109), .ia 1 (.t 107) (.t 108), (some (102, true))⟩,
         ⟨(some 110), .ld false 1 (.t 109), (some (102, true))⟩,
         ⟨(some 111), .call f_cmp_Less_string [(.t 106), (.t 110)], (some (102, true))⟩,
         ⟨(some 112), .pick (.t 102) (.t 111) (.c (.b false)), none⟩] [])
       (.cond (.t 112)
        .skip
        (.exit 6)))
       (.blk 7 (.reg [⟨(some 113), .mv (.t 10), none⟩,
          ⟨(some 114), .bin .add (.t 113) (.c (.i .i64 1)), none⟩,
          ⟨(some 10), .mv (.t 114), none⟩])))))
     (.seq (.blk 8 (.loop (.seq (.seq (.regD [⟨(some 115), .mv (.t 10), none⟩,
         ⟨(some 116), .mv (.t 11), none⟩,
         ⟨(some 117), .bin .leq (.t 115) (.t 116), none⟩,
         ⟨(some 118), .mv (.t 117), none⟩,
         ⟨(some 119), .mv (.t 0), (some (118, true))⟩,
         ⟨(some 120), .mv (.t 11), (some (118, true))⟩,
         ⟨(some 121), .ia 1 (.t 119) (.t 120), (some (118, true))⟩,
         ⟨(some 122), .ld false 1 (.t 121), (some (118, true))⟩,
         ⟨(some 123), .mv (.t 0), (some (118, true))⟩,
         ⟨(some 124), .mv (.t 1), (some (118, true))⟩,
         ⟨(some 125), .ia 1 (.t 123) (.t 124), (some (118, true))⟩,
         ⟨(some 126), .ld false 1 (.t 125), (some (118, true))⟩,
         ⟨(some 127), .call f_cmp_Less_string [(.t 122), (.t 126)], (some (118, true))⟩,
         ⟨(some 128), .un .not (.t 127), (some (118, true))⟩,
         ⟨(some 129), .pick (.t 118) (.t 128) (.c (.b false)), none⟩] [])
       (.cond (.t 129)
        .skip
        (.exit 8)))
       (.blk 9 (.reg [⟨(some 130), .mv (.t 11), none⟩,
          ⟨(some 131), .bin .sub (.t 130) (.c (.i .i64 1)), none⟩,
          ⟨(some 11), .mv (.t 131), none⟩])))))
     (.seq (.seq (.reg [⟨(some 132), .mv (.t 10), none⟩,
       ⟨(some 133), .mv (.t 11), none⟩,
       ⟨(some 134), .bin .gtr (.t 132) (.t 133), none⟩])
     (.cond (.t 134)
      (.exit 4)
      .skip))
     (.seq (.seq (.thw 0)
     (.regD [⟨(some 135), .mv (.t 0), none⟩,
       ⟨(some 136), .mv (.t 10), none⟩,
       ⟨(some 137), .mv (.t 0), none⟩,
       ⟨(some 138), .mv (.t 11), none⟩,
       ⟨(some 139), .mv (.t 0), none⟩,
       ⟨(some 140), .mv (.t 11), none⟩,
       ⟨(some 141), .ia 1 (.t 139) (.t 140), none⟩,
       ⟨(some 142), .ld false 1 (.t 141), none⟩,
       ⟨(some 143), .mv (.t 0), none⟩,
       ⟨(some 144), .mv (.t 10), none⟩,
       ⟨(some 145), .ia 1 (.t 143) (.t 144), none⟩,
       ⟨(some 146), .ld false 1 (.t 145), none⟩,
       ⟨(some 147), .ia 1 (.t 135) (.t 136), none⟩,
       ⟨none, .st 1 (.t 147) (.t 142), none⟩,
       ⟨(some 148), .ia 1 (.t 137) (.t 138), none⟩,
       ⟨none, .st 1 (.t 148) (.t 146), none⟩] []))
     (.seq (.reg [⟨(some 149), .mv (.t 10), none⟩,
       ⟨(some 150), .bin .add (.t 149) (.c (.i .i64 1)), none⟩,
       ⟨(some 10), .mv (.t 150), none⟩])
     (.reg [⟨(some 151), .mv (.t 11), none⟩,
       ⟨(some 152), .bin .sub (.t 151) (.c (.i .i64 1)), none⟩,
       ⟨(some 11), .mv (.t 152), none⟩])))))))))
  (.seq (.seq (.thw 0)
  (.regD [⟨(some 153), .mv (.t 0), none⟩,
    ⟨(some 154), .mv (.t 11), none⟩,
    ⟨(some 155), .mv (.t 0), none⟩,
    ⟨(some 156), .mv (.t 1), none⟩,
    ⟨(some 157), .mv (.t 0), none⟩,
    ⟨(some 158), .mv (.t 1), none⟩,
    ⟨(some 159), .ia 1 (.t 157) (.t 158), none⟩,
    ⟨(some 160), .ld false 1 (.t 159), none⟩,
    ⟨(some 161), .mv (.t 0), none⟩,
    ⟨(some 162), .mv (.t 11), none⟩,
    ⟨(some 163), .ia 1 (.t 161) (.t 162), none⟩,
    ⟨(some 164), .ld false 1 (.t 163), none⟩,
    ⟨(some 165), .ia 1 (.t 153) (.t 154), none⟩,
    ⟨none, .st 1 (.t 165) (.t 160), none⟩,
    ⟨(some 166), .ia 1 (.t 155) (.t 156), none⟩,
    ⟨none, .st 1 (.t 166) (.t 164), none⟩] []))
  (.seq (.reg [⟨(some 167), .mv (.t 11), none⟩,
    ⟨(some 8), .mv (.t 167), none⟩,
    ⟨(some 9), .mv (.c (.b false)), none⟩])
  .ret)))))))))))) }
def c_math_bits_Len32 : Fun := { cin := [.id], cout := [.id], ntmps := 19, keep := false, res := [(2, none)], body :=
  (.seq (.reg [⟨(some 2), .mv (.c (.i .i64 0)), none⟩])
  (.seq (.seq (.reg [⟨(some 3), .mv (.t 0), none⟩,
    ⟨(some 4), .bin .geq (.t 3) (.c (.i .u32 65536)), none⟩])
  (.cond (.t 4)
   (.seq (.reg [⟨(some 5), .mv (.t 0), none⟩,
     ⟨(some 6), .bin .shr (.t 5) (.c (.i .u64 16)), none⟩,
     ⟨(some 0), .mv (.t 6), none⟩])
   (.reg [⟨(some 2), .mv (.c (.i .i64 16)), none⟩]))
   .skip))
  (.seq (.seq (.reg [⟨(some 7), .mv (.t 0), none⟩,
    ⟨(some 8), .bin .geq (.t 7) (.c (.i .u32 256)), none⟩])
  (.cond (.t 8)
   (.seq (.reg [⟨(some 9), .mv (.t 0), none⟩,
     ⟨(some 10), .bin .shr (.t 9) (.c (.i .u64 8)), none⟩,
     ⟨(some 0), .mv (.t 10), none⟩])
   (.reg [⟨(some 11), .mv (.t 2), none⟩,
     ⟨(some 12), .bin .add (.t 11) (.c (.i .i64 8)), none⟩,
     ⟨(some 2), .mv (.t 12), none⟩]))
   .skip))
  (.seq (.reg [⟨(some 13), .mv (.t 2), none⟩,
    ⟨(some 14), .mv (.t 0), none⟩,
    ⟨(some 15), .cvI .u8 (.t 14), none⟩,
    ⟨(some 16), .ixS (.c (.s [0, 1, 2, 2, 3, 3, 3, 3, 4, 4, 4, 4, 4, 4, 4, 4, 5, 5, 5, 5, 5, 5, 5, 5, 5, 5, 5, 5, 5, 5, 5, 5, 6, 6, 6, 6, 6, 6, 6, 6, 6, 6, 6, 6, 6, 6, 6, 6, 6, 6, 6, 6, 6, 6, 6, 6, 6, 6, 6, 6, 6, 6, 6, 6, 7, 7, 7, 7, 7, 7, 7, 7, 7, 7, 7, 7, 7, 7, 7, 7, 7, 7, 7, 7, 7, 7, 7, 7, 7, 7, 7, 7, 7, 7, 7, 7, 7, 7, 7, 7, 7, 7, 7, 7, 7, 7, 7, 7, 7, 7, 7, 7, 7, 7, 7, 7, 7, 7, 7, 7, 7, 7, 7, 7, 7, 7, 7, 7, 8, 8, 8, 8, 8, 8, 8, 8, 8, 8, 8, 8, 8, 8, 8, 8, 8, 8, 8, 8, 8, 8, 8, 8, 8, 8, 8, 8, 8, 8, 8, 8, 8, 8, 8, 8, 8, 8, 8, 8, 8, 8, 8, 8, 8, 8, 8, 8, 8, 8, 8, 8, 8, 8, 8, 8, 8, 8, 8, 8, 8, 8, 8, 8, 8, 8, 8, 8, 8, 8, 8, 8, 8, 8, 8, 8, 8, 8, 8, 8, 8, 8, 8, 8, 8, 8, 8, 8, 8, 8, 8, 8, 8, 8, 8, 8, 8, 8, 8, 8, 8, 8, 8, 8, 8, 8, 8, 8, 8, 8, 8, 8, 8, 8, 8, 8, 8, 8, 8, 8, 8, 8, 8, 8, 8, 8, 8, 8])) (.t 15), none⟩,
    ⟨(some 17), .cvI .i64 (.t 16), none⟩,
    ⟨(some 18), .bin .add (.t 13) (.t 17), none⟩,
    ⟨(some 2), .mv (.t 18), none⟩])
  .ret)))) }
def c_math_bits_Len64 : Fun := { cin := [.id], cout := [.id], ntmps := 25, keep := false, res := [(2, none)], body :=
  (.seq (.reg [⟨(some 2), .mv (.c (.i .i64 0)), none⟩])
  (.seq (.seq (.reg [⟨(some 3), .mv (.t 0), none⟩,
    ⟨(some 4), .bin .geq (.t 3) (.c (.i .u64 4294967296)), none⟩])
  (.cond (.t 4)
   (.seq (.reg [⟨(some 5), .mv (.t 0), none⟩,
     ⟨(some 6), .bin .shr (.t 5) (.c (.i .u64 32)), none⟩,
     ⟨(some 0), .mv (.t 6), none⟩])
   (.reg [⟨(some 2), .mv (.c (.i .i64 32)), none⟩]))
   .skip))
  (.seq (.seq (.reg [⟨(some 7), .mv (.t 0), none⟩,
    ⟨(some 8), .bin .geq (.t 7) (.c (.i .u64 65536)), none⟩])
  (.cond (.t 8)
   (.seq (.reg [⟨(some 9), .mv (.t 0), none⟩,
     ⟨(some 10), .bin .shr (.t 9) (.c (.i .u64 16)), none⟩,
     ⟨(some 0), .mv (.t 10), none⟩])
   (.reg [⟨(some 11), .mv (.t 2), none⟩,
     ⟨(some 12), .bin .add (.t 11) (.c (.i .i64 16)), none⟩,
     ⟨(some 2), .mv (.t 12), none⟩]))
   .skip))
  (.seq (.seq (.reg [⟨(some 13), .mv (.t 0), none⟩,
    ⟨(some 14), .bin .geq (.t 13) (.c (.i .u64 256)), none⟩])
  (.cond (.t 14)
   (.seq (.reg [⟨(some 15), .mv (.t 0), none⟩,
     ⟨(some 16), .bin .shr (.t 15) (.c (.i .u64 8)), none⟩,
     ⟨(some 0), .mv (.t 16), none⟩])
   (.reg [⟨(some 17), .mv (.t 2), none⟩,
     ⟨(some 18), .bin .add (.t 17) (.c (.i .i64 8)), none⟩,
     ⟨(some 2), .mv (.t 18), none⟩]))
   .skip))
  (.seq (.reg [⟨(some 19), .mv (.t 2), none⟩,
    ⟨(some 20), .mv (.t 0), none⟩,
    ⟨(some 21), .cvI .u8 (.t 20), none⟩,
    ⟨(some 22), .ixS (.c (.s [0, 1, 2, 2, 3, 3, 3, 3, 4, 4, 4, 4, 4, 4, 4, 4, 5, 5, 5, 5, 5, 5, 5, 5, 5, 5, 5, 5, 5, 5, 5, 5, 6, 6, 6, 6, 6, 6, 6, 6, 6, 6, 6, 6, 6, 6, 6, 6, 6, 6, 6, 6, 6, 6, 6, 6, 6, 6, 6, 6, 6, 6, 6, 6, 7, 7, 7, 7, 7, 7, 7, 7, 7, 7, 7, 7, 7, 7, 7, 7, 7, 7, 7, 7, 7, 7, 7, 7, 7, 7, 7, 7, 7, 7, 7, 7, 7, 7, 7, 7, 7, 7, 7, 7, 7, 7, 7, 7, 7, 7, 7, 7, 7, 7, 7, 7, 7, 7, 7, 7, 7, 7, 7, 7, 7, 7, 7, 7, 8, 8, 8, 8, 8, 8, 8, 8, 8, 8, 8, 8, 8, 8, 8, 8, 8, 8, 8, 8, 8, 8, 8, 8, 8, 8, 8, 8, 8, 8, 8, 8, 8, 8, 8, 8, 8, 8, 8, 8, 8, 8, 8, 8, 8, 8, 8, 8, 8, 8, 8, 8, 8, 8, 8, 8, 8, 8, 8, 8, 8, 8, 8, 8, 8, 8, 8, 8, 8, 8, 8, 8, 8, 8, 8, 8, 8, 8, 8, 8, 8, 8, 8, 8, 8, 8, 8, 8, 8, 8, 8, 8, 8, 8, 8, 8, 8, 8, 8, 8, 8, 8, 8, 8, 8, 8, 8, 8, 8, 8, 8, 8, 8, 8, 8, 8, 8, 8, 8, 8, 8, 8, 8, 8, 8, 8, 8, 8])) (.t 21), none⟩,
    ⟨(some 23), .cvI .i64 (.t 22), none⟩,
    ⟨(some 24), .bin .add (.t 19) (.t 23), none⟩,
    ⟨(some 2), .mv (.t 24), none⟩])
  .ret))))) }
def c_internal_strconv_small : Fun := { cin := [.id], cout := [.id], ntmps := 15, keep := false, res := [(2, none)], body :=
  (.seq (.reg [⟨(some 2), .mv (.c (.s [])), none⟩])
  (.seq (.seq (.reg [⟨(some 3), .mv (.t 0), none⟩,
    ⟨(some 4), .bin .lss (.t 3) (.c (.i .i64 10)), none⟩])
  (.cond (.t 4)
   (.seq (.reg [⟨(some 5), .mv (.t 0), none⟩,
     ⟨(some 6), .mv (.t 0), none⟩,
     ⟨(some 7), .bin .add (.t 6) (.c (.i .i64 1)), none⟩,
     ⟨(some 8), .slS (.c (.s [48, 49, 50, 51, 52, 53, 54, 55, 56, 57, 97, 98, 99, 100, 101, 102, 103, 104, 105, 106, 107, 108, 109, 110, 111, 112, 113, 114, 115, 116, 117, 118, 119, 120, 121, 122])) (some (.t 5)) (some (.t 7)), none⟩,
     ⟨(some 2), .mv (.t 8), none⟩])
   .ret)
   .skip))
  (.seq (.reg [⟨(some 9), .mv (.t 0), none⟩,
    ⟨(some 10), .bin .mul (.t 9) (.c (.i .i64 2)), none⟩,
    ⟨(some 11), .mv (.t 0), none⟩,
    ⟨(some 12), .bin .mul (.t 11) (.c (.i .i64 2)), none⟩,
    ⟨(some 13), .bin .add (.t 12) (.c (.i .i64 2)), none⟩,
    ⟨(some 14), .slS (.c (.s [48, 48, 48, 49, 48, 50, 48, 51, 48, 52, 48, 53, 48, 54, 48, 55, 48, 56, 48, 57, 49, 48, 49, 49, 49, 50, 49, 51, 49, 52, 49, 53, 49, 54, 49, 55, 49, 56, 49, 57, 50, 48, 50, 49, 50, 50, 50, 51, 50, 52, 50, 53, 50, 54, 50, 55, 50, 56, 50, 57, 51, 48, 51, 49, 51, 50, 51, 51, 51, 52, 51, 53, 51, 54, 51, 55, 51, 56, 51, 57, 52, 48, 52, 49, 52, 50, 52, 51, 52, 52, 52, 53, 52, 54, 52, 55, 52, 56, 52, 57, 53, 48, 53, 49, 53, 50, 53, 51, 53, 52, 53, 53, 53, 54, 53, 55, 53, 56, 53, 57, 54, 48, 54, 49, 54, 50, 54, 51, 54, 52, 54, 53, 54, 54, 54, 55, 54, 56, 54, 57, 55, 48, 55, 49, 55, 50, 55, 51, 55, 52, 55, 53, 55, 54, 55, 55, 55, 56, 55, 57, 56, 48, 56, 49, 56, 50, 56, 51, 56, 52, 56, 53, 56, 54, 56, 55, 56, 56, 56, 57, 57, 48, 57, 49, 57, 50, 57, 51, 57, 52, 57, 53, 57, 54, 57, 55, 57, 56, 57, 57])) (some (.t 10)) (some (.t 13)), none⟩,
    ⟨(some 2), .mv (.t 14), none⟩])
  .ret))) }
def c_internal_strconv_numDigits : Fun := { cin := [.id], cout := [.id], ntmps := 15, keep := false, res := [(2, none)], body :=
  (.seq (.reg [⟨(some 2), .mv (.c (.i .i64 0)), none⟩])
  (.seq (.reg [⟨(some 4), .mv (.t 0), none⟩,
    ⟨(some 5), .call f_math_bits_Len64 [(.t 4)], none⟩,
    ⟨(some 6), .call f_internal_strconv_log10Pow2 [(.t 5)], none⟩,
    ⟨(some 3), .mv (.t 6), none⟩])
  (.seq (.reg [⟨(some 7), .mv (.t 3), none⟩,
    ⟨(some 8), .mv (.t 0), none⟩,
    ⟨(some 9), .mv (.t 3), none⟩,
    ⟨(some 10), .iaA 20 1 (.c (.ep [(.i .u64 1), (.i .u64 10), (.i .u64 100), (.i .u64 1000), (.i .u64 10000), (.i .u64 100000), (.i .u64 1000000), (.i .u64 10000000), (.i .u64 100000000), (.i .u64 1000000000), (.i .u64 10000000000), (.i .u64 100000000000), (.i .u64 1000000000000), (.i .u64 10000000000000), (.i .u64 100000000000000), (.i .u64 1000000000000000), (.i .u64 10000000000000000), (.i .u64 100000000000000000), (.i .u64 1000000000000000000), (.i .u64 10000000000000000000)] 0 .full)) (.t 9), none⟩,
    ⟨(some 11), .ld false 1 (.t 10), none⟩,
    ⟨(some 12), .bin .geq (.t 8) (.t 11), none⟩,
    ⟨(some 13), .call f_internal_strconv_bool2_int [(.t 12)], none⟩,
    ⟨(some 14), .bin .add (.t 7) (.t 13), none⟩,
    ⟨(some 2), .mv (.t 14), none⟩])
  .ret))) }
def c_internal_strconv_formatBase10 : Fun := { cin := [(.sl 1 .id), .id], cout := [], ntmps := 167, keep := false, res := [], body :=
  (.seq (.reg [⟨(some 17), .mv (.t 0), none⟩,
    ⟨(some 18), .len 1 (.t 17), none⟩,
    ⟨(some 4), .mv (.t 18), none⟩])
  (.seq (.blk 0 (.loop (.seq (.seq (.reg [⟨(some 19), .mv (.t 4), none⟩,
      ⟨(some 20), .bin .geq (.t 19) (.c (.i .i64 8)), none⟩])
    (.cond (.t 20)
     .skip
     (.exit 0)))
    (.blk 1 (.seq (.reg [⟨(some 21), .mv (.t 1), none⟩,
       ⟨(some 22), .bin .rem (.t 21) (.c (.i .u64 100000000)), none⟩,
       ⟨(some 23), .cvI .u32 (.t 22), none⟩,
       ⟨(some 5), .mv (.t 23), none⟩])
     (.seq (.reg [⟨(some 24), .mv (.t 1), none⟩,
       ⟨(some 25), .bin .quo (.t 24) (.c (.i .u64 100000000)), none⟩,
       ⟨(some 1), .mv (.t 25), none⟩])
     (.seq (.reg [⟨(some 26), .mv (.t 5), none⟩,
       ⟨(some 27), .bin .quo (.t 26) (.c (.i .u32 10000)), none⟩,
       ⟨(some 28), .mv (.t 5), none⟩,
       ⟨(some 29), .bin .rem (.t 28) (.c (.i .u32 10000)), none⟩,
       ⟨(some 6), .mv (.t 27), none⟩,
       ⟨(some 7), .mv (.t 29), none⟩])
     (.seq (.reg [⟨(some 30), .mv (.t 7), none⟩,
       ⟨(some 31), .bin .quo (.t 30) (.c (.i .u32 100)), none⟩,
       ⟨(some 32), .bin .mul (.t 31) (.c (.i .u32 2)), none⟩,
       ⟨(some 33), .mv (.t 7), none⟩,
       ⟨(some 34), .bin .rem (.t 33) (.c (.i .u32 100)), none⟩,
       ⟨(some 35), .bin .mul (.t 34) (.c (.i .u32 2)), none⟩,
       ⟨(some 8), .mv (.t 32), none⟩,
       ⟨(some 9), .mv (.t 35), none⟩])
     (.seq (.reg [⟨(some 36), .mv (.t 6), none⟩,
       ⟨(some 37), .bin .quo (.t 36) (.c (.i .u32 100)), none⟩,
       ⟨(some 38), .bin .mul (.t 37) (.c (.i .u32 2)), none⟩,
       ⟨(some 39), .mv (.t 6), none⟩,
       ⟨(some 40), .bin .rem (.t 39) (.c (.i .u32 100)), none⟩,
       ⟨(some 41), .bin .mul (.t 40) (.c (.i .u32 2)), none⟩,
       ⟨(some 10), .mv (.t 38), none⟩,
       ⟨(some 11), .mv (.t 41), none⟩])
     (.seq (.seq (.thw 0)
     (.regD [⟨(some 42), .mv (.t 0), none⟩,
       ⟨(some 43), .mv (.t 4), none⟩,
       ⟨(some 44), .bin .sub (.t 43) (.c (.i .i64 1)), none⟩,
       ⟨(some 45), .mv (.t 0), none⟩,
       ⟨(some 46), .mv (.t 4), none⟩,
       ⟨(some 47), .bin .sub (.t 46) (.c (.i .i64 2)), none⟩,
       ⟨(some 48), .mv (.t 9), none⟩,
       ⟨(some 49), .bin .add (.t 48) (.c (.i .u32 1)), none⟩,
       ⟨(some 50), .ixS (.c (.s [48, 48, 48, 49, 48, 50, 48, 51, 48, 52, 48, 53, 48, 54, 48, 55, 48, 56, 48, 57, 49, 48, 49, 49, 49, 50, 49, 51, 49, 52, 49, 53, 49, 54, 49, 55, 49, 56, 49, 57, 50, 48, 50, 49, 50, 50, 50, 51, 50, 52, 50, 53, 50, 54, 50, 55, 50, 56, 50, 57, 51, 48, 51, 49, 51, 50, 51, 51, 51, 52, 51, 53, 51, 54, 51, 55, 51, 56, 51, 57, 52, 48, 52, 49, 52, 50, 52, 51, 52, 52, 52, 53, 52, 54, 52, 55, 52, 56, 52, 57, 53, 48, 53, 49, 53, 50, 53, 51, 53, 52, 53, 53, 53, 54, 53, 55, 53, 56, 53, 57, 54, 48, 54, 49, 54, 50, 54, 51, 54, 52, 54, 53, 54, 54, 54, 55, 54, 56, 54, 57, 55, 48, 55, 49, 55, 50, 55, 51, 55, 52, 55, 53, 55, 54, 55, 55, 55, 56, 55, 57, 56, 48, 56, 49, 56, 50, 56, 51, 56, 52, 56, 53, 56, 54, 56, 55, 56, 56, 56, 57, 57, 48, 57, 49, 57, 50, 57, 51, 57, 52, 57, 53, 57, 54, 57, 55, 57, 56, 57, 57])) (.t 49), none⟩,
       ⟨(some 51), .mv (.t 9), none⟩,
       ⟨(some 52), .ixS (.c (.s [48, 48, 48, 49, 48, 50, 48, 51, 48, 52, 48, 53, 48, 54, 48, 55, 48, 56, 48, 57, 49, 48, 49, 49, 49, 50, 49, 51, 49, 52, 49, 53, 49, 54, 49, 55, 49, 56, 49, 57, 50, 48, 50, 49, 50, 50, 50, 51, 50, 52, 50, 53, 50, 54, 50, 55, 50, 56, 50, 57, 51, 48, 51, 49, 51, 50, 51, 51, 51, 52, 51, 53, 51, 54, 51, 55, 51, 56, 51, 57, 52, 48, 52, 49, 52, 50, 52, 51, 52, 52, 52, 53, 52, 54, 52, 55, 52, 56, 52, 57, 53, 48, 53, 49, 53, 50, 53, 51, 53, 52, 53, 53, 53, 54, 53, 55, 53, 56, 53, 57, 54, 48, 54, 49, 54, 50, 54, 51, 54, 52, 54, 53, 54, 54, 54, 55, 54, 56, 54, 57, 55, 48, 55, 49, 55, 50, 55, 51, 55, 52, 55, 53, 55, 54, 55, 55, 55, 56, 55, 57, 56, 48, 56, 49, 56, 50, 56, 51, 56, 52, 56, 53, 56, 54, 56, 55, 56, 56, 56, 57, 57, 48, 57, 49, 57, 50, 57, 51, 57, 52, 57, 53, 57, 54, 57, 55, 57, 56, 57, 57])) (.t 51), none⟩,
       ⟨(some 53), .ia 1 (.t 42) (.t 44), none⟩,
       ⟨none, .st 1 (.t 53) (.t 50), none⟩,
       ⟨(some 54), .ia 1 (.t 45) (.t 47), none⟩,
       ⟨none, .st 1 (.t 54) (.t 52), none⟩] []))
     (.seq (.seq (.thw 0)
     (.regD [⟨(some 55), .mv (.t 0), none⟩,
       ⟨(some 56), .mv (.t 4), none⟩,
       ⟨(some 57), .bin .sub (.t 56) (.c (.i .i64 3)), none⟩,
       ⟨(some 58), .mv (.t 0), none⟩,
       ⟨(some 59), .mv (.t 4), none⟩,
       ⟨(some 60), .bin .sub (.t 59) (.c (.i .i64 4)), none⟩,
       ⟨(some 61), .mv (.t 8), none⟩,
       ⟨(some 62), .bin .add (.t 61) (.c (.i .u32 1)), none⟩,
       ⟨(some 63), .ixS (.c (.s [48, 48, 48, 49, 48, 50, 48, 51, 48, 52, 48, 53, 48, 54, 48, 55, 48, 56, 48, 57, 49, 48, 49, 49, 49, 50, 49, 51, 49, 52, 49, 53, 49, 54, 49, 55, 49, 56, 49, 57, 50, 48, 50, 49, 50, 50, 50, 51, 50, 52, 50, 53, 50, 54, 50, 55, 50, 56, 50, 57, 51, 48, 51, 49, 51, 50, 51, 51, 51, 52, 51, 53, 51, 54, 51, 55, 51, 56, 51, 57, 52, 48, 52, 49, 52, 50, 52, 51, 52, 52, 52, 53, 52, 54, 52, 55, 52, 56, 52, 57, 53, 48, 53, 49, 53, 50, 53, 51, 53, 52, 53, 53, 53, 54, 53, 55, 53, 56, 53, 57, 54, 48, 54, 49, 54, 50, 54, 51, 54, 52, 54, 53, 54, 54, 54, 55, 54, 56, 54, 57, 55, 48, 55, 49, 55, 50, 55, 51, 55, 52, 55, 53, 55, 54, 55, 55, 55, 56, 55, 57, 56, 48, 56, 49, 56, 50, 56, 51, 56, 52, 56, 53, 56, 54, 56, 55, 56, 56, 56, 57, 57, 48, 57, 49, 57, 50, 57, 51, 57, 52, 57, 53, 57, 54, 57, 55, 57, 56, 57, 57])) (.t 62), none⟩,
       ⟨(some 64), .mv (.t 8), none⟩,
       ⟨(some 65), .ixS (.c (.s [48, 48, 48, 49, 48, 50, 48, 51, 48, 52, 48, 53, 48, 54, 48, 55, 48, 56, 48, 57, 49, 48, 49, 49, 49, 50, 49, 51, 49, 52, 49, 53, 49, 54, 49, 55, 49, 56, 49, 57, 50, 48, 50, 49, 50, 50, 50, 51, 50, 52, 50, 53, 50, 54, 50, 55, 50, 56, 50, 57, 51, 48, 51, 49, 51, 50, 51, 51, 51, 52, 51, 53, 51, 54, 51, 55, 51, 56, 51, 57, 52, 48, 52, 49, 52, 50, 52, 51, 52, 52, 52, 53, 52, 54, 52, 55, 52, 56, 52, 57, 53, 48, 53, 49, 53, 50, 53, 51, 53, 52, 53, 53, 53, 54, 53, 55, 53, 56, 53, 57, 54, 48, 54, 49, 54, 50, 54, 51, 54, 52, 54, 53, 54, 54, 54, 55, 54, 56, 54, 57, 55, 48, 55, 49, 55, 50, 55, 51, 55, 52, 55, 53, 55, 54, 55, 55, 55, 56, 55, 57, 56, 48, 56, 49, 56, 50, 56, 51, 56, 52, 56, 53, 56, 54, 56, 55, 56, 56, 56, 57, 57, 48, 57, 49, 57, 50, 57, 51, 57, 52, 57, 53, 57, 54, 57, 55, 57, 56, 57, 57])) (.t 64), none⟩,
       ⟨(some 66), .ia 1 (.t 55) (.t 57), none⟩,
       ⟨none, .st 1 (.t 66) (.t 63), none⟩,
       ⟨(some 67), .ia 1 (.t 58) (.t 60), none⟩,
       ⟨none, .st 1 (.t 67) (.t 65), none⟩] []))
     (.seq (.seq (.thw 0)
     (.regD [⟨(some 68), .mv (.t 0), none⟩,
       ⟨(some 69), .mv (.t 4), none⟩,
       ⟨(some 70), .bin .sub (.t 69) (.c (.i .i64 5)), none⟩,
       ⟨(some 71), .mv (.t 0), none⟩,
       ⟨(some 72), .mv (.t 4), none⟩,
       ⟨(some 73), .bin .sub (.t 72) (.c (.i .i64 6)), none⟩,
       ⟨(some 74), .mv (.t 11), none⟩,
       ⟨(some 75), .bin .add (.t 74) (.c (.i .u32 1)), none⟩,
       ⟨(some 76), .ixS (.c (.s [48, 48, 48, 49, 48, 50, 48, 51, 48, 52, 48, 53, 48, 54, 48, 55, 48, 56, 48, 57, 49, 48, 49, 49, 49, 50, 49, 51, 49, 52, 49, 53, 49, 54, 49, 55, 49, 56, 49, 57, 50, 48, 50, 49, 50, 50, 50, 51, 50, 52, 50, 53, 50, 54, 50, 55, 50, 56, 50, 57, 51, 48, 51, 49, 51, 50, 51, 51, 51, 52, 51, 53, 51, 54, 51, 55, 51, 56, 51, 57, 52, 48, 52, 49, 52, 50, 52, 51, 52, 52, 52, 53, 52, 54, 52, 55, 52, 56, 52, 57, 53, 48, 53, 49, 53, 50, 53, 51, 53, 52, 53, 53, 53, 54, 53, 55, 53, 56, 53, 57, 54, 48, 54, 49, 54, 50, 54, 51, 54, 52, 54, 53, 54, 54, 54, 55, 54, 56, 54, 57, 55, 48, 55, 49, 55, 50, 55, 51, 55, 52, 55, 53, 55, 54, 55, 55, 55, 56, 55, 57, 56, 48, 56, 49, 56, 50, 56, 51, 56, 52, 56, 53, 56, 54, 56, 55, 56, 56, 56, 57, 57, 48, 57, 49, 57, 50, 57, 51, 57, 52, 57, 53, 57, 54, 57, 55, 57, 56, 57, 57])) (.t 75), none⟩,
       ⟨(some 77), .mv (.t 11), none⟩,
       ⟨(some 78), .ixS (.c (.s [48, 48, 48, 49, 48, 50, 48, 51, 48, 52, 48, 53, 48, 54, 48, 55, 48, 56, 48, 57, 49, 48, 49, 49, 49, 50, 49, 51, 49, 52, 49, 53, 49, 54, 49, 55, 49, 56, 49, 57, 50, 48, 50, 49, 50, 50, 50, 51, 50, 52, 50, 53, 50, 54, 50, 55, 50, 56, 50, 57, 51, 48, 51, 49, 51, 50, 51, 51, 51, 52, 51, 53, 51, 54, 51, 55, 51, 56, 51, 57, 52, 48, 52, 49, 52, 50, 52, 51, 52, 52, 52, 53, 52, 54, 52, 55, 52, 56, 52, 57, 53, 48, 53, 49, 53, 50, 53, 51, 53, 52, 53, 53, 53, 54, 53, 55, 53, 56, 53, 57, 54, 48, 54, 49, 54, 50, 54, 51, 54, 52, 54, 53, 54, 54, 54, 55, 54, 56, 54, 57, 55, 48, 55, 49, 55, 50, 55, 51, 55, 52, 55, 53, 55, 54, 55, 55, 55, 56, 55, 57, 56, 48, 56, 49, 56, 50, 56, 51, 56, 52, 56, 53, 56, 54, 56, 55, 56, 56, 56, 57, 57, 48, 57, 49, 57, 50, 57, 51, 57, 52, 57, 53, 57, 54, 57, 55, 57, 56, 57, 57])) (.t 77), none⟩,
       ⟨(some 79), .ia 1 (.t 68) (.t 70), none⟩,
       ⟨none, .st 1 (.t 79) (.t 76), none⟩,
       ⟨(some 80), .ia 1 (.t 71) (.t 73), none⟩,
       ⟨none, .st 1 (.t 80) (.t 78), none⟩] []))
     (.seq (.seq (.thw 0)
     (.regD [⟨(some 81), .mv (.t 0), none⟩,
       ⟨(some 82), .mv (.t 4), none⟩,
       ⟨(some 83), .bin .sub (.t 82) (.c (.i .i64 7)), none⟩,
       ⟨(some 84), .mv (.t 0), none⟩,
       ⟨(some 85), .mv (.t 4), none⟩,
       ⟨(some 86), .bin .sub (.t 85) (.c (.i .i64 8)), none⟩,
       ⟨(some 87), .mv (.t 10), none⟩,
       ⟨(some 88), .bin .add (.t 87) (.c (.i .u32 1)), none⟩,
       ⟨(some 89), .ixS (.c (.s [48, 48, 48, 49, 48, 50, 48, 51, 48, 52, 48, 53, 48, 54, 48, 55, 48, 56, 48, 57, 49, 48, 49, 49, 49, 50, 49, 51, 49, 52, 49, 53, 49, 54, 49, 55, 49, 56, 49, 57, 50, 48, 50, 49, 50, 50, 50, 51, 50, 52, 50, 53, 50, 54, 50, 55, 50, 56, 50, 57, 51, 48, 51, 49, 51, 50, 51, 51, 51, 52, 51, 53, 51, 54, 51, 55, 51, 56, 51, 57, 52, 48, 52, 49, 52, 50, 52, 51, 52, 52, 52, 53, 52, 54, 52, 55, 52, 56, 52, 57, 53, 48, 53, 49, 53, 50, 53, 51, 53, 52, 53, 53, 53, 54, 53, 55, 53, 56, 53, 57, 54, 48, 54, 49, 54, 50, 54, 51, 54, 52, 54, 53, 54, 54, 54, 55, 54, 56, 54, 57, 55, 48, 55, 49, 55, 50, 55, 51, 55, 52, 55, 53, 55, 54, 55, 55, 55, 56, 55, 57, 56, 48, 56, 49, 56, 50, 56, 51, 56, 52, 56, 53, 56, 54, 56, 55, 56, 56, 56, 57, 57, 48, 57, 49, 57, 50, 57, 51, 57, 52, 57, 53, 57, 54, 57, 55, 57, 56, 57, 57])) (.t 88), none⟩,
       ⟨(some 90), .mv (.t 10), none⟩,
       ⟨(some 91), .ixS (.c (.s [48, 48, 48, 49, 48, 50, 48, 51, 48, 52, 48, 53, 48, 54, 48, 55, 48, 56, 48, 57, 49, 48, 49, 49, 49, 50, 49, 51, 49, 52, 49, 53, 49, 54, 49, 55, 49, 56, 49, 57, 50, 48, 50, 49, 50, 50, 50, 51, 50, 52, 50, 53, 50, 54, 50, 55, 50, 56, 50, 57, 51, 48, 51, 49, 51, 50, 51, 51, 51, 52, 51, 53, 51, 54, 51, 55, 51, 56, 51, 57, 52, 48, 52, 49, 52, 50, 52, 51, 52, 52, 52, 53, 52, 54, 52, 55, 52, 56, 52, 57, 53, 48, 53, 49, 53, 50, 53, 51, 53, 52, 53, 53, 53, 54, 53, 55, 53, 56, 53, 57, 54, 48, 54, 49, 54, 50, 54, 51, 54, 52, 54, 53, 54, 54, 54, 55, 54, 56, 54, 57, 55, 48, 55, 49, 55, 50, 55, 51, 55, 52, 55, 53, 55, 54, 55, 55, 55, 56, 55, 57, 56, 48, 56, 49, 56, 50, 56, 51, 56, 52, 56, 53, 56, 54, 56, 55, 56, 56, 56, 57, 57, 48, 57, 49, 57, 50, 57, 51, 57, 52, 57, 53, 57, 54, 57, 55, 57, 56, 57, 57])) (.t 90), none⟩,
       ⟨(some 92), .ia 1 (.t 81) (.t 83), none⟩,
       ⟨none, .st 1 (.t 92) (.t 89), none⟩,
       ⟨(some 93), .ia 1 (.t 84) (.t 86), none⟩,
       ⟨none, .st 1 (.t 93) (.t 91), none⟩] []))
     (.reg [⟨(some 94), .mv (.t 4), none⟩,
       ⟨(some 95), .bin .sub (.t 94) (.c (.i .i64 8)), none⟩,
       ⟨(some 4), .mv (.t 95), none⟩]))))))))))))))
  (.seq (.reg [⟨(some 96), .mv (.t 1), none⟩,
    ⟨(some 97), .cvI .u32 (.t 96), none⟩,
    ⟨(some 12), .mv (.t 97), none⟩])
  (.seq (.seq (.reg [⟨(some 98), .mv (.t 4), none⟩,
    ⟨(some 99), .bin .geq (.t 98) (.c (.i .i64 4)), none⟩])
  (.cond (.t 99)
   (.seq (.reg [⟨(some 100), .mv (.t 12), none⟩,
     ⟨(some 101), .bin .rem (.t 100) (.c (.i .u32 10000)), none⟩,
     ⟨(some 13), .mv (.t 101), none⟩])
   (.seq (.reg [⟨(some 102), .mv (.t 12), none⟩,
     ⟨(some 103), .bin .quo (.t 102) (.c (.i .u32 10000)), none⟩,
     ⟨(some 12), .mv (.t 103), none⟩])
   (.seq (.reg [⟨(some 104), .mv (.t 13), none⟩,
     ⟨(some 105), .bin .quo (.t 104) (.c (.i .u32 100)), none⟩,
     ⟨(some 106), .bin .mul (.t 105) (.c (.i .u32 2)), none⟩,
     ⟨(some 107), .mv (.t 13), none⟩,
     ⟨(some 108), .bin .rem (.t 107) (.c (.i .u32 100)), none⟩,
     ⟨(some 109), .bin .mul (.t 108) (.c (.i .u32 2)), none⟩,
     ⟨(some 14), .mv (.t 106), none⟩,
     ⟨(some 15), .mv (.t 109), none⟩])
   (.seq (.seq (.thw 0)
   (.regD [⟨(some 110), .mv (.t 0), none⟩,
     ⟨(some 111), .mv (.t 4), none⟩,
     ⟨(some 112), .bin .sub (.t 111) (.c (.i .i64 1)), none⟩,
     ⟨(some 113), .mv (.t 0), none⟩,
     ⟨(some 114), .mv (.t 4), none⟩,
     ⟨(some 115), .bin .sub (.t 114) (.c (.i .i64 2)), none⟩,
     ⟨(some 116), .mv (.t 15), none⟩,
     ⟨(some 117), .bin .add (.t 116) (.c (.i .u32 1)), none⟩,
     ⟨(some 118), .ixS (.c (.s [48, 48, 48, 49, 48, 50, 48, 51, 48, 52, 48, 53, 48, 54, 48, 55, 48, 56, 48, 57, 49, 48, 49, 49, 49, 50, 49, 51, 49, 52, 49, 53, 49, 54, 49, 55, 49, 56, 49, 57, 50, 48, 50, 49, 50, 50, 50, 51, 50, 52, 50, 53, 50, 54, 50, 55, 50, 56, 50, 57, 51, 48, 51, 49, 51, 50, 51, 51, 51, 52, 51, 53, 51, 54, 51, 55, 51, 56, 51, 57, 52, 48, 52, 49, 52, 50, 52, 51, 52, 52, 52, 53, 52, 54, 52, 55, 52, 56, 52, 57, 53, 48, 53, 49, 53, 50, 53, 51, 53, 52, 53, 53, 53, 54, 53, 55, 53, 56, 53, 57, 54, 48, 54, 49, 54, 50, 54, 51, 54, 52, 54, 53, 54, 54, 54, 55, 54, 56, 54, 57, 55, 48, 55, 49, 55, 50, 55, 51, 55, 52, 55, 53, 55, 54, 55, 55, 55, 56, 55, 57, 56, 48, 56, 49, 56, 50, 56, 51, 56, 52, 56, 53, 56, 54, 56, 55, 56, 56, 56, 57, 57, 48, 57, 49, 57, 50, 57, 51, 57, 52, 57, 53, 57, 54, 57, 55, 57, 56, 57, 57])) (.t 117), none⟩,
     ⟨(some 119), .mv (.t 15), none⟩,
     ⟨(some 120), .ixS (.c (.s [48, 48, 48, 49, 48, 50, 48, 51, 48, 52, 48, 53, 48, 54, 48, 55, 48, 56, 48, 57, 49, 48, 49, 49, 49, 50, 49, 51, 49, 52, 49, 53, 49, 54, 49, 55, 49, 56, 49, 57, 50, 48, 50, 49, 50, 50, 50, 51, 50, 52, 50, 53, 50, 54, 50, 55, 50, 56, 50, 57, 51, 48, 51, 49, 51, 50, 51, 51, 51, 52, 51, 53, 51, 54, 51, 55, 51, 56, 51, 57, 52, 48, 52, 49, 52, 50, 52, 51, 52, 52, 52, 53, 52, 54, 52, 55, 52, 56, 52, 57, 53, 48, 53, 49, 53, 50, 53, 51, 53, 52, 53, 53, 53, 54, 53, 55, 53, 56, 53, 57, 54, 48, 54, 49, 54, 50, 54, 51, 54, 52, 54, 53, 54, 54, 54, 55, 54, 56, 54, 57, 55, 48, 55, 49, 55, 50, 55, 51, 55, 52, 55, 53, 55, 54, 55, 55, 55, 56, 55, 57, 56, 48, 56, 49, 56, 50, 56, 51, 56, 52, 56, 53, 56, 54, 56, 55, 56, 56, 56, 57, 57, 48, 57, 49, 57, 50, 57, 51, 57, 52, 57, 53, 57, 54, 57, 55, 57, 56, 57, 57])) (.t 119), none⟩,
     ⟨(some 121), .ia 1 (.t 110) (.t 112), none⟩,
     ⟨none, .st 1 (.t 121) (.t 118), none⟩,
     ⟨(some 122), .ia 1 (.t 113) (.t 115), none⟩,
     ⟨none, .st 1 (.t 122) (.t 120), none⟩] []))
   (.seq (.seq (.thw 0)
   (.regD [⟨(some 123), .mv (.t 0), none⟩,
     ⟨(some 124), .mv (.t 4), none⟩,
     ⟨(some 125), .bin .sub (.t 124) (.c (.i .i64 3)), none⟩,
     ⟨(some 126), .mv (.t 0), none⟩,
     ⟨(some 127), .mv (.t 4), none⟩,
     ⟨(some 128), .bin .sub (.t 127) (.c (.i .i64 4)), none⟩,
     ⟨(some 129), .mv (.t 14), none⟩,
     ⟨(some 130), .bin .add (.t 129) (.c (.i .u32 1)), none⟩,
     ⟨(some 131), .ixS (.c (.s [48, 48, 48, 49, 48, 50, 48, 51, 48, 52, 48, 53, 48, 54, 48, 55, 48, 56, 48, 57, 49, 48, 49, 49, 49, 50, 49, 51, 49, 52, 49, 53, 49, 54, 49, 55, 49, 56, 49, 57, 50, 48, 50, 49, 50, 50, 50, 51, 50, 52, 50, 53, 50, 54, 50, 55, 50, 56, 50, 57, 51, 48, 51, 49, 51, 50, 51, 51, 51, 52, 51, 53, 51, 54, 51, 55, 51, 56, 51, 57, 52, 48, 52, 49, 52, 50, 52, 51, 52, 52, 52, 53, 52, 54, 52, 55, 52, 56, 52, 57, 53, 48, 53, 49, 53, 50, 53, 51, 53, 52, 53, 53, 53, 54, 53, 55, 53, 56, 53, 57, 54, 48, 54, 49, 54, 50, 54, 51, 54, 52, 54, 53, 54, 54, 54, 55, 54, 56, 54, 57, 55, 48, 55, 49, 55, 50, 55, 51, 55, 52, 55, 53, 55, 54, 55, 55, 55, 56, 55, 57, 56, 48, 56, 49, 56, 50, 56, 51, 56, 52, 56, 53, 56, 54, 56, 55, 56, 56, 56, 57, 57, 48, 57, 49, 57, 50, 57, 51, 57, 52, 57, 53, 57, 54, 57, 55, 57, 56, 57, 57])) (.t 130), none⟩,
     ⟨(some 132), .mv (.t 14), none⟩,
     ⟨(some 133), .ixS (.c (.s [48, 48, 48, 49, 48, 50, 48, 51, 48, 52, 48, 53, 48, 54, 48, 55, 48, 56, 48, 57, 49, 48, 49, 49, 49, 50, 49, 51, 49, 52, 49, 53, 49, 54, 49, 55, 49, 56, 49, 57, 50, 48, 50, 49, 50, 50, 50, 51, 50, 52, 50, 53, 50, 54, 50, 55, 50, 56, 50, 57, 51, 48, 51, 49, 51, 50, 51, 51, 51, 52, 51, 53, 51, 54, 51, 55, 51, 56, 51, 57, 52, 48, 52, 49, 52, 50, 52, 51, 52, 52, 52, 53, 52, 54, 52, 55, 52, 56, 52, 57, 53, 48, 53, 49, 53, 50, 53, 51, 53, 52, 53, 53, 53, 54, 53, 55, 53, 56, 53, 57, 54, 48, 54, 49, 54, 50, 54, 51, 54, 52, 54, 53, 54, 54, 54, 55, 54, 56, 54, 57, 55, 48, 55, 49, 55, 50, 55, 51, 55, 52, 55, 53, 55, 54, 55, 55, 55, 56, 55, 57, 56, 48, 56, 49, 56, 50, 56, 51, 56, 52, 56, 53, 56, 54, 56, 55, 56, 56, 56, 57, 57, 48, 57, 49, 57, 50, 57, 51, 57, 52, 57, 53, 57, 54, 57, 55, 57, 56, 57, 57])) (.t 132), none⟩,
     ⟨(some 134), .ia 1 (.t 123) (.t 125), none⟩,
     ⟨none, .st 1 (.t 134) (.t 131), none⟩,
     ⟨(some 135), .ia 1 (.t 126) (.t 128), none⟩,
     ⟨none, .st 1 (.t 135) (.t 133), none⟩] []))
   (.reg [⟨(some 136), .mv (.t 4), none⟩,
     ⟨(some 137), .bin .sub (.t 136) (.c (.i .i64 4)), none⟩,
     ⟨(some 4), .mv (.t 137), none⟩]))))))
   .skip))
  (.seq (.seq (.reg [⟨(some 138), .mv (.t 4), none⟩,
    ⟨(some 139), .bin .geq (.t 138) (.c (.i .i64 2)), none⟩])
  (.cond (.t 139)
   (.seq (.reg [⟨(some 140), .mv (.t 12), none⟩,
     ⟨(some 141), .bin .rem (.t 140) (.c (.i .u32 100)), none⟩,
     ⟨(some 142), .bin .mul (.t 141) (.c (.i .u32 2)), none⟩,
     ⟨(some 16), .mv (.t 142), none⟩])
   (.seq (.reg [⟨(some 143), .mv (.t 12), none⟩,
     ⟨(some 144), .bin .quo (.t 143) (.c (.i .u32 100)), none⟩,
     ⟨(some 12), .mv (.t 144), none⟩])
   (.seq (.seq (.thw 0)
   (.regD [⟨(some 145), .mv (.t 0), none⟩,
     ⟨(some 146), .mv (.t 4), none⟩,
     ⟨(some 147), .bin .sub (.t 146) (.c (.i .i64 1)), none⟩,
     ⟨(some 148), .mv (.t 0), none⟩,
     ⟨(some 149), .mv (.t 4), none⟩,
     ⟨(some 150), .bin .sub (.t 149) (.c (.i .i64 2)), none⟩,
     ⟨(some 151), .mv (.t 16), none⟩,
     ⟨(some 152), .bin .add (.t 151) (.c (.i .u32 1)), none⟩,
     ⟨(some 153), .ixS (.c (.s [48, 48, 48, 49, 48, 50, 48, 51, 48, 52, 48, 53, 48, 54, 48, 55, 48, 56, 48, 57, 49, 48, 49, 49, 49, 50, 49, 51, 49, 52, 49, 53, 49, 54, 49, 55, 49, 56, 49, 57, 50, 48, 50, 49, 50, 50, 50, 51, 50, 52, 50, 53, 50, 54, 50, 55, 50, 56, 50, 57, 51, 48, 51, 49, 51, 50, 51, 51, 51, 52, 51, 53, 51, 54, 51, 55, 51, 56, 51, 57, 52, 48, 52, 49, 52, 50, 52, 51, 52, 52, 52, 53, 52, 54, 52, 55, 52, 56, 52, 57, 53, 48, 53, 49, 53, 50, 53, 51, 53, 52, 53, 53, 53, 54, 53, 55, 53, 56, 53, 57, 54, 48, 54, 49, 54, 50, 54, 51, 54, 52, 54, 53, 54, 54, 54, 55, 54, 56, 54, 57, 55, 48, 55, 49, 55, 50, 55, 51, 55, 52, 55, 53, 55, 54, 55, 55, 55, 56, 55, 57, 56, 48, 56, 49, 56, 50, 56, 51, 56, 52, 56, 53, 56, 54, 56, 55, 56, 56, 56, 57, 57, 48, 57, 49, 57, 50, 57, 51, 57, 52, 57, 53, 57, 54, 57, 55, 57, 56, 57, 57])) (.t 152), none⟩,
     ⟨(some 154), .mv (.t 16), none⟩,
     ⟨(some 155), .ixS (.c (.s [48, 48, 48, 49, 48, 50, 48, 51, 48, 52, 48, 53, 48, 54, 48, 55, 48, 56, 48, 57, 49, 48, 49, 49, 49, 50, 49, 51, 49, 52, 49, 53, 49, 54, 49, 55, 49, 56, 49, 57, 50, 48, 50, 49, 50, 50, 50, 51, 50, 52, 50, 53, 50, 54, 50, 55, 50, 56, 50, 57, 51, 48, 51, 49, 51, 50, 51, 51, 51, 52, 51, 53, 51, 54, 51, 55, 51, 56, 51, 57, 52, 48, 52, 49, 52, 50, 52, 51, 52, 52, 52, 53, 52, 54, 52, 55, 52, 56, 52, 57, 53, 48, 53, 49, 53, 50, 53, 51, 53, 52, 53, 53, 53, 54, 53, 55, 53, 56, 53, 57, 54, 48, 54, 49, 54, 50, 54, 51, 54, 52, 54, 53, 54, 54, 54, 55, 54, 56, 54, 57, 55, 48, 55, 49, 55, 50, 55, 51, 55, 52, 55, 53, 55, 54, 55, 55, 55, 56, 55, 57, 56, 48, 56, 49, 56, 50, 56, 51, 56, 52, 56, 53, 56, 54, 56, 55, 56, 56, 56, 57, 57, 48, 57, 49, 57, 50, 57, 51, 57, 52, 57, 53, 57, 54, 57, 55, 57, 56, 57, 57])) (.t 154), none⟩,
     ⟨(some 156), .ia 1 (.t 145) (.t 147), none⟩,
     ⟨none, .st 1 (.t 156) (.t 153), none⟩,
     ⟨(some 157), .ia 1 (.t 148) (.t 150), none⟩,
     ⟨none, .st 1 (.t 157) (.t 155), none⟩] []))
   (.reg [⟨(some 158), .mv (.t 4), none⟩,
     ⟨(some 159), .bin .sub (.t 158) (.c (.i .i64 2)), none⟩,
     ⟨(some 4), .mv (.t 159), none⟩]))))
   .skip))
  (.seq (.reg [⟨(some 160), .mv (.t 4), none⟩,
    ⟨(some 161), .bin .gtr (.t 160) (.c (.i .i64 0)), none⟩])
  (.cond (.t 161)
   (.seq (.thw 0)
   (.reg [⟨(some 162), .mv (.t 0), none⟩,
     ⟨(some 163), .mv (.t 12), none⟩,
     ⟨(some 164), .bin .add (.c (.i .u32 48)) (.t 163), none⟩,
     ⟨(some 165), .cvI .u8 (.t 164), none⟩,
     ⟨(some 166), .ia 1 (.t 162) (.c (.i .i64 0)), none⟩,
     ⟨none, .st 1 (.t 166) (.t 165), none⟩]))
   .skip))))))) }
def c_internal_strconv_formatBits : Fun := { cin := [(.sl 1 .id), .id, .id, .id, .id], cout := [(.sl 1 .id), .id], ntmps := 102, keep := false, res := [(10, none), (11, none)], body :=
  (.seq (.reg [⟨(some 10), .mv (.c .nsl), none⟩,
    ⟨(some 11), .mv (.c (.s [])), none⟩])
  (.seq (.seq (.reg [⟨(some 19), .mv (.t 2), none⟩,
    ⟨(some 20), .bin .lss (.t 19) (.c (.i .i64 2)), none⟩,
    ⟨(some 21), .mv (.t 20), none⟩,
    ⟨(some 22), .mv (.t 2), (some (21, false))⟩,
    ⟨(some 23), .bin .eql (.t 22) (.c (.i .i64 10)), (some (21, false))⟩,
    ⟨(some 24), .pick (.t 21) (.c (.b true)) (.t 23), none⟩,
    ⟨(some 25), .mv (.t 24), none⟩,
    ⟨(some 26), .mv (.t 2), (some (25, false))⟩,
    ⟨(some 27), .bin .gtr (.t 26) (.c (.i .i64 36)), (some (25, false))⟩,
    ⟨(some 28), .pick (.t 25) (.c (.b true)) (.t 27), none⟩])
  (.cond (.t 28)
   (.reg [⟨(some 29), .mki 9 (.c (.s [115, 116, 114, 99, 111, 110, 118, 58, 32, 105, 108, 108, 101, 103, 97, 108, 32, 65, 112, 112, 101, 110, 100, 73, 110, 116, 47, 70, 111, 114, 109, 97, 116, 73, 110, 116, 32, 98, 97, 115, 101])), none⟩,
     ⟨none, .bad, none⟩])
   .skip))
  (.seq (.reg [⟨(some 12), .alloc 146 [(.i .u8 0), (.i .u8 0), (.i .u8 0), (.i .u8 0), (.i .u8 0), (.i .u8 0), (.i .u8 0), (.i .u8 0), (.i .u8 0), (.i .u8 0), (.i .u8 0), (.i .u8 0), (.i .u8 0), (.i .u8 0), (.i .u8 0), (.i .u8 0), (.i .u8 0), (.i .u8 0), (.i .u8 0), (.i .u8 0), (.i .u8 0), (.i .u8 0), (.i .u8 0), (.i .u8 0), (.i .u8 0), (.i .u8 0), (.i .u8 0), (.i .u8 0), (.i .u8 0), (.i .u8 0), (.i .u8 0), (.i .u8 0), (.i .u8 0), (.i .u8 0), (.i .u8 0), (.i .u8 0), (.i .u8 0), (.i .u8 0), (.i .u8 0), (.i .u8 0), (.i .u8 0), (.i .u8 0), (.i .u8 0), (.i .u8 0), (.i .u8 0), (.i .u8 0), (.i .u8 0), (.i .u8 0), (.i .u8 0), (.i .u8 0), (.i .u8 0), (.i .u8 0), (.i .u8 0), (.i .u8 0), (.i .u8 0), (.i .u8 0), (.i .u8 0), (.i .u8 0), (.i .u8 0), (.i .u8 0), (.i .u8 0), (.i .u8 0), (.i .u8 0), (.i .u8 0), (.i .u8 0)], none⟩])
  (.seq (.reg [⟨(some 13), .mv (.c (.i .i64 65)), none⟩])
  (.seq (.seq (.reg [⟨(some 30), .mv (.t 3), none⟩])
  (.cond (.t 30)
   (.reg [⟨(some 31), .mv (.t 1), none⟩,
     ⟨(some 32), .un .neg (.t 31), none⟩,
     ⟨(some 1), .mv (.t 32), none⟩])
   .skip))
  (.seq (.seq (.reg [⟨(some 33), .mv (.t 2), none⟩,
    ⟨(some 34), .call f_internal_strconv_isPowerOfTwo [(.t 33)], none⟩])
  (.cond (.t 34)
   (.seq (.reg [⟨(some 35), .mv (.t 2), none⟩,
     ⟨(some 36), .cvI .u64 (.t 35), none⟩,
     ⟨(some 37), .call f_math_bits_TrailingZeros [(.t 36)], none⟩,
     ⟨(some 38), .cvI .u64 (.t 37), none⟩,
     ⟨(some 14), .mv (.t 38), none⟩])
   (.seq (.reg [⟨(some 39), .mv (.t 2), none⟩,
     ⟨(some 40), .cvI .u64 (.t 39), none⟩,
     ⟨(some 15), .mv (.t 40), none⟩])
   (.seq (.reg [⟨(some 41), .mv (.t 2), none⟩,
     ⟨(some 42), .cvI .u64 (.t 41), none⟩,
     ⟨(some 43), .bin .sub (.t 42) (.c (.i .u64 1)), none⟩,
     ⟨(some 16), .mv (.t 43), none⟩])
   (.seq (.blk 0 (.loop (.seq (.seq (.reg [⟨(some 44), .mv (.t 1), none⟩,
       ⟨(some 45), .mv (.t 15), none⟩,
       ⟨(some 46), .bin .geq (.t 44) (.t 45), none⟩])
     (.cond (.t 46)
      .skip
      (.exit 0)))
     (.blk 1 (.seq (.reg [⟨(some 47), .mv (.t 13), none⟩,
        ⟨(some 48), .bin .sub (.t 47) (.c (.i .i64 1)), none⟩,
        ⟨(some 13), .mv (.t 48), none⟩])
      (.seq (.reg [⟨(some 49), .mv (.t 13), none⟩,
        ⟨(some 50), .mv (.t 1), none⟩,
        ⟨(some 51), .mv (.t 16), none⟩,
        ⟨(some 52), .bin .and (.t 50) (.t 51), none⟩,
        ⟨(some 53), .ixS (.c (.s [48, 49, 50, 51, 52, 53, 54, 55, 56, 57, 97, 98, 99, 100, 101, 102, 103, 104, 105, 106, 107, 108, 109, 110, 111, 112, 113, 114, 115, 116, 117, 118, 119, 120, 121, 122])) (.t 52), none⟩,
        ⟨(some 54), .iaA 65 1 (.t 12) (.t 49), none⟩,
        ⟨none, .st 1 (.t 54) (.t 53), none⟩])
      (.reg [⟨(some 55), .mv (.t 1), none⟩,
        ⟨(some 56), .mv (.t 14), none⟩,
        ⟨(some 57), .bin .shr (.t 55) (.t 56), none⟩,
        ⟨(some 1), .mv (.t 57), none⟩])))))))
   (.seq (.reg [⟨(some 58), .mv (.t 13), none⟩,
     ⟨(some 59), .bin .sub (.t 58) (.c (.i .i64 1)), none⟩,
     ⟨(some 13), .mv (.t 59), none⟩])
   (.reg [⟨(some 60), .mv (.t 13), none⟩,
     ⟨(some 61), .mv (.t 1), none⟩,
     ⟨(some 62), .ixS (.c (.s [48, 49, 50, 51, 52, 53, 54, 55, 56, 57, 97, 98, 99, 100, 101, 102, 103, 104, 105, 106, 107, 108, 109, 110, 111, 112, 113, 114, 115, 116, 117, 118, 119, 120, 121, 122])) (.t 61), none⟩,
     ⟨(some 63), .iaA 65 1 (.t 12) (.t 60), none⟩,
     ⟨none, .st 1 (.t 63) (.t 62), none⟩]))))))
   (.seq (.reg [⟨(some 64), .mv (.t 2), none⟩,
     ⟨(some 65), .cvI .u64 (.t 64), none⟩,
     ⟨(some 17), .mv (.t 65), none⟩])
   (.seq (.blk 2 (.loop (.seq (.seq (.reg [⟨(some 66), .mv (.t 1), none⟩,
       ⟨(some 67), .mv (.t 17), none⟩,
       ⟨(some 68), .bin .geq (.t 66) (.t 67), none⟩])
     (.cond (.t 68)
      .skip
      (.exit 2)))
     (.blk 3 (.seq (.reg [⟨(some 69), .mv (.t 13), none⟩,
        ⟨(some 70), .bin .sub (.t 69) (.c (.i .i64 1)), none⟩,
        ⟨(some 13), .mv (.t 70), none⟩])
      (.seq (.reg [⟨(some 71), .mv (.t 1), none⟩,
        ⟨(some 72), .mv (.t 17), none⟩,
        ⟨(some 73), .bin .quo (.t 71) (.t 72), none⟩,
        ⟨(some 18), .mv (.t 73), none⟩])
      (.seq (.reg [⟨(some 74), .mv (.t 13), none⟩,
        ⟨(some 75), .mv (.t 1), none⟩,
        ⟨(some 76), .mv (.t 18), none⟩,
        ⟨(some 77), .mv (.t 17), none⟩,
        ⟨(some 78), .bin .mul (.t 76) (.t 77), none⟩,
        ⟨(some 79), .bin .sub (.t 75) (.t 78), none⟩,
        ⟨(some 80), .ixS (.c (.s [48, 49, 50, 51, 52, 53, 54, 55, 56, 57, 97, 98, 99, 100, 101, 102, 103, 104, 105, 106, 107, 108, 109, 110, 111, 112, 113, 114, 115, 116, 117, 118, 119, 120, 121, 122])) (.t 79), none⟩,
        ⟨(some 81), .iaA 65 1 (.t 12) (.t 74), none⟩,
        ⟨none, .st 1 (.t 81) (.t 80), none⟩])
      (.reg [⟨(some 82), .mv (.t 18), none⟩,
        ⟨(some 1), .mv (.t 82), none⟩]))))))))
   (.seq (.reg [⟨(some 83), .mv (.t 13), none⟩,
     ⟨(some 84), .bin .sub (.t 83) (.c (.i .i64 1)), none⟩,
     ⟨(some 13), .mv (.t 84), none⟩])
   (.reg [⟨(some 85), .mv (.t 13), none⟩,
     ⟨(some 86), .mv (.t 1), none⟩,
     ⟨(some 87), .ixS (.c (.s [48, 49, 50, 51, 52, 53, 54, 55, 56, 57, 97, 98, 99, 100, 101, 102, 103, 104, 105, 106, 107, 108, 109, 110, 111, 112, 113, 114, 115, 116, 117, 118, 119, 120, 121, 122])) (.t 86), none⟩,
     ⟨(some 88), .iaA 65 1 (.t 12) (.t 85), none⟩,
     ⟨none, .st 1 (.t 88) (.t 87), none⟩]))))))
  (.seq (.seq (.reg [⟨(some 89), .mv (.t 3), none⟩])
  (.cond (.t 89)
   (.seq (.reg [⟨(some 90), .mv (.t 13), none⟩,
     ⟨(some 91), .bin .sub (.t 90) (.c (.i .i64 1)), none⟩,
     ⟨(some 13), .mv (.t 91), none⟩])
   (.reg [⟨(some 92), .mv (.t 13), none⟩,
     ⟨(some 93), .iaA 65 1 (.t 12) (.t 92), none⟩,
     ⟨none, .st 1 (.t 93) (.c (.i .u8 45)), none⟩]))
   .skip))
  (.seq (.seq (.reg [⟨(some 94), .mv (.t 4), none⟩])
  (.cond (.t 94)
   (.seq (.reg [⟨(some 95), .mv (.t 0), none⟩,
     ⟨(some 96), .mv (.t 13), none⟩,
     ⟨(some 97), .slcA 65 1 (.t 12) (some (.t 96)) none, none⟩,
     ⟨(some 98), .app 1 5 (.t 95) (.t 97), none⟩,
     ⟨(some 10), .mv (.t 98), none⟩])
   .ret)
   .skip))
  (.seq (.reg [⟨(some 99), .mv (.t 13), none⟩,
    ⟨(some 100), .slcA 65 1 (.t 12) (some (.t 99)) none, none⟩,
    ⟨(some 101), .cvBS (.t 100), none⟩,
    ⟨(some 11), .mv (.t 101), none⟩])
  .ret))))))))) }
def c_strings_Index : Fun := { cin := [.id, .id], cout := [.id], ntmps := 8, keep := false, res := [(4, none)], body :=
  (.seq (.reg [⟨(some 4), .mv (.c (.i .i64 0)), none⟩])
  (.seq (.reg [⟨(some 5), .mv (.t 0), none⟩,
    ⟨(some 6), .mv (.t 1), none⟩,
    ⟨(some 7), .call f_internal_stringslite_Index [(.t 5), (.t 6)], none⟩,
    ⟨(some 4), .mv (.t 7), none⟩])
  .ret)) }
def c_word_letter : Fun := { cin := [.id], cout := [.id], ntmps := 15, keep := false, res := [(2, none)], body :=
  (.seq (.reg [⟨(some 2), .mv (.c (.b false)), none⟩])
  (.seq (.reg [⟨(some 3), .mv (.t 0), none⟩,
    ⟨(some 4), .bin .eql (.t 3) (.c (.i .u8 95)), none⟩,
    ⟨(some 5), .mv (.t 4), none⟩,
    ⟨(some 6), .mv (.t 0), (some (5, false))⟩,
    ⟨(some 7), .bin .or (.t 6) (.c (.i .u8 32)), (some (5, false))⟩,
    ⟨(some 8), .bin .geq (.t 7) (.c (.i .u8 97)), (some (5, false))⟩,
    ⟨(some 9), .mv (.t 8), (some (5, false))⟩,
    ⟨(some 10), .mv (.t 0), (some (9, true))⟩,
    ⟨(some 11), .bin .or (.t 10) (.c (.i .u8 32)), (some (9, true))⟩,
    ⟨(some 12), .bin .leq (.t 11) (.c (.i .u8 122)), (some (9, true))⟩,
    ⟨(some 13), .pick (.t 9) (.t 12) (.c (.b false)), (some (5, false))⟩,
    ⟨(some 14), .pick (.t 5) (.c (.b true)) (.t 13), none⟩,
    ⟨(some 2), .mv (.t 14), none⟩])
  .ret)) }
def c_word_digit : Fun := { cin := [.id], cout := [.id], ntmps := 9, keep := false, res := [(2, none)], body :=
  (.seq (.reg [⟨(some 2), .mv (.c (.b false)), none⟩])
  (.seq (.reg [⟨(some 3), .mv (.t 0), none⟩,
    ⟨(some 4), .bin .geq (.t 3) (.c (.i .u8 48)), none⟩,
    ⟨(some 5), .mv (.t 4), none⟩,
    ⟨(some 6), .mv (.t 0), (some (5, true))⟩,
    ⟨(some 7), .bin .leq (.t 6) (.c (.i .u8 57)), (some (5, true))⟩,
    ⟨(some 8), .pick (.t 5) (.t 7) (.c (.b false)), none⟩,
    ⟨(some 2), .mv (.t 8), none⟩])
  .ret)) }
def c_slices_siftDownOrdered_string : Fun := { cin := [(.sl 1 .id), .id, .id, .id], cout := [], ntmps := 76, keep := false, res := [], body :=
  (.seq (.reg [⟨(some 10), .mv (.t 1), none⟩,
    ⟨(some 8), .mv (.t 10), none⟩])
  (.blk 0 (.loop (.blk 1 (.seq (.reg [⟨(some 11), .mv (.t 8), none⟩,
       ⟨(some 12), .bin .mul (.c (.i .i64 2)) (.t 11), none⟩,
       ⟨(some 13), .bin .add (.t 12) (.c (.i .i64 1)), none⟩,
       ⟨(some 9), .mv (.t 13), none⟩])
     (.seq (.seq (.reg [⟨(some 14), .mv (.t 9), none⟩,
       ⟨(some 15), .mv (.t 2), none⟩,
       ⟨(some 16), .bin .geq (.t 14) (.t 15), none⟩])
     (.cond (.t 16)
      (.exit 0)
      .skip))
     (.seq (.seq (.regD [⟨(some 17), .mv (.t 9), none⟩,
       ⟨(some 18), .bin .add (.t 17) (.c (.i .i64 1)), none⟩,
       ⟨(some 19), .mv (.t 2), none⟩,
       ⟨(some 20), .bin .lss (.t 18) (.t 19), none⟩,
       ⟨(some 21), .mv (.t 20), none⟩,
       ⟨(some 22), .mv (.t 0), (some (21, true))⟩,
       ⟨(some 23), .mv (.t 3), (some (21, true))⟩,
       ⟨(some 24), .mv (.t 9), (some (21, true))⟩,
       ⟨(some 25), .bin .add (.t 23) (.t 24), (some (21, true))⟩,
       ⟨(some 26), .ia 1 (.t 22) (.t 25), (some (21, true))⟩,
       ⟨(some 27), .ld false 1 (.t 26), (some (21, true))⟩,
       ⟨(some 28), .mv (.t 0), (some (21, true))⟩,
       ⟨(some 29), .mv (.t 3), (some (21, true))⟩,
       ⟨(some 30), .mv (.t 9), (some (21, true))⟩,
       ⟨(some 31), .bin .add (.t 29) (.t 30), (some (21, true))⟩,
       ⟨(some 32), .bin .add (.t 31) (.c (.i .i64 1)), (some (21, true))⟩,
       ⟨(some 33), .ia 1 (.t 28) (.t 32), (some (21, true))⟩,
       ⟨(some 34), .ld false 1 (.t 33), (some (21, true))⟩,
       ⟨(some 35), .call f_cmp_Less_string [(.t 27), (.t 34)], (some (21, true))⟩,
       ⟨(some 36), .pick (.t 21) (.t 35) (.c (.b false)), none⟩] [])
     (.cond (.t 36)
      (.reg [⟨(some 37), .mv (.t 9), none⟩,
        ⟨(some 38), .bin .add (.t 37) (.c (.i .i64 1)), none⟩,
        ⟨(some 9), .mv (.t 38), none⟩])
      .skip))
     (.seq (.seq (.regD [⟨(some 39), .mv (.t 0), none⟩,
       ⟨(some 40), .mv (.t 3), none⟩,
       ⟨(some 41), .mv (.t 8), none⟩,
       ⟨(some 42), .bin .add (.t 40) (.t 41), none⟩,
       ⟨(some 43), .ia 1 (.t 39) (.t 42), none⟩,
       ⟨(some 44), .ld false 1 (.t 43), none⟩,
       ⟨(some 45), .mv (.t 0), none⟩,
       ⟨(some 46), .mv (.t 3), none⟩,
       ⟨(some 47), .mv (.t 9), none⟩,
       ⟨(some 48), .bin .add (.t 46) (.t 47), none⟩,
       ⟨(some 49), .ia 1 (.t 45) (.t 48), none⟩,
       ⟨(some 50), .ld false 1 (.t 49), none⟩,
       ⟨(some 51), .call f_cmp_Less_string [(.t 44), (.t 50)], none⟩,
       ⟨(some 52), .un .not (.t 51), none⟩] [])
     (.cond (.t 52)
      .ret
      .skip))
     (.seq (.seq (.thw 0)
     (.regD [⟨(some 53), .mv (.t 0), none⟩,
       ⟨(some 54), .mv (.t 3), none⟩,
       ⟨(some 55), .mv (.t 8), none⟩,
       ⟨(some 56), .bin .add (.t 54) (.t 55), none⟩,
       ⟨(some 57), .mv (.t 0), none⟩,
       ⟨(some 58), .mv (.t 3), none⟩,
       ⟨(some 59), .mv (.t 9), none⟩,
       ⟨(some 60), .bin .add (.t 58) (.t 59), none⟩,
       ⟨(some 61), .mv (.t 0), none⟩,
       ⟨(some 62), .mv (.t 3), none⟩,
       ⟨(some 63), .mv (.t 9), none⟩,
       ⟨(some 64), .bin .add (.t 62) (.t 63), none⟩,
       ⟨(some 65), .ia 1 (.t 61) (.t 64), none⟩,
       ⟨(some 66), .ld false 1 (.t 65), none⟩,
       ⟨(some 67), .mv (.t 0), none⟩,
       ⟨(some 68), .mv (.t 3), none⟩,
       ⟨(some 69), .mv (.t 8), none⟩,
       ⟨(some 70), .bin .add (.t 68) (.t 69), none⟩,
       ⟨(some 71), .ia 1 (.t 67) (.t 70), none⟩,
       ⟨(some 72), .ld false 1 (.t 71), none⟩,
       ⟨(some 73), .ia 1 (.t 53) (.t 56), none⟩,
       ⟨none, .st 1 (.t 73) (.t 66), none⟩,
       ⟨(some 74), .ia 1 (.t 57) (.t 60), none⟩,
       ⟨none, .st 1 (.t 74) (.t 72), none⟩] []))
     (.reg [⟨(some 75), .mv (.t 9), none⟩,
       ⟨(some 8), .mv (.t 75), none⟩])))))))))) }
def c_slices_nextPowerOfTwo : Fun := { cin := [.id], cout := [.id], ntmps := 7, keep := false, res := [(2, none)], body :=
  (.seq (.reg [⟨(some 2), .mv (.c (.i .u64 0)), none⟩])
  (.seq (.reg [⟨(some 3), .mv (.t 0), none⟩,
    ⟨(some 4), .cvI .u64 (.t 3), none⟩,
    ⟨(some 5), .call f_math_bits_Len [(.t 4)], none⟩,
    ⟨(some 6), .bin .shl (.c (.i .u64 1)) (.t 5), none⟩,
    ⟨(some 2), .mv (.t 6), none⟩])
  .ret)) }
def c_slices_xorshift_Next : Fun := { cin := [.id], cout := [.id], ntmps := 33, keep := false, res := [(2, none)], body :=
  (.seq (.reg [⟨(some 2), .mv (.c (.i .u64 0)), none⟩])
  (.seq (.regD [⟨(some 3), .mv (.t 0), none⟩,
    ⟨(some 4), .nck (.t 3), none⟩,
    ⟨(some 5), .ld false 1 (.t 4), none⟩,
    ⟨(some 6), .mv (.t 0), none⟩,
    ⟨(some 7), .nck (.t 6), none⟩,
    ⟨(some 8), .ld false 1 (.t 7), none⟩,
    ⟨(some 9), .bin .shl (.t 8) (.c (.i .u64 13)), none⟩,
    ⟨(some 10), .bin .xor (.t 5) (.t 9), none⟩,
    ⟨(some 11), .nck (.t 3), none⟩,
    ⟨none, .st 1 (.t 11) (.t 10), none⟩] [])
  (.seq (.regD [⟨(some 12), .mv (.t 0), none⟩,
    ⟨(some 13), .nck (.t 12), none⟩,
    ⟨(some 14), .ld false 1 (.t 13), none⟩,
    ⟨(some 15), .mv (.t 0), none⟩,
    ⟨(some 16), .nck (.t 15), none⟩,
    ⟨(some 17), .ld false 1 (.t 16), none⟩,
    ⟨(some 18), .bin .shr (.t 17) (.c (.i .u64 7)), none⟩,
    ⟨(some 19), .bin .xor (.t 14) (.t 18), none⟩,
    ⟨(some 20), .nck (.t 12), none⟩,
    ⟨none, .st 1 (.t 20) (.t 19), none⟩] [])
  (.seq (.regD [⟨(some 21), .mv (.t 0), none⟩,
    ⟨(some 22), .nck (.t 21), none⟩,
    ⟨(some 23), .ld false 1 (.t 22), none⟩,
    ⟨(some 24), .mv (.t 0), none⟩,
    ⟨(some 25), .nck (.t 24), none⟩,
    ⟨(some 26), .ld false 1 (.t 25), none⟩,
    ⟨(some 27), .bin .shl (.t 26) (.c (.i .u64 17)), none⟩,
    ⟨(some 28), .bin .xor (.t 23) (.t 27), none⟩,
    ⟨(some 29), .nck (.t 21), none⟩,
    ⟨none, .st 1 (.t 29) (.t 28), none⟩] [])
  (.seq (.reg [⟨(some 30), .mv (.t 0), none⟩,
    ⟨(some 31), .nck (.t 30), none⟩,
    ⟨(some 32), .ld false 1 (.t 31), none⟩,
    ⟨(some 2), .mv (.t 32), none⟩])
  .ret))))) }
def c_slices_medianAdjacentOrdered_string : Fun := { cin := [(.sl 1 .id), .id, .id], cout := [.id], ntmps := 15, keep := false, res := [(6, none)], body :=
  (.seq (.reg [⟨(some 6), .mv (.c (.i .i64 0)), none⟩])
  (.seq (.reg [⟨(some 7), .mv (.t 0), none⟩,
    ⟨(some 8), .mv (.t 1), none⟩,
    ⟨(some 9), .bin .sub (.t 8) (.c (.i .i64 1)), none⟩,
    ⟨(some 10), .mv (.t 1), none⟩,
    ⟨(some 11), .mv (.t 1), none⟩,
    ⟨(some 12), .bin .add (.t 11) (.c (.i .i64 1)), none⟩,
    ⟨(some 13), .mv (.t 2), none⟩,
    ⟨(some 14), .call f_slices_medianOrdered_string [(.t 7), (.t 9), (.t 10), (.t 12), (.t 13)], none⟩,
    ⟨(some 6), .mv (.t 14), none⟩])
  .ret)) }
def c_slices_medianOrdered_string : Fun := { cin := [(.sl 1 .id), .id, .id, .id, .id], cout := [.id], ntmps := 36, keep := false, res := [(10, none)], body :=
  (.seq (.reg [⟨(some 10), .mv (.c (.i .i64 0)), none⟩])
  (.seq (.reg [⟨(some 12), .mv (.t 0), none⟩,
    ⟨(some 13), .mv (.t 1), none⟩,
    ⟨(some 14), .mv (.t 2), none⟩,
    ⟨(some 15), .mv (.t 4), none⟩,
    ⟨(some 16), .call f_slices_order2Ordered_string [(.t 12), (.t 13), (.t 14), (.t 15)], none⟩,
    ⟨(some 11), .mv (.t 16), none⟩,
    ⟨(some 17), .ext (.t 11) 0, none⟩,
    ⟨(some 18), .ext (.t 11) 1, none⟩,
    ⟨(some 1), .mv (.t 17), none⟩,
    ⟨(some 2), .mv (.t 18), none⟩])
  (.seq (.reg [⟨(some 20), .mv (.t 0), none⟩,
    ⟨(some 21), .mv (.t 2), none⟩,
    ⟨(some 22), .mv (.t 3), none⟩,
    ⟨(some 23), .mv (.t 4), none⟩,
    ⟨(some 24), .call f_slices_order2Ordered_string [(.t 20), (.t 21), (.t 22), (.t 23)], none⟩,
    ⟨(some 19), .mv (.t 24), none⟩,
    ⟨(some 25), .ext (.t 19) 0, none⟩,
    ⟨(some 26), .ext (.t 19) 1, none⟩,
    ⟨(some 2), .mv (.t 25), none⟩,
    ⟨(some 3), .mv (.t 26), none⟩])
  (.seq (.reg [⟨(some 28), .mv (.t 0), none⟩,
    ⟨(some 29), .mv (.t 1), none⟩,
    ⟨(some 30), .mv (.t 2), none⟩,
    ⟨(some 31), .mv (.t 4), none⟩,
    ⟨(some 32), .call f_slices_order2Ordered_string [(.t 28), (.t 29), (.t 30), (.t 31)], none⟩,
    ⟨(some 27), .mv (.t 32), none⟩,
    ⟨(some 33), .ext (.t 27) 0, none⟩,
    ⟨(some 34), .ext (.t 27) 1, none⟩,
    ⟨(some 1), .mv (.t 33), none⟩,
    ⟨(some 2), .mv (.t 34), none⟩])
  (.seq (.reg [⟨(some 35), .mv (.t 2), none⟩,
    ⟨(some 10), .mv (.t 35), none⟩])
  .ret))))) }
def c_cmp_isNaN_string : Fun := { cin := [.id], cout := [.id], ntmps := 6, keep := false, res := [(2, none)], body :=
  (.seq (.reg [⟨(some 2), .mv (.c (.b false)), none⟩])
  (.seq (.reg [⟨(some 3), .mv (.t 0), none⟩,
    ⟨(some 4), .mv (.t 0), none⟩,
    ⟨(some 5), .bin .neq (.t 3) (.t 4), none⟩,
    ⟨(some 2), .mv (.t 5), none⟩])
  .ret)) }
def c_internal_stringslite_IndexByte : Fun := { cin := [.id, .id], cout := [.id], ntmps := 8, keep := false, res := [(4, none)], body :=
  (.seq (.reg [⟨(some 4), .mv (.c (.i .i64 0)), none⟩])
  (.seq (.reg [⟨(some 5), .mv (.t 0), none⟩,
    ⟨(some 6), .mv (.t 1), none⟩,
    ⟨(some 7), .xtn 0 [(.t 5), (.t 6)], none⟩,
    ⟨(some 4), .mv (.t 7), none⟩])
  .ret)) }
def c_internal_strconv_log10Pow2 : Fun := { cin := [.id], cout := [.id], ntmps := 6, keep := false, res := [(2, none)], body :=
  (.seq (.reg [⟨(some 2), .mv (.c (.i .i64 0)), none⟩])
  (.seq (.reg [⟨(some 3), .mv (.t 0), none⟩,
    ⟨(some 4), .bin .mul (.t 3) (.c (.i .i64 78913)), none⟩,
    ⟨(some 5), .bin .shr (.t 4) (.c (.i .u64 18)), none⟩,
    ⟨(some 2), .mv (.t 5), none⟩])
  .ret)) }
def c_internal_strconv_bool2_int : Fun := { cin := [.id], cout := [.id], ntmps := 4, keep := false, res := [(2, none)], body :=
  (.seq (.reg [⟨(some 2), .mv (.c (.i .i64 0)), none⟩])
  (.seq (.seq (.reg [⟨(some 3), .mv (.t 0), none⟩])
  (.cond (.t 3)
   (.seq (.reg [⟨(some 2), .mv (.c (.i .i64 1)), none⟩])
   .ret)
   .skip))
  (.seq (.reg [⟨(some 2), .mv (.c (.i .i64 0)), none⟩])
  .ret))) }
def c_internal_strconv_isPowerOfTwo : Fun := { cin := [.id], cout := [.id], ntmps := 8, keep := false, res := [(2, none)], body :=
  (.seq (.reg [⟨(some 2), .mv (.c (.b false)), none⟩])
  (.seq (.reg [⟨(some 3), .mv (.t 0), none⟩,
    ⟨(some 4), .mv (.t 0), none⟩,
    ⟨(some 5), .bin .sub (.t 4) (.c (.i .i64 1)), none⟩,
    ⟨(some 6), .bin .and (.t 3) (.t 5), none⟩,
    ⟨(some 7), .bin .eql (.t 6) (.c (.i .i64 0)), none⟩,
    ⟨(some 2), .mv (.t 7), none⟩])
  .ret)) }
def c_math_bits_TrailingZeros : Fun := { cin := [.id], cout := [.id], ntmps := 8, keep := false, res := [(2, none)], body :=
  (.seq (.reg [⟨(some 2), .mv (.c (.i .i64 0)), none⟩])
  (.seq (.cond (.c (.b false))
   (.seq (.reg [⟨(some 3), .mv (.t 0), none⟩,
     ⟨(some 4), .cvI .u32 (.t 3), none⟩,
     ⟨(some 5), .call f_math_bits_TrailingZeros32 [(.t 4)], none⟩,
     ⟨(some 2), .mv (.t 5), none⟩])
   .ret)
   .skip)
  (.seq (.reg [⟨(some 6), .mv (.t 0), none⟩,
    ⟨(some 7), .call f_math_bits_TrailingZeros64 [(.t 6)], none⟩,
    ⟨(some 2), .mv (.t 7), none⟩])
  .ret))) }
def c_internal_stringslite_Index : Fun := { cin := [.id, .id], cout := [.id], ntmps := 143, keep := false, res := [(4, none)], body :=
  (.seq (.reg [⟨(some 4), .mv (.c (.i .i64 0)), none⟩])
  (.seq (.reg [⟨(some 14), .mv (.t 1), none⟩,
    ⟨(some 15), .len 0 (.t 14), none⟩,
    ⟨(some 5), .mv (.t 15), none⟩])
  (.seq (.blk 0 (.seq (.reg [⟨(some 17), .mv (.t 5), none⟩,
     ⟨(some 18), .bin .eql (.t 17) (.c (.i .i64 0)), none⟩,
     ⟨(some 19), .mv (.t 18), none⟩,
     ⟨(some 20), .mv (.t 1), (some (19, false))⟩,
     ⟨(some 21), .mv (.t 0), (some (19, false))⟩,
     ⟨(some 22), .bin .eql (.t 20) (.t 21), (some (19, false))⟩,
     ⟨(some 23), .pick (.t 19) (.c (.b true)) (.t 22), none⟩,
     ⟨(some 16), .mv (.t 23), none⟩])
   (.cond (.t 16)
    (.seq (.reg [⟨(some 4), .mv (.c (.i .i64 0)), none⟩])
    .ret)
    (.seq (.reg [⟨(some 25), .mv (.t 5), none⟩,
      ⟨(some 26), .bin .eql (.t 25) (.c (.i .i64 1)), none⟩,
      ⟨(some 24), .mv (.t 26), none⟩])
    (.cond (.t 24)
     (.seq (.reg [⟨(some 27), .mv (.t 0), none⟩,
       ⟨(some 28), .mv (.t 1), none⟩,
       ⟨(some 29), .ixS (.t 28) (.c (.i .i64 0)), none⟩,
       ⟨(some 30), .call f_internal_stringslite_IndexByte [(.t 27), (.t 29)], none⟩,
       ⟨(some 4), .mv (.t 30), none⟩])
     .ret)
     (.seq (.reg [⟨(some 32), .mv (.t 5), none⟩,
       ⟨(some 33), .mv (.t 0), none⟩,
       ⟨(some 34), .len 0 (.t 33), none⟩,
       ⟨(some 35), .bin .geq (.t 32) (.t 34), none⟩,
       ⟨(some 31), .mv (.t 35), none⟩])
     (.cond (.t 31)
      (.seq (.reg [⟨(some 4), .mv (.c (.i .i64 (-1))), none⟩])
      .ret)
      (.seq (.reg [⟨(some 37), .mv (.t 5), none⟩,
        ⟨(some 38), .bad, none⟩,
        ⟨(some 39), .bin .leq (.t 37) (.t 38), none⟩,
        ⟨(some 40), .mv (.t 39), none⟩,
        ⟨(some 41), .mv (.t 0), (some (40, true))⟩,
        ⟨(some 42), .len 0 (.t 41), (some (40, true))⟩,
        ⟨(some 43), .bin .leq (.t 42) (.c (.i .i64 64)), (some (40, true))⟩,
        ⟨(some 44), .pick (.t 40) (.t 43) (.c (.b false)), none⟩,
        ⟨(some 36), .mv (.t 44), none⟩])
      (.cond (.t 36)
       (.seq (.reg [⟨(some 45), .mv (.t 0), none⟩,
         ⟨(some 46), .mv (.t 1), none⟩,
         ⟨(some 47), .bad, none⟩,
         ⟨(some 4), .mv (.t 47), none⟩])
       .ret)
       .skip)))))))))
  (.seq (.reg [⟨(some 48), .mv (.t 1), none⟩,
    ⟨(some 49), .ixS (.t 48) (.c (.i .i64 0)), none⟩,
    ⟨(some 6), .mv (.t 49), none⟩])
  (.seq (.reg [⟨(some 50), .mv (.t 1), none⟩,
    ⟨(some 51), .ixS (.t 50) (.c (.i .i64 1)), none⟩,
    ⟨(some 7), .mv (.t 51), none⟩])
  (.seq (.reg [⟨(some 8), .mv (.c (.i .i64 0)), none⟩])
  (.seq (.reg [⟨(some 52), .mv (.t 0), none⟩,
    ⟨(some 53), .len 0 (.t 52), none⟩,
    ⟨(some 54), .mv (.t 5), none⟩,
    ⟨(some 55), .bin .sub (.t 53) (.t 54), none⟩,
    ⟨(some 56), .bin .add (.t 55) (.c (.i .i64 1)), none⟩,
    ⟨(some 9), .mv (.t 56), none⟩])
  (.seq (.reg [⟨(some 10), .mv (.c (.i .i64 0)), none⟩])
  (.seq (.blk 1 (.loop (.seq (.seq (.reg [⟨(some 57), .mv (.t 8), none⟩,
      ⟨(some 58), .mv (.t 9), none⟩,
      ⟨(some 59), .bin .lss (.t 57) (.t 58), none⟩])
    (.cond (.t 59)
     .skip
     (.exit 1)))
    (.blk 2 (.seq (.seq (.reg [⟨(some 60), .mv (.t 0), none⟩,
       ⟨(some 61), .mv (.t 8), none⟩,
       ⟨(some 62), .ixS (.t 60) (.t 61), none⟩,
       ⟨(some 63), .mv (.t 6), none⟩,
       ⟨(some 64), .bin .neq (.t 62) (.t 63), none⟩])
     (.cond (.t 64)
      (.seq (.reg [⟨(some 65), .mv (.t 0), none⟩,
        ⟨(some 66), .mv (.t 8), none⟩,
        ⟨(some 67), .bin .add (.t 66) (.c (.i .i64 1)), none⟩,
        ⟨(some 68), .mv (.t 9), none⟩,
        ⟨(some 69), .slS (.t 65) (some (.t 67)) (some (.t 68)), none⟩,
        ⟨(some 70), .mv (.t 6), none⟩,
        ⟨(some 71), .call f_internal_stringslite_IndexByte [(.t 69), (.t 70)], none⟩,
        ⟨(some 11), .mv (.t 71), none⟩])
      (.seq (.seq (.reg [⟨(some 72), .mv (.t 11), none⟩,
        ⟨(some 73), .bin .lss (.t 72) (.c (.i .i64 0)), none⟩])
      (.cond (.t 73)
       (.seq (.reg [⟨(some 4), .mv (.c (.i .i64 (-1))), none⟩])
       .ret)
       .skip))
      (.reg [⟨(some 74), .mv (.t 8), none⟩,
        ⟨(some 75), .mv (.t 11), none⟩,
        ⟨(some 76), .bin .add (.t 75) (.c (.i .i64 1)), none⟩,
        ⟨(some 77), .bin .add (.t 74) (.t 76), none⟩,
        ⟨(some 8), .mv (.t 77), none⟩])))
      .skip))
     (.seq (.seq (.reg [⟨(some 78), .mv (.t 0), none⟩,
       ⟨(some 79), .mv (.t 8), none⟩,
       ⟨(some 80), .bin .add (.t 79) (.c (.i .i64 1)), none⟩,
       ⟨(some 81), .ixS (.t 78) (.t 80), none⟩,
       ⟨(some 82), .mv (.t 7), none⟩,
       ⟨(some 83), .bin .eql (.t 81) (.t 82), none⟩,
       ⟨(some 84), .mv (.t 83), none⟩,
       ⟨(some 85), .mv (.t 0), (some (84, true))⟩,
       ⟨(some 86), .mv (.t 8), (some (84, true))⟩,
       ⟨(some 87), .mv (.t 8), (some (84, true))⟩,
       ⟨(some 88), .mv (.t 5), (some (84, true))⟩,
       ⟨(some 89), .bin .add (.t 87) (.t 88), (some (84, true))⟩,
       ⟨(some 90), .slS (.t 85) (some (.t 86)) (some (.t 89)), (some (84, true))⟩,
       ⟨(some 91), .mv (.t 1), (some (84, true))⟩,
       ⟨(some 92), .bin .eql (.t 90) (.t 91), (some (84, true))⟩,
       ⟨(some 93), .pick (.t 84) (.t 92) (.c (.b false)), none⟩])
     (.cond (.t 93)
      (.seq (.reg [⟨(some 94), .mv (.t 8), none⟩,
        ⟨(some 4), .mv (.t 94), none⟩])
      .ret)
      .skip))
     (.seq (.reg [⟨(some 95), .mv (.t 8), none⟩,
       ⟨(some 96), .bin .add (.t 95) (.c (.i .i64 1)), none⟩,
       ⟨(some 8), .mv (.t 96), none⟩])
     (.seq (.reg [⟨(some 97), .mv (.t 10), none⟩,
       ⟨(some 98), .bin .add (.t 97) (.c (.i .i64 1)), none⟩,
       ⟨(some 10), .mv (.t 98), none⟩])
     (.seq (.reg [⟨(some 99), .mv (.t 5), none⟩,
       ⟨(some 100), .bad, none⟩,
       ⟨(some 101), .bin .leq (.t 99) (.t 100), none⟩,
       ⟨(some 102), .mv (.t 101), none⟩,
       ⟨(some 103), .mv (.t 10), (some (102, true))⟩,
       ⟨(some 104), .mv (.t 8), (some (102, true))⟩,
       ⟨(some 105), .call f_internal_bytealg_Cutover [(.t 104)], (some (102, true))⟩,
       ⟨(some 106), .bin .gtr (.t 103) (.t 105), (some (102, true))⟩,
       ⟨(some 107), .pick (.t 102) (.t 106) (.c (.b false)), none⟩])
     (.cond (.t 107)
      (.seq (.reg [⟨(some 108), .mv (.t 0), none⟩,
        ⟨(some 109), .mv (.t 8), none⟩,
        ⟨(some 110), .slS (.t 108) (some (.t 109)) none, none⟩,
        ⟨(some 111), .mv (.t 1), none⟩,
        ⟨(some 112), .bad, none⟩,
        ⟨(some 12), .mv (.t 112), none⟩])
      (.seq (.seq (.reg [⟨(some 113), .mv (.t 12), none⟩,
        ⟨(some 114), .bin .geq (.t 113) (.c (.i .i64 0)), none⟩])
      (.cond (.t 114)
       (.seq (.reg [⟨(some 115), .mv (.t 12), none⟩,
         ⟨(some 116), .mv (.t 8), none⟩,
         ⟨(some 117), .bin .add (.t 115) (.t 116), none⟩,
         ⟨(some 4), .mv (.t 117), none⟩])
       .ret)
       .skip))
      (.seq (.reg [⟨(some 4), .mv (.c (.i .i64 (-1))), none⟩])
      .ret)))
      (.seq (.reg [⟨(some 118), .mv (.t 5), none⟩,
        ⟨(some 119), .bad, none⟩,
        ⟨(some 120), .bin .gtr (.t 118) (.t 119), none⟩,
        ⟨(some 121), .mv (.t 120), none⟩,
        ⟨(some 122), .mv (.t 10), (some (121, true))⟩,
        ⟨(some 123), .mv (.t 8), (some (121, true))⟩,
        ⟨(some 124), .bin .shr (.t 123) (.c (.i .u64 4)), (some (121, true))⟩,
        ⟨(some 125), .bin .add (.c (.i .i64 4)) (.t 124), (some (121, true))⟩,
        ⟨(some 126), .bin .geq (.t 122) (.t 125), (some (121, true))⟩,
        ⟨(some 127), .pick (.t 121) (.t 126) (.c (.b false)), none⟩,
        ⟨(some 128), .mv (.t 127), none⟩,
        ⟨(some 129), .mv (.t 8), (some (128, true))⟩,
        ⟨(some 130), .mv (.t 9), (some (128, true))⟩,
        ⟨(some 131), .bin .lss (.t 129) (.t 130), (some (128, true))⟩,
        ⟨(some 132), .pick (.t 128) (.t 131) (.c (.b false)), none⟩])
      (.cond (.t 132)
       (.seq (.reg [⟨(some 133), .mv (.t 0), none⟩,
         ⟨(some 134), .mv (.t 8), none⟩,
         ⟨(some 135), .slS (.t 133) (some (.t 134)) none, none⟩,
         ⟨(some 136), .mv (.t 1), none⟩,
         ⟨(some 137), .call f_internal_bytealg_IndexRabinKarp_string [(.t 135), (.t 136)], none⟩,
         ⟨(some 13), .mv (.t 137), none⟩])
       (.seq (.seq (.reg [⟨(some 138), .mv (.t 13), none⟩,
         ⟨(some 139), .bin .lss (.t 138) (.c (.i .i64 0)), none⟩])
       (.cond (.t 139)
        (.seq (.reg [⟨(some 4), .mv (.c (.i .i64 (-1))), none⟩])
        .ret)
        .skip))
       (.seq (.reg [⟨(some 140), .mv (.t 8), none⟩,
         ⟨(some 141), .mv (.t 13), none⟩,
         ⟨(some 142), .bin .add (.t 140) (.t 141), none⟩,
         ⟨(some 4), .mv (.t 142), none⟩])
       .ret)))
       .skip))))))))))))
  (.seq (.reg [⟨(some 4), .mv (.c (.i .i64 (-1))), none⟩])
  .ret)))))))))) }
def c_slices_order2Ordered_string : Fun := { cin := [(.sl 1 .id), .id, .id, .id], cout := [.id, .id], ntmps := 28, keep := false, res := [(8, none), (9, none)], body :=
  (.seq (.reg [⟨(some 8), .mv (.c (.i .i64 0)), none⟩,
    ⟨(some 9), .mv (.c (.i .i64 0)), none⟩])
  (.seq (.seq (.regD [⟨(some 10), .mv (.t 0), none⟩,
    ⟨(some 11), .mv (.t 2), none⟩,
    ⟨(some 12), .ia 1 (.t 10) (.t 11), none⟩,
    ⟨(some 13), .ld false 1 (.t 12), none⟩,
    ⟨(some 14), .mv (.t 0), none⟩,
    ⟨(some 15), .mv (.t 1), none⟩,
    ⟨(some 16), .ia 1 (.t 14) (.t 15), none⟩,
    ⟨(some 17), .ld false 1 (.t 16), none⟩,
    ⟨(some 18), .call f_cmp_Less_string [(.t 13), (.t 17)], none⟩] [])
  (.cond (.t 18)
   (.seq (.reg [⟨(some 19), .mv (.t 3), none⟩,
     ⟨(some 20), .nck (.t 19), none⟩,
     ⟨(some 21), .ld false 1 (.t 20), none⟩,
     ⟨(some 22), .bin .add (.t 21) (.c (.i .i64 1)), none⟩,
     ⟨(some 23), .nck (.t 19), none⟩,
     ⟨none, .st 1 (.t 23) (.t 22), none⟩])
   (.seq (.reg [⟨(some 24), .mv (.t 2), none⟩,
     ⟨(some 25), .mv (.t 1), none⟩,
     ⟨(some 8), .mv (.t 24), none⟩,
     ⟨(some 9), .mv (.t 25), none⟩])
   .ret))
   .skip))
  (.seq (.reg [⟨(some 26), .mv (.t 1), none⟩,
    ⟨(some 27), .mv (.t 2), none⟩,
    ⟨(some 8), .mv (.t 26), none⟩,
    ⟨(some 9), .mv (.t 27), none⟩])
  .ret))) }
def c_math_bits_TrailingZeros32 : Fun := { cin := [.id], cout := [.id], ntmps := 14, keep := false, res := [(2, none)], body :=
  (.seq (.reg [⟨(some 2), .mv (.c (.i .i64 0)), none⟩])
  (.seq (.seq (.reg [⟨(some 3), .mv (.t 0), none⟩,
    ⟨(some 4), .bin .eql (.t 3) (.c (.i .u32 0)), none⟩])
  (.cond (.t 4)
   (.seq (.reg [⟨(some 2), .mv (.c (.i .i64 32)), none⟩])
   .ret)
   .skip))
  (.seq (.reg [⟨(some 5), .mv (.t 0), none⟩,
    ⟨(some 6), .mv (.t 0), none⟩,
    ⟨(some 7), .un .neg (.t 6), none⟩,
    ⟨(some 8), .bin .and (.t 5) (.t 7), none⟩,
    ⟨(some 9), .bin .mul (.t 8) (.c (.i .u32 125613361)), none⟩,
    ⟨(some 10), .bin .shr (.t 9) (.c (.i .u64 27)), none⟩,
    ⟨(some 11), .bad, none⟩,
    ⟨(some 12), .ld false 1 (.t 11), none⟩,
    ⟨(some 13), .cvI .i64 (.t 12), none⟩,
    ⟨(some 2), .mv (.t 13), none⟩])
  .ret))) }
def c_math_bits_TrailingZeros64 : Fun := { cin := [.id], cout := [.id], ntmps := 14, keep := false, res := [(2, none)], body :=
  (.seq (.reg [⟨(some 2), .mv (.c (.i .i64 0)), none⟩])
  (.seq (.seq (.reg [⟨(some 3), .mv (.t 0), none⟩,
    ⟨(some 4), .bin .eql (.t 3) (.c (.i .u64 0)), none⟩])
  (.cond (.t 4)
   (.seq (.reg [⟨(some 2), .mv (.c (.i .i64 64)), none⟩])
   .ret)
   .skip))
  (.seq (.reg [⟨(some 5), .mv (.t 0), none⟩,
    ⟨(some 6), .mv (.t 0), none⟩,
    ⟨(some 7), .un .neg (.t 6), none⟩,
    ⟨(some 8), .bin .and (.t 5) (.t 7), none⟩,
    ⟨(some 9), .bin .mul (.t 8) (.c (.i .u64 285870213051353865)), none⟩,
    ⟨(some 10), .bin .shr (.t 9) (.c (.i .u64 58)), none⟩,
    ⟨(some 11), .bad, none⟩,
    ⟨(some 12), .ld false 1 (.t 11), none⟩,
    ⟨(some 13), .cvI .i64 (.t 12), none⟩,
    ⟨(some 2), .mv (.t 13), none⟩])
  .ret))) }
def c_internal_bytealg_Cutover : Fun := { cin := [.id], cout := [.id], ntmps := 6, keep := false, res := [(2, none)], body :=
  (.seq (.reg [⟨(some 2), .mv (.c (.i .i64 0)), none⟩])
  (.seq (.reg [⟨(some 3), .mv (.t 0), none⟩,
    ⟨(some 4), .bin .add (.t 3) (.c (.i .i64 16)), none⟩,
    ⟨(some 5), .bin .quo (.t 4) (.c (.i .i64 8)), none⟩,
    ⟨(some 2), .mv (.t 5), none⟩])
  .ret)) }
def c_internal_bytealg_IndexRabinKarp_string : Fun := { cin := [.id, .id], cout := [.id], ntmps := 81, keep := false, res := [(4, none)], body :=
  (.seq (.reg [⟨(some 4), .mv (.c (.i .i64 0)), none⟩])
  (.seq (.reg [⟨(some 12), .mv (.t 1), none⟩,
    ⟨(some 13), .call f_internal_bytealg_hashStr_string [(.t 12)], none⟩,
    ⟨(some 11), .mv (.t 13), none⟩,
    ⟨(some 14), .ext (.t 11) 0, none⟩,
    ⟨(some 15), .ext (.t 11) 1, none⟩,
    ⟨(some 5), .mv (.t 14), none⟩,
    ⟨(some 6), .mv (.t 15), none⟩])
  (.seq (.reg [⟨(some 16), .mv (.t 1), none⟩,
    ⟨(some 17), .len 0 (.t 16), none⟩,
    ⟨(some 7), .mv (.t 17), none⟩])
  (.seq (.reg [⟨(some 8), .mv (.c (.i .u32 0)), none⟩])
  (.seq (.seq (.reg [⟨(some 9), .mv (.c (.i .i64 0)), none⟩])
  (.blk 0 (.loop (.seq (.seq (.reg [⟨(some 18), .mv (.t 9), none⟩,
      ⟨(some 19), .mv (.t 7), none⟩,
      ⟨(some 20), .bin .lss (.t 18) (.t 19), none⟩])
    (.cond (.t 20)
     .skip
     (.exit 0)))
    (.seq (.blk 1 (.reg [⟨(some 23), .mv (.t 8), none⟩,
       ⟨(some 24), .bin .mul (.t 23) (.c (.i .u32 16777619)), none⟩,
       ⟨(some 25), .mv (.t 0), none⟩,
       ⟨(some 26), .mv (.t 9), none⟩,
       ⟨(some 27), .ixS (.t 25) (.t 26), none⟩,
       ⟨(some 28), .cvI .u32 (.t 27), none⟩,
       ⟨(some 29), .bin .add (.t 24) (.t 28), none⟩,
       ⟨(some 8), .mv (.t 29), none⟩]))
    (.reg [⟨(some 21), .mv (.t 9), none⟩,
      ⟨(some 22), .bin .add (.t 21) (.c (.i .i64 1)), none⟩,
      ⟨(some 9), .mv (.t 22), none⟩]))))))
  (.seq (.seq (.reg [⟨(some 30), .mv (.t 8), none⟩,
    ⟨(some 31), .mv (.t 5), none⟩,
    ⟨(some 32), .bin .eql (.t 30) (.t 31), none⟩,
    ⟨(some 33), .mv (.t 32), none⟩,
    ⟨(some 34), .mv (.t 0), (some (33, true))⟩,
    ⟨(some 35), .mv (.t 7), (some (33, true))⟩,
    ⟨(some 36), .slS (.t 34) none (some (.t 35)), (some (33, true))⟩,
    ⟨(some 37), .mv (.t 1), (some (33, true))⟩,
    ⟨(some 38), .bin .eql (.t 36) (.t 37), (some (33, true))⟩,
    ⟨(some 39), .pick (.t 33) (.t 38) (.c (.b false)), none⟩])
  (.cond (.t 39)
   (.seq (.reg [⟨(some 4), .mv (.c (.i .i64 0)), none⟩])
   .ret)
   .skip))
  (.seq (.seq (.reg [⟨(some 40), .mv (.t 7), none⟩,
    ⟨(some 10), .mv (.t 40), none⟩])
  (.blk 2 (.loop (.seq (.seq (.reg [⟨(some 41), .mv (.t 10), none⟩,
      ⟨(some 42), .mv (.t 0), none⟩,
      ⟨(some 43), .len 0 (.t 42), none⟩,
      ⟨(some 44), .bin .lss (.t 41) (.t 43), none⟩])
    (.cond (.t 44)
     .skip
     (.exit 2)))
    (.blk 3 (.seq (.reg [⟨(some 45), .mv (.t 8), none⟩,
       ⟨(some 46), .bin .mul (.t 45) (.c (.i .u32 16777619)), none⟩,
       ⟨(some 8), .mv (.t 46), none⟩])
     (.seq (.reg [⟨(some 47), .mv (.t 8), none⟩,
       ⟨(some 48), .mv (.t 0), none⟩,
       ⟨(some 49), .mv (.t 10), none⟩,
       ⟨(some 50), .ixS (.t 48) (.t 49), none⟩,
       ⟨(some 51), .cvI .u32 (.t 50), none⟩,
       ⟨(some 52), .bin .add (.t 47) (.t 51), none⟩,
       ⟨(some 8), .mv (.t 52), none⟩])
     (.seq (.reg [⟨(some 53), .mv (.t 8), none⟩,
       ⟨(some 54), .mv (.t 6), none⟩,
       ⟨(some 55), .mv (.t 0), none⟩,
       ⟨(some 56), .mv (.t 10), none⟩,
       ⟨(some 57), .mv (.t 7), none⟩,
       ⟨(some 58), .bin .sub (.t 56) (.t 57), none⟩,
       ⟨(some 59), .ixS (.t 55) (.t 58), none⟩,
       ⟨(some 60), .cvI .u32 (.t 59), none⟩,
       ⟨(some 61), .bin .mul (.t 54) (.t 60), none⟩,
       ⟨(some 62), .bin .sub (.t 53) (.t 61), none⟩,
       ⟨(some 8), .mv (.t 62), none⟩])
     (.seq (.reg [⟨(some 63), .mv (.t 10), none⟩,
       ⟨(some 64), .bin .add (.t 63) (.c (.i .i64 1)), none⟩,
       ⟨(some 10), .mv (.t 64), none⟩])
     (.seq (.reg [⟨(some 65), .mv (.t 8), none⟩,
       ⟨(some 66), .mv (.t 5), none⟩,
       ⟨(some 67), .bin .eql (.t 65) (.t 66), none⟩,
       ⟨(some 68), .mv (.t 67), none⟩,
       ⟨(some 69), .mv (.t 0), (some (68, true))⟩,
       ⟨(some 70), .mv (.t 10), (some (68, true))⟩,
       ⟨(some 71), .mv (.t 7), (some (68, true))⟩,
       ⟨(some 72), .bin .sub (.t 70) (.t 71), (some (68, true))⟩,
       ⟨(some 73), .mv (.t 10), (some (68, true))⟩,
       ⟨(some 74), .slS (.t 69) (some (.t 72)) (some (.t 73)), (some (68, true))⟩,
       ⟨(some 75), .mv (.t 1), (some (68, true))⟩,
       ⟨(some 76), .bin .eql (.t 74) (.t 75), (some (68, true))⟩,
       ⟨(some 77), .pick (.t 68) (.t 76) (.c (.b false)), none⟩])
     (.cond (.t 77)
      (.seq (.reg [⟨(some 78), .mv (.t 10), none⟩,
        ⟨(some 79), .mv (.t 7), none⟩,
        ⟨(some 80), .bin .sub (.t 78) (.t 79), none⟩,
        ⟨(some 4), .mv (.t 80), none⟩])
      .ret)
      .skip)))))))))))
  (.seq (.reg [⟨(some 4), .mv (.c (.i .i64 (-1))), none⟩])
  .ret)))))))) }
def c_internal_bytealg_hashStr_string : Fun := { cin := [.id], cout := [.id, .id], ntmps := 39, keep := false, res := [(2, none), (3, none)], body :=
  (.seq (.reg [⟨(some 2), .mv (.c (.i .u32 0)), none⟩,
    ⟨(some 3), .mv (.c (.i .u32 0)), none⟩])
  (.seq (.reg [⟨(some 4), .mv (.c (.i .u32 0)), none⟩])
  (.seq (.seq (.reg [⟨(some 5), .mv (.c (.i .i64 0)), none⟩])
  (.blk 0 (.loop (.seq (.seq (.reg [⟨(some 9), .mv (.t 5), none⟩,
      ⟨(some 10), .mv (.t 0), none⟩,
      ⟨(some 11), .len 0 (.t 10), none⟩,
      ⟨(some 12), .bin .lss (.t 9) (.t 11), none⟩])
    (.cond (.t 12)
     .skip
     (.exit 0)))
    (.seq (.blk 1 (.reg [⟨(some 15), .mv (.t 4), none⟩,
       ⟨(some 16), .bin .mul (.t 15) (.c (.i .u32 16777619)), none⟩,
       ⟨(some 17), .mv (.t 0), none⟩,
       ⟨(some 18), .mv (.t 5), none⟩,
       ⟨(some 19), .ixS (.t 17) (.t 18), none⟩,
       ⟨(some 20), .cvI .u32 (.t 19), none⟩,
       ⟨(some 21), .bin .add (.t 16) (.t 20), none⟩,
       ⟨(some 4), .mv (.t 21), none⟩]))
    (.reg [⟨(some 13), .mv (.t 5), none⟩,
      ⟨(some 14), .bin .add (.t 13) (.c (.i .i64 1)), none⟩,
      ⟨(some 5), .mv (.t 14), none⟩]))))))
  (.seq (.reg [⟨(some 6), .mv (.c (.i .u32 1)), none⟩,
    ⟨(some 7), .mv (.c (.i .u32 16777619)), none⟩])
  (.seq (.seq (.reg [⟨(some 22), .mv (.t 0), none⟩,
    ⟨(some 23), .len 0 (.t 22), none⟩,
    ⟨(some 8), .mv (.t 23), none⟩])
  (.blk 2 (.loop (.seq (.seq (.reg [⟨(some 24), .mv (.t 8), none⟩,
      ⟨(some 25), .bin .gtr (.t 24) (.c (.i .i64 0)), none⟩])
    (.cond (.t 25)
     .skip
     (.exit 2)))
    (.seq (.blk 3 (.seq (.seq (.reg [⟨(some 28), .mv (.t 8), none⟩,
       ⟨(some 29), .bin .and (.t 28) (.c (.i .i64 1)), none⟩,
       ⟨(some 30), .bin .neq (.t 29) (.c (.i .i64 0)), none⟩])
     (.cond (.t 30)
      (.reg [⟨(some 31), .mv (.t 6), none⟩,
        ⟨(some 32), .mv (.t 7), none⟩,
        ⟨(some 33), .bin .mul (.t 31) (.t 32), none⟩,
        ⟨(some 6), .mv (.t 33), none⟩])
      .skip))
     (.reg [⟨(some 34), .mv (.t 7), none⟩,
       ⟨(some 35), .mv (.t 7), none⟩,
       ⟨(some 36), .bin .mul (.t 34) (.t 35), none⟩,
       ⟨(some 7), .mv (.t 36), none⟩])))
    (.reg [⟨(some 26), .mv (.t 8), none⟩,
      ⟨(some 27), .bin .shr (.t 26) (.c (.i .u64 1)), none⟩,
      ⟨(some 8), .mv (.t 27), none⟩]))))))
  (.seq (.reg [⟨(some 37), .mv (.t 4), none⟩,
    ⟨(some 38), .mv (.t 6), none⟩,
    ⟨(some 2), .mv (.t 37), none⟩,
    ⟨(some 3), .mv (.t 38), none⟩])
  .ret)))))) }
def tab : PT := (.n 66 c_slices_insertionSortOrdered_string (.n 29 c_slices_Clone_string_string (.n 17 c_expand_Items (.n 12 c_touchstonelaw05_lit (.n 10 c_touchstonelaw05_vars (.n 9 c_touchstonelaw05_works (.n 4 c_touchstonelaw05_ExpandNames .e .e) .e) (.n 11 c_touchstonelaw05_fields .e .e)) (.n 15 c_touchstonelaw05_qpar (.n 14 c_touchstonelaw05_quo (.n 13 c_touchstonelaw05_par .e .e) .e) (.n 16 c_expand_Value .e .e))) (.n 25 c_expand_Fields (.n 20 c_touchstonelaw05_many (.n 19 c_expand_Set (.n 18 c_touchstonelaw05_same .e .e) .e) (.n 24 c_expand_Text .e .e)) (.n 27 c_slices_Index_string_string (.n 26 c_strconv_Itoa .e .e) (.n 28 c_expand_isName .e .e)))) (.n 51 c_internal_strconv_Itoa (.n 47 c_expand_values (.n 35 c_strings_Builder_WriteString (.n 31 c_slices_Compact_string_string (.n 30 c_slices_Sort_string_string .e .e) .e) (.n 36 c_strings_Builder_String .e .e)) (.n 49 c_expand_builder_add (.n 48 c_expand_builder_split .e .e) (.n 50 c_expand_builder_end .e .e))) (.n 62 c_expand_values_1 (.n 54 c_math_bits_Len (.n 53 c_slices_pdqsortOrdered_string (.n 52 c_word_Param .e .e) .e) (.n 58 c_strings_Builder_copyCheck .e .e)) (.n 64 c_strings_Contains (.n 63 c_internal_strconv_FormatInt .e .e) (.n 65 c_word_lead .e .e))))) (.n 92 c_slices_siftDownOrdered_string (.n 75 c_math_bits_Len32 (.n 71 c_slices_partialInsertionSortOrdered_string (.n 69 c_slices_choosePivotOrdered_string (.n 68 c_slices_breakPatternsOrdered_string (.n 67 c_slices_heapSortOrdered_string .e .e) .e) (.n 70 c_slices_reverseRangeOrdered_string .e .e)) (.n 73 c_slices_partitionEqualOrdered_string (.n 72 c_cmp_Less_string .e .e) (.n 74 c_slices_partitionOrdered_string .e .e))) (.n 88 c_internal_strconv_formatBits (.n 86 c_internal_strconv_numDigits (.n 85 c_internal_strconv_small (.n 76 c_math_bits_Len64 .e .e) .e) (.n 87 c_internal_strconv_formatBase10 .e .e)) (.n 90 c_word_letter (.n 89 c_strings_Index .e .e) (.n 91 c_word_digit .e .e)))) (.n 107 c_internal_strconv_isPowerOfTwo (.n 97 c_cmp_isNaN_string (.n 95 c_slices_medianAdjacentOrdered_string (.n 94 c_slices_xorshift_Next (.n 93 c_slices_nextPowerOfTwo .e .e) .e) (.n 96 c_slices_medianOrdered_string .e .e)) (.n 105 c_internal_strconv_log10Pow2 (.n 98 c_internal_stringslite_IndexByte .e .e) (.n 106 c_internal_strconv_bool2_int .e .e))) (.n 119 c_math_bits_TrailingZeros64 (.n 110 c_slices_order2Ordered_string (.n 109 c_internal_stringslite_Index (.n 108 c_math_bits_TrailingZeros .e .e) .e) (.n 118 c_math_bits_TrailingZeros32 .e .e)) (.n 122 c_internal_bytealg_IndexRabinKarp_string (.n 121 c_internal_bytealg_Cutover .e .e) (.n 130 c_internal_bytealg_hashStr_string .e .e))))))
def prog (n : Nat) : Option Fun := tab.get n
theorem p_touchstonelaw05_ExpandNames : prog f_touchstonelaw05_ExpandNames = some c_touchstonelaw05_ExpandNames := rfl
theorem p_touchstonelaw05_works : prog f_touchstonelaw05_works = some c_touchstonelaw05_works := rfl
theorem p_touchstonelaw05_vars : prog f_touchstonelaw05_vars = some c_touchstonelaw05_vars := rfl
theorem p_touchstonelaw05_fields : prog f_touchstonelaw05_fields = some c_touchstonelaw05_fields := rfl
theorem p_touchstonelaw05_lit : prog f_touchstonelaw05_lit = some c_touchstonelaw05_lit := rfl
theorem p_touchstonelaw05_par : prog f_touchstonelaw05_par = some c_touchstonelaw05_par := rfl
theorem p_touchstonelaw05_quo : prog f_touchstonelaw05_quo = some c_touchstonelaw05_quo := rfl
theorem p_touchstonelaw05_qpar : prog f_touchstonelaw05_qpar = some c_touchstonelaw05_qpar := rfl
theorem p_expand_Value : prog f_expand_Value = some c_expand_Value := rfl
theorem p_expand_Items : prog f_expand_Items = some c_expand_Items := rfl
theorem p_touchstonelaw05_same : prog f_touchstonelaw05_same = some c_touchstonelaw05_same := rfl
theorem p_expand_Set : prog f_expand_Set = some c_expand_Set := rfl
theorem p_touchstonelaw05_many : prog f_touchstonelaw05_many = some c_touchstonelaw05_many := rfl
theorem p_expand_Text : prog f_expand_Text = some c_expand_Text := rfl
theorem p_expand_Fields : prog f_expand_Fields = some c_expand_Fields := rfl
theorem p_strconv_Itoa : prog f_strconv_Itoa = some c_strconv_Itoa := rfl
theorem p_slices_Index_string_string : prog f_slices_Index_string_string = some c_slices_Index_string_string := rfl
theorem p_expand_isName : prog f_expand_isName = some c_expand_isName := rfl
theorem p_slices_Clone_string_string : prog f_slices_Clone_string_string = some c_slices_Clone_string_string := rfl
theorem p_slices_Sort_string_string : prog f_slices_Sort_string_string = some c_slices_Sort_string_string := rfl
theorem p_slices_Compact_string_string : prog f_slices_Compact_string_string = some c_slices_Compact_string_string := rfl
theorem p_strings_Builder_WriteString : prog f_strings_Builder_WriteString = some c_strings_Builder_WriteString := rfl
theorem p_strings_Builder_String : prog f_strings_Builder_String = some c_strings_Builder_String := rfl
theorem p_expand_values : prog f_expand_values = some c_expand_values := rfl
theorem p_expand_builder_split : prog f_expand_builder_split = some c_expand_builder_split := rfl
theorem p_expand_builder_add : prog f_expand_builder_add = some c_expand_builder_add := rfl
theorem p_expand_builder_end : prog f_expand_builder_end = some c_expand_builder_end := rfl
theorem p_internal_strconv_Itoa : prog f_internal_strconv_Itoa = some c_internal_strconv_Itoa := rfl
theorem p_word_Param : prog f_word_Param = some c_word_Param := rfl
theorem p_slices_pdqsortOrdered_string : prog f_slices_pdqsortOrdered_string = some c_slices_pdqsortOrdered_string := rfl
theorem p_math_bits_Len : prog f_math_bits_Len = some c_math_bits_Len := rfl
theorem p_strings_Builder_copyCheck : prog f_strings_Builder_copyCheck = some c_strings_Builder_copyCheck := rfl
theorem p_expand_values_1 : prog f_expand_values_1 = some c_expand_values_1 := rfl
theorem p_internal_strconv_FormatInt : prog f_internal_strconv_FormatInt = some c_internal_strconv_FormatInt := rfl
theorem p_strings_Contains : prog f_strings_Contains = some c_strings_Contains := rfl
theorem p_word_lead : prog f_word_lead = some c_word_lead := rfl
theorem p_slices_insertionSortOrdered_string : prog f_slices_insertionSortOrdered_string = some c_slices_insertionSortOrdered_string := rfl
theorem p_slices_heapSortOrdered_string : prog f_slices_heapSortOrdered_string = some c_slices_heapSortOrdered_string := rfl
theorem p_slices_breakPatternsOrdered_string : prog f_slices_breakPatternsOrdered_string = some c_slices_breakPatternsOrdered_string := rfl
theorem p_slices_choosePivotOrdered_string : prog f_slices_choosePivotOrdered_string = some c_slices_choosePivotOrdered_string := rfl
theorem p_slices_reverseRangeOrdered_string : prog f_slices_reverseRangeOrdered_string = some c_slices_reverseRangeOrdered_string := rfl
theorem p_slices_partialInsertionSortOrdered_string : prog f_slices_partialInsertionSortOrdered_string = some c_slices_partialInsertionSortOrdered_string := rfl
theorem p_cmp_Less_string : prog f_cmp_Less_string = some c_cmp_Less_string := rfl
theorem p_slices_partitionEqualOrdered_string : prog f_slices_partitionEqualOrdered_string = some c_slices_partitionEqualOrdered_string := rfl
theorem p_slices_partitionOrdered_string : prog f_slices_partitionOrdered_string = some c_slices_partitionOrdered_string := rfl
theorem p_math_bits_Len32 : prog f_math_bits_Len32 = some c_math_bits_Len32 := rfl
theorem p_math_bits_Len64 : prog f_math_bits_Len64 = some c_math_bits_Len64 := rfl
theorem p_internal_strconv_small : prog f_internal_strconv_small = some c_internal_strconv_small := rfl
theorem p_internal_strconv_numDigits : prog f_internal_strconv_numDigits = some c_internal_strconv_numDigits := rfl
theorem p_internal_strconv_formatBase10 : prog f_internal_strconv_formatBase10 = some c_internal_strconv_formatBase10 := rfl
theorem p_internal_strconv_formatBits : prog f_internal_strconv_formatBits = some c_internal_strconv_formatBits := rfl
theorem p_strings_Index : prog f_strings_Index = some c_strings_Index := rfl
theorem p_word_letter : prog f_word_letter = some c_word_letter := rfl
theorem p_word_digit : prog f_word_digit = some c_word_digit := rfl
theorem p_slices_siftDownOrdered_string : prog f_slices_siftDownOrdered_string = some c_slices_siftDownOrdered_string := rfl
theorem p_slices_nextPowerOfTwo : prog f_slices_nextPowerOfTwo = some c_slices_nextPowerOfTwo := rfl
theorem p_slices_xorshift_Next : prog f_slices_xorshift_Next = some c_slices_xorshift_Next := rfl
theorem p_slices_medianAdjacentOrdered_string : prog f_slices_medianAdjacentOrdered_string = some c_slices_medianAdjacentOrdered_string := rfl
theorem p_slices_medianOrdered_string : prog f_slices_medianOrdered_string = some c_slices_medianOrdered_string := rfl
theorem p_cmp_isNaN_string : prog f_cmp_isNaN_string = some c_cmp_isNaN_string := rfl
theorem p_internal_stringslite_IndexByte : prog f_internal_stringslite_IndexByte = some c_internal_stringslite_IndexByte := rfl
theorem p_internal_strconv_log10Pow2 : prog f_internal_strconv_log10Pow2 = some c_internal_strconv_log10Pow2 := rfl
theorem p_internal_strconv_bool2_int : prog f_internal_strconv_bool2_int = some c_internal_strconv_bool2_int := rfl
theorem p_internal_strconv_isPowerOfTwo : prog f_internal_strconv_isPowerOfTwo = some c_internal_strconv_isPowerOfTwo := rfl
theorem p_math_bits_TrailingZeros : prog f_math_bits_TrailingZeros = some c_math_bits_TrailingZeros := rfl
theorem p_internal_stringslite_Index : prog f_internal_stringslite_Index = some c_internal_stringslite_Index := rfl
theorem p_slices_order2Ordered_string : prog f_slices_order2Ordered_string = some c_slices_order2Ordered_string := rfl
theorem p_math_bits_TrailingZeros32 : prog f_math_bits_TrailingZeros32 = some c_math_bits_TrailingZeros32 := rfl
theorem p_math_bits_TrailingZeros64 : prog f_math_bits_TrailingZeros64 = some c_math_bits_TrailingZeros64 := rfl
theorem p_internal_bytealg_Cutover : prog f_internal_bytealg_Cutover = some c_internal_bytealg_Cutover := rfl
theorem p_internal_bytealg_IndexRabinKarp_string : prog f_internal_bytealg_IndexRabinKarp_string = some c_internal_bytealg_IndexRabinKarp_string := rfl
theorem p_internal_bytealg_hashStr_string : prog f_internal_bytealg_hashStr_string = some c_internal_bytealg_hashStr_string := rfl
end Go.Proofs.YtpghcnfeeakcpaaDoor
