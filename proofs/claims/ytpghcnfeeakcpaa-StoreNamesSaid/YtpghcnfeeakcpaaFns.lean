/-
  The functions, as the abstract machine's: numbers and texts. By program.
-/
import Derived.Test.YtpghcnfeeakcpaaAmTab
set_option linter.all false
set_option linter.unusedVariables false
set_option linter.unusedSimpArgs false
set_option linter.unusedSectionVars false
set_option maxRecDepth 100000
namespace Go.Proofs.Ytpghcnfeeakcpaa
open Go.Proofs.Ytpghcnfeeakcpaa.Am
def f_touchstonelaw24_ForkNames : Nat := 3
def f_touchstonelaw22_StoreNames : Nat := 4
def f_fork_Ways : Nat := 5
def f_fork_Follow : Nat := 6
def f_touchstonelaw24_awake : Nat := 7
def f_store_Ask : Nat := 8
def f_store_Know : Nat := 9
def f_store_Whole : Nat := 10
def f_store_More : Nat := 11
def f_touchstonelaw22_awake : Nat := 12
def f_fork_Split_calls : Nat := 13
def f_slices_Clone_api_Fact_api_Fact : Nat := 14
def f_store_change : Nat := 15
def f_store_Ask_1 : Nat := 16
def f_store_dir : Nat := 17
def f_path_Name : Nat := 18
def f_store_Ask_2 : Nat := 19
def f_slices_BinarySearch_string_string : Nat := 20
def f_slices_Insert_string_string : Nat := 21
def f_slices_Insert_int_int : Nat := 22
def f_store_Know_1 : Nat := 23
def f_store_Know_2 : Nat := 24
def f_store_Whole_1 : Nat := 25
def f_store_there : Nat := 26
def f_store_Whole_2 : Nat := 27
def f_store_More_1 : Nat := 28
def f_store_More_2 : Nat := 29
def f_pat_Root : Nat := 30
def f_fork_Split_calls_1 : Nat := 31
def f_fork_Split_calls_2 : Nat := 32
def f_fork_kinds : Nat := 33
def f_fork_Split_calls_3 : Nat := 34
def f_pat_May : Nat := 35
def f_store_own : Nat := 36
def f_strings_ContainsAny : Nat := 37
def f_cmp_Less_string : Nat := 38
def f_slices_isNaN_string : Nat := 39
def f_slices_overlaps_string : Nat := 40
def f_slices_rotateRight_string : Nat := 41
def f_slices_overlaps_int : Nat := 42
def f_slices_rotateRight_int : Nat := 43
def f_slices_Sorted_int : Nat := 44
def f_slices_Values_int_int : Nat := 45
def f_slices_ContainsFunc_int_int : Nat := 46
def f_store_there_1 : Nat := 47
def f_fork_kinds_1 : Nat := 48
def f_pat_dir : Nat := 49
def f_pat_one : Nat := 50
def f_pat_May_1 : Nat := 51
def f_slices_Clone_string_string : Nat := 52
def f_slices_Clone_int_int : Nat := 53
def f_strings_IndexAny : Nat := 54
def f_cmp_isNaN_string : Nat := 55
def f_slices_rotateLeft_string : Nat := 56
def f_slices_rotateLeft_int : Nat := 57
def f_slices_Collect_int : Nat := 58
def f_slices_Sort_int_int : Nat := 59
def f_slices_Values_int_int_1 : Nat := 60
def f_slices_IndexFunc_int_int : Nat := 61
def f_strings_IndexRune : Nat := 62
def f_strings_shouldUseASCIISet : Nat := 63
def f_strings_makeASCIISet : Nat := 64
def f_strings_asciiSet_contains : Nat := 65
def f_slices_Reverse_string_string : Nat := 66
def f_slices_Reverse_int_int : Nat := 67
def f_slices_AppendSeq_int_int : Nat := 68
def f_slices_pdqsortOrdered_int : Nat := 69
def f_math_bits_Len : Nat := 70
def f_strings_IndexByte : Nat := 71
def f_unicode_utf8_ValidRune : Nat := 72
def f_internal_bytealg_Cutover : Nat := 73
def f_internal_bytealg_IndexString : Nat := 74
def f_slices_insertionSortOrdered_int : Nat := 75
def f_slices_heapSortOrdered_int : Nat := 76
def f_slices_breakPatternsOrdered_int : Nat := 77
def f_slices_choosePivotOrdered_int : Nat := 78
def f_slices_reverseRangeOrdered_int : Nat := 79
def f_slices_partialInsertionSortOrdered_int : Nat := 80
def f_cmp_Less_int : Nat := 81
def f_slices_partitionEqualOrdered_int : Nat := 82
def f_slices_partitionOrdered_int : Nat := 83
def f_math_bits_Len32 : Nat := 84
def f_math_bits_Len64 : Nat := 85
def f_internal_stringslite_IndexByte : Nat := 86
def f_slices_siftDownOrdered_int : Nat := 87
def f_slices_nextPowerOfTwo : Nat := 88
def f_slices_xorshift_Next : Nat := 89
def f_slices_medianAdjacentOrdered_int : Nat := 90
def f_slices_medianOrdered_int : Nat := 91
def f_cmp_isNaN_int : Nat := 92
def f_internal_bytealg_IndexByteString : Nat := 93
def f_slices_order2Ordered_int : Nat := 94
def c_touchstonelaw24_ForkNames : Fun := { cin := [], cout := [.id], ntmps := 184, keep := false, res := [(0, none)], body :=
  (.seq (.reg [⟨(some 0), .mv (.c (.b false)), none⟩])
  (.seq (.reg [⟨(some 24), .bsl 1 [(.c (.s [97]))], none⟩,
    ⟨(some 25), .bsl 1 [(.c (.i .i64 1))], none⟩,
    ⟨(some 26), .build [(.b false), (.i .u8 0), .nsl, .nsl, (.i .i64 0), (.i .i64 0)] [(0, 1, (.c (.b true))), (1, 1, (.c (.i .u8 2))), (2, 1, (.t 24)), (3, 1, (.t 25))], none⟩,
    ⟨(some 27), .build [(.b false), (.i .u8 0), .nsl, .nsl, (.i .i64 0), (.i .i64 0)] [], none⟩,
    ⟨(some 28), .bsl 6 [(.t 26), (.t 27)], none⟩,
    ⟨(some 1), .mv (.t 28), none⟩])
  (.seq (.reg [⟨(some 30), .build [(.i .i64 0), (.b false)] [], none⟩,
    ⟨(some 31), .call f_fork_Ways [(.c .nsl), (.t 30), (.c (.b false))], none⟩,
    ⟨(some 29), .mv (.t 31), none⟩,
    ⟨(some 32), .ext (.t 29) 0, none⟩,
    ⟨(some 33), .ext (.t 29) 1, none⟩,
    ⟨(some 2), .mv (.t 32), none⟩,
    ⟨(some 3), .mv (.t 33), none⟩])
  (.seq (.reg [⟨(some 35), .mv (.t 1), none⟩,
    ⟨(some 36), .build [(.i .i64 0), (.b false)] [(0, 1, (.c (.i .i64 0)))], none⟩,
    ⟨(some 37), .call f_fork_Ways [(.t 35), (.t 36), (.c (.b false))], none⟩,
    ⟨(some 34), .mv (.t 37), none⟩,
    ⟨(some 38), .ext (.t 34) 0, none⟩,
    ⟨(some 39), .ext (.t 34) 1, none⟩,
    ⟨(some 4), .mv (.t 38), none⟩,
    ⟨(some 5), .mv (.t 39), none⟩])
  (.seq (.reg [⟨(some 41), .mv (.t 1), none⟩,
    ⟨(some 42), .build [(.i .i64 0), (.b false)] [(0, 1, (.c (.i .i64 1))), (1, 1, (.c (.b true)))], none⟩,
    ⟨(some 43), .call f_fork_Ways [(.t 41), (.t 42), (.c (.b false))], none⟩,
    ⟨(some 40), .mv (.t 43), none⟩,
    ⟨(some 44), .ext (.t 40) 0, none⟩,
    ⟨(some 45), .ext (.t 40) 1, none⟩,
    ⟨(some 6), .mv (.t 44), none⟩,
    ⟨(some 7), .mv (.t 45), none⟩])
  (.seq (.reg [⟨(some 47), .mv (.t 1), none⟩,
    ⟨(some 48), .build [(.i .i64 0), (.b false)] [(0, 1, (.c (.i .i64 2)))], none⟩,
    ⟨(some 49), .call f_fork_Ways [(.t 47), (.t 48), (.c (.b false))], none⟩,
    ⟨(some 46), .mv (.t 49), none⟩,
    ⟨(some 50), .ext (.t 46) 0, none⟩,
    ⟨(some 51), .ext (.t 46) 1, none⟩,
    ⟨(some 8), .mv (.t 50), none⟩,
    ⟨(some 9), .mv (.t 51), none⟩])
  (.seq (.reg [⟨(some 53), .mv (.t 1), none⟩,
    ⟨(some 54), .build [(.i .i64 0), (.b false)] [(0, 1, (.c (.i .i64 1)))], none⟩,
    ⟨(some 55), .call f_fork_Ways [(.t 53), (.t 54), (.c (.b true))], none⟩,
    ⟨(some 52), .mv (.t 55), none⟩,
    ⟨(some 56), .ext (.t 52) 0, none⟩,
    ⟨(some 57), .ext (.t 52) 1, none⟩,
    ⟨(some 10), .mv (.t 56), none⟩,
    ⟨(some 11), .mv (.t 57), none⟩])
  (.seq (.reg [⟨(some 59), .mv (.t 1), none⟩,
    ⟨(some 60), .build [(.i .i64 0), (.b false)] [(0, 1, (.c (.i .i64 1)))], none⟩,
    ⟨(some 61), .bsl 2 [(.t 60)], none⟩,
    ⟨(some 62), .call f_fork_Follow [(.t 59), (.t 61), (.c .nsl), (.c (.b false))], none⟩,
    ⟨(some 58), .mv (.t 62), none⟩,
    ⟨(some 63), .ext (.t 58) 0, none⟩,
    ⟨(some 64), .ext (.t 58) 1, none⟩,
    ⟨(some 12), .mv (.t 63), none⟩,
    ⟨(some 13), .mv (.t 64), none⟩])
  (.seq (.reg [⟨(some 66), .mv (.t 1), none⟩,
    ⟨(some 67), .build [(.i .i64 0), (.b false)] [(0, 1, (.c (.i .i64 1)))], none⟩,
    ⟨(some 68), .bsl 2 [(.t 67)], none⟩,
    ⟨(some 69), .bsl 1 [(.c (.i .i64 3))], none⟩,
    ⟨(some 70), .call f_fork_Follow [(.t 66), (.t 68), (.t 69), (.c (.b false))], none⟩,
    ⟨(some 65), .mv (.t 70), none⟩,
    ⟨(some 71), .ext (.t 65) 0, none⟩,
    ⟨(some 72), .ext (.t 65) 1, none⟩,
    ⟨(some 14), .mv (.t 71), none⟩,
    ⟨(some 15), .mv (.t 72), none⟩])
  (.seq (.reg [⟨(some 74), .mv (.t 1), none⟩,
    ⟨(some 75), .build [(.i .i64 0), (.b false)] [(0, 1, (.c (.i .i64 1)))], none⟩,
    ⟨(some 76), .bsl 2 [(.t 75)], none⟩,
    ⟨(some 77), .bsl 1 [(.c (.i .i64 (-1)))], none⟩,
    ⟨(some 78), .call f_fork_Follow [(.t 74), (.t 76), (.t 77), (.c (.b false))], none⟩,
    ⟨(some 73), .mv (.t 78), none⟩,
    ⟨(some 79), .ext (.t 73) 0, none⟩,
    ⟨(some 80), .ext (.t 73) 1, none⟩,
    ⟨(some 16), .mv (.t 79), none⟩,
    ⟨(some 17), .mv (.t 80), none⟩])
  (.seq (.reg [⟨(some 82), .mv (.t 1), none⟩,
    ⟨(some 83), .bsl 1 [(.c (.i .i64 0))], none⟩,
    ⟨(some 84), .call f_fork_Follow [(.t 82), (.c .nsl), (.t 83), (.c (.b false))], none⟩,
    ⟨(some 81), .mv (.t 84), none⟩,
    ⟨(some 85), .ext (.t 81) 0, none⟩,
    ⟨(some 86), .ext (.t 81) 1, none⟩,
    ⟨(some 18), .mv (.t 85), none⟩,
    ⟨(some 19), .mv (.t 86), none⟩])
  (.seq (.reg [⟨(some 88), .mv (.t 1), none⟩,
    ⟨(some 89), .call f_fork_Follow [(.t 88), (.c .nsl), (.c .nsl), (.c (.b false))], none⟩,
    ⟨(some 87), .mv (.t 89), none⟩,
    ⟨(some 90), .ext (.t 87) 0, none⟩,
    ⟨(some 91), .ext (.t 87) 1, none⟩,
    ⟨(some 20), .mv (.t 90), none⟩,
    ⟨(some 21), .mv (.t 91), none⟩])
  (.seq (.reg [⟨(some 93), .mv (.t 1), none⟩,
    ⟨(some 94), .build [(.i .i64 0), (.b false)] [(0, 1, (.c (.i .i64 1)))], none⟩,
    ⟨(some 95), .build [(.i .i64 0), (.b false)] [(0, 1, (.c (.i .i64 0))), (1, 1, (.c (.b true)))], none⟩,
    ⟨(some 96), .bsl 2 [(.t 94), (.t 95)], none⟩,
    ⟨(some 97), .bsl 1 [(.c (.i .i64 3)), (.c (.i .i64 1))], none⟩,
    ⟨(some 98), .call f_fork_Follow [(.t 93), (.t 96), (.t 97), (.c (.b true))], none⟩,
    ⟨(some 92), .mv (.t 98), none⟩,
    ⟨(some 99), .ext (.t 92) 0, none⟩,
    ⟨(some 100), .ext (.t 92) 1, none⟩,
    ⟨(some 22), .mv (.t 99), none⟩,
    ⟨(some 23), .mv (.t 100), none⟩])
  (.seq (.seq (.thw 22)
  (.reg [⟨(some 101), .mv (.t 3), none⟩,
    ⟨(some 102), .bin .eql (.t 101) (.c (.i .i64 4)), none⟩,
    ⟨(some 103), .mv (.t 102), none⟩,
    ⟨(some 104), .mv (.t 5), (some (103, true))⟩,
    ⟨(some 105), .bin .eql (.t 104) (.c (.i .i64 6)), (some (103, true))⟩,
    ⟨(some 106), .pick (.t 103) (.t 105) (.c (.b false)), none⟩,
    ⟨(some 107), .mv (.t 106), none⟩,
    ⟨(some 108), .mv (.t 7), (some (107, true))⟩,
    ⟨(some 109), .bin .eql (.t 108) (.c (.i .i64 1)), (some (107, true))⟩,
    ⟨(some 110), .pick (.t 107) (.t 109) (.c (.b false)), none⟩,
    ⟨(some 111), .mv (.t 110), none⟩,
    ⟨(some 112), .mv (.t 9), (some (111, true))⟩,
    ⟨(some 113), .bin .eql (.t 112) (.c (.i .i64 1)), (some (111, true))⟩,
    ⟨(some 114), .pick (.t 111) (.t 113) (.c (.b false)), none⟩,
    ⟨(some 115), .mv (.t 114), none⟩,
    ⟨(some 116), .mv (.t 10), (some (115, true))⟩,
    ⟨(some 117), .len 1 (.t 116), (some (115, true))⟩,
    ⟨(some 118), .bin .eql (.t 117) (.c (.i .i64 4)), (some (115, true))⟩,
    ⟨(some 119), .pick (.t 115) (.t 118) (.c (.b false)), none⟩,
    ⟨(some 120), .mv (.t 119), none⟩,
    ⟨(some 121), .mv (.t 10), (some (120, true))⟩,
    ⟨(some 122), .ia 1 (.t 121) (.c (.i .i64 3)), (some (120, true))⟩,
    ⟨(some 123), .ld false 1 (.t 122), (some (120, true))⟩,
    ⟨(some 124), .ia 6 (.t 123) (.c (.i .i64 1)), (some (120, true))⟩,
    ⟨(some 125), .fa 1 (.t 124), (some (120, true))⟩,
    ⟨(some 126), .ld false 1 (.t 125), (some (120, true))⟩,
    ⟨(some 127), .bin .eql (.t 126) (.c (.i .u8 3)), (some (120, true))⟩,
    ⟨(some 128), .pick (.t 120) (.t 127) (.c (.b false)), none⟩,
    ⟨(some 129), .mv (.t 128), none⟩,
    ⟨(some 130), .mv (.t 11), (some (129, true))⟩,
    ⟨(some 131), .bin .eql (.t 130) (.c (.i .i64 0)), (some (129, true))⟩,
    ⟨(some 132), .pick (.t 129) (.t 131) (.c (.b false)), none⟩,
    ⟨(some 133), .mv (.t 132), none⟩,
    ⟨(some 134), .mv (.t 13), (some (133, true))⟩,
    ⟨(some 135), .bin .eql (.t 134) (.c (.i .i64 1)), (some (133, true))⟩,
    ⟨(some 136), .pick (.t 133) (.t 135) (.c (.b false)), none⟩,
    ⟨(some 137), .mv (.t 136), none⟩,
    ⟨(some 138), .mv (.t 15), (some (137, true))⟩,
    ⟨(some 139), .bin .eql (.t 138) (.c (.i .i64 1)), (some (137, true))⟩,
    ⟨(some 140), .pick (.t 137) (.t 139) (.c (.b false)), none⟩,
    ⟨(some 141), .mv (.t 140), none⟩,
    ⟨(some 142), .mv (.t 17), (some (141, true))⟩,
    ⟨(some 143), .bin .eql (.t 142) (.c (.i .i64 1)), (some (141, true))⟩,
    ⟨(some 144), .pick (.t 141) (.t 143) (.c (.b false)), none⟩,
    ⟨(some 145), .mv (.t 144), none⟩,
    ⟨(some 146), .mv (.t 19), (some (145, true))⟩,
    ⟨(some 147), .bin .eql (.t 146) (.c (.i .i64 1)), (some (145, true))⟩,
    ⟨(some 148), .pick (.t 145) (.t 147) (.c (.b false)), none⟩,
    ⟨(some 149), .mv (.t 148), none⟩,
    ⟨(some 150), .mv (.t 20), (some (149, true))⟩,
    ⟨(some 151), .len 1 (.t 150), (some (149, true))⟩,
    ⟨(some 152), .bin .eql (.t 151) (.c (.i .i64 2)), (some (149, true))⟩,
    ⟨(some 153), .pick (.t 149) (.t 152) (.c (.b false)), none⟩,
    ⟨(some 154), .mv (.t 153), none⟩,
    ⟨(some 155), .mv (.t 21), (some (154, true))⟩,
    ⟨(some 156), .bin .eql (.t 155) (.c (.i .i64 0)), (some (154, true))⟩,
    ⟨(some 157), .pick (.t 154) (.t 156) (.c (.b false)), none⟩,
    ⟨(some 158), .mv (.t 157), none⟩,
    ⟨(some 159), .mv (.t 22), (some (158, true))⟩,
    ⟨(some 160), .len 1 (.t 159), (some (158, true))⟩,
    ⟨(some 161), .bin .eql (.t 160) (.c (.i .i64 2)), (some (158, true))⟩,
    ⟨(some 162), .pick (.t 158) (.t 161) (.c (.b false)), none⟩,
    ⟨(some 163), .mv (.t 162), none⟩,
    ⟨(some 164), .mv (.t 22), (some (163, true))⟩,
    ⟨(some 165), .ia 6 (.t 164) (.c (.i .i64 1)), (some (163, true))⟩,
    ⟨(some 166), .fa 1 (.t 165), (some (163, true))⟩,
    ⟨(some 167), .ld false 1 (.t 166), (some (163, true))⟩,
    ⟨(some 168), .bin .eql (.t 167) (.c (.i .u8 3)), (some (163, true))⟩,
    ⟨(some 169), .pick (.t 163) (.t 168) (.c (.b false)), none⟩,
    ⟨(some 170), .mv (.t 169), none⟩,
    ⟨(some 171), .mv (.t 22), (some (170, true))⟩,
    ⟨(some 172), .ia 6 (.t 171) (.c (.i .i64 0)), (some (170, true))⟩,
    ⟨(some 173), .fa 4 (.t 172), (some (170, true))⟩,
    ⟨(some 174), .ld false 1 (.t 173), (some (170, true))⟩,
    ⟨(some 175), .bin .eql (.t 174) (.c (.i .i64 2)), (some (170, true))⟩,
    ⟨(some 176), .pick (.t 170) (.t 175) (.c (.b false)), none⟩,
    ⟨(some 177), .mv (.t 176), none⟩,
    ⟨(some 178), .mv (.t 23), (some (177, true))⟩,
    ⟨(some 179), .bin .eql (.t 178) (.c (.i .i64 0)), (some (177, true))⟩,
    ⟨(some 180), .pick (.t 177) (.t 179) (.c (.b false)), none⟩,
    ⟨(some 181), .mv (.t 180), none⟩,
    ⟨(some 182), .call f_touchstonelaw24_awake [], (some (181, true))⟩,
    ⟨(some 183), .pick (.t 181) (.t 182) (.c (.b false)), none⟩,
    ⟨(some 0), .mv (.t 183), none⟩]))
  .ret)))))))))))))) }
def c_touchstonelaw22_StoreNames : Fun := { cin := [], cout := [.id], ntmps := 195, keep := false, res := [(0, none)], body :=
  (.seq (.reg [⟨(some 0), .mv (.c (.b false)), none⟩])
  (.seq (.reg [⟨(some 39), .build [(.b false), (.i .u8 0), .nsl, .nsl, (.i .i64 0), (.i .i64 0)] [(0, 1, (.c (.b true))), (1, 1, (.c (.i .u8 2)))], none⟩,
    ⟨(some 40), .bsl 6 [(.t 39)], none⟩,
    ⟨(some 1), .mv (.t 40), none⟩])
  (.seq (.reg [⟨(some 42), .call f_store_Ask [(.c .nsl), (.c (.i .i64 0)), (.c (.s [97]))], none⟩,
    ⟨(some 41), .mv (.t 42), none⟩,
    ⟨(some 43), .ext (.t 41) 0, none⟩,
    ⟨(some 44), .ext (.t 41) 1, none⟩,
    ⟨(some 45), .ext (.t 41) 2, none⟩,
    ⟨(some 2), .mv (.t 43), none⟩,
    ⟨(some 3), .mv (.t 44), none⟩,
    ⟨(some 4), .mv (.t 45), none⟩])
  (.seq (.reg [⟨(some 47), .mv (.t 1), none⟩,
    ⟨(some 48), .call f_store_Ask [(.t 47), (.c (.i .i64 1)), (.c (.s [97]))], none⟩,
    ⟨(some 46), .mv (.t 48), none⟩,
    ⟨(some 49), .ext (.t 46) 0, none⟩,
    ⟨(some 50), .ext (.t 46) 1, none⟩,
    ⟨(some 51), .ext (.t 46) 2, none⟩,
    ⟨(some 5), .mv (.t 49), none⟩,
    ⟨(some 6), .mv (.t 50), none⟩,
    ⟨(some 7), .mv (.t 51), none⟩])
  (.seq (.reg [⟨(some 53), .mv (.t 1), none⟩,
    ⟨(some 54), .call f_store_Ask [(.t 53), (.c (.i .i64 0)), (.c (.s [46, 46]))], none⟩,
    ⟨(some 52), .mv (.t 54), none⟩,
    ⟨(some 55), .ext (.t 52) 0, none⟩,
    ⟨(some 56), .ext (.t 52) 1, none⟩,
    ⟨(some 57), .ext (.t 52) 2, none⟩,
    ⟨(some 8), .mv (.t 55), none⟩,
    ⟨(some 9), .mv (.t 56), none⟩,
    ⟨(some 10), .mv (.t 57), none⟩])
  (.seq (.reg [⟨(some 59), .mv (.t 1), none⟩,
    ⟨(some 60), .call f_store_Ask [(.t 59), (.c (.i .i64 0)), (.c (.s [97]))], none⟩,
    ⟨(some 58), .mv (.t 60), none⟩,
    ⟨(some 61), .ext (.t 58) 0, none⟩,
    ⟨(some 62), .ext (.t 58) 1, none⟩,
    ⟨(some 63), .ext (.t 58) 2, none⟩,
    ⟨(some 11), .mv (.t 61), none⟩,
    ⟨(some 12), .mv (.t 62), none⟩,
    ⟨(some 13), .mv (.t 63), none⟩])
  (.seq (.reg [⟨(some 65), .mv (.t 11), none⟩,
    ⟨(some 66), .call f_store_Ask [(.t 65), (.c (.i .i64 1)), (.c (.s [98]))], none⟩,
    ⟨(some 64), .mv (.t 66), none⟩,
    ⟨(some 67), .ext (.t 64) 0, none⟩,
    ⟨(some 68), .ext (.t 64) 1, none⟩,
    ⟨(some 69), .ext (.t 64) 2, none⟩,
    ⟨(some 14), .mv (.t 67), none⟩,
    ⟨(some 15), .mv (.t 68), none⟩,
    ⟨(some 16), .mv (.t 69), none⟩])
  (.seq (.reg [⟨(some 71), .mv (.t 11), none⟩,
    ⟨(some 72), .call f_store_Know [(.t 71), (.c (.i .i64 0)), (.c (.i .u8 1))], none⟩,
    ⟨(some 70), .mv (.t 72), none⟩,
    ⟨(some 73), .ext (.t 70) 0, none⟩,
    ⟨(some 74), .ext (.t 70) 1, none⟩,
    ⟨(some 17), .mv (.t 73), none⟩,
    ⟨(some 18), .mv (.t 74), none⟩])
  (.seq (.reg [⟨(some 76), .mv (.t 11), none⟩,
    ⟨(some 77), .call f_store_Know [(.t 76), (.c (.i .i64 1)), (.c (.i .u8 4))], none⟩,
    ⟨(some 75), .mv (.t 77), none⟩,
    ⟨(some 78), .ext (.t 75) 0, none⟩,
    ⟨(some 79), .ext (.t 75) 1, none⟩,
    ⟨(some 19), .mv (.t 78), none⟩,
    ⟨(some 20), .mv (.t 79), none⟩])
  (.seq (.reg [⟨(some 81), .mv (.t 11), none⟩,
    ⟨(some 82), .call f_store_Know [(.t 81), (.c (.i .i64 (-1))), (.c (.i .u8 0))], none⟩,
    ⟨(some 80), .mv (.t 82), none⟩,
    ⟨(some 83), .ext (.t 80) 0, none⟩,
    ⟨(some 84), .ext (.t 80) 1, none⟩,
    ⟨(some 21), .mv (.t 83), none⟩,
    ⟨(some 22), .mv (.t 84), none⟩])
  (.seq (.reg [⟨(some 86), .mv (.t 11), none⟩,
    ⟨(some 87), .call f_store_Whole [(.t 86), (.c (.i .i64 1))], none⟩,
    ⟨(some 85), .mv (.t 87), none⟩,
    ⟨(some 88), .ext (.t 85) 0, none⟩,
    ⟨(some 89), .ext (.t 85) 1, none⟩,
    ⟨(some 23), .mv (.t 88), none⟩,
    ⟨(some 24), .mv (.t 89), none⟩])
  (.seq (.reg [⟨(some 91), .mv (.t 11), none⟩,
    ⟨(some 92), .call f_store_Whole [(.t 91), (.c (.i .i64 0))], none⟩,
    ⟨(some 90), .mv (.t 92), none⟩,
    ⟨(some 93), .ext (.t 90) 0, none⟩,
    ⟨(some 94), .ext (.t 90) 1, none⟩,
    ⟨(some 25), .mv (.t 93), none⟩,
    ⟨(some 26), .mv (.t 94), none⟩])
  (.seq (.reg [⟨(some 96), .mv (.t 25), none⟩,
    ⟨(some 97), .call f_store_Whole [(.t 96), (.c (.i .i64 0))], none⟩,
    ⟨(some 95), .mv (.t 97), none⟩,
    ⟨(some 98), .ext (.t 95) 0, none⟩,
    ⟨(some 99), .ext (.t 95) 1, none⟩,
    ⟨(some 27), .mv (.t 98), none⟩,
    ⟨(some 28), .mv (.t 99), none⟩])
  (.seq (.reg [⟨(some 101), .mv (.t 25), none⟩,
    ⟨(some 102), .call f_store_More [(.t 101), (.c (.i .i64 0))], none⟩,
    ⟨(some 100), .mv (.t 102), none⟩,
    ⟨(some 103), .ext (.t 100) 0, none⟩,
    ⟨(some 104), .ext (.t 100) 1, none⟩,
    ⟨(some 29), .mv (.t 103), none⟩,
    ⟨(some 30), .mv (.t 104), none⟩])
  (.seq (.reg [⟨(some 106), .mv (.t 25), none⟩,
    ⟨(some 107), .call f_store_Ask [(.t 106), (.c (.i .i64 0)), (.c (.s [98]))], none⟩,
    ⟨(some 105), .mv (.t 107), none⟩,
    ⟨(some 108), .ext (.t 105) 0, none⟩,
    ⟨(some 109), .ext (.t 105) 1, none⟩,
    ⟨(some 110), .ext (.t 105) 2, none⟩,
    ⟨(some 31), .mv (.t 108), none⟩,
    ⟨(some 32), .mv (.t 109), none⟩,
    ⟨(some 33), .mv (.t 110), none⟩])
  (.seq (.reg [⟨(some 112), .mv (.t 25), none⟩,
    ⟨(some 113), .call f_store_Ask [(.t 112), (.c (.i .i64 0)), (.c (.s [97]))], none⟩,
    ⟨(some 111), .mv (.t 113), none⟩,
    ⟨(some 114), .ext (.t 111) 0, none⟩,
    ⟨(some 115), .ext (.t 111) 1, none⟩,
    ⟨(some 116), .ext (.t 111) 2, none⟩,
    ⟨(some 34), .mv (.t 114), none⟩,
    ⟨(some 35), .mv (.t 115), none⟩,
    ⟨(some 36), .mv (.t 116), none⟩])
  (.seq (.reg [⟨(some 118), .mv (.t 11), none⟩,
    ⟨(some 119), .call f_store_More [(.t 118), (.c (.i .i64 1))], none⟩,
    ⟨(some 117), .mv (.t 119), none⟩,
    ⟨(some 120), .ext (.t 117) 0, none⟩,
    ⟨(some 121), .ext (.t 117) 1, none⟩,
    ⟨(some 37), .mv (.t 120), none⟩,
    ⟨(some 38), .mv (.t 121), none⟩])
  (.seq (.reg [⟨(some 122), .mv (.t 4), none⟩,
    ⟨(some 123), .bin .eql (.t 122) (.c (.i .i64 4)), none⟩,
    ⟨(some 124), .mv (.t 123), none⟩,
    ⟨(some 125), .mv (.t 7), (some (124, true))⟩,
    ⟨(some 126), .bin .eql (.t 125) (.c (.i .i64 1)), (some (124, true))⟩,
    ⟨(some 127), .pick (.t 124) (.t 126) (.c (.b false)), none⟩,
    ⟨(some 128), .mv (.t 127), none⟩,
    ⟨(some 129), .mv (.t 10), (some (128, true))⟩,
    ⟨(some 130), .bin .eql (.t 129) (.c (.i .i64 1)), (some (128, true))⟩,
    ⟨(some 131), .pick (.t 128) (.t 130) (.c (.b false)), none⟩,
    ⟨(some 132), .mv (.t 131), none⟩,
    ⟨(some 133), .mv (.t 12), (some (132, true))⟩,
    ⟨(some 134), .bin .eql (.t 133) (.c (.i .i64 1)), (some (132, true))⟩,
    ⟨(some 135), .pick (.t 132) (.t 134) (.c (.b false)), none⟩,
    ⟨(some 136), .mv (.t 135), none⟩,
    ⟨(some 137), .mv (.t 13), (some (136, true))⟩,
    ⟨(some 138), .bin .eql (.t 137) (.c (.i .i64 0)), (some (136, true))⟩,
    ⟨(some 139), .pick (.t 136) (.t 138) (.c (.b false)), none⟩,
    ⟨(some 140), .mv (.t 139), none⟩,
    ⟨(some 141), .mv (.t 16), (some (140, true))⟩,
    ⟨(some 142), .bin .eql (.t 141) (.c (.i .i64 1)), (some (140, true))⟩,
    ⟨(some 143), .pick (.t 140) (.t 142) (.c (.b false)), none⟩,
    ⟨(some 144), .mv (.t 143), none⟩,
    ⟨(some 145), .mv (.t 18), (some (144, true))⟩,
    ⟨(some 146), .bin .eql (.t 145) (.c (.i .i64 6)), (some (144, true))⟩,
    ⟨(some 147), .pick (.t 144) (.t 146) (.c (.b false)), none⟩,
    ⟨(some 148), .mv (.t 147), none⟩,
    ⟨(some 149), .mv (.t 20), (some (148, true))⟩,
    ⟨(some 150), .bin .eql (.t 149) (.c (.i .i64 1)), (some (148, true))⟩,
    ⟨(some 151), .pick (.t 148) (.t 150) (.c (.b false)), none⟩,
    ⟨(some 152), .mv (.t 151), none⟩,
    ⟨(some 153), .mv (.t 22), (some (152, true))⟩,
    ⟨(some 154), .bin .eql (.t 153) (.c (.i .i64 1)), (some (152, true))⟩,
    ⟨(some 155), .pick (.t 152) (.t 154) (.c (.b false)), none⟩,
    ⟨(some 156), .mv (.t 155), none⟩,
    ⟨(some 157), .mv (.t 24), (some (156, true))⟩,
    ⟨(some 158), .bin .eql (.t 157) (.c (.i .i64 1)), (some (156, true))⟩,
    ⟨(some 159), .pick (.t 156) (.t 158) (.c (.b false)), none⟩,
    ⟨(some 160), .mv (.t 159), none⟩,
    ⟨(some 161), .mv (.t 26), (some (160, true))⟩,
    ⟨(some 162), .bin .eql (.t 161) (.c (.i .i64 0)), (some (160, true))⟩,
    ⟨(some 163), .pick (.t 160) (.t 162) (.c (.b false)), none⟩,
    ⟨(some 164), .mv (.t 163), none⟩,
    ⟨(some 165), .mv (.t 28), (some (164, true))⟩,
    ⟨(some 166), .bin .eql (.t 165) (.c (.i .i64 6)), (some (164, true))⟩,
    ⟨(some 167), .pick (.t 164) (.t 166) (.c (.b false)), none⟩,
    ⟨(some 168), .mv (.t 167), none⟩,
    ⟨(some 169), .mv (.t 30), (some (168, true))⟩,
    ⟨(some 170), .bin .eql (.t 169) (.c (.i .i64 6)), (some (168, true))⟩,
    ⟨(some 171), .pick (.t 168) (.t 170) (.c (.b false)), none⟩,
    ⟨(some 172), .mv (.t 171), none⟩,
    ⟨(some 173), .mv (.t 32), (some (172, true))⟩,
    ⟨(some 174), .bin .eql (.t 173) (.c (.i .i64 (-1))), (some (172, true))⟩,
    ⟨(some 175), .pick (.t 172) (.t 174) (.c (.b false)), none⟩,
    ⟨(some 176), .mv (.t 175), none⟩,
    ⟨(some 177), .mv (.t 33), (some (176, true))⟩,
    ⟨(some 178), .bin .eql (.t 177) (.c (.i .i64 0)), (some (176, true))⟩,
    ⟨(some 179), .pick (.t 176) (.t 178) (.c (.b false)), none⟩,
    ⟨(some 180), .mv (.t 179), none⟩,
    ⟨(some 181), .mv (.t 35), (some (180, true))⟩,
    ⟨(some 182), .bin .eql (.t 181) (.c (.i .i64 1)), (some (180, true))⟩,
    ⟨(some 183), .pick (.t 180) (.t 182) (.c (.b false)), none⟩,
    ⟨(some 184), .mv (.t 183), none⟩,
    ⟨(some 185), .mv (.t 36), (some (184, true))⟩,
    ⟨(some 186), .bin .eql (.t 185) (.c (.i .i64 0)), (some (184, true))⟩,
    ⟨(some 187), .pick (.t 184) (.t 186) (.c (.b false)), none⟩,
    ⟨(some 188), .mv (.t 187), none⟩,
    ⟨(some 189), .mv (.t 38), (some (188, true))⟩,
    ⟨(some 190), .bin .eql (.t 189) (.c (.i .i64 1)), (some (188, true))⟩,
    ⟨(some 191), .pick (.t 188) (.t 190) (.c (.b false)), none⟩,
    ⟨(some 192), .mv (.t 191), none⟩,
    ⟨(some 193), .call f_touchstonelaw22_awake [], (some (192, true))⟩,
    ⟨(some 194), .pick (.t 192) (.t 193) (.c (.b false)), none⟩,
    ⟨(some 0), .mv (.t 194), none⟩])
  .ret)))))))))))))))))) }
def c_fork_Ways : Fun := { cin := [(.sl 6 (.agg [.id, .id, (.sl 1 .id), (.sl 1 .id), .id, .id])), (.agg [.id, .id]), .id], cout := [(.sl 1 (.sl 6 (.agg [.id, .id, (.sl 1 .id), (.sl 1 .id), .id, .id]))), .id], ntmps := 39, keep := false, res := [(6, none), (7, none)], body :=
  (.seq (.reg [⟨(some 4), .box 32 2 (.t 1), none⟩,
    ⟨(some 6), .mv (.c .nsl), none⟩,
    ⟨(some 7), .mv (.c (.i .i64 0)), none⟩])
  (.seq (.reg [⟨(some 8), .mv (.c .nsl), none⟩])
  (.seq (.seq (.reg [⟨(some 13), .ld true 2 (.t 4), none⟩,
    ⟨(some 14), .mv (.t 2), none⟩,
    ⟨(some 15), .call f_fork_Split_calls [(.t 13), (.t 14)], none⟩,
    ⟨(some 16), .len 1 (.t 15), none⟩,
    ⟨(some 17), .mv (.c (.i .i64 0)), none⟩])
  (.blk 0 (.loop (.seq (.reg [⟨(some 18), .bin .lss (.t 17) (.t 16), none⟩])
    (.seq (.cond (.t 18)
     .skip
     (.exit 0))
    (.seq (.blk 1 (.seq (.reg [⟨(some 19), .ia 1 (.t 15) (.t 17), none⟩,
       ⟨(some 20), .ld false 1 (.t 19), none⟩,
       ⟨(some 10), .mv (.t 20), none⟩])
     (.seq (.reg [⟨(some 22), .mv (.t 10), none⟩,
       ⟨(some 23), .mv (.t 0), none⟩,
       ⟨(some 24), .callX (.t 22) [(.t 23)], none⟩,
       ⟨(some 21), .mv (.t 24), none⟩,
       ⟨(some 25), .ext (.t 21) 0, none⟩,
       ⟨(some 26), .ext (.t 21) 1, none⟩,
       ⟨(some 11), .mv (.t 25), none⟩,
       ⟨(some 12), .mv (.t 26), none⟩])
     (.seq (.reg [⟨(some 27), .mv (.t 12), none⟩])
     (.blk 2 (.seq (.reg [⟨(some 30), .bin .eql (.t 27) (.c (.i .i64 0)), none⟩,
        ⟨(some 29), .mv (.t 30), none⟩])
      (.cond (.t 29)
       (.reg [⟨(some 31), .mv (.t 8), none⟩,
         ⟨(some 32), .mv (.t 11), none⟩,
         ⟨(some 33), .bsl 1 [(.t 32)], none⟩,
         ⟨(some 34), .app 1 26 (.t 31) (.t 33), none⟩,
         ⟨(some 8), .mv (.t 34), none⟩])
       (.seq (.reg [⟨(some 36), .bin .eql (.t 27) (.c (.i .i64 67)), none⟩,
         ⟨(some 35), .mv (.t 36), none⟩])
       (.cond (.t 35)
        .skip
        (.seq (.reg [⟨(some 28), .mv (.t 12), none⟩,
          ⟨(some 6), .mv (.c .nsl), none⟩,
          ⟨(some 7), .mv (.t 28), none⟩])
        .ret))))))))))
    (.reg [⟨(some 37), .bin .add (.t 17) (.c (.i .i64 1)), none⟩,
      ⟨(some 17), .mv (.t 37), none⟩])))))))
  (.seq (.reg [⟨(some 38), .mv (.t 8), none⟩,
    ⟨(some 6), .mv (.t 38), none⟩,
    ⟨(some 7), .mv (.c (.i .i64 0)), none⟩])
  .ret)))) }
def c_fork_Follow : Fun := { cin := [(.sl 6 (.agg [.id, .id, (.sl 1 .id), (.sl 1 .id), .id, .id])), (.sl 2 (.agg [.id, .id])), (.sl 1 .id), .id], cout := [(.sl 6 (.agg [.id, .id, (.sl 1 .id), (.sl 1 .id), .id, .id])), .id], ntmps := 70, keep := false, res := [(8, none), (9, none)], body :=
  (.seq (.reg [⟨(some 8), .mv (.c .nsl), none⟩,
    ⟨(some 9), .mv (.c (.i .i64 0)), none⟩])
  (.seq (.reg [⟨(some 15), .mv (.t 0), none⟩,
    ⟨(some 16), .call f_slices_Clone_api_Fact_api_Fact [(.t 15)], none⟩,
    ⟨(some 10), .mv (.t 16), none⟩])
  (.seq (.seq (.reg [⟨(some 17), .mv (.t 1), none⟩,
    ⟨(some 18), .len 1 (.t 17), none⟩,
    ⟨(some 19), .mv (.c (.i .i64 0)), none⟩])
  (.blk 0 (.loop (.seq (.reg [⟨(some 20), .bin .lss (.t 19) (.t 18), none⟩])
    (.seq (.cond (.t 20)
     .skip
     (.exit 0))
    (.seq (.blk 1 (.seq (.reg [⟨(some 21), .mv (.t 19), none⟩,
       ⟨(some 22), .ia 2 (.t 17) (.t 19), none⟩,
       ⟨(some 23), .ld true 2 (.t 22), none⟩,
       ⟨(some 12), .alloc 32 [(.i .i64 0), (.b false)], none⟩,
       ⟨(some 11), .mv (.t 21), none⟩,
       ⟨none, .st 2 (.t 12) (.t 23), none⟩])
     (.seq (.reg [⟨(some 25), .mv (.t 10), none⟩,
       ⟨(some 26), .ld true 2 (.t 12), none⟩,
       ⟨(some 27), .mv (.t 3), none⟩,
       ⟨(some 28), .call f_fork_Ways [(.t 25), (.t 26), (.t 27)], none⟩,
       ⟨(some 24), .mv (.t 28), none⟩,
       ⟨(some 29), .ext (.t 24) 0, none⟩,
       ⟨(some 30), .ext (.t 24) 1, none⟩,
       ⟨(some 13), .mv (.t 29), none⟩,
       ⟨(some 14), .mv (.t 30), none⟩])
     (.seq (.blk 2 (.seq (.reg [⟨(some 32), .mv (.t 14), none⟩,
        ⟨(some 33), .bin .neq (.t 32) (.c (.i .i64 0)), none⟩,
        ⟨(some 31), .mv (.t 33), none⟩])
      (.cond (.t 31)
       (.seq (.reg [⟨(some 34), .mv (.t 14), none⟩,
         ⟨(some 8), .mv (.c .nsl), none⟩,
         ⟨(some 9), .mv (.t 34), none⟩])
       .ret)
       (.seq (.reg [⟨(some 36), .mv (.t 11), none⟩,
         ⟨(some 37), .mv (.t 2), none⟩,
         ⟨(some 38), .len 1 (.t 37), none⟩,
         ⟨(some 39), .bin .geq (.t 36) (.t 38), none⟩,
         ⟨(some 40), .mv (.t 39), none⟩,
         ⟨(some 41), .mv (.t 2), (some (40, false))⟩,
         ⟨(some 42), .mv (.t 11), (some (40, false))⟩,
         ⟨(some 43), .ia 1 (.t 41) (.t 42), (some (40, false))⟩,
         ⟨(some 44), .ld false 1 (.t 43), (some (40, false))⟩,
         ⟨(some 45), .bin .lss (.t 44) (.c (.i .i64 0)), (some (40, false))⟩,
         ⟨(some 46), .pick (.t 40) (.c (.b true)) (.t 45), none⟩,
         ⟨(some 47), .mv (.t 46), none⟩,
         ⟨(some 48), .mv (.t 2), (some (47, false))⟩,
         ⟨(some 49), .mv (.t 11), (some (47, false))⟩,
         ⟨(some 50), .ia 1 (.t 48) (.t 49), (some (47, false))⟩,
         ⟨(some 51), .ld false 1 (.t 50), (some (47, false))⟩,
         ⟨(some 52), .mv (.t 13), (some (47, false))⟩,
         ⟨(some 53), .len 1 (.t 52), (some (47, false))⟩,
         ⟨(some 54), .bin .geq (.t 51) (.t 53), (some (47, false))⟩,
         ⟨(some 55), .pick (.t 47) (.c (.b true)) (.t 54), none⟩,
         ⟨(some 35), .mv (.t 55), none⟩])
       (.cond (.t 35)
        (.seq (.reg [⟨(some 8), .mv (.c .nsl), none⟩,
          ⟨(some 9), .mv (.c (.i .i64 1)), none⟩])
        .ret)
        .skip)))))
     (.reg [⟨(some 56), .mv (.t 13), none⟩,
       ⟨(some 57), .mv (.t 2), none⟩,
       ⟨(some 58), .mv (.t 11), none⟩,
       ⟨(some 59), .ia 1 (.t 57) (.t 58), none⟩,
       ⟨(some 60), .ld false 1 (.t 59), none⟩,
       ⟨(some 61), .ia 1 (.t 56) (.t 60), none⟩,
       ⟨(some 62), .ld false 1 (.t 61), none⟩,
       ⟨(some 10), .mv (.t 62), none⟩])))))
    (.reg [⟨(some 63), .bin .add (.t 19) (.c (.i .i64 1)), none⟩,
      ⟨(some 19), .mv (.t 63), none⟩])))))))
  (.seq (.seq (.reg [⟨(some 64), .mv (.t 2), none⟩,
    ⟨(some 65), .len 1 (.t 64), none⟩,
    ⟨(some 66), .mv (.t 1), none⟩,
    ⟨(some 67), .len 1 (.t 66), none⟩,
    ⟨(some 68), .bin .gtr (.t 65) (.t 67), none⟩])
  (.cond (.t 68)
   (.seq (.reg [⟨(some 8), .mv (.c .nsl), none⟩,
     ⟨(some 9), .mv (.c (.i .i64 1)), none⟩])
   .ret)
   .skip))
  (.seq (.reg [⟨(some 69), .mv (.t 10), none⟩,
    ⟨(some 8), .mv (.t 69), none⟩,
    ⟨(some 9), .mv (.c (.i .i64 0)), none⟩])
  .ret))))) }
def c_touchstonelaw24_awake : Fun := { cin := [], cout := [.id], ntmps := 109, keep := false, res := [(0, none)], body :=
  (.seq (.reg [⟨(some 0), .mv (.c (.b false)), none⟩])
  (.seq (.reg [⟨(some 8), .bsl 1 [(.c (.s [97]))], none⟩,
    ⟨(some 9), .bsl 1 [(.c (.i .i64 1))], none⟩,
    ⟨(some 10), .build [(.b false), (.i .u8 0), .nsl, .nsl, (.i .i64 0), (.i .i64 0)] [(0, 1, (.c (.b true))), (1, 1, (.c (.i .u8 2))), (2, 1, (.t 8)), (3, 1, (.t 9))], none⟩,
    ⟨(some 11), .build [(.b false), (.i .u8 0), .nsl, .nsl, (.i .i64 0), (.i .i64 0)] [], none⟩,
    ⟨(some 12), .bsl 6 [(.t 10), (.t 11)], none⟩,
    ⟨(some 1), .mv (.t 12), none⟩])
  (.seq (.reg [⟨(some 14), .mv (.t 1), none⟩,
    ⟨(some 15), .build [(.i .i64 0), (.b false)] [(0, 1, (.c (.i .i64 1)))], none⟩,
    ⟨(some 16), .call f_fork_Ways [(.t 14), (.t 15), (.c (.b false))], none⟩,
    ⟨(some 13), .mv (.t 16), none⟩,
    ⟨(some 17), .ext (.t 13) 0, none⟩,
    ⟨(some 18), .ext (.t 13) 1, none⟩,
    ⟨(some 2), .mv (.t 17), none⟩,
    ⟨(some 3), .mv (.t 18), none⟩])
  (.seq (.reg [⟨(some 20), .mv (.t 1), none⟩,
    ⟨(some 21), .build [(.i .i64 0), (.b false)] [(0, 1, (.c (.i .i64 0))), (1, 1, (.c (.b true)))], none⟩,
    ⟨(some 22), .call f_fork_Ways [(.t 20), (.t 21), (.c (.b false))], none⟩,
    ⟨(some 19), .mv (.t 22), none⟩,
    ⟨(some 23), .ext (.t 19) 0, none⟩,
    ⟨(some 24), .ext (.t 19) 1, none⟩,
    ⟨(some 4), .mv (.t 23), none⟩,
    ⟨(some 5), .mv (.t 24), none⟩])
  (.seq (.reg [⟨(some 26), .mv (.t 1), none⟩,
    ⟨(some 27), .build [(.i .i64 0), (.b false)] [(0, 1, (.c (.i .i64 1)))], none⟩,
    ⟨(some 28), .build [(.i .i64 0), (.b false)] [(0, 1, (.c (.i .i64 0))), (1, 1, (.c (.b true)))], none⟩,
    ⟨(some 29), .bsl 2 [(.t 27), (.t 28)], none⟩,
    ⟨(some 30), .bsl 1 [(.c (.i .i64 2)), (.c (.i .i64 0))], none⟩,
    ⟨(some 31), .call f_fork_Follow [(.t 26), (.t 29), (.t 30), (.c (.b false))], none⟩,
    ⟨(some 25), .mv (.t 31), none⟩,
    ⟨(some 32), .ext (.t 25) 0, none⟩,
    ⟨(some 33), .ext (.t 25) 1, none⟩,
    ⟨(some 6), .mv (.t 32), none⟩,
    ⟨(some 7), .mv (.t 33), none⟩])
  (.seq (.seq (.thw 6)
  (.reg [⟨(some 34), .mv (.t 3), none⟩,
    ⟨(some 35), .bin .eql (.t 34) (.c (.i .i64 0)), none⟩,
    ⟨(some 36), .mv (.t 35), none⟩,
    ⟨(some 37), .mv (.t 2), (some (36, true))⟩,
    ⟨(some 38), .len 1 (.t 37), (some (36, true))⟩,
    ⟨(some 39), .bin .eql (.t 38) (.c (.i .i64 3)), (some (36, true))⟩,
    ⟨(some 40), .pick (.t 36) (.t 39) (.c (.b false)), none⟩,
    ⟨(some 41), .mv (.t 40), none⟩,
    ⟨(some 42), .mv (.t 2), (some (41, true))⟩,
    ⟨(some 43), .ia 1 (.t 42) (.c (.i .i64 1)), (some (41, true))⟩,
    ⟨(some 44), .ld false 1 (.t 43), (some (41, true))⟩,
    ⟨(some 45), .ia 6 (.t 44) (.c (.i .i64 1)), (some (41, true))⟩,
    ⟨(some 46), .fa 1 (.t 45), (some (41, true))⟩,
    ⟨(some 47), .ld false 1 (.t 46), (some (41, true))⟩,
    ⟨(some 48), .bin .eql (.t 47) (.c (.i .u8 1)), (some (41, true))⟩,
    ⟨(some 49), .pick (.t 41) (.t 48) (.c (.b false)), none⟩,
    ⟨(some 50), .mv (.t 49), none⟩,
    ⟨(some 51), .mv (.t 5), (some (50, true))⟩,
    ⟨(some 52), .bin .eql (.t 51) (.c (.i .i64 0)), (some (50, true))⟩,
    ⟨(some 53), .pick (.t 50) (.t 52) (.c (.b false)), none⟩,
    ⟨(some 54), .mv (.t 53), none⟩,
    ⟨(some 55), .mv (.t 4), (some (54, true))⟩,
    ⟨(some 56), .len 1 (.t 55), (some (54, true))⟩,
    ⟨(some 57), .bin .eql (.t 56) (.c (.i .i64 2)), (some (54, true))⟩,
    ⟨(some 58), .pick (.t 54) (.t 57) (.c (.b false)), none⟩,
    ⟨(some 59), .mv (.t 58), none⟩,
    ⟨(some 60), .mv (.t 4), (some (59, true))⟩,
    ⟨(some 61), .ia 1 (.t 60) (.c (.i .i64 0)), (some (59, true))⟩,
    ⟨(some 62), .ld false 1 (.t 61), (some (59, true))⟩,
    ⟨(some 63), .ia 6 (.t 62) (.c (.i .i64 0)), (some (59, true))⟩,
    ⟨(some 64), .fa 4 (.t 63), (some (59, true))⟩,
    ⟨(some 65), .ld false 1 (.t 64), (some (59, true))⟩,
    ⟨(some 66), .bin .eql (.t 65) (.c (.i .i64 1)), (some (59, true))⟩,
    ⟨(some 67), .pick (.t 59) (.t 66) (.c (.b false)), none⟩,
    ⟨(some 68), .mv (.t 67), none⟩,
    ⟨(some 69), .mv (.t 4), (some (68, true))⟩,
    ⟨(some 70), .ia 1 (.t 69) (.c (.i .i64 1)), (some (68, true))⟩,
    ⟨(some 71), .ld false 1 (.t 70), (some (68, true))⟩,
    ⟨(some 72), .ia 6 (.t 71) (.c (.i .i64 0)), (some (68, true))⟩,
    ⟨(some 73), .fa 4 (.t 72), (some (68, true))⟩,
    ⟨(some 74), .ld false 1 (.t 73), (some (68, true))⟩,
    ⟨(some 75), .bin .eql (.t 74) (.c (.i .i64 2)), (some (68, true))⟩,
    ⟨(some 76), .pick (.t 68) (.t 75) (.c (.b false)), none⟩,
    ⟨(some 77), .mv (.t 76), none⟩,
    ⟨(some 78), .mv (.t 4), (some (77, true))⟩,
    ⟨(some 79), .ia 1 (.t 78) (.c (.i .i64 1)), (some (77, true))⟩,
    ⟨(some 80), .ld false 1 (.t 79), (some (77, true))⟩,
    ⟨(some 81), .ia 6 (.t 80) (.c (.i .i64 0)), (some (77, true))⟩,
    ⟨(some 82), .fa 5 (.t 81), (some (77, true))⟩,
    ⟨(some 83), .ld false 1 (.t 82), (some (77, true))⟩,
    ⟨(some 84), .bin .eql (.t 83) (.c (.i .i64 1)), (some (77, true))⟩,
    ⟨(some 85), .pick (.t 77) (.t 84) (.c (.b false)), none⟩,
    ⟨(some 86), .mv (.t 85), none⟩,
    ⟨(some 87), .mv (.t 7), (some (86, true))⟩,
    ⟨(some 88), .bin .eql (.t 87) (.c (.i .i64 0)), (some (86, true))⟩,
    ⟨(some 89), .pick (.t 86) (.t 88) (.c (.b false)), none⟩,
    ⟨(some 90), .mv (.t 89), none⟩,
    ⟨(some 91), .mv (.t 6), (some (90, true))⟩,
    ⟨(some 92), .len 1 (.t 91), (some (90, true))⟩,
    ⟨(some 93), .bin .eql (.t 92) (.c (.i .i64 2)), (some (90, true))⟩,
    ⟨(some 94), .pick (.t 90) (.t 93) (.c (.b false)), none⟩,
    ⟨(some 95), .mv (.t 94), none⟩,
    ⟨(some 96), .mv (.t 6), (some (95, true))⟩,
    ⟨(some 97), .ia 6 (.t 96) (.c (.i .i64 1)), (some (95, true))⟩,
    ⟨(some 98), .fa 1 (.t 97), (some (95, true))⟩,
    ⟨(some 99), .ld false 1 (.t 98), (some (95, true))⟩,
    ⟨(some 100), .bin .eql (.t 99) (.c (.i .u8 2)), (some (95, true))⟩,
    ⟨(some 101), .pick (.t 95) (.t 100) (.c (.b false)), none⟩,
    ⟨(some 102), .mv (.t 101), none⟩,
    ⟨(some 103), .mv (.t 6), (some (102, true))⟩,
    ⟨(some 104), .ia 6 (.t 103) (.c (.i .i64 0)), (some (102, true))⟩,
    ⟨(some 105), .fa 4 (.t 104), (some (102, true))⟩,
    ⟨(some 106), .ld false 1 (.t 105), (some (102, true))⟩,
    ⟨(some 107), .bin .eql (.t 106) (.c (.i .i64 1)), (some (102, true))⟩,
    ⟨(some 108), .pick (.t 102) (.t 107) (.c (.b false)), none⟩,
    ⟨(some 0), .mv (.t 108), none⟩]))
  .ret)))))) }
def c_store_Ask : Fun := { cin := [(.sl 6 (.agg [.id, .id, (.sl 1 .id), (.sl 1 .id), .id, .id])), .id, .id], cout := [(.sl 6 (.agg [.id, .id, (.sl 1 .id), (.sl 1 .id), .id, .id])), .id, .id], ntmps := 38, keep := false, res := [(6, none), (7, none), (8, none)], body :=
  (.seq (.reg [⟨(some 3), .box 26 1 (.t 0), none⟩,
    ⟨(some 5), .box 9 1 (.t 2), none⟩,
    ⟨(some 6), .mv (.c .nsl), none⟩,
    ⟨(some 7), .mv (.c (.i .i64 0)), none⟩,
    ⟨(some 8), .mv (.c (.i .i64 0)), none⟩])
  (.seq (.reg [⟨(some 9), .alloc 3 [(.i .i64 0)], none⟩,
    ⟨none, .st 1 (.t 9) (.c (.i .i64 (-1))), none⟩])
  (.seq (.reg [⟨(some 13), .ld false 1 (.t 3), none⟩,
    ⟨(some 14), .mv (.t 1), none⟩,
    ⟨(some 15), .mkf f_store_Ask_1 [(.t 5)], none⟩,
    ⟨(some 16), .mkf f_store_Ask_2 [(.t 5), (.t 9), (.t 3)], none⟩,
    ⟨(some 17), .call f_store_change [(.t 13), (.t 14), (.t 15), (.t 16)], none⟩,
    ⟨(some 12), .mv (.t 17), none⟩,
    ⟨(some 18), .ext (.t 12) 0, none⟩,
    ⟨(some 19), .ext (.t 12) 1, none⟩,
    ⟨(some 10), .mv (.t 18), none⟩,
    ⟨(some 11), .mv (.t 19), none⟩])
  (.seq (.seq (.reg [⟨(some 20), .mv (.t 11), none⟩,
    ⟨(some 21), .bin .neq (.t 20) (.c (.i .i64 0)), none⟩])
  (.cond (.t 21)
   (.seq (.reg [⟨(some 22), .mv (.t 11), none⟩,
     ⟨(some 6), .mv (.c .nsl), none⟩,
     ⟨(some 7), .mv (.c (.i .i64 0)), none⟩,
     ⟨(some 8), .mv (.t 22), none⟩])
   .ret)
   .skip))
  (.seq (.seq (.reg [⟨(some 23), .ld false 1 (.t 9), none⟩,
    ⟨(some 24), .ld false 1 (.t 3), none⟩,
    ⟨(some 25), .len 1 (.t 24), none⟩,
    ⟨(some 26), .bin .eql (.t 23) (.t 25), none⟩])
  (.cond (.t 26)
   (.reg [⟨(some 27), .mv (.t 10), none⟩,
     ⟨(some 28), .mv (.t 10), none⟩,
     ⟨(some 29), .len 1 (.t 28), none⟩,
     ⟨(some 30), .mv (.t 10), none⟩,
     ⟨(some 31), .len 1 (.t 30), none⟩,
     ⟨(some 32), .slc false 6 (.t 27) none (some (.t 29)) (some (.t 31)), none⟩,
     ⟨(some 33), .build [(.b false), (.i .u8 0), .nsl, .nsl, (.i .i64 0), (.i .i64 0)] [], none⟩,
     ⟨(some 34), .bsl 6 [(.t 33)], none⟩,
     ⟨(some 35), .app 6 25 (.t 32) (.t 34), none⟩,
     ⟨(some 10), .mv (.t 35), none⟩])
   .skip))
  (.seq (.regD [⟨(some 36), .mv (.t 10), none⟩,
    ⟨(some 37), .ld false 1 (.t 9), none⟩,
    ⟨(some 6), .mv (.t 36), none⟩,
    ⟨(some 7), .mv (.t 37), none⟩,
    ⟨(some 8), .mv (.c (.i .i64 0)), none⟩] [])
  .ret)))))) }
def c_store_Know : Fun := { cin := [(.sl 6 (.agg [.id, .id, (.sl 1 .id), (.sl 1 .id), .id, .id])), .id, .id], cout := [(.sl 6 (.agg [.id, .id, (.sl 1 .id), (.sl 1 .id), .id, .id])), .id], ntmps := 15, keep := false, res := [(6, none), (7, none)], body :=
  (.seq (.reg [⟨(some 5), .box 5 1 (.t 2), none⟩,
    ⟨(some 6), .mv (.c .nsl), none⟩,
    ⟨(some 7), .mv (.c (.i .i64 0)), none⟩])
  (.seq (.reg [⟨(some 8), .mv (.t 0), none⟩,
    ⟨(some 9), .mv (.t 1), none⟩,
    ⟨(some 10), .mkf f_store_Know_1 [(.t 5)], none⟩,
    ⟨(some 11), .mkf f_store_Know_2 [(.t 5)], none⟩,
    ⟨(some 12), .call f_store_change [(.t 8), (.t 9), (.t 10), (.t 11)], none⟩,
    ⟨(some 13), .ext (.t 12) 0, none⟩,
    ⟨(some 14), .ext (.t 12) 1, none⟩,
    ⟨(some 6), .mv (.t 13), none⟩,
    ⟨(some 7), .mv (.t 14), none⟩])
  .ret)) }
def c_store_Whole : Fun := { cin := [(.sl 6 (.agg [.id, .id, (.sl 1 .id), (.sl 1 .id), .id, .id])), .id], cout := [(.sl 6 (.agg [.id, .id, (.sl 1 .id), (.sl 1 .id), .id, .id])), .id], ntmps := 12, keep := false, res := [(4, none), (5, none)], body :=
  (.seq (.reg [⟨(some 2), .box 26 1 (.t 0), none⟩,
    ⟨(some 4), .mv (.c .nsl), none⟩,
    ⟨(some 5), .mv (.c (.i .i64 0)), none⟩])
  (.seq (.reg [⟨(some 6), .ld false 1 (.t 2), none⟩,
    ⟨(some 7), .mv (.t 1), none⟩,
    ⟨(some 8), .mkf f_store_Whole_1 [(.t 2)], none⟩,
    ⟨(some 9), .call f_store_change [(.t 6), (.t 7), (.t 8), (.c (.fn f_store_Whole_2 []))], none⟩,
    ⟨(some 10), .ext (.t 9) 0, none⟩,
    ⟨(some 11), .ext (.t 9) 1, none⟩,
    ⟨(some 4), .mv (.t 10), none⟩,
    ⟨(some 5), .mv (.t 11), none⟩])
  .ret)) }
def c_store_More : Fun := { cin := [(.sl 6 (.agg [.id, .id, (.sl 1 .id), (.sl 1 .id), .id, .id])), .id], cout := [(.sl 6 (.agg [.id, .id, (.sl 1 .id), (.sl 1 .id), .id, .id])), .id], ntmps := 11, keep := false, res := [(4, none), (5, none)], body :=
  (.seq (.reg [⟨(some 4), .mv (.c .nsl), none⟩,
    ⟨(some 5), .mv (.c (.i .i64 0)), none⟩])
  (.seq (.reg [⟨(some 6), .mv (.t 0), none⟩,
    ⟨(some 7), .mv (.t 1), none⟩,
    ⟨(some 8), .call f_store_change [(.t 6), (.t 7), (.c (.fn f_store_More_1 [])), (.c (.fn f_store_More_2 []))], none⟩,
    ⟨(some 9), .ext (.t 8) 0, none⟩,
    ⟨(some 10), .ext (.t 8) 1, none⟩,
    ⟨(some 4), .mv (.t 9), none⟩,
    ⟨(some 5), .mv (.t 10), none⟩])
  .ret)) }
def c_touchstonelaw22_awake : Fun := { cin := [], cout := [.id], ntmps := 93, keep := false, res := [(0, none)], body :=
  (.seq (.reg [⟨(some 0), .mv (.c (.b false)), none⟩])
  (.seq (.reg [⟨(some 15), .call f_pat_Root [], none⟩,
    ⟨(some 16), .call f_store_Ask [(.t 15), (.c (.i .i64 0)), (.c (.s [97]))], none⟩,
    ⟨(some 14), .mv (.t 16), none⟩,
    ⟨(some 17), .ext (.t 14) 0, none⟩,
    ⟨(some 18), .ext (.t 14) 1, none⟩,
    ⟨(some 19), .ext (.t 14) 2, none⟩,
    ⟨(some 1), .mv (.t 17), none⟩,
    ⟨(some 2), .mv (.t 18), none⟩,
    ⟨(some 3), .mv (.t 19), none⟩])
  (.seq (.reg [⟨(some 21), .mv (.t 1), none⟩,
    ⟨(some 22), .mv (.t 2), none⟩,
    ⟨(some 23), .call f_store_Know [(.t 21), (.t 22), (.c (.i .u8 1))], none⟩,
    ⟨(some 20), .mv (.t 23), none⟩,
    ⟨(some 24), .ext (.t 20) 0, none⟩,
    ⟨(some 25), .ext (.t 20) 1, none⟩,
    ⟨(some 1), .mv (.t 24), none⟩,
    ⟨(some 4), .mv (.t 25), none⟩])
  (.seq (.reg [⟨(some 27), .mv (.t 1), none⟩,
    ⟨(some 28), .call f_store_More [(.t 27), (.c (.i .i64 0))], none⟩,
    ⟨(some 26), .mv (.t 28), none⟩,
    ⟨(some 29), .ext (.t 26) 0, none⟩,
    ⟨(some 30), .ext (.t 26) 1, none⟩,
    ⟨(some 1), .mv (.t 29), none⟩,
    ⟨(some 5), .mv (.t 30), none⟩])
  (.seq (.seq (.reg [⟨(some 31), .mv (.t 1), none⟩,
    ⟨(some 32), .len 1 (.t 31), none⟩,
    ⟨(some 33), .bin .neq (.t 32) (.c (.i .i64 2)), none⟩])
  (.cond (.t 33)
   (.seq (.reg [⟨(some 0), .mv (.c (.b false)), none⟩])
   .ret)
   .skip))
  (.seq (.seq (.thw 1)
  (.regD [⟨(some 34), .mv (.t 1), none⟩,
    ⟨(some 35), .ia 6 (.t 34) (.c (.i .i64 0)), none⟩,
    ⟨(some 36), .fa 4 (.t 35), none⟩,
    ⟨(some 37), .ld false 1 (.t 36), none⟩,
    ⟨(some 38), .mv (.t 1), none⟩,
    ⟨(some 39), .ia 6 (.t 38) (.c (.i .i64 0)), none⟩,
    ⟨(some 40), .fa 5 (.t 39), none⟩,
    ⟨(some 41), .ld false 1 (.t 40), none⟩,
    ⟨(some 6), .mv (.t 37), none⟩,
    ⟨(some 7), .mv (.t 41), none⟩] []))
  (.seq (.reg [⟨(some 43), .mv (.t 1), none⟩,
    ⟨(some 44), .call f_store_Ask [(.t 43), (.c (.i .i64 0)), (.c (.s [98]))], none⟩,
    ⟨(some 42), .mv (.t 44), none⟩,
    ⟨(some 45), .ext (.t 42) 0, none⟩,
    ⟨(some 46), .ext (.t 42) 1, none⟩,
    ⟨(some 47), .ext (.t 42) 2, none⟩,
    ⟨(some 8), .mv (.t 45), none⟩,
    ⟨(some 9), .mv (.t 46), none⟩,
    ⟨(some 10), .mv (.t 47), none⟩])
  (.seq (.reg [⟨(some 49), .mv (.t 8), none⟩,
    ⟨(some 50), .mv (.t 9), none⟩,
    ⟨(some 51), .call f_store_Know [(.t 49), (.t 50), (.c (.i .u8 0))], none⟩,
    ⟨(some 48), .mv (.t 51), none⟩,
    ⟨(some 52), .ext (.t 48) 0, none⟩,
    ⟨(some 53), .ext (.t 48) 1, none⟩,
    ⟨(some 8), .mv (.t 52), none⟩,
    ⟨(some 11), .mv (.t 53), none⟩])
  (.seq (.reg [⟨(some 55), .mv (.t 8), none⟩,
    ⟨(some 56), .call f_store_Whole [(.t 55), (.c (.i .i64 0))], none⟩,
    ⟨(some 54), .mv (.t 56), none⟩,
    ⟨(some 57), .ext (.t 54) 0, none⟩,
    ⟨(some 58), .ext (.t 54) 1, none⟩,
    ⟨(some 12), .mv (.t 57), none⟩,
    ⟨(some 13), .mv (.t 58), none⟩])
  (.seq (.reg [⟨(some 59), .mv (.t 3), none⟩,
    ⟨(some 60), .bin .eql (.t 59) (.c (.i .i64 0)), none⟩,
    ⟨(some 61), .mv (.t 60), none⟩,
    ⟨(some 62), .mv (.t 4), (some (61, true))⟩,
    ⟨(some 63), .bin .eql (.t 62) (.c (.i .i64 0)), (some (61, true))⟩,
    ⟨(some 64), .pick (.t 61) (.t 63) (.c (.b false)), none⟩,
    ⟨(some 65), .mv (.t 64), none⟩,
    ⟨(some 66), .mv (.t 5), (some (65, true))⟩,
    ⟨(some 67), .bin .eql (.t 66) (.c (.i .i64 0)), (some (65, true))⟩,
    ⟨(some 68), .pick (.t 65) (.t 67) (.c (.b false)), none⟩,
    ⟨(some 69), .mv (.t 68), none⟩,
    ⟨(some 70), .mv (.t 6), (some (69, true))⟩,
    ⟨(some 71), .bin .eql (.t 70) (.c (.i .i64 2)), (some (69, true))⟩,
    ⟨(some 72), .pick (.t 69) (.t 71) (.c (.b false)), none⟩,
    ⟨(some 73), .mv (.t 72), none⟩,
    ⟨(some 74), .mv (.t 7), (some (73, true))⟩,
    ⟨(some 75), .bin .eql (.t 74) (.c (.i .i64 1)), (some (73, true))⟩,
    ⟨(some 76), .pick (.t 73) (.t 75) (.c (.b false)), none⟩,
    ⟨(some 77), .mv (.t 76), none⟩,
    ⟨(some 78), .mv (.t 10), (some (77, true))⟩,
    ⟨(some 79), .bin .eql (.t 78) (.c (.i .i64 0)), (some (77, true))⟩,
    ⟨(some 80), .pick (.t 77) (.t 79) (.c (.b false)), none⟩,
    ⟨(some 81), .mv (.t 80), none⟩,
    ⟨(some 82), .mv (.t 9), (some (81, true))⟩,
    ⟨(some 83), .bin .eql (.t 82) (.c (.i .i64 2)), (some (81, true))⟩,
    ⟨(some 84), .pick (.t 81) (.t 83) (.c (.b false)), none⟩,
    ⟨(some 85), .mv (.t 84), none⟩,
    ⟨(some 86), .mv (.t 11), (some (85, true))⟩,
    ⟨(some 87), .bin .eql (.t 86) (.c (.i .i64 0)), (some (85, true))⟩,
    ⟨(some 88), .pick (.t 85) (.t 87) (.c (.b false)), none⟩,
    ⟨(some 89), .mv (.t 88), none⟩,
    ⟨(some 90), .mv (.t 13), (some (89, true))⟩,
    ⟨(some 91), .bin .eql (.t 90) (.c (.i .i64 67)), (some (89, true))⟩,
    ⟨(some 92), .pick (.t 89) (.t 91) (.c (.b false)), none⟩,
    ⟨(some 0), .mv (.t 92), none⟩])
  .ret)))))))))) }
def c_fork_Split_calls : Fun := { cin := [(.agg [.id, .id]), .id], cout := [(.sl 1 .id)], ntmps := 20, keep := false, res := [(4, none)], body :=
  (.seq (.reg [⟨(some 2), .box 32 2 (.t 0), none⟩,
    ⟨(some 4), .mv (.c .nsl), none⟩])
  (.seq (.seq (.reg [⟨(some 7), .fa 1 (.t 2), none⟩,
    ⟨(some 8), .ld false 1 (.t 7), none⟩])
  (.cond (.t 8)
   (.seq (.reg [⟨(some 9), .mkf f_fork_Split_calls_1 [(.t 2)], none⟩,
     ⟨(some 10), .mkf f_fork_Split_calls_2 [(.t 2)], none⟩,
     ⟨(some 11), .bsl 1 [(.t 9), (.t 10)], none⟩,
     ⟨(some 4), .mv (.t 11), none⟩])
   .ret)
   .skip))
  (.seq (.reg [⟨(some 5), .alloc 41 [.nsl], none⟩])
  (.seq (.seq (.reg [⟨(some 12), .mv (.t 1), none⟩,
    ⟨(some 13), .call f_fork_kinds [(.t 12)], none⟩])
  (.blk 0 (.rf (.t 13) [14] (.reg [⟨(some 6), .alloc 5 [(.i .u8 0)], none⟩,
      ⟨none, .st 1 (.t 6) (.t 14), none⟩])
   (.blk 1 (.reg [⟨(some 15), .ld false 1 (.t 5), none⟩,
       ⟨(some 16), .mkf f_fork_Split_calls_3 [(.t 2), (.t 6)], none⟩,
       ⟨(some 17), .bsl 1 [(.t 16)], none⟩,
       ⟨(some 18), .app 1 43 (.t 15) (.t 17), none⟩,
       ⟨none, .st 1 (.t 5) (.t 18), none⟩])))))
  (.seq (.reg [⟨(some 19), .ld false 1 (.t 5), none⟩,
    ⟨(some 4), .mv (.t 19), none⟩])
  .ret))))) }
def c_slices_Clone_api_Fact_api_Fact : Fun := { cin := [(.sl 6 (.agg [.id, .id, (.sl 1 .id), (.sl 1 .id), .id, .id]))], cout := [], ntmps := 8, keep := true, res := [(2, none)], body :=
  (.seq (.reg [⟨(some 2), .mv (.c .nsl), none⟩])
  (.seq (.seq (.reg [⟨(some 3), .mv (.t 0), none⟩,
    ⟨(some 4), .eq .sl false (.t 3) (.c .nsl), none⟩])
  (.cond (.t 4)
   (.seq (.reg [⟨(some 2), .mv (.c .nsl), none⟩])
   .ret)
   .skip))
  (.seq (.reg [⟨(some 5), .bsl 6 [], none⟩,
    ⟨(some 6), .mv (.t 0), none⟩,
    ⟨(some 7), .app 6 25 (.t 5) (.t 6), none⟩,
    ⟨(some 2), .mv (.t 7), none⟩])
  .ret))) }
def c_store_change : Fun := { cin := [(.sl 6 (.agg [.id, .id, (.sl 1 .id), (.sl 1 .id), .id, .id])), .id, .id, .id], cout := [(.sl 6 (.agg [.id, .id, (.sl 1 .id), (.sl 1 .id), .id, .id])), .id], ntmps := 42, keep := false, res := [(8, none), (9, none)], body :=
  (.seq (.reg [⟨(some 8), .mv (.c .nsl), none⟩,
    ⟨(some 9), .mv (.c (.i .i64 0)), none⟩])
  (.seq (.blk 0 (.seq (.reg [⟨(some 13), .mv (.t 0), none⟩,
     ⟨(some 14), .call f_pat_May [(.t 13)], none⟩,
     ⟨(some 15), .un .not (.t 14), none⟩,
     ⟨(some 12), .mv (.t 15), none⟩])
   (.cond (.t 12)
    (.seq (.reg [⟨(some 8), .mv (.c .nsl), none⟩,
      ⟨(some 9), .mv (.c (.i .i64 4)), none⟩])
    .ret)
    (.seq (.reg [⟨(some 17), .mv (.t 1), none⟩,
      ⟨(some 18), .bin .lss (.t 17) (.c (.i .i64 0)), none⟩,
      ⟨(some 19), .mv (.t 18), none⟩,
      ⟨(some 20), .mv (.t 1), (some (19, false))⟩,
      ⟨(some 21), .mv (.t 0), (some (19, false))⟩,
      ⟨(some 22), .len 1 (.t 21), (some (19, false))⟩,
      ⟨(some 23), .bin .geq (.t 20) (.t 22), (some (19, false))⟩,
      ⟨(some 24), .pick (.t 19) (.c (.b true)) (.t 23), none⟩,
      ⟨(some 16), .mv (.t 24), none⟩])
    (.cond (.t 16)
     (.seq (.reg [⟨(some 8), .mv (.c .nsl), none⟩,
       ⟨(some 9), .mv (.c (.i .i64 1)), none⟩])
     .ret)
     .skip)))))
  (.seq (.seq (.reg [⟨(some 25), .mv (.t 2), none⟩,
    ⟨(some 26), .mv (.t 0), none⟩,
    ⟨(some 27), .mv (.t 1), none⟩,
    ⟨(some 28), .ia 6 (.t 26) (.t 27), none⟩,
    ⟨(some 29), .ld true 6 (.t 28), none⟩,
    ⟨(some 30), .callX (.t 25) [(.t 29)], none⟩,
    ⟨(some 10), .mv (.t 30), none⟩])
  (.seq (.reg [⟨(some 31), .mv (.t 10), none⟩,
    ⟨(some 32), .bin .neq (.t 31) (.c (.i .i64 0)), none⟩])
  (.cond (.t 32)
   (.seq (.reg [⟨(some 33), .mv (.t 10), none⟩,
     ⟨(some 8), .mv (.c .nsl), none⟩,
     ⟨(some 9), .mv (.t 33), none⟩])
   .ret)
   .skip)))
  (.seq (.reg [⟨(some 34), .mv (.t 0), none⟩,
    ⟨(some 35), .call f_store_own [(.t 34)], none⟩,
    ⟨(some 11), .mv (.t 35), none⟩])
  (.seq (.seq (.thw 11)
  (.reg [⟨(some 36), .mv (.t 3), none⟩,
    ⟨(some 37), .mv (.t 11), none⟩,
    ⟨(some 38), .mv (.t 1), none⟩,
    ⟨(some 39), .ia 6 (.t 37) (.t 38), none⟩,
    ⟨(some 40), .callX (.t 36) [(.t 39)], none⟩]))
  (.seq (.reg [⟨(some 41), .mv (.t 11), none⟩,
    ⟨(some 8), .mv (.t 41), none⟩,
    ⟨(some 9), .mv (.c (.i .i64 0)), none⟩])
  .ret)))))) }
def c_store_Ask_1 : Fun := { cin := [(.agg [.id, .id, (.sl 1 .id), (.sl 1 .id), .id, .id])], cout := [.id], ntmps := 12, keep := false, res := [(3, none)], body :=
  (.seq (.reg [⟨(some 2), .box 25 6 (.t 0), none⟩,
    ⟨(some 3), .mv (.c (.i .i64 0)), none⟩])
  (.seq (.seq (.reg [⟨(some 4), .ld true 6 (.t 2), none⟩,
    ⟨(some 5), .call f_store_dir [(.t 4)], none⟩,
    ⟨(some 6), .un .not (.t 5), none⟩,
    ⟨(some 7), .mv (.t 6), none⟩,
    ⟨(some 8), .ld false 1 (.t 1), (some (7, false))⟩,
    ⟨(some 9), .call f_path_Name [(.t 8)], (some (7, false))⟩,
    ⟨(some 10), .un .not (.t 9), (some (7, false))⟩,
    ⟨(some 11), .pick (.t 7) (.c (.b true)) (.t 10), none⟩])
  (.cond (.t 11)
   (.seq (.reg [⟨(some 3), .mv (.c (.i .i64 1)), none⟩])
   .ret)
   .skip))
  (.seq (.reg [⟨(some 3), .mv (.c (.i .i64 0)), none⟩])
  .ret))) }
def c_store_dir : Fun := { cin := [(.agg [.id, .id, (.sl 1 .id), (.sl 1 .id), .id, .id])], cout := [.id], ntmps := 10, keep := false, res := [(2, none)], body :=
  (.seq (.reg [⟨(some 1), .box 25 6 (.t 0), none⟩,
    ⟨(some 2), .mv (.c (.b false)), none⟩])
  (.seq (.reg [⟨(some 3), .fa 0 (.t 1), none⟩,
    ⟨(some 4), .ld false 1 (.t 3), none⟩,
    ⟨(some 5), .mv (.t 4), none⟩,
    ⟨(some 6), .fa 1 (.t 1), (some (5, true))⟩,
    ⟨(some 7), .ld false 1 (.t 6), (some (5, true))⟩,
    ⟨(some 8), .bin .eql (.t 7) (.c (.i .u8 2)), (some (5, true))⟩,
    ⟨(some 9), .pick (.t 5) (.t 8) (.c (.b false)), none⟩,
    ⟨(some 2), .mv (.t 9), none⟩])
  .ret)) }
def c_path_Name : Fun := { cin := [.id], cout := [.id], ntmps := 23, keep := false, res := [(2, none)], body :=
  (.seq (.reg [⟨(some 2), .mv (.c (.b false)), none⟩])
  (.seq (.reg [⟨(some 3), .mv (.t 0), none⟩,
    ⟨(some 4), .bin .neq (.t 3) (.c (.s [])), none⟩,
    ⟨(some 5), .mv (.t 4), none⟩,
    ⟨(some 6), .mv (.t 0), (some (5, true))⟩,
    ⟨(some 7), .len 0 (.t 6), (some (5, true))⟩,
    ⟨(some 8), .bin .leq (.t 7) (.c (.i .i64 64)), (some (5, true))⟩,
    ⟨(some 9), .pick (.t 5) (.t 8) (.c (.b false)), none⟩,
    ⟨(some 10), .mv (.t 9), none⟩,
    ⟨(some 11), .mv (.t 0), (some (10, true))⟩,
    ⟨(some 12), .bin .neq (.t 11) (.c (.s [46])), (some (10, true))⟩,
    ⟨(some 13), .pick (.t 10) (.t 12) (.c (.b false)), none⟩,
    ⟨(some 14), .mv (.t 13), none⟩,
    ⟨(some 15), .mv (.t 0), (some (14, true))⟩,
    ⟨(some 16), .bin .neq (.t 15) (.c (.s [46, 46])), (some (14, true))⟩,
    ⟨(some 17), .pick (.t 14) (.t 16) (.c (.b false)), none⟩,
    ⟨(some 18), .mv (.t 17), none⟩,
    ⟨(some 19), .mv (.t 0), (some (18, true))⟩,
    ⟨(some 20), .call f_strings_ContainsAny [(.t 19), (.c (.s [47, 0, 10]))], (some (18, true))⟩,
    ⟨(some 21), .un .not (.t 20), (some (18, true))⟩,
    ⟨(some 22), .pick (.t 18) (.t 21) (.c (.b false)), none⟩,
    ⟨(some 2), .mv (.t 22), none⟩])
  .ret)) }
def c_store_Ask_2 : Fun := { cin := [.id], cout := [], ntmps := 55, keep := false, res := [], body :=
  (.seq (.regD [⟨(some 8), .mv (.t 0), none⟩,
    ⟨(some 9), .nck (.t 8), none⟩,
    ⟨(some 10), .fa 2 (.t 9), none⟩,
    ⟨(some 11), .ld false 1 (.t 10), none⟩,
    ⟨(some 12), .ld false 1 (.t 1), none⟩,
    ⟨(some 13), .call f_slices_BinarySearch_string_string [(.t 11), (.t 12)], none⟩,
    ⟨(some 7), .mv (.t 13), none⟩,
    ⟨(some 14), .ext (.t 7) 0, none⟩,
    ⟨(some 15), .ext (.t 7) 1, none⟩,
    ⟨(some 5), .mv (.t 14), none⟩,
    ⟨(some 6), .mv (.t 15), none⟩] [])
  (.blk 0 (.seq (.reg [⟨(some 17), .mv (.t 6), none⟩,
     ⟨(some 16), .mv (.t 17), none⟩])
   (.cond (.t 16)
    (.reg [⟨(some 18), .mv (.t 0), none⟩,
      ⟨(some 19), .nck (.t 18), none⟩,
      ⟨(some 20), .fa 3 (.t 19), none⟩,
      ⟨(some 21), .ld false 1 (.t 20), none⟩,
      ⟨(some 22), .mv (.t 5), none⟩,
      ⟨(some 23), .ia 1 (.t 21) (.t 22), none⟩,
      ⟨(some 24), .ld false 1 (.t 23), none⟩,
      ⟨none, .st 1 (.t 2) (.t 24), none⟩])
    (.seq (.reg [⟨(some 26), .mv (.t 0), none⟩,
      ⟨(some 27), .nck (.t 26), none⟩,
      ⟨(some 28), .fa 4 (.t 27), none⟩,
      ⟨(some 29), .ld false 1 (.t 28), none⟩,
      ⟨(some 30), .bin .neq (.t 29) (.c (.i .i64 1)), none⟩,
      ⟨(some 25), .mv (.t 30), none⟩])
    (.cond (.t 25)
     (.seq (.reg [⟨(some 31), .ld false 1 (.t 3), none⟩,
       ⟨(some 32), .len 1 (.t 31), none⟩,
       ⟨none, .st 1 (.t 2) (.t 32), none⟩])
     (.seq (.regD [⟨(some 33), .mv (.t 0), none⟩,
       ⟨(some 34), .mv (.t 0), none⟩,
       ⟨(some 35), .nck (.t 34), none⟩,
       ⟨(some 36), .fa 2 (.t 35), none⟩,
       ⟨(some 37), .ld false 1 (.t 36), none⟩,
       ⟨(some 38), .mv (.t 5), none⟩,
       ⟨(some 39), .ld false 1 (.t 1), none⟩,
       ⟨(some 40), .bsl 1 [(.t 39)], none⟩,
       ⟨(some 41), .callK f_slices_Insert_string_string [(.t 37), (.t 38), (.t 40)], none⟩,
       ⟨(some 42), .nck (.t 33), none⟩,
       ⟨(some 43), .fa 2 (.t 42), none⟩,
       ⟨none, .st 1 (.t 43) (.t 41), none⟩] [])
     (.regD [⟨(some 44), .mv (.t 0), none⟩,
       ⟨(some 45), .mv (.t 0), none⟩,
       ⟨(some 46), .nck (.t 45), none⟩,
       ⟨(some 47), .fa 3 (.t 46), none⟩,
       ⟨(some 48), .ld false 1 (.t 47), none⟩,
       ⟨(some 49), .mv (.t 5), none⟩,
       ⟨(some 50), .ld false 1 (.t 2), none⟩,
       ⟨(some 51), .bsl 1 [(.t 50)], none⟩,
       ⟨(some 52), .callK f_slices_Insert_int_int [(.t 48), (.t 49), (.t 51)], none⟩,
       ⟨(some 53), .nck (.t 44), none⟩,
       ⟨(some 54), .fa 3 (.t 53), none⟩,
       ⟨none, .st 1 (.t 54) (.t 52), none⟩] [])))
     .skip)))))) }
def c_slices_BinarySearch_string_string : Fun := { cin := [(.sl 1 .id), .id], cout := [.id, .id], ntmps := 54, keep := false, res := [(4, none), (5, none)], body :=
  (.seq (.reg [⟨(some 4), .mv (.c (.i .i64 0)), none⟩,
    ⟨(some 5), .mv (.c (.b false)), none⟩])
  (.seq (.reg [⟨(some 10), .mv (.t 0), none⟩,
    ⟨(some 11), .len 1 (.t 10), none⟩,
    ⟨(some 6), .mv (.t 11), none⟩])
  (.seq (.reg [⟨(some 12), .mv (.t 6), none⟩,
    ⟨(some 7), .mv (.c (.i .i64 0)), none⟩,
    ⟨(some 8), .mv (.t 12), none⟩])
  (.seq (.blk 0 (.loop (.seq (.seq (.reg [⟨(some 13), .mv (.t 7), none⟩,
      ⟨(some 14), .mv (.t 8), none⟩,
      ⟨(some 15), .bin .lss (.t 13) (.t 14), none⟩])
    (.cond (.t 15)
     .skip
     (.exit 0)))
    (.blk 1 (.seq (.reg [⟨(some 16), .mv (.t 7), none⟩,
       ⟨(some 17), .mv (.t 8), none⟩,
       ⟨(some 18), .bin .add (.t 16) (.t 17), none⟩,
       ⟨(some 19), .cvI .u64 (.t 18), none⟩,
       ⟨(some 20), .bin .shr (.t 19) (.c (.i .u64 1)), none⟩,
       ⟨(some 21), .cvI .i64 (.t 20), none⟩,
       ⟨(some 9), .mv (.t 21), none⟩])
     (.seq (.reg [⟨(some 22), .mv (.t 0), none⟩,
       ⟨(some 23), .mv (.t 9), none⟩,
       ⟨(some 24), .ia 1 (.t 22) (.t 23), none⟩,
       ⟨(some 25), .ld false 1 (.t 24), none⟩,
       ⟨(some 26), .mv (.t 1), none⟩,
       ⟨(some 27), .call f_cmp_Less_string [(.t 25), (.t 26)], none⟩])
     (.cond (.t 27)
      (.reg [⟨(some 28), .mv (.t 9), none⟩,
        ⟨(some 29), .bin .add (.t 28) (.c (.i .i64 1)), none⟩,
        ⟨(some 7), .mv (.t 29), none⟩])
      (.reg [⟨(some 30), .mv (.t 9), none⟩,
        ⟨(some 8), .mv (.t 30), none⟩]))))))))
  (.seq (.reg [⟨(some 31), .mv (.t 7), none⟩,
    ⟨(some 32), .mv (.t 7), none⟩,
    ⟨(some 33), .mv (.t 6), none⟩,
    ⟨(some 34), .bin .lss (.t 32) (.t 33), none⟩,
    ⟨(some 35), .mv (.t 34), none⟩,
    ⟨(some 36), .mv (.t 0), (some (35, true))⟩,
    ⟨(some 37), .mv (.t 7), (some (35, true))⟩,
    ⟨(some 38), .ia 1 (.t 36) (.t 37), (some (35, true))⟩,
    ⟨(some 39), .ld false 1 (.t 38), (some (35, true))⟩,
    ⟨(some 40), .mv (.t 1), (some (35, true))⟩,
    ⟨(some 41), .bin .eql (.t 39) (.t 40), (some (35, true))⟩,
    ⟨(some 42), .mv (.t 41), (some (35, true))⟩,
    ⟨(some 43), .mv (.t 0), (some (42, false))⟩,
    ⟨(some 44), .mv (.t 7), (some (42, false))⟩,
    ⟨(some 45), .ia 1 (.t 43) (.t 44), (some (42, false))⟩,
    ⟨(some 46), .ld false 1 (.t 45), (some (42, false))⟩,
    ⟨(some 47), .call f_slices_isNaN_string [(.t 46)], (some (42, false))⟩,
    ⟨(some 48), .mv (.t 47), (some (42, false))⟩,
    ⟨(some 49), .mv (.t 1), (some (48, true))⟩,
    ⟨(some 50), .call f_slices_isNaN_string [(.t 49)], (some (48, true))⟩,
    ⟨(some 51), .pick (.t 48) (.t 50) (.c (.b false)), (some (42, false))⟩,
    ⟨(some 52), .pick (.t 42) (.c (.b true)) (.t 51), (some (35, true))⟩,
    ⟨(some 53), .pick (.t 35) (.t 52) (.c (.b false)), none⟩,
    ⟨(some 4), .mv (.t 31), none⟩,
    ⟨(some 5), .mv (.t 53), none⟩])
  .ret))))) }
def c_slices_Insert_string_string : Fun := { cin := [], cout := [], ntmps := 95, keep := true, res := [(6, none)], body :=
  (.seq (.reg [⟨(some 6), .mv (.c .nsl), none⟩])
  (.seq (.reg [⟨(some 10), .mv (.t 0), none⟩,
    ⟨(some 11), .mv (.t 1), none⟩,
    ⟨(some 12), .slc false 1 (.t 10) (some (.t 11)) none none, none⟩])
  (.seq (.reg [⟨(some 13), .mv (.t 2), none⟩,
    ⟨(some 14), .len 1 (.t 13), none⟩,
    ⟨(some 7), .mv (.t 14), none⟩])
  (.seq (.seq (.reg [⟨(some 15), .mv (.t 7), none⟩,
    ⟨(some 16), .bin .eql (.t 15) (.c (.i .i64 0)), none⟩])
  (.cond (.t 16)
   (.seq (.reg [⟨(some 17), .mv (.t 0), none⟩,
     ⟨(some 6), .mv (.t 17), none⟩])
   .ret)
   .skip))
  (.seq (.reg [⟨(some 18), .mv (.t 0), none⟩,
    ⟨(some 19), .len 1 (.t 18), none⟩,
    ⟨(some 8), .mv (.t 19), none⟩])
  (.seq (.seq (.reg [⟨(some 20), .mv (.t 1), none⟩,
    ⟨(some 21), .mv (.t 8), none⟩,
    ⟨(some 22), .bin .eql (.t 20) (.t 21), none⟩])
  (.cond (.t 22)
   (.seq (.reg [⟨(some 23), .mv (.t 0), none⟩,
     ⟨(some 24), .mv (.t 2), none⟩,
     ⟨(some 25), .app 1 9 (.t 23) (.t 24), none⟩,
     ⟨(some 6), .mv (.t 25), none⟩])
   .ret)
   .skip))
  (.seq (.seq (.reg [⟨(some 26), .mv (.t 8), none⟩,
    ⟨(some 27), .mv (.t 7), none⟩,
    ⟨(some 28), .bin .add (.t 26) (.t 27), none⟩,
    ⟨(some 29), .mv (.t 0), none⟩,
    ⟨(some 30), .cap (.t 29), none⟩,
    ⟨(some 31), .bin .gtr (.t 28) (.t 30), none⟩])
  (.cond (.t 31)
   (.seq (.reg [⟨(some 32), .mv (.t 0), none⟩,
     ⟨(some 33), .mv (.t 1), none⟩,
     ⟨(some 34), .slc false 1 (.t 32) none (some (.t 33)) none, none⟩,
     ⟨(some 35), .mv (.t 8), none⟩,
     ⟨(some 36), .mv (.t 7), none⟩,
     ⟨(some 37), .bin .add (.t 35) (.t 36), none⟩,
     ⟨(some 38), .mv (.t 1), none⟩,
     ⟨(some 39), .bin .sub (.t 37) (.t 38), none⟩,
     ⟨(some 40), .bad, none⟩,
     ⟨(some 9), .mv (.t 40), none⟩])
   (.seq (.reg [⟨(some 41), .mv (.t 9), none⟩,
     ⟨(some 42), .mv (.t 1), none⟩,
     ⟨(some 43), .slc false 1 (.t 41) (some (.t 42)) none none, none⟩,
     ⟨(some 44), .mv (.t 2), none⟩,
     ⟨(some 45), .cp0 (.t 43) (.t 44), none⟩])
   (.seq (.regD [⟨(some 46), .mv (.t 9), none⟩,
     ⟨(some 47), .mv (.t 1), none⟩,
     ⟨(some 48), .mv (.t 7), none⟩,
     ⟨(some 49), .bin .add (.t 47) (.t 48), none⟩,
     ⟨(some 50), .slc false 1 (.t 46) (some (.t 49)) none none, none⟩,
     ⟨(some 51), .mv (.t 0), none⟩,
     ⟨(some 52), .mv (.t 1), none⟩,
     ⟨(some 53), .slc false 1 (.t 51) (some (.t 52)) none none, none⟩,
     ⟨(some 54), .cp0 (.t 50) (.t 53), none⟩] [])
   (.seq (.reg [⟨(some 55), .mv (.t 9), none⟩,
     ⟨(some 6), .mv (.t 55), none⟩])
   .ret))))
   .skip))
  (.seq (.reg [⟨(some 56), .mv (.t 0), none⟩,
    ⟨(some 57), .mv (.t 8), none⟩,
    ⟨(some 58), .mv (.t 7), none⟩,
    ⟨(some 59), .bin .add (.t 57) (.t 58), none⟩,
    ⟨(some 60), .slc true 1 (.t 56) none (some (.t 59)) none, none⟩,
    ⟨(some 0), .mv (.t 60), none⟩])
  (.seq (.seq (.reg [⟨(some 61), .mv (.t 2), none⟩,
    ⟨(some 62), .mv (.t 0), none⟩,
    ⟨(some 63), .mv (.t 1), none⟩,
    ⟨(some 64), .mv (.t 7), none⟩,
    ⟨(some 65), .bin .add (.t 63) (.t 64), none⟩,
    ⟨(some 66), .slc false 1 (.t 62) (some (.t 65)) none none, none⟩,
    ⟨(some 67), .bad, none⟩,
    ⟨(some 68), .un .not (.t 67), none⟩])
  (.cond (.t 68)
   (.seq (.regD [⟨(some 69), .mv (.t 0), none⟩,
     ⟨(some 70), .mv (.t 1), none⟩,
     ⟨(some 71), .mv (.t 7), none⟩,
     ⟨(some 72), .bin .add (.t 70) (.t 71), none⟩,
     ⟨(some 73), .slc false 1 (.t 69) (some (.t 72)) none none, none⟩,
     ⟨(some 74), .mv (.t 0), none⟩,
     ⟨(some 75), .mv (.t 1), none⟩,
     ⟨(some 76), .slc false 1 (.t 74) (some (.t 75)) none none, none⟩,
     ⟨(some 77), .cp0 (.t 73) (.t 76), none⟩] [])
   (.seq (.reg [⟨(some 78), .mv (.t 0), none⟩,
     ⟨(some 79), .mv (.t 1), none⟩,
     ⟨(some 80), .slc false 1 (.t 78) (some (.t 79)) none none, none⟩,
     ⟨(some 81), .mv (.t 2), none⟩,
     ⟨(some 82), .cp0 (.t 80) (.t 81), none⟩])
   (.seq (.reg [⟨(some 83), .mv (.t 0), none⟩,
     ⟨(some 6), .mv (.t 83), none⟩])
   .ret)))
   .skip))
  (.seq (.reg [⟨(some 84), .mv (.t 0), none⟩,
    ⟨(some 85), .mv (.t 8), none⟩,
    ⟨(some 86), .slc false 1 (.t 84) (some (.t 85)) none none, none⟩,
    ⟨(some 87), .mv (.t 2), none⟩,
    ⟨(some 88), .cp0 (.t 86) (.t 87), none⟩])
  (.seq (.reg [⟨(some 89), .mv (.t 0), none⟩,
    ⟨(some 90), .mv (.t 1), none⟩,
    ⟨(some 91), .slc false 1 (.t 89) (some (.t 90)) none none, none⟩,
    ⟨(some 92), .mv (.t 7), none⟩,
    ⟨(some 93), .call f_slices_rotateRight_string [(.t 91), (.t 92)], none⟩])
  (.seq (.reg [⟨(some 94), .mv (.t 0), none⟩,
    ⟨(some 6), .mv (.t 94), none⟩])
  .ret)))))))))))) }
def c_slices_Insert_int_int : Fun := { cin := [], cout := [], ntmps := 95, keep := true, res := [(6, none)], body :=
  (.seq (.reg [⟨(some 6), .mv (.c .nsl), none⟩])
  (.seq (.reg [⟨(some 10), .mv (.t 0), none⟩,
    ⟨(some 11), .mv (.t 1), none⟩,
    ⟨(some 12), .slc false 1 (.t 10) (some (.t 11)) none none, none⟩])
  (.seq (.reg [⟨(some 13), .mv (.t 2), none⟩,
    ⟨(some 14), .len 1 (.t 13), none⟩,
    ⟨(some 7), .mv (.t 14), none⟩])
  (.seq (.seq (.reg [⟨(some 15), .mv (.t 7), none⟩,
    ⟨(some 16), .bin .eql (.t 15) (.c (.i .i64 0)), none⟩])
  (.cond (.t 16)
   (.seq (.reg [⟨(some 17), .mv (.t 0), none⟩,
     ⟨(some 6), .mv (.t 17), none⟩])
   .ret)
   .skip))
  (.seq (.reg [⟨(some 18), .mv (.t 0), none⟩,
    ⟨(some 19), .len 1 (.t 18), none⟩,
    ⟨(some 8), .mv (.t 19), none⟩])
  (.seq (.seq (.reg [⟨(some 20), .mv (.t 1), none⟩,
    ⟨(some 21), .mv (.t 8), none⟩,
    ⟨(some 22), .bin .eql (.t 20) (.t 21), none⟩])
  (.cond (.t 22)
   (.seq (.reg [⟨(some 23), .mv (.t 0), none⟩,
     ⟨(some 24), .mv (.t 2), none⟩,
     ⟨(some 25), .app 1 3 (.t 23) (.t 24), none⟩,
     ⟨(some 6), .mv (.t 25), none⟩])
   .ret)
   .skip))
  (.seq (.seq (.reg [⟨(some 26), .mv (.t 8), none⟩,
    ⟨(some 27), .mv (.t 7), none⟩,
    ⟨(some 28), .bin .add (.t 26) (.t 27), none⟩,
    ⟨(some 29), .mv (.t 0), none⟩,
    ⟨(some 30), .cap (.t 29), none⟩,
    ⟨(some 31), .bin .gtr (.t 28) (.t 30), none⟩])
  (.cond (.t 31)
   (.seq (.reg [⟨(some 32), .mv (.t 0), none⟩,
     ⟨(some 33), .mv (.t 1), none⟩,
     ⟨(some 34), .slc false 1 (.t 32) none (some (.t 33)) none, none⟩,
     ⟨(some 35), .mv (.t 8), none⟩,
     ⟨(some 36), .mv (.t 7), none⟩,
     ⟨(some 37), .bin .add (.t 35) (.t 36), none⟩,
     ⟨(some 38), .mv (.t 1), none⟩,
     ⟨(some 39), .bin .sub (.t 37) (.t 38), none⟩,
     ⟨(some 40), .bad, none⟩,
     ⟨(some 9), .mv (.t 40), none⟩])
   (.seq (.reg [⟨(some 41), .mv (.t 9), none⟩,
     ⟨(some 42), .mv (.t 1), none⟩,
     ⟨(some 43), .slc false 1 (.t 41) (some (.t 42)) none none, none⟩,
     ⟨(some 44), .mv (.t 2), none⟩,
     ⟨(some 45), .cp0 (.t 43) (.t 44), none⟩])
   (.seq (.regD [⟨(some 46), .mv (.t 9), none⟩,
     ⟨(some 47), .mv (.t 1), none⟩,
     ⟨(some 48), .mv (.t 7), none⟩,
     ⟨(some 49), .bin .add (.t 47) (.t 48), none⟩,
     ⟨(some 50), .slc false 1 (.t 46) (some (.t 49)) none none, none⟩,
     ⟨(some 51), .mv (.t 0), none⟩,
     ⟨(some 52), .mv (.t 1), none⟩,
     ⟨(some 53), .slc false 1 (.t 51) (some (.t 52)) none none, none⟩,
     ⟨(some 54), .cp0 (.t 50) (.t 53), none⟩] [])
   (.seq (.reg [⟨(some 55), .mv (.t 9), none⟩,
     ⟨(some 6), .mv (.t 55), none⟩])
   .ret))))
   .skip))
  (.seq (.reg [⟨(some 56), .mv (.t 0), none⟩,
    ⟨(some 57), .mv (.t 8), none⟩,
    ⟨(some 58), .mv (.t 7), none⟩,
    ⟨(some 59), .bin .add (.t 57) (.t 58), none⟩,
    ⟨(some 60), .slc true 1 (.t 56) none (some (.t 59)) none, none⟩,
    ⟨(some 0), .mv (.t 60), none⟩])
  (.seq (.seq (.reg [⟨(some 61), .mv (.t 2), none⟩,
    ⟨(some 62), .mv (.t 0), none⟩,
    ⟨(some 63), .mv (.t 1), none⟩,
    ⟨(some 64), .mv (.t 7), none⟩,
    ⟨(some 65), .bin .add (.t 63) (.t 64), none⟩,
    ⟨(some 66), .slc false 1 (.t 62) (some (.t 65)) none none, none⟩,
    ⟨(some 67), .bad, none⟩,
    ⟨(some 68), .un .not (.t 67), none⟩])
  (.cond (.t 68)
   (.seq (.regD [⟨(some 69), .mv (.t 0), none⟩,
     ⟨(some 70), .mv (.t 1), none⟩,
     ⟨(some 71), .mv (.t 7), none⟩,
     ⟨(some 72), .bin .add (.t 70) (.t 71), none⟩,
     ⟨(some 73), .slc false 1 (.t 69) (some (.t 72)) none none, none⟩,
     ⟨(some 74), .mv (.t 0), none⟩,
     ⟨(some 75), .mv (.t 1), none⟩,
     ⟨(some 76), .slc false 1 (.t 74) (some (.t 75)) none none, none⟩,
     ⟨(some 77), .cp0 (.t 73) (.t 76), none⟩] [])
   (.seq (.reg [⟨(some 78), .mv (.t 0), none⟩,
     ⟨(some 79), .mv (.t 1), none⟩,
     ⟨(some 80), .slc false 1 (.t 78) (some (.t 79)) none none, none⟩,
     ⟨(some 81), .mv (.t 2), none⟩,
     ⟨(some 82), .cp0 (.t 80) (.t 81), none⟩])
   (.seq (.reg [⟨(some 83), .mv (.t 0), none⟩,
     ⟨(some 6), .mv (.t 83), none⟩])
   .ret)))
   .skip))
  (.seq (.reg [⟨(some 84), .mv (.t 0), none⟩,
    ⟨(some 85), .mv (.t 8), none⟩,
    ⟨(some 86), .slc false 1 (.t 84) (some (.t 85)) none none, none⟩,
    ⟨(some 87), .mv (.t 2), none⟩,
    ⟨(some 88), .cp0 (.t 86) (.t 87), none⟩])
  (.seq (.reg [⟨(some 89), .mv (.t 0), none⟩,
    ⟨(some 90), .mv (.t 1), none⟩,
    ⟨(some 91), .slc false 1 (.t 89) (some (.t 90)) none none, none⟩,
    ⟨(some 92), .mv (.t 7), none⟩,
    ⟨(some 93), .call f_slices_rotateRight_int [(.t 91), (.t 92)], none⟩])
  (.seq (.reg [⟨(some 94), .mv (.t 0), none⟩,
    ⟨(some 6), .mv (.t 94), none⟩])
  .ret)))))))))))) }
def c_store_Know_1 : Fun := { cin := [(.agg [.id, .id, (.sl 1 .id), (.sl 1 .id), .id, .id])], cout := [.id], ntmps := 10, keep := false, res := [(3, none)], body :=
  (.seq (.reg [⟨(some 2), .box 25 6 (.t 0), none⟩,
    ⟨(some 3), .mv (.c (.i .i64 0)), none⟩])
  (.seq (.blk 0 (.seq (.reg [⟨(some 5), .fa 0 (.t 2), none⟩,
     ⟨(some 6), .ld false 1 (.t 5), none⟩,
     ⟨(some 4), .mv (.t 6), none⟩])
   (.cond (.t 4)
    (.seq (.reg [⟨(some 3), .mv (.c (.i .i64 6)), none⟩])
    .ret)
    (.seq (.reg [⟨(some 8), .ld false 1 (.t 1), none⟩,
      ⟨(some 9), .bin .gtr (.t 8) (.c (.i .u8 3)), none⟩,
      ⟨(some 7), .mv (.t 9), none⟩])
    (.cond (.t 7)
     (.seq (.reg [⟨(some 3), .mv (.c (.i .i64 1)), none⟩])
     .ret)
     .skip)))))
  (.seq (.reg [⟨(some 3), .mv (.c (.i .i64 0)), none⟩])
  .ret))) }
def c_store_Know_2 : Fun := { cin := [.id], cout := [], ntmps := 10, keep := false, res := [], body :=
  (.regD [⟨(some 3), .mv (.t 0), none⟩,
    ⟨(some 4), .mv (.t 0), none⟩,
    ⟨(some 5), .ld false 1 (.t 1), none⟩,
    ⟨(some 6), .nck (.t 3), none⟩,
    ⟨(some 7), .fa 0 (.t 6), none⟩,
    ⟨none, .st 1 (.t 7) (.c (.b true)), none⟩,
    ⟨(some 8), .nck (.t 4), none⟩,
    ⟨(some 9), .fa 1 (.t 8), none⟩,
    ⟨none, .st 1 (.t 9) (.t 5), none⟩] [(2, (2, 6))]) }
def c_store_Whole_1 : Fun := { cin := [(.agg [.id, .id, (.sl 1 .id), (.sl 1 .id), .id, .id])], cout := [.id], ntmps := 22, keep := false, res := [(3, none)], body :=
  (.seq (.reg [⟨(some 2), .box 25 6 (.t 0), none⟩,
    ⟨(some 3), .mv (.c (.i .i64 0)), none⟩])
  (.seq (.blk 0 (.seq (.reg [⟨(some 5), .ld true 6 (.t 2), none⟩,
     ⟨(some 6), .call f_store_dir [(.t 5)], none⟩,
     ⟨(some 7), .un .not (.t 6), none⟩,
     ⟨(some 4), .mv (.t 7), none⟩])
   (.cond (.t 4)
    (.seq (.reg [⟨(some 3), .mv (.c (.i .i64 1)), none⟩])
    .ret)
    (.seq (.reg [⟨(some 9), .fa 4 (.t 2), none⟩,
      ⟨(some 10), .ld false 1 (.t 9), none⟩,
      ⟨(some 11), .bin .eql (.t 10) (.c (.i .i64 1)), none⟩,
      ⟨(some 8), .mv (.t 11), none⟩])
    (.cond (.t 8)
     (.seq (.reg [⟨(some 3), .mv (.c (.i .i64 6)), none⟩])
     .ret)
     (.seq (.reg [⟨(some 13), .fa 4 (.t 2), none⟩,
       ⟨(some 14), .ld false 1 (.t 13), none⟩,
       ⟨(some 15), .bin .eql (.t 14) (.c (.i .i64 2)), none⟩,
       ⟨(some 16), .mv (.t 15), none⟩,
       ⟨(some 17), .ld false 1 (.t 1), (some (16, true))⟩,
       ⟨(some 18), .ld true 6 (.t 2), (some (16, true))⟩,
       ⟨(some 19), .call f_store_there [(.t 17), (.t 18)], (some (16, true))⟩,
       ⟨(some 20), .un .not (.t 19), (some (16, true))⟩,
       ⟨(some 21), .pick (.t 16) (.t 20) (.c (.b false)), none⟩,
       ⟨(some 12), .mv (.t 21), none⟩])
     (.cond (.t 12)
      (.seq (.reg [⟨(some 3), .mv (.c (.i .i64 67)), none⟩])
      .ret)
      .skip)))))))
  (.seq (.reg [⟨(some 3), .mv (.c (.i .i64 0)), none⟩])
  .ret))) }
def c_store_there : Fun := { cin := [(.sl 6 (.agg [.id, .id, (.sl 1 .id), (.sl 1 .id), .id, .id])), (.agg [.id, .id, (.sl 1 .id), (.sl 1 .id), .id, .id])], cout := [.id], ntmps := 16, keep := false, res := [(4, none)], body :=
  (.seq (.reg [⟨(some 2), .box 26 1 (.t 0), none⟩,
    ⟨(some 3), .box 25 6 (.t 1), none⟩,
    ⟨(some 4), .mv (.c (.b false)), none⟩])
  (.seq (.reg [⟨(some 6), .fa 3 (.t 3), none⟩,
    ⟨(some 7), .ld false 1 (.t 6), none⟩,
    ⟨(some 8), .call f_slices_Values_int_int [(.t 7)], none⟩,
    ⟨(some 9), .call f_slices_Sorted_int [(.t 8)], none⟩,
    ⟨(some 5), .mv (.t 9), none⟩])
  (.seq (.reg [⟨(some 10), .mv (.t 5), none⟩,
    ⟨(some 11), .fa 5 (.t 3), none⟩,
    ⟨(some 12), .ld false 1 (.t 11), none⟩,
    ⟨(some 13), .slc false 1 (.t 10) (some (.t 12)) none none, none⟩,
    ⟨(some 14), .mkf f_store_there_1 [(.t 2)], none⟩,
    ⟨(some 15), .call f_slices_ContainsFunc_int_int [(.t 13), (.t 14)], none⟩,
    ⟨(some 4), .mv (.t 15), none⟩])
  .ret))) }
def c_store_Whole_2 : Fun := { cin := [.id], cout := [], ntmps := 8, keep := false, res := [], body :=
  (.reg [⟨(some 2), .mv (.t 0), none⟩,
    ⟨(some 3), .mv (.t 0), none⟩,
    ⟨(some 4), .nck (.t 2), none⟩,
    ⟨(some 5), .fa 4 (.t 4), none⟩,
    ⟨none, .st 1 (.t 5) (.c (.i .i64 1)), none⟩,
    ⟨(some 6), .nck (.t 3), none⟩,
    ⟨(some 7), .fa 5 (.t 6), none⟩,
    ⟨none, .st 1 (.t 7) (.c (.i .i64 0)), none⟩]) }
def c_store_More_1 : Fun := { cin := [(.agg [.id, .id, (.sl 1 .id), (.sl 1 .id), .id, .id])], cout := [.id], ntmps := 11, keep := false, res := [(2, none)], body :=
  (.seq (.reg [⟨(some 1), .box 25 6 (.t 0), none⟩,
    ⟨(some 2), .mv (.c (.i .i64 0)), none⟩])
  (.seq (.blk 0 (.seq (.reg [⟨(some 4), .ld true 6 (.t 1), none⟩,
     ⟨(some 5), .call f_store_dir [(.t 4)], none⟩,
     ⟨(some 6), .un .not (.t 5), none⟩,
     ⟨(some 3), .mv (.t 6), none⟩])
   (.cond (.t 3)
    (.seq (.reg [⟨(some 2), .mv (.c (.i .i64 1)), none⟩])
    .ret)
    (.seq (.reg [⟨(some 8), .fa 4 (.t 1), none⟩,
      ⟨(some 9), .ld false 1 (.t 8), none⟩,
      ⟨(some 10), .bin .eql (.t 9) (.c (.i .i64 1)), none⟩,
      ⟨(some 7), .mv (.t 10), none⟩])
    (.cond (.t 7)
     (.seq (.reg [⟨(some 2), .mv (.c (.i .i64 6)), none⟩])
     .ret)
     .skip)))))
  (.seq (.reg [⟨(some 2), .mv (.c (.i .i64 0)), none⟩])
  .ret))) }
def c_store_More_2 : Fun := { cin := [.id], cout := [], ntmps := 13, keep := false, res := [], body :=
  (.reg [⟨(some 2), .mv (.t 0), none⟩,
    ⟨(some 3), .mv (.t 0), none⟩,
    ⟨(some 4), .mv (.t 0), none⟩,
    ⟨(some 5), .nck (.t 4), none⟩,
    ⟨(some 6), .fa 2 (.t 5), none⟩,
    ⟨(some 7), .ld false 1 (.t 6), none⟩,
    ⟨(some 8), .len 1 (.t 7), none⟩,
    ⟨(some 9), .nck (.t 2), none⟩,
    ⟨(some 10), .fa 4 (.t 9), none⟩,
    ⟨none, .st 1 (.t 10) (.c (.i .i64 2)), none⟩,
    ⟨(some 11), .nck (.t 3), none⟩,
    ⟨(some 12), .fa 5 (.t 11), none⟩,
    ⟨none, .st 1 (.t 12) (.t 8), none⟩]) }
def c_pat_Root : Fun := { cin := [], cout := [(.sl 6 (.agg [.id, .id, (.sl 1 .id), (.sl 1 .id), .id, .id]))], ntmps := 3, keep := false, res := [(0, none)], body :=
  (.seq (.reg [⟨(some 0), .mv (.c .nsl), none⟩])
  (.seq (.reg [⟨(some 1), .build [(.b false), (.i .u8 0), .nsl, .nsl, (.i .i64 0), (.i .i64 0)] [(0, 1, (.c (.b true))), (1, 1, (.c (.i .u8 2)))], none⟩,
    ⟨(some 2), .bsl 6 [(.t 1)], none⟩,
    ⟨(some 0), .mv (.t 2), none⟩])
  .ret)) }
def c_fork_Split_calls_1 : Fun := { cin := [(.sl 6 (.agg [.id, .id, (.sl 1 .id), (.sl 1 .id), .id, .id]))], cout := [(.sl 6 (.agg [.id, .id, (.sl 1 .id), (.sl 1 .id), .id, .id])), .id], ntmps := 11, keep := false, res := [(3, none), (4, none)], body :=
  (.seq (.reg [⟨(some 3), .mv (.c .nsl), none⟩,
    ⟨(some 4), .mv (.c (.i .i64 0)), none⟩])
  (.seq (.reg [⟨(some 5), .mv (.t 0), none⟩,
    ⟨(some 6), .fa 0 (.t 1), none⟩,
    ⟨(some 7), .ld false 1 (.t 6), none⟩,
    ⟨(some 8), .call f_store_Whole [(.t 5), (.t 7)], none⟩,
    ⟨(some 9), .ext (.t 8) 0, none⟩,
    ⟨(some 10), .ext (.t 8) 1, none⟩,
    ⟨(some 3), .mv (.t 9), none⟩,
    ⟨(some 4), .mv (.t 10), none⟩])
  .ret)) }
def c_fork_Split_calls_2 : Fun := { cin := [(.sl 6 (.agg [.id, .id, (.sl 1 .id), (.sl 1 .id), .id, .id]))], cout := [(.sl 6 (.agg [.id, .id, (.sl 1 .id), (.sl 1 .id), .id, .id])), .id], ntmps := 11, keep := false, res := [(3, none), (4, none)], body :=
  (.seq (.reg [⟨(some 3), .mv (.c .nsl), none⟩,
    ⟨(some 4), .mv (.c (.i .i64 0)), none⟩])
  (.seq (.reg [⟨(some 5), .mv (.t 0), none⟩,
    ⟨(some 6), .fa 0 (.t 1), none⟩,
    ⟨(some 7), .ld false 1 (.t 6), none⟩,
    ⟨(some 8), .call f_store_More [(.t 5), (.t 7)], none⟩,
    ⟨(some 9), .ext (.t 8) 0, none⟩,
    ⟨(some 10), .ext (.t 8) 1, none⟩,
    ⟨(some 3), .mv (.t 9), none⟩,
    ⟨(some 4), .mv (.t 10), none⟩])
  .ret)) }
def c_fork_kinds : Fun := { cin := [.id], cout := [.id], ntmps := 4, keep := false, res := [(2, none)], body :=
  (.seq (.reg [⟨(some 1), .box 4 1 (.t 0), none⟩,
    ⟨(some 2), .mv (.c .nf), none⟩])
  (.seq (.reg [⟨(some 3), .mkf f_fork_kinds_1 [(.t 1)], none⟩,
    ⟨(some 2), .mv (.t 3), none⟩])
  .ret)) }
def c_fork_Split_calls_3 : Fun := { cin := [(.sl 6 (.agg [.id, .id, (.sl 1 .id), (.sl 1 .id), .id, .id]))], cout := [(.sl 6 (.agg [.id, .id, (.sl 1 .id), (.sl 1 .id), .id, .id])), .id], ntmps := 13, keep := false, res := [(4, none), (5, none)], body :=
  (.seq (.reg [⟨(some 4), .mv (.c .nsl), none⟩,
    ⟨(some 5), .mv (.c (.i .i64 0)), none⟩])
  (.seq (.reg [⟨(some 6), .mv (.t 0), none⟩,
    ⟨(some 7), .fa 0 (.t 1), none⟩,
    ⟨(some 8), .ld false 1 (.t 7), none⟩,
    ⟨(some 9), .ld false 1 (.t 2), none⟩,
    ⟨(some 10), .call f_store_Know [(.t 6), (.t 8), (.t 9)], none⟩,
    ⟨(some 11), .ext (.t 10) 0, none⟩,
    ⟨(some 12), .ext (.t 10) 1, none⟩,
    ⟨(some 4), .mv (.t 11), none⟩,
    ⟨(some 5), .mv (.t 12), none⟩])
  .ret)) }
def c_pat_May : Fun := { cin := [(.sl 6 (.agg [.id, .id, (.sl 1 .id), (.sl 1 .id), .id, .id]))], cout := [.id], ntmps := 59, keep := false, res := [(2, none)], body :=
  (.seq (.reg [⟨(some 2), .mv (.c (.b false)), none⟩])
  (.seq (.seq (.reg [⟨(some 8), .mv (.t 0), none⟩,
    ⟨(some 9), .len 1 (.t 8), none⟩,
    ⟨(some 10), .bin .eql (.t 9) (.c (.i .i64 0)), none⟩,
    ⟨(some 11), .mv (.t 10), none⟩,
    ⟨(some 12), .mv (.t 0), (some (11, false))⟩,
    ⟨(some 13), .ia 6 (.t 12) (.c (.i .i64 0)), (some (11, false))⟩,
    ⟨(some 14), .ld true 6 (.t 13), (some (11, false))⟩,
    ⟨(some 15), .call f_pat_dir [(.t 14)], (some (11, false))⟩,
    ⟨(some 16), .un .not (.t 15), (some (11, false))⟩,
    ⟨(some 17), .pick (.t 11) (.c (.b true)) (.t 16), none⟩])
  (.cond (.t 17)
   (.seq (.reg [⟨(some 2), .mv (.c (.b false)), none⟩])
   .ret)
   .skip))
  (.seq (.reg [⟨(some 18), .mv (.t 0), none⟩,
    ⟨(some 19), .len 1 (.t 18), none⟩,
    ⟨(some 20), .mks 3 1 [(.i .i64 0)] (.t 19) (.t 19), none⟩,
    ⟨(some 3), .mv (.t 20), none⟩])
  (.seq (.seq (.reg [⟨(some 21), .mv (.t 0), none⟩,
    ⟨(some 22), .len 1 (.t 21), none⟩,
    ⟨(some 23), .mv (.c (.i .i64 0)), none⟩])
  (.blk 0 (.loop (.seq (.reg [⟨(some 24), .bin .lss (.t 23) (.t 22), none⟩])
    (.seq (.cond (.t 24)
     .skip
     (.exit 0))
    (.seq (.blk 1 (.seq (.reg [⟨(some 25), .mv (.t 23), none⟩,
       ⟨(some 26), .ia 6 (.t 21) (.t 23), none⟩,
       ⟨(some 27), .ld true 6 (.t 26), none⟩,
       ⟨(some 5), .alloc 25 [(.b false), (.i .u8 0), .nsl, .nsl, (.i .i64 0), (.i .i64 0)], none⟩,
       ⟨(some 4), .mv (.t 25), none⟩,
       ⟨none, .st 6 (.t 5) (.t 27), none⟩])
     (.seq (.seq (.reg [⟨(some 28), .ld true 6 (.t 5), none⟩,
       ⟨(some 29), .call f_pat_one [(.t 28)], none⟩,
       ⟨(some 30), .un .not (.t 29), none⟩])
     (.cond (.t 30)
      (.seq (.reg [⟨(some 2), .mv (.c (.b false)), none⟩])
      .ret)
      .skip))
     (.seq (.reg [⟨(some 31), .fa 3 (.t 5), none⟩,
       ⟨(some 32), .ld false 1 (.t 31), none⟩,
       ⟨(some 33), .len 1 (.t 32), none⟩,
       ⟨(some 34), .mv (.c (.i .i64 0)), none⟩])
     (.blk 2 (.loop (.seq (.reg [⟨(some 35), .bin .lss (.t 34) (.t 33), none⟩])
       (.seq (.cond (.t 35)
        .skip
        (.exit 2))
       (.seq (.blk 3 (.seq (.reg [⟨(some 36), .ia 1 (.t 32) (.t 34), none⟩,
          ⟨(some 37), .ld false 1 (.t 36), none⟩,
          ⟨(some 7), .mv (.t 37), none⟩])
        (.seq (.seq (.reg [⟨(some 38), .mv (.t 7), none⟩,
          ⟨(some 39), .mv (.t 4), none⟩,
          ⟨(some 40), .bin .leq (.t 38) (.t 39), none⟩,
          ⟨(some 41), .mv (.t 40), none⟩,
          ⟨(some 42), .mv (.t 7), (some (41, false))⟩,
          ⟨(some 43), .mv (.t 0), (some (41, false))⟩,
          ⟨(some 44), .len 1 (.t 43), (some (41, false))⟩,
          ⟨(some 45), .bin .geq (.t 42) (.t 44), (some (41, false))⟩,
          ⟨(some 46), .pick (.t 41) (.c (.b true)) (.t 45), none⟩])
        (.cond (.t 46)
         (.seq (.reg [⟨(some 2), .mv (.c (.b false)), none⟩])
         .ret)
         .skip))
        (.seq (.thw 3)
        (.reg [⟨(some 47), .mv (.t 3), none⟩,
          ⟨(some 48), .mv (.t 7), none⟩,
          ⟨(some 49), .ia 1 (.t 47) (.t 48), none⟩,
          ⟨(some 50), .ld false 1 (.t 49), none⟩,
          ⟨(some 51), .bin .add (.t 50) (.c (.i .i64 1)), none⟩,
          ⟨(some 52), .ia 1 (.t 47) (.t 48), none⟩,
          ⟨none, .st 1 (.t 52) (.t 51), none⟩])))))
       (.reg [⟨(some 53), .bin .add (.t 34) (.c (.i .i64 1)), none⟩,
         ⟨(some 34), .mv (.t 53), none⟩]))))))))))
    (.reg [⟨(some 54), .bin .add (.t 23) (.c (.i .i64 1)), none⟩,
      ⟨(some 23), .mv (.t 54), none⟩])))))))
  (.seq (.reg [⟨(some 55), .mv (.t 3), none⟩,
    ⟨(some 56), .slc false 1 (.t 55) (some (.c (.i .i64 1))) none none, none⟩,
    ⟨(some 57), .call f_slices_ContainsFunc_int_int [(.t 56), (.c (.fn f_pat_May_1 []))], none⟩,
    ⟨(some 58), .un .not (.t 57), none⟩,
    ⟨(some 2), .mv (.t 58), none⟩])
  .ret))))) }
def c_store_own : Fun := { cin := [(.sl 6 (.agg [.id, .id, (.sl 1 .id), (.sl 1 .id), .id, .id]))], cout := [], ntmps := 31, keep := true, res := [(2, none)], body :=
  (.seq (.reg [⟨(some 2), .mv (.c .nsl), none⟩])
  (.seq (.reg [⟨(some 6), .mv (.t 0), none⟩,
    ⟨(some 7), .call f_slices_Clone_api_Fact_api_Fact [(.t 6)], none⟩,
    ⟨(some 3), .mv (.t 7), none⟩])
  (.seq (.seq (.reg [⟨(some 8), .mv (.t 0), none⟩,
    ⟨(some 9), .len 1 (.t 8), none⟩,
    ⟨(some 10), .mv (.c (.i .i64 0)), none⟩])
  (.blk 0 (.loop (.seq (.reg [⟨(some 11), .bin .lss (.t 10) (.t 9), none⟩])
    (.seq (.cond (.t 11)
     .skip
     (.exit 0))
    (.seq (.blk 1 (.seq (.reg [⟨(some 12), .mv (.t 10), none⟩,
       ⟨(some 13), .ia 6 (.t 8) (.t 10), none⟩,
       ⟨(some 14), .ld true 6 (.t 13), none⟩,
       ⟨(some 5), .alloc 25 [(.b false), (.i .u8 0), .nsl, .nsl, (.i .i64 0), (.i .i64 0)], none⟩,
       ⟨(some 4), .mv (.t 12), none⟩,
       ⟨none, .st 6 (.t 5) (.t 14), none⟩])
     (.seq (.thw 3)
     (.regD [⟨(some 15), .mv (.t 3), none⟩,
       ⟨(some 16), .mv (.t 4), none⟩,
       ⟨(some 17), .mv (.t 3), none⟩,
       ⟨(some 18), .mv (.t 4), none⟩,
       ⟨(some 19), .fa 2 (.t 5), none⟩,
       ⟨(some 20), .ld false 1 (.t 19), none⟩,
       ⟨(some 21), .call f_slices_Clone_string_string [(.t 20)], none⟩,
       ⟨(some 22), .fa 3 (.t 5), none⟩,
       ⟨(some 23), .ld false 1 (.t 22), none⟩,
       ⟨(some 24), .call f_slices_Clone_int_int [(.t 23)], none⟩,
       ⟨(some 25), .ia 6 (.t 15) (.t 16), none⟩,
       ⟨(some 26), .fa 2 (.t 25), none⟩,
       ⟨none, .st 1 (.t 26) (.t 21), none⟩,
       ⟨(some 27), .ia 6 (.t 17) (.t 18), none⟩,
       ⟨(some 28), .fa 3 (.t 27), none⟩,
       ⟨none, .st 1 (.t 28) (.t 24), none⟩] [(8, (6, 8))]))))
    (.reg [⟨(some 29), .bin .add (.t 10) (.c (.i .i64 1)), none⟩,
      ⟨(some 10), .mv (.t 29), none⟩])))))))
  (.seq (.reg [⟨(some 30), .mv (.t 3), none⟩,
    ⟨(some 2), .mv (.t 30), none⟩])
  .ret)))) }
def c_strings_ContainsAny : Fun := { cin := [.id, .id], cout := [.id], ntmps := 9, keep := false, res := [(4, none)], body :=
  (.seq (.reg [⟨(some 4), .mv (.c (.b false)), none⟩])
  (.seq (.reg [⟨(some 5), .mv (.t 0), none⟩,
    ⟨(some 6), .mv (.t 1), none⟩,
    ⟨(some 7), .call f_strings_IndexAny [(.t 5), (.t 6)], none⟩,
    ⟨(some 8), .bin .geq (.t 7) (.c (.i .i64 0)), none⟩,
    ⟨(some 4), .mv (.t 8), none⟩])
  .ret)) }
def c_cmp_Less_string : Fun := { cin := [.id, .id], cout := [.id], ntmps := 17, keep := false, res := [(4, none)], body :=
  (.seq (.reg [⟨(some 4), .mv (.c (.b false)), none⟩])
  (.seq (.reg [⟨(some 5), .mv (.t 0), none⟩,
    ⟨(some 6), .call f_cmp_isNaN_string [(.t 5)], none⟩,
    ⟨(some 7), .mv (.t 6), none⟩,
    ⟨(some 8), .mv (.t 1), (some (7, true))⟩,
    ⟨(some 9), .call f_cmp_isNaN_string [(.t 8)], (some (7, true))⟩,
    ⟨(some 10), .un .not (.t 9), (some (7, true))⟩,
    ⟨(some 11), .pick (.t 7) (.t 10) (.c (.b false)), none⟩,
    ⟨(some 12), .mv (.t 11), none⟩,
    ⟨(some 13), .mv (.t 0), (some (12, false))⟩,
    ⟨(some 14), .mv (.t 1), (some (12, false))⟩,
    ⟨(some 15), .bin .lss (.t 13) (.t 14), (some (12, false))⟩,
    ⟨(some 16), .pick (.t 12) (.c (.b true)) (.t 15), none⟩,
    ⟨(some 4), .mv (.t 16), none⟩])
  .ret)) }
def c_slices_isNaN_string : Fun := { cin := [.id], cout := [.id], ntmps := 6, keep := false, res := [(2, none)], body :=
  (.seq (.reg [⟨(some 2), .mv (.c (.b false)), none⟩])
  (.seq (.reg [⟨(some 3), .mv (.t 0), none⟩,
    ⟨(some 4), .mv (.t 0), none⟩,
    ⟨(some 5), .bin .neq (.t 3) (.t 4), none⟩,
    ⟨(some 2), .mv (.t 5), none⟩])
  .ret)) }
def c_slices_rotateRight_string : Fun := { cin := [(.sl 1 .id), .id], cout := [], ntmps := 10, keep := false, res := [], body :=
  (.reg [⟨(some 4), .mv (.t 0), none⟩,
    ⟨(some 5), .mv (.t 0), none⟩,
    ⟨(some 6), .len 1 (.t 5), none⟩,
    ⟨(some 7), .mv (.t 1), none⟩,
    ⟨(some 8), .bin .sub (.t 6) (.t 7), none⟩,
    ⟨(some 9), .call f_slices_rotateLeft_string [(.t 4), (.t 8)], none⟩]) }
def c_slices_rotateRight_int : Fun := { cin := [(.sl 1 .id), .id], cout := [], ntmps := 10, keep := false, res := [], body :=
  (.reg [⟨(some 4), .mv (.t 0), none⟩,
    ⟨(some 5), .mv (.t 0), none⟩,
    ⟨(some 6), .len 1 (.t 5), none⟩,
    ⟨(some 7), .mv (.t 1), none⟩,
    ⟨(some 8), .bin .sub (.t 6) (.t 7), none⟩,
    ⟨(some 9), .call f_slices_rotateLeft_int [(.t 4), (.t 8)], none⟩]) }
def c_slices_Sorted_int : Fun := { cin := [.id], cout := [(.sl 1 .id)], ntmps := 9, keep := false, res := [(2, none)], body :=
  (.seq (.reg [⟨(some 2), .mv (.c .nsl), none⟩])
  (.seq (.reg [⟨(some 4), .mv (.t 0), none⟩,
    ⟨(some 5), .call f_slices_Collect_int [(.t 4)], none⟩,
    ⟨(some 3), .mv (.t 5), none⟩])
  (.seq (.seq (.thw 3)
  (.reg [⟨(some 6), .mv (.t 3), none⟩,
    ⟨(some 7), .call f_slices_Sort_int_int [(.t 6)], none⟩]))
  (.seq (.reg [⟨(some 8), .mv (.t 3), none⟩,
    ⟨(some 2), .mv (.t 8), none⟩])
  .ret)))) }
def c_slices_Values_int_int : Fun := { cin := [(.sl 1 .id)], cout := [.id], ntmps := 4, keep := false, res := [(2, none)], body :=
  (.seq (.reg [⟨(some 1), .box 23 1 (.t 0), none⟩,
    ⟨(some 2), .mv (.c .nf), none⟩])
  (.seq (.reg [⟨(some 3), .mkf f_slices_Values_int_int_1 [(.t 1)], none⟩,
    ⟨(some 2), .mv (.t 3), none⟩])
  .ret)) }
def c_slices_ContainsFunc_int_int : Fun := { cin := [(.sl 1 .id), .id], cout := [.id], ntmps := 9, keep := false, res := [(4, none)], body :=
  (.seq (.reg [⟨(some 4), .mv (.c (.b false)), none⟩])
  (.seq (.reg [⟨(some 5), .mv (.t 0), none⟩,
    ⟨(some 6), .mv (.t 1), none⟩,
    ⟨(some 7), .call f_slices_IndexFunc_int_int [(.t 5), (.t 6)], none⟩,
    ⟨(some 8), .bin .geq (.t 7) (.c (.i .i64 0)), none⟩,
    ⟨(some 4), .mv (.t 8), none⟩])
  .ret)) }
def c_store_there_1 : Fun := { cin := [.id], cout := [.id], ntmps := 17, keep := false, res := [(3, none)], body :=
  (.seq (.reg [⟨(some 3), .mv (.c (.b false)), none⟩])
  (.seq (.reg [⟨(some 4), .ld false 1 (.t 1), none⟩,
    ⟨(some 5), .mv (.t 0), none⟩,
    ⟨(some 6), .ia 6 (.t 4) (.t 5), none⟩,
    ⟨(some 7), .fa 0 (.t 6), none⟩,
    ⟨(some 8), .ld false 1 (.t 7), none⟩,
    ⟨(some 9), .mv (.t 8), none⟩,
    ⟨(some 10), .ld false 1 (.t 1), (some (9, true))⟩,
    ⟨(some 11), .mv (.t 0), (some (9, true))⟩,
    ⟨(some 12), .ia 6 (.t 10) (.t 11), (some (9, true))⟩,
    ⟨(some 13), .fa 1 (.t 12), (some (9, true))⟩,
    ⟨(some 14), .ld false 1 (.t 13), (some (9, true))⟩,
    ⟨(some 15), .bin .neq (.t 14) (.c (.i .u8 0)), (some (9, true))⟩,
    ⟨(some 16), .pick (.t 9) (.t 15) (.c (.b false)), none⟩,
    ⟨(some 3), .mv (.t 16), none⟩])
  .ret)) }
def c_fork_kinds_1 : Fun := { cin := [.id], cout := [], ntmps := 19, keep := false, res := [], body :=
  (.seq (.reg [⟨(some 4), .mv (.c (.i .u8 0)), none⟩])
  (.blk 0 (.loop (.seq (.reg [⟨(some 5), .bin .lss (.t 4) (.c (.i .u8 4)), none⟩])
    (.seq (.cond (.t 5)
     .skip
     (.exit 0))
    (.seq (.blk 1 (.seq (.reg [⟨(some 6), .mv (.t 4), none⟩,
       ⟨(some 3), .mv (.t 6), none⟩])
     (.seq (.reg [⟨(some 7), .mv (.t 3), none⟩,
       ⟨(some 8), .bin .neq (.t 7) (.c (.i .u8 3)), none⟩,
       ⟨(some 9), .mv (.t 8), none⟩,
       ⟨(some 10), .ld false 1 (.t 1), (some (9, false))⟩,
       ⟨(some 11), .pick (.t 9) (.c (.b true)) (.t 10), none⟩,
       ⟨(some 12), .mv (.t 11), none⟩,
       ⟨(some 13), .mv (.t 0), (some (12, true))⟩,
       ⟨(some 14), .mv (.t 3), (some (12, true))⟩,
       ⟨(some 15), .callX (.t 13) [(.t 14)], (some (12, true))⟩,
       ⟨(some 16), .un .not (.t 15), (some (12, true))⟩,
       ⟨(some 17), .pick (.t 12) (.t 16) (.c (.b false)), none⟩])
     (.cond (.t 17)
      .ret
      .skip))))
    (.reg [⟨(some 18), .bin .add (.t 4) (.c (.i .u8 1)), none⟩,
      ⟨(some 4), .mv (.t 18), none⟩]))))))) }
def c_pat_dir : Fun := { cin := [(.agg [.id, .id, (.sl 1 .id), (.sl 1 .id), .id, .id])], cout := [.id], ntmps := 10, keep := false, res := [(2, none)], body :=
  (.seq (.reg [⟨(some 1), .box 25 6 (.t 0), none⟩,
    ⟨(some 2), .mv (.c (.b false)), none⟩])
  (.seq (.reg [⟨(some 3), .fa 0 (.t 1), none⟩,
    ⟨(some 4), .ld false 1 (.t 3), none⟩,
    ⟨(some 5), .mv (.t 4), none⟩,
    ⟨(some 6), .fa 1 (.t 1), (some (5, true))⟩,
    ⟨(some 7), .ld false 1 (.t 6), (some (5, true))⟩,
    ⟨(some 8), .bin .eql (.t 7) (.c (.i .u8 2)), (some (5, true))⟩,
    ⟨(some 9), .pick (.t 5) (.t 8) (.c (.b false)), none⟩,
    ⟨(some 2), .mv (.t 9), none⟩])
  .ret)) }
def c_pat_one : Fun := { cin := [(.agg [.id, .id, (.sl 1 .id), (.sl 1 .id), .id, .id])], cout := [.id], ntmps := 99, keep := false, res := [(2, none)], body :=
  (.seq (.reg [⟨(some 1), .box 25 6 (.t 0), none⟩,
    ⟨(some 2), .mv (.c (.b false)), none⟩])
  (.seq (.blk 0 (.seq (.reg [⟨(some 6), .fa 1 (.t 1), none⟩,
     ⟨(some 7), .ld false 1 (.t 6), none⟩,
     ⟨(some 8), .bin .gtr (.t 7) (.c (.i .u8 3)), none⟩,
     ⟨(some 9), .mv (.t 8), none⟩,
     ⟨(some 10), .fa 0 (.t 1), (some (9, false))⟩,
     ⟨(some 11), .ld false 1 (.t 10), (some (9, false))⟩,
     ⟨(some 12), .un .not (.t 11), (some (9, false))⟩,
     ⟨(some 13), .mv (.t 12), (some (9, false))⟩,
     ⟨(some 14), .fa 1 (.t 1), (some (13, true))⟩,
     ⟨(some 15), .ld false 1 (.t 14), (some (13, true))⟩,
     ⟨(some 16), .bin .neq (.t 15) (.c (.i .u8 0)), (some (13, true))⟩,
     ⟨(some 17), .pick (.t 13) (.t 16) (.c (.b false)), (some (9, false))⟩,
     ⟨(some 18), .pick (.t 9) (.c (.b true)) (.t 17), none⟩,
     ⟨(some 19), .mv (.t 18), none⟩,
     ⟨(some 20), .fa 2 (.t 1), (some (19, false))⟩,
     ⟨(some 21), .ld false 1 (.t 20), (some (19, false))⟩,
     ⟨(some 22), .len 1 (.t 21), (some (19, false))⟩,
     ⟨(some 23), .fa 3 (.t 1), (some (19, false))⟩,
     ⟨(some 24), .ld false 1 (.t 23), (some (19, false))⟩,
     ⟨(some 25), .len 1 (.t 24), (some (19, false))⟩,
     ⟨(some 26), .bin .neq (.t 22) (.t 25), (some (19, false))⟩,
     ⟨(some 27), .pick (.t 19) (.c (.b true)) (.t 26), none⟩,
     ⟨(some 5), .mv (.t 27), none⟩])
   (.cond (.t 5)
    (.seq (.reg [⟨(some 2), .mv (.c (.b false)), none⟩])
    .ret)
    (.seq (.reg [⟨(some 29), .ld true 6 (.t 1), none⟩,
      ⟨(some 30), .call f_pat_dir [(.t 29)], none⟩,
      ⟨(some 31), .un .not (.t 30), none⟩,
      ⟨(some 28), .mv (.t 31), none⟩])
    (.cond (.t 28)
     (.seq (.reg [⟨(some 32), .fa 2 (.t 1), none⟩,
       ⟨(some 33), .ld false 1 (.t 32), none⟩,
       ⟨(some 34), .len 1 (.t 33), none⟩,
       ⟨(some 35), .bin .eql (.t 34) (.c (.i .i64 0)), none⟩,
       ⟨(some 36), .mv (.t 35), none⟩,
       ⟨(some 37), .fa 4 (.t 1), (some (36, true))⟩,
       ⟨(some 38), .ld false 1 (.t 37), (some (36, true))⟩,
       ⟨(some 39), .bin .eql (.t 38) (.c (.i .i64 0)), (some (36, true))⟩,
       ⟨(some 40), .pick (.t 36) (.t 39) (.c (.b false)), none⟩,
       ⟨(some 41), .mv (.t 40), none⟩,
       ⟨(some 42), .fa 5 (.t 1), (some (41, true))⟩,
       ⟨(some 43), .ld false 1 (.t 42), (some (41, true))⟩,
       ⟨(some 44), .bin .eql (.t 43) (.c (.i .i64 0)), (some (41, true))⟩,
       ⟨(some 45), .pick (.t 41) (.t 44) (.c (.b false)), none⟩,
       ⟨(some 2), .mv (.t 45), none⟩])
     .ret)
     .skip)))))
  (.seq (.seq (.reg [⟨(some 46), .fa 2 (.t 1), none⟩,
    ⟨(some 47), .ld false 1 (.t 46), none⟩,
    ⟨(some 48), .len 1 (.t 47), none⟩,
    ⟨(some 49), .mv (.c (.i .i64 0)), none⟩])
  (.blk 1 (.loop (.seq (.reg [⟨(some 50), .bin .lss (.t 49) (.t 48), none⟩])
    (.seq (.cond (.t 50)
     .skip
     (.exit 1))
    (.seq (.blk 2 (.seq (.reg [⟨(some 51), .mv (.t 49), none⟩,
       ⟨(some 52), .ia 1 (.t 47) (.t 49), none⟩,
       ⟨(some 53), .ld false 1 (.t 52), none⟩,
       ⟨(some 3), .mv (.t 51), none⟩,
       ⟨(some 4), .mv (.t 53), none⟩])
     (.seq (.reg [⟨(some 54), .mv (.t 4), none⟩,
       ⟨(some 55), .call f_path_Name [(.t 54)], none⟩,
       ⟨(some 56), .un .not (.t 55), none⟩,
       ⟨(some 57), .mv (.t 56), none⟩,
       ⟨(some 58), .mv (.t 3), (some (57, false))⟩,
       ⟨(some 59), .bin .gtr (.t 58) (.c (.i .i64 0)), (some (57, false))⟩,
       ⟨(some 60), .mv (.t 59), (some (57, false))⟩,
       ⟨(some 61), .mv (.t 4), (some (60, true))⟩,
       ⟨(some 62), .fa 2 (.t 1), (some (60, true))⟩,
       ⟨(some 63), .ld false 1 (.t 62), (some (60, true))⟩,
       ⟨(some 64), .mv (.t 3), (some (60, true))⟩,
       ⟨(some 65), .bin .sub (.t 64) (.c (.i .i64 1)), (some (60, true))⟩,
       ⟨(some 66), .ia 1 (.t 63) (.t 65), (some (60, true))⟩,
       ⟨(some 67), .ld false 1 (.t 66), (some (60, true))⟩,
       ⟨(some 68), .bin .leq (.t 61) (.t 67), (some (60, true))⟩,
       ⟨(some 69), .pick (.t 60) (.t 68) (.c (.b false)), (some (57, false))⟩,
       ⟨(some 70), .pick (.t 57) (.c (.b true)) (.t 69), none⟩])
     (.cond (.t 70)
      (.seq (.reg [⟨(some 2), .mv (.c (.b false)), none⟩])
      .ret)
      .skip))))
    (.reg [⟨(some 71), .bin .add (.t 49) (.c (.i .i64 1)), none⟩,
      ⟨(some 49), .mv (.t 71), none⟩])))))))
  (.seq (.seq (.reg [⟨(some 72), .fa 4 (.t 1), none⟩,
    ⟨(some 73), .ld false 1 (.t 72), none⟩,
    ⟨(some 74), .bin .eql (.t 73) (.c (.i .i64 2)), none⟩])
  (.cond (.t 74)
   (.seq (.reg [⟨(some 75), .fa 5 (.t 1), none⟩,
     ⟨(some 76), .ld false 1 (.t 75), none⟩,
     ⟨(some 77), .bin .geq (.t 76) (.c (.i .i64 0)), none⟩,
     ⟨(some 78), .mv (.t 77), none⟩,
     ⟨(some 79), .fa 5 (.t 1), (some (78, true))⟩,
     ⟨(some 80), .ld false 1 (.t 79), (some (78, true))⟩,
     ⟨(some 81), .fa 2 (.t 1), (some (78, true))⟩,
     ⟨(some 82), .ld false 1 (.t 81), (some (78, true))⟩,
     ⟨(some 83), .len 1 (.t 82), (some (78, true))⟩,
     ⟨(some 84), .bin .leq (.t 80) (.t 83), (some (78, true))⟩,
     ⟨(some 85), .pick (.t 78) (.t 84) (.c (.b false)), none⟩,
     ⟨(some 2), .mv (.t 85), none⟩])
   .ret)
   .skip))
  (.seq (.reg [⟨(some 86), .fa 4 (.t 1), none⟩,
    ⟨(some 87), .ld false 1 (.t 86), none⟩,
    ⟨(some 88), .bin .eql (.t 87) (.c (.i .i64 0)), none⟩,
    ⟨(some 89), .mv (.t 88), none⟩,
    ⟨(some 90), .fa 4 (.t 1), (some (89, false))⟩,
    ⟨(some 91), .ld false 1 (.t 90), (some (89, false))⟩,
    ⟨(some 92), .bin .eql (.t 91) (.c (.i .i64 1)), (some (89, false))⟩,
    ⟨(some 93), .pick (.t 89) (.c (.b true)) (.t 92), none⟩,
    ⟨(some 94), .mv (.t 93), none⟩,
    ⟨(some 95), .fa 5 (.t 1), (some (94, true))⟩,
    ⟨(some 96), .ld false 1 (.t 95), (some (94, true))⟩,
    ⟨(some 97), .bin .eql (.t 96) (.c (.i .i64 0)), (some (94, true))⟩,
    ⟨(some 98), .pick (.t 94) (.t 97) (.c (.b false)), none⟩,
    ⟨(some 2), .mv (.t 98), none⟩])
  .ret))))) }
def c_pat_May_1 : Fun := { cin := [.id], cout := [.id], ntmps := 5, keep := false, res := [(2, none)], body :=
  (.seq (.reg [⟨(some 2), .mv (.c (.b false)), none⟩])
  (.seq (.reg [⟨(some 3), .mv (.t 0), none⟩,
    ⟨(some 4), .bin .neq (.t 3) (.c (.i .i64 1)), none⟩,
    ⟨(some 2), .mv (.t 4), none⟩])
  .ret)) }
def c_slices_Clone_string_string : Fun := { cin := [(.sl 1 .id)], cout := [], ntmps := 8, keep := true, res := [(2, none)], body :=
  (.seq (.reg [⟨(some 2), .mv (.c .nsl), none⟩])
  (.seq (.seq (.reg [⟨(some 3), .mv (.t 0), none⟩,
    ⟨(some 4), .eq .sl false (.t 3) (.c .nsl), none⟩])
  (.cond (.t 4)
   (.seq (.reg [⟨(some 2), .mv (.c .nsl), none⟩])
   .ret)
   .skip))
  (.seq (.reg [⟨(some 5), .bsl 1 [], none⟩,
    ⟨(some 6), .mv (.t 0), none⟩,
    ⟨(some 7), .app 1 9 (.t 5) (.t 6), none⟩,
    ⟨(some 2), .mv (.t 7), none⟩])
  .ret))) }
def c_slices_Clone_int_int : Fun := { cin := [(.sl 1 .id)], cout := [], ntmps := 8, keep := true, res := [(2, none)], body :=
  (.seq (.reg [⟨(some 2), .mv (.c .nsl), none⟩])
  (.seq (.seq (.reg [⟨(some 3), .mv (.t 0), none⟩,
    ⟨(some 4), .eq .sl false (.t 3) (.c .nsl), none⟩])
  (.cond (.t 4)
   (.seq (.reg [⟨(some 2), .mv (.c .nsl), none⟩])
   .ret)
   .skip))
  (.seq (.reg [⟨(some 5), .bsl 1 [], none⟩,
    ⟨(some 6), .mv (.t 0), none⟩,
    ⟨(some 7), .app 1 3 (.t 5) (.t 6), none⟩,
    ⟨(some 2), .mv (.t 7), none⟩])
  .ret))) }
def c_strings_IndexAny : Fun := { cin := [.id, .id], cout := [.id], ntmps := 55, keep := false, res := [(4, none)], body :=
  (.seq (.reg [⟨(some 4), .mv (.c (.i .i64 0)), none⟩])
  (.seq (.seq (.reg [⟨(some 11), .mv (.t 1), none⟩,
    ⟨(some 12), .bin .eql (.t 11) (.c (.s [])), none⟩])
  (.cond (.t 12)
   (.seq (.reg [⟨(some 4), .mv (.c (.i .i64 (-1))), none⟩])
   .ret)
   .skip))
  (.seq (.seq (.reg [⟨(some 13), .mv (.t 1), none⟩,
    ⟨(some 14), .len 0 (.t 13), none⟩,
    ⟨(some 15), .bin .eql (.t 14) (.c (.i .i64 1)), none⟩])
  (.cond (.t 15)
   (.seq (.reg [⟨(some 16), .mv (.t 1), none⟩,
     ⟨(some 17), .ixS (.t 16) (.c (.i .i64 0)), none⟩,
     ⟨(some 18), .cvI .i32 (.t 17), none⟩,
     ⟨(some 5), .mv (.t 18), none⟩])
   (.seq (.seq (.reg [⟨(some 19), .mv (.t 5), none⟩,
     ⟨(some 20), .bin .geq (.t 19) (.c (.i .i32 128)), none⟩])
   (.cond (.t 20)
    (.reg [⟨(some 5), .mv (.c (.i .i32 65533)), none⟩])
    .skip))
   (.seq (.reg [⟨(some 21), .mv (.t 0), none⟩,
     ⟨(some 22), .mv (.t 5), none⟩,
     ⟨(some 23), .call f_strings_IndexRune [(.t 21), (.t 22)], none⟩,
     ⟨(some 4), .mv (.t 23), none⟩])
   .ret)))
   .skip))
  (.seq (.seq (.reg [⟨(some 24), .mv (.t 0), none⟩,
    ⟨(some 25), .len 0 (.t 24), none⟩,
    ⟨(some 26), .call f_strings_shouldUseASCIISet [(.t 25)], none⟩])
  (.cond (.t 26)
   (.seq (.reg [⟨(some 28), .mv (.t 1), none⟩,
     ⟨(some 29), .call f_strings_makeASCIISet [(.t 28)], none⟩,
     ⟨(some 27), .mv (.t 29), none⟩,
     ⟨(some 30), .ext (.t 27) 0, none⟩,
     ⟨(some 31), .ext (.t 27) 1, none⟩,
     ⟨(some 6), .alloc 81 [(.b false), (.b false), (.b false), (.b false), (.b false), (.b false), (.b false), (.b false), (.b false), (.b false), (.b false), (.b false), (.b false), (.b false), (.b false), (.b false), (.b false), (.b false), (.b false), (.b false), (.b false), (.b false), (.b false), (.b false), (.b false), (.b false), (.b false), (.b false), (.b false), (.b false), (.b false), (.b false), (.b false), (.b false), (.b false), (.b false), (.b false), (.b false), (.b false), (.b false), (.b false), (.b false), (.b false), (.b false), (.b false), (.b false), (.b false), (.b false), (.b false), (.b false), (.b false), (.b false), (.b false), (.b false), (.b false), (.b false), (.b false), (.b false), (.b false), (.b false), (.b false), (.b false), (.b false), (.b false), (.b false), (.b false), (.b false), (.b false), (.b false), (.b false), (.b false), (.b false), (.b false), (.b false), (.b false), (.b false), (.b false), (.b false), (.b false), (.b false), (.b false), (.b false), (.b false), (.b false), (.b false), (.b false), (.b false), (.b false), (.b false), (.b false), (.b false), (.b false), (.b false), (.b false), (.b false), (.b false), (.b false), (.b false), (.b false), (.b false), (.b false), (.b false), (.b false), (.b false), (.b false), (.b false), (.b false), (.b false), (.b false), (.b false), (.b false), (.b false), (.b false), (.b false), (.b false), (.b false), (.b false), (.b false), (.b false), (.b false), (.b false), (.b false), (.b false), (.b false), (.b false), (.b false), (.b false), (.b false), (.b false), (.b false), (.b false), (.b false), (.b false), (.b false), (.b false), (.b false), (.b false), (.b false), (.b false), (.b false), (.b false), (.b false), (.b false), (.b false), (.b false), (.b false), (.b false), (.b false), (.b false), (.b false), (.b false), (.b false), (.b false), (.b false), (.b false), (.b false), (.b false), (.b false), (.b false), (.b false), (.b false), (.b false), (.b false), (.b false), (.b false), (.b false), (.b false), (.b false), (.b false), (.b false), (.b false), (.b false), (.b false), (.b false), (.b false), (.b false), (.b false), (.b false), (.b false), (.b false), (.b false), (.b false), (.b false), (.b false), (.b false), (.b false), (.b false), (.b false), (.b false), (.b false), (.b false), (.b false), (.b false), (.b false), (.b false), (.b false), (.b false), (.b false), (.b false), (.b false), (.b false), (.b false), (.b false), (.b false), (.b false), (.b false), (.b false), (.b false), (.b false), (.b false), (.b false), (.b false), (.b false), (.b false), (.b false), (.b false), (.b false), (.b false), (.b false), (.b false), (.b false), (.b false), (.b false), (.b false), (.b false), (.b false), (.b false), (.b false), (.b false), (.b false), (.b false), (.b false), (.b false), (.b false), (.b false), (.b false), (.b false), (.b false), (.b false), (.b false), (.b false), (.b false), (.b false), (.b false), (.b false), (.b false), (.b false), (.b false), (.b false), (.b false), (.b false), (.b false), (.b false), (.b false), (.b false), (.b false)], none⟩,
     ⟨none, .st 256 (.t 6) (.t 30), none⟩,
     ⟨(some 7), .mv (.t 31), none⟩])
   (.seq (.reg [⟨(some 32), .mv (.t 7), none⟩])
   (.cond (.t 32)
    (.seq (.seq (.reg [⟨(some 8), .mv (.c (.i .i64 0)), none⟩])
    (.blk 0 (.loop (.seq (.seq (.reg [⟨(some 33), .mv (.t 8), none⟩,
        ⟨(some 34), .mv (.t 0), none⟩,
        ⟨(some 35), .len 0 (.t 34), none⟩,
        ⟨(some 36), .bin .lss (.t 33) (.t 35), none⟩])
      (.cond (.t 36)
       .skip
       (.exit 0)))
      (.seq (.blk 1 (.seq (.reg [⟨(some 39), .mv (.t 0), none⟩,
         ⟨(some 40), .mv (.t 8), none⟩,
         ⟨(some 41), .ixS (.t 39) (.t 40), none⟩,
         ⟨(some 42), .call f_strings_asciiSet_contains [(.t 6), (.t 41)], none⟩])
       (.cond (.t 42)
        (.seq (.reg [⟨(some 43), .mv (.t 8), none⟩,
          ⟨(some 4), .mv (.t 43), none⟩])
        .ret)
        .skip)))
      (.reg [⟨(some 37), .mv (.t 8), none⟩,
        ⟨(some 38), .bin .add (.t 37) (.c (.i .i64 1)), none⟩,
        ⟨(some 8), .mv (.t 38), none⟩]))))))
    (.seq (.reg [⟨(some 4), .mv (.c (.i .i64 (-1))), none⟩])
    .ret))
    .skip)))
   .skip))
  (.seq (.seq (.reg [⟨(some 44), .mv (.t 0), none⟩,
    ⟨(some 45), .siter (.t 44), none⟩])
  (.blk 2 (.loop (.seq (.reg [⟨(some 46), .snext (.t 45), none⟩,
      ⟨(some 47), .ext (.t 46) 0, none⟩])
    (.seq (.cond (.t 47)
     .skip
     (.exit 2))
    (.blk 3 (.seq (.reg [⟨(some 48), .ext (.t 46) 1, none⟩,
       ⟨(some 49), .ext (.t 46) 2, none⟩,
       ⟨(some 9), .mv (.t 48), none⟩,
       ⟨(some 10), .mv (.t 49), none⟩])
     (.seq (.reg [⟨(some 50), .mv (.t 1), none⟩,
       ⟨(some 51), .mv (.t 10), none⟩,
       ⟨(some 52), .call f_strings_IndexRune [(.t 50), (.t 51)], none⟩,
       ⟨(some 53), .bin .geq (.t 52) (.c (.i .i64 0)), none⟩])
     (.cond (.t 53)
      (.seq (.reg [⟨(some 54), .mv (.t 9), none⟩,
        ⟨(some 4), .mv (.t 54), none⟩])
      .ret)
      .skip)))))))))
  (.seq (.reg [⟨(some 4), .mv (.c (.i .i64 (-1))), none⟩])
  .ret)))))) }
def c_cmp_isNaN_string : Fun := { cin := [.id], cout := [.id], ntmps := 6, keep := false, res := [(2, none)], body :=
  (.seq (.reg [⟨(some 2), .mv (.c (.b false)), none⟩])
  (.seq (.reg [⟨(some 3), .mv (.t 0), none⟩,
    ⟨(some 4), .mv (.t 0), none⟩,
    ⟨(some 5), .bin .neq (.t 3) (.t 4), none⟩,
    ⟨(some 2), .mv (.t 5), none⟩])
  .ret)) }
def c_slices_rotateLeft_string : Fun := { cin := [(.sl 1 .id), .id], cout := [], ntmps := 14, keep := false, res := [], body :=
  (.seq (.reg [⟨(some 4), .mv (.t 0), none⟩,
    ⟨(some 5), .mv (.t 1), none⟩,
    ⟨(some 6), .slc false 1 (.t 4) none (some (.t 5)) none, none⟩,
    ⟨(some 7), .call f_slices_Reverse_string_string [(.t 6)], none⟩])
  (.seq (.reg [⟨(some 8), .mv (.t 0), none⟩,
    ⟨(some 9), .mv (.t 1), none⟩,
    ⟨(some 10), .slc false 1 (.t 8) (some (.t 9)) none none, none⟩,
    ⟨(some 11), .call f_slices_Reverse_string_string [(.t 10)], none⟩])
  (.seq (.thw 0)
  (.reg [⟨(some 12), .mv (.t 0), none⟩,
    ⟨(some 13), .call f_slices_Reverse_string_string [(.t 12)], none⟩])))) }
def c_slices_rotateLeft_int : Fun := { cin := [(.sl 1 .id), .id], cout := [], ntmps := 14, keep := false, res := [], body :=
  (.seq (.reg [⟨(some 4), .mv (.t 0), none⟩,
    ⟨(some 5), .mv (.t 1), none⟩,
    ⟨(some 6), .slc false 1 (.t 4) none (some (.t 5)) none, none⟩,
    ⟨(some 7), .call f_slices_Reverse_int_int [(.t 6)], none⟩])
  (.seq (.reg [⟨(some 8), .mv (.t 0), none⟩,
    ⟨(some 9), .mv (.t 1), none⟩,
    ⟨(some 10), .slc false 1 (.t 8) (some (.t 9)) none none, none⟩,
    ⟨(some 11), .call f_slices_Reverse_int_int [(.t 10)], none⟩])
  (.seq (.thw 0)
  (.reg [⟨(some 12), .mv (.t 0), none⟩,
    ⟨(some 13), .call f_slices_Reverse_int_int [(.t 12)], none⟩])))) }
def c_slices_Collect_int : Fun := { cin := [.id], cout := [(.sl 1 .id)], ntmps := 5, keep := false, res := [(2, none)], body :=
  (.seq (.reg [⟨(some 2), .mv (.c .nsl), none⟩])
  (.seq (.reg [⟨(some 3), .mv (.t 0), none⟩,
    ⟨(some 4), .call f_slices_AppendSeq_int_int [(.c .nsl), (.t 3)], none⟩,
    ⟨(some 2), .mv (.t 4), none⟩])
  .ret)) }
def c_slices_Sort_int_int : Fun := { cin := [(.sl 1 .id)], cout := [], ntmps := 11, keep := false, res := [], body :=
  (.seq (.reg [⟨(some 3), .mv (.t 0), none⟩,
    ⟨(some 4), .len 1 (.t 3), none⟩,
    ⟨(some 2), .mv (.t 4), none⟩])
  (.reg [⟨(some 5), .mv (.t 0), none⟩,
    ⟨(some 6), .mv (.t 2), none⟩,
    ⟨(some 7), .mv (.t 2), none⟩,
    ⟨(some 8), .cvI .u64 (.t 7), none⟩,
    ⟨(some 9), .call f_math_bits_Len [(.t 8)], none⟩,
    ⟨(some 10), .call f_slices_pdqsortOrdered_int [(.t 5), (.c (.i .i64 0)), (.t 6), (.t 9)], none⟩])) }
def c_slices_Values_int_int_1 : Fun := { cin := [.id], cout := [], ntmps := 16, keep := false, res := [], body :=
  (.seq (.reg [⟨(some 5), .ld false 1 (.t 1), none⟩,
    ⟨(some 6), .len 1 (.t 5), none⟩,
    ⟨(some 7), .mv (.c (.i .i64 0)), none⟩])
  (.blk 0 (.loop (.seq (.reg [⟨(some 8), .bin .lss (.t 7) (.t 6), none⟩])
    (.seq (.cond (.t 8)
     .skip
     (.exit 0))
    (.seq (.blk 1 (.seq (.reg [⟨(some 9), .ia 1 (.t 5) (.t 7), none⟩,
       ⟨(some 10), .ld false 1 (.t 9), none⟩,
       ⟨(some 4), .mv (.t 10), none⟩])
     (.seq (.reg [⟨(some 11), .mv (.t 0), none⟩,
       ⟨(some 12), .mv (.t 4), none⟩,
       ⟨(some 13), .callX (.t 11) [(.t 12)], none⟩,
       ⟨(some 14), .un .not (.t 13), none⟩])
     (.cond (.t 14)
      .ret
      .skip))))
    (.reg [⟨(some 15), .bin .add (.t 7) (.c (.i .i64 1)), none⟩,
      ⟨(some 7), .mv (.t 15), none⟩]))))))) }
def c_slices_IndexFunc_int_int : Fun := { cin := [(.sl 1 .id), .id], cout := [.id], ntmps := 19, keep := false, res := [(4, none)], body :=
  (.seq (.reg [⟨(some 4), .mv (.c (.i .i64 0)), none⟩])
  (.seq (.seq (.reg [⟨(some 6), .mv (.t 0), none⟩,
    ⟨(some 7), .len 1 (.t 6), none⟩,
    ⟨(some 8), .mv (.c (.i .i64 0)), none⟩])
  (.blk 0 (.loop (.seq (.reg [⟨(some 9), .bin .lss (.t 8) (.t 7), none⟩])
    (.seq (.cond (.t 9)
     .skip
     (.exit 0))
    (.seq (.blk 1 (.seq (.reg [⟨(some 10), .mv (.t 8), none⟩,
       ⟨(some 5), .mv (.t 10), none⟩])
     (.seq (.reg [⟨(some 11), .mv (.t 1), none⟩,
       ⟨(some 12), .mv (.t 0), none⟩,
       ⟨(some 13), .mv (.t 5), none⟩,
       ⟨(some 14), .ia 1 (.t 12) (.t 13), none⟩,
       ⟨(some 15), .ld false 1 (.t 14), none⟩,
       ⟨(some 16), .callX (.t 11) [(.t 15)], none⟩])
     (.cond (.t 16)
      (.seq (.reg [⟨(some 17), .mv (.t 5), none⟩,
        ⟨(some 4), .mv (.t 17), none⟩])
      .ret)
      .skip))))
    (.reg [⟨(some 18), .bin .add (.t 8) (.c (.i .i64 1)), none⟩,
      ⟨(some 8), .mv (.t 18), none⟩])))))))
  (.seq (.reg [⟨(some 4), .mv (.c (.i .i64 (-1))), none⟩])
  .ret))) }
def c_strings_IndexRune : Fun := { cin := [.id, .id], cout := [.id], ntmps := 187, keep := false, res := [(4, none)], body :=
  (.seq (.reg [⟨(some 4), .mv (.c (.i .i64 0)), none⟩])
  (.blk 0 (.seq (.reg [⟨(some 161), .mv (.t 1), none⟩,
     ⟨(some 162), .bin .leq (.c (.i .i32 0)) (.t 161), none⟩,
     ⟨(some 163), .mv (.t 162), none⟩,
     ⟨(some 164), .mv (.t 1), (some (163, true))⟩,
     ⟨(some 165), .bin .lss (.t 164) (.c (.i .i32 128)), (some (163, true))⟩,
     ⟨(some 166), .pick (.t 163) (.t 165) (.c (.b false)), none⟩,
     ⟨(some 160), .mv (.t 166), none⟩])
   (.cond (.t 160)
    (.seq (.reg [⟨(some 167), .mv (.t 0), none⟩,
      ⟨(some 168), .mv (.t 1), none⟩,
      ⟨(some 169), .cvI .u8 (.t 168), none⟩,
      ⟨(some 170), .call f_strings_IndexByte [(.t 167), (.t 169)], none⟩,
      ⟨(some 4), .mv (.t 170), none⟩])
    .ret)
    (.seq (.reg [⟨(some 172), .mv (.t 1), none⟩,
      ⟨(some 173), .bin .eql (.t 172) (.c (.i .i32 65533)), none⟩,
      ⟨(some 171), .mv (.t 173), none⟩])
    (.cond (.t 171)
     (.seq (.seq (.reg [⟨(some 174), .mv (.t 0), none⟩,
       ⟨(some 175), .siter (.t 174), none⟩])
     (.blk 9 (.loop (.seq (.reg [⟨(some 176), .snext (.t 175), none⟩,
         ⟨(some 177), .ext (.t 176) 0, none⟩])
       (.seq (.cond (.t 177)
        .skip
        (.exit 9))
       (.blk 10 (.seq (.reg [⟨(some 178), .ext (.t 176) 1, none⟩,
          ⟨(some 179), .ext (.t 176) 2, none⟩,
          ⟨(some 5), .mv (.t 178), none⟩,
          ⟨(some 6), .mv (.t 179), none⟩])
        (.seq (.reg [⟨(some 180), .mv (.t 6), none⟩,
          ⟨(some 181), .bin .eql (.t 180) (.c (.i .i32 65533)), none⟩])
        (.cond (.t 181)
         (.seq (.reg [⟨(some 182), .mv (.t 5), none⟩,
           ⟨(some 4), .mv (.t 182), none⟩])
         .ret)
         .skip)))))))))
     (.seq (.reg [⟨(some 4), .mv (.c (.i .i64 (-1))), none⟩])
     .ret))
     (.seq (.reg [⟨(some 184), .mv (.t 1), none⟩,
       ⟨(some 185), .call f_unicode_utf8_ValidRune [(.t 184)], none⟩,
       ⟨(some 186), .un .not (.t 185), none⟩,
       ⟨(some 183), .mv (.t 186), none⟩])
     (.cond (.t 183)
      (.seq (.reg [⟨(some 4), .mv (.c (.i .i64 (-1))), none⟩])
      .ret)
      .bad)))))))) }
def c_strings_shouldUseASCIISet : Fun := { cin := [.id], cout := [.id], ntmps := 5, keep := false, res := [(2, none)], body :=
  (.seq (.reg [⟨(some 2), .mv (.c (.b false)), none⟩])
  (.seq (.reg [⟨(some 3), .mv (.t 0), none⟩,
    ⟨(some 4), .bin .gtr (.t 3) (.c (.i .i64 8)), none⟩,
    ⟨(some 2), .mv (.t 4), none⟩])
  .ret)) }
def c_strings_makeASCIISet : Fun := { cin := [.id], cout := [(.agg [.id, .id, .id, .id, .id, .id, .id, .id, .id, .id, .id, .id, .id, .id, .id, .id, .id, .id, .id, .id, .id, .id, .id, .id, .id, .id, .id, .id, .id, .id, .id, .id, .id, .id, .id, .id, .id, .id, .id, .id, .id, .id, .id, .id, .id, .id, .id, .id, .id, .id, .id, .id, .id, .id, .id, .id, .id, .id, .id, .id, .id, .id, .id, .id, .id, .id, .id, .id, .id, .id, .id, .id, .id, .id, .id, .id, .id, .id, .id, .id, .id, .id, .id, .id, .id, .id, .id, .id, .id, .id, .id, .id, .id, .id, .id, .id, .id, .id, .id, .id, .id, .id, .id, .id, .id, .id, .id, .id, .id, .id, .id, .id, .id, .id, .id, .id, .id, .id, .id, .id, .id, .id, .id, .id, .id, .id, .id, .id, .id, .id, .id, .id, .id, .id, .id, .id, .id, .id, .id, .id, .id, .id, .id, .id, .id, .id, .id, .id, .id, .id, .id, .id, .id, .id, .id, .id, .id, .id, .id, .id, .id, .id, .id, .id, .id, .id, .id, .id, .id, .id, .id, .id, .id, .id, .id, .id, .id, .id, .id, .id, .id, .id, .id, .id, .id, .id, .id, .id, .id, .id, .id, .id, .id, .id, .id, .id, .id, .id, .id, .id, .id, .id, .id, .id, .id, .id, .id, .id, .id, .id, .id, .id, .id, .id, .id, .id, .id, .id, .id, .id, .id, .id, .id, .id, .id, .id, .id, .id, .id, .id, .id, .id, .id, .id, .id, .id, .id, .id, .id, .id, .id, .id, .id, .id, .id, .id, .id, .id, .id, .id, .id, .id, .id, .id, .id, .id]), .id], ntmps := 21, keep := false, res := [(2, some (true, 256)), (3, none)], body :=
  (.seq (.reg [⟨(some 2), .alloc 81 [(.b false), (.b false), (.b false), (.b false), (.b false), (.b false), (.b false), (.b false), (.b false), (.b false), (.b false), (.b false), (.b false), (.b false), (.b false), (.b false), (.b false), (.b false), (.b false), (.b false), (.b false), (.b false), (.b false), (.b false), (.b false), (.b false), (.b false), (.b false), (.b false), (.b false), (.b false), (.b false), (.b false), (.b false), (.b false), (.b false), (.b false), (.b false), (.b false), (.b false), (.b false), (.b false), (.b false), (.b false), (.b false), (.b false), (.b false), (.b false), (.b false), (.b false), (.b false), (.b false), (.b false), (.b false), (.b false), (.b false), (.b false), (.b false), (.b false), (.b false), (.b false), (.b false), (.b false), (.b false), (.b false), (.b false), (.b false), (.b false), (.b false), (.b false), (.b false), (.b false), (.b false), (.b false), (.b false), (.b false), (.b false), (.b false), (.b false), (.b false), (.b false), (.b false), (.b false), (.b false), (.b false), (.b false), (.b false), (.b false), (.b false), (.b false), (.b false), (.b false), (.b false), (.b false), (.b false), (.b false), (.b false), (.b false), (.b false), (.b false), (.b false), (.b false), (.b false), (.b false), (.b false), (.b false), (.b false), (.b false), (.b false), (.b false), (.b false), (.b false), (.b false), (.b false), (.b false), (.b false), (.b false), (.b false), (.b false), (.b false), (.b false), (.b false), (.b false), (.b false), (.b false), (.b false), (.b false), (.b false), (.b false), (.b false), (.b false), (.b false), (.b false), (.b false), (.b false), (.b false), (.b false), (.b false), (.b false), (.b false), (.b false), (.b false), (.b false), (.b false), (.b false), (.b false), (.b false), (.b false), (.b false), (.b false), (.b false), (.b false), (.b false), (.b false), (.b false), (.b false), (.b false), (.b false), (.b false), (.b false), (.b false), (.b false), (.b false), (.b false), (.b false), (.b false), (.b false), (.b false), (.b false), (.b false), (.b false), (.b false), (.b false), (.b false), (.b false), (.b false), (.b false), (.b false), (.b false), (.b false), (.b false), (.b false), (.b false), (.b false), (.b false), (.b false), (.b false), (.b false), (.b false), (.b false), (.b false), (.b false), (.b false), (.b false), (.b false), (.b false), (.b false), (.b false), (.b false), (.b false), (.b false), (.b false), (.b false), (.b false), (.b false), (.b false), (.b false), (.b false), (.b false), (.b false), (.b false), (.b false), (.b false), (.b false), (.b false), (.b false), (.b false), (.b false), (.b false), (.b false), (.b false), (.b false), (.b false), (.b false), (.b false), (.b false), (.b false), (.b false), (.b false), (.b false), (.b false), (.b false), (.b false), (.b false), (.b false), (.b false), (.b false), (.b false), (.b false), (.b false), (.b false), (.b false), (.b false), (.b false), (.b false), (.b false), (.b false), (.b false), (.b false), (.b false), (.b false), (.b false), (.b false), (.b false), (.b false), (.b false)], none⟩,
    ⟨(some 3), .mv (.c (.b false)), none⟩])
  (.seq (.seq (.reg [⟨(some 4), .mv (.c (.i .i64 0)), none⟩])
  (.blk 0 (.loop (.seq (.seq (.reg [⟨(some 6), .mv (.t 4), none⟩,
      ⟨(some 7), .mv (.t 0), none⟩,
      ⟨(some 8), .len 0 (.t 7), none⟩,
      ⟨(some 9), .bin .lss (.t 6) (.t 8), none⟩])
    (.cond (.t 9)
     .skip
     (.exit 0)))
    (.seq (.blk 1 (.seq (.reg [⟨(some 12), .mv (.t 0), none⟩,
       ⟨(some 13), .mv (.t 4), none⟩,
       ⟨(some 14), .ixS (.t 12) (.t 13), none⟩,
       ⟨(some 5), .mv (.t 14), none⟩])
     (.seq (.seq (.reg [⟨(some 15), .mv (.t 5), none⟩,
       ⟨(some 16), .bin .geq (.t 15) (.c (.i .u8 128)), none⟩])
     (.cond (.t 16)
      (.seq (.reg [⟨(some 17), .ld true 256 (.t 2), none⟩,
        ⟨none, .st 256 (.t 2) (.t 17), none⟩,
        ⟨(some 3), .mv (.c (.b false)), none⟩])
      .ret)
      .skip))
     (.reg [⟨(some 18), .mv (.t 5), none⟩,
       ⟨(some 19), .iaA 256 1 (.t 2) (.t 18), none⟩,
       ⟨none, .st 1 (.t 19) (.c (.b true)), none⟩]))))
    (.reg [⟨(some 10), .mv (.t 4), none⟩,
      ⟨(some 11), .bin .add (.t 10) (.c (.i .i64 1)), none⟩,
      ⟨(some 4), .mv (.t 11), none⟩]))))))
  (.seq (.reg [⟨(some 20), .ld true 256 (.t 2), none⟩,
    ⟨none, .st 256 (.t 2) (.t 20), none⟩,
    ⟨(some 3), .mv (.c (.b true)), none⟩])
  .ret))) }
def c_strings_asciiSet_contains : Fun := { cin := [.id, .id], cout := [.id], ntmps := 10, keep := false, res := [(4, none)], body :=
  (.seq (.reg [⟨(some 4), .mv (.c (.b false)), none⟩])
  (.seq (.reg [⟨(some 5), .mv (.t 0), none⟩,
    ⟨(some 6), .mv (.t 1), none⟩,
    ⟨(some 7), .nck (.t 5), none⟩,
    ⟨(some 8), .iaA 256 1 (.t 7) (.t 6), none⟩,
    ⟨(some 9), .ld false 1 (.t 8), none⟩,
    ⟨(some 4), .mv (.t 9), none⟩])
  .ret)) }
def c_slices_Reverse_string_string : Fun := { cin := [(.sl 1 .id)], cout := [], ntmps := 28, keep := false, res := [], body :=
  (.seq (.reg [⟨(some 4), .mv (.t 0), none⟩,
    ⟨(some 5), .len 1 (.t 4), none⟩,
    ⟨(some 6), .bin .sub (.t 5) (.c (.i .i64 1)), none⟩,
    ⟨(some 2), .mv (.c (.i .i64 0)), none⟩,
    ⟨(some 3), .mv (.t 6), none⟩])
  (.blk 0 (.loop (.seq (.seq (.reg [⟨(some 7), .mv (.t 2), none⟩,
      ⟨(some 8), .mv (.t 3), none⟩,
      ⟨(some 9), .bin .lss (.t 7) (.t 8), none⟩])
    (.cond (.t 9)
     .skip
     (.exit 0)))
    (.seq (.blk 1 (.seq (.thw 0)
     (.regD [⟨(some 14), .mv (.t 0), none⟩,
       ⟨(some 15), .mv (.t 2), none⟩,
       ⟨(some 16), .mv (.t 0), none⟩,
       ⟨(some 17), .mv (.t 3), none⟩,
       ⟨(some 18), .mv (.t 0), none⟩,
       ⟨(some 19), .mv (.t 3), none⟩,
       ⟨(some 20), .ia 1 (.t 18) (.t 19), none⟩,
       ⟨(some 21), .ld false 1 (.t 20), none⟩,
       ⟨(some 22), .mv (.t 0), none⟩,
       ⟨(some 23), .mv (.t 2), none⟩,
       ⟨(some 24), .ia 1 (.t 22) (.t 23), none⟩,
       ⟨(some 25), .ld false 1 (.t 24), none⟩,
       ⟨(some 26), .ia 1 (.t 14) (.t 15), none⟩,
       ⟨none, .st 1 (.t 26) (.t 21), none⟩,
       ⟨(some 27), .ia 1 (.t 16) (.t 17), none⟩,
       ⟨none, .st 1 (.t 27) (.t 25), none⟩] [])))
    (.reg [⟨(some 10), .mv (.t 2), none⟩,
      ⟨(some 11), .bin .add (.t 10) (.c (.i .i64 1)), none⟩,
      ⟨(some 12), .mv (.t 3), none⟩,
      ⟨(some 13), .bin .sub (.t 12) (.c (.i .i64 1)), none⟩,
      ⟨(some 2), .mv (.t 11), none⟩,
      ⟨(some 3), .mv (.t 13), none⟩])))))) }
def c_slices_Reverse_int_int : Fun := { cin := [(.sl 1 .id)], cout := [], ntmps := 28, keep := false, res := [], body :=
  (.seq (.reg [⟨(some 4), .mv (.t 0), none⟩,
    ⟨(some 5), .len 1 (.t 4), none⟩,
    ⟨(some 6), .bin .sub (.t 5) (.c (.i .i64 1)), none⟩,
    ⟨(some 2), .mv (.c (.i .i64 0)), none⟩,
    ⟨(some 3), .mv (.t 6), none⟩])
  (.blk 0 (.loop (.seq (.seq (.reg [⟨(some 7), .mv (.t 2), none⟩,
      ⟨(some 8), .mv (.t 3), none⟩,
      ⟨(some 9), .bin .lss (.t 7) (.t 8), none⟩])
    (.cond (.t 9)
     .skip
     (.exit 0)))
    (.seq (.blk 1 (.seq (.thw 0)
     (.regD [⟨(some 14), .mv (.t 0), none⟩,
       ⟨(some 15), .mv (.t 2), none⟩,
       ⟨(some 16), .mv (.t 0), none⟩,
       ⟨(some 17), .mv (.t 3), none⟩,
       ⟨(some 18), .mv (.t 0), none⟩,
       ⟨(some 19), .mv (.t 3), none⟩,
       ⟨(some 20), .ia 1 (.t 18) (.t 19), none⟩,
       ⟨(some 21), .ld false 1 (.t 20), none⟩,
       ⟨(some 22), .mv (.t 0), none⟩,
       ⟨(some 23), .mv (.t 2), none⟩,
       ⟨(some 24), .ia 1 (.t 22) (.t 23), none⟩,
       ⟨(some 25), .ld false 1 (.t 24), none⟩,
       ⟨(some 26), .ia 1 (.t 14) (.t 15), none⟩,
       ⟨none, .st 1 (.t 26) (.t 21), none⟩,
       ⟨(some 27), .ia 1 (.t 16) (.t 17), none⟩,
       ⟨none, .st 1 (.t 27) (.t 25), none⟩] [])))
    (.reg [⟨(some 10), .mv (.t 2), none⟩,
      ⟨(some 11), .bin .add (.t 10) (.c (.i .i64 1)), none⟩,
      ⟨(some 12), .mv (.t 3), none⟩,
      ⟨(some 13), .bin .sub (.t 12) (.c (.i .i64 1)), none⟩,
      ⟨(some 2), .mv (.t 11), none⟩,
      ⟨(some 3), .mv (.t 13), none⟩])))))) }
def c_slices_AppendSeq_int_int : Fun := { cin := [], cout := [], ntmps := 13, keep := false, res := [(4, none)], body :=
  (.seq (.reg [⟨(some 2), .box 23 1 (.t 0), none⟩,
    ⟨(some 4), .mv (.c .nsl), none⟩])
  (.seq (.seq (.reg [⟨(some 6), .mv (.t 1), none⟩])
  (.blk 0 (.rf (.t 6) [7] (.reg [⟨(some 5), .mv (.t 7), none⟩])
   (.blk 1 (.reg [⟨(some 8), .ld false 1 (.t 2), none⟩,
       ⟨(some 9), .mv (.t 5), none⟩,
       ⟨(some 10), .bsl 1 [(.t 9)], none⟩,
       ⟨(some 11), .app 1 3 (.t 8) (.t 10), none⟩,
       ⟨none, .st 1 (.t 2) (.t 11), none⟩])))))
  (.seq (.reg [⟨(some 12), .ld false 1 (.t 2), none⟩,
    ⟨(some 4), .mv (.t 12), none⟩])
  .ret))) }
def c_slices_pdqsortOrdered_int : Fun := { cin := [(.sl 1 .id), .id, .id, .id], cout := [], ntmps := 134, keep := false, res := [], body :=
  (.seq (.reg [⟨(some 8), .mv (.c (.b true)), none⟩])
  (.seq (.reg [⟨(some 9), .mv (.c (.b true)), none⟩])
  (.blk 0 (.loop (.blk 1 (.seq (.reg [⟨(some 19), .mv (.t 2), none⟩,
       ⟨(some 20), .mv (.t 1), none⟩,
       ⟨(some 21), .bin .sub (.t 19) (.t 20), none⟩,
       ⟨(some 10), .mv (.t 21), none⟩])
     (.seq (.seq (.reg [⟨(some 22), .mv (.t 10), none⟩,
       ⟨(some 23), .bin .leq (.t 22) (.c (.i .i64 12)), none⟩])
     (.cond (.t 23)
      (.seq (.reg [⟨(some 24), .mv (.t 0), none⟩,
        ⟨(some 25), .mv (.t 1), none⟩,
        ⟨(some 26), .mv (.t 2), none⟩,
        ⟨(some 27), .call f_slices_insertionSortOrdered_int [(.t 24), (.t 25), (.t 26)], none⟩])
      .ret)
      .skip))
     (.seq (.seq (.reg [⟨(some 28), .mv (.t 3), none⟩,
       ⟨(some 29), .bin .eql (.t 28) (.c (.i .i64 0)), none⟩])
     (.cond (.t 29)
      (.seq (.reg [⟨(some 30), .mv (.t 0), none⟩,
        ⟨(some 31), .mv (.t 1), none⟩,
        ⟨(some 32), .mv (.t 2), none⟩,
        ⟨(some 33), .call f_slices_heapSortOrdered_int [(.t 30), (.t 31), (.t 32)], none⟩])
      .ret)
      .skip))
     (.seq (.seq (.reg [⟨(some 34), .mv (.t 8), none⟩,
       ⟨(some 35), .un .not (.t 34), none⟩])
     (.cond (.t 35)
      (.seq (.reg [⟨(some 36), .mv (.t 0), none⟩,
        ⟨(some 37), .mv (.t 1), none⟩,
        ⟨(some 38), .mv (.t 2), none⟩,
        ⟨(some 39), .call f_slices_breakPatternsOrdered_int [(.t 36), (.t 37), (.t 38)], none⟩])
      (.reg [⟨(some 40), .mv (.t 3), none⟩,
        ⟨(some 41), .bin .sub (.t 40) (.c (.i .i64 1)), none⟩,
        ⟨(some 3), .mv (.t 41), none⟩]))
      .skip))
     (.seq (.reg [⟨(some 43), .mv (.t 0), none⟩,
       ⟨(some 44), .mv (.t 1), none⟩,
       ⟨(some 45), .mv (.t 2), none⟩,
       ⟨(some 46), .call f_slices_choosePivotOrdered_int [(.t 43), (.t 44), (.t 45)], none⟩,
       ⟨(some 42), .mv (.t 46), none⟩,
       ⟨(some 47), .ext (.t 42) 0, none⟩,
       ⟨(some 48), .ext (.t 42) 1, none⟩,
       ⟨(some 11), .mv (.t 47), none⟩,
       ⟨(some 12), .mv (.t 48), none⟩])
     (.seq (.seq (.reg [⟨(some 49), .mv (.t 12), none⟩,
       ⟨(some 50), .bin .eql (.t 49) (.c (.i .i64 2)), none⟩])
     (.cond (.t 50)
      (.seq (.reg [⟨(some 51), .mv (.t 0), none⟩,
        ⟨(some 52), .mv (.t 1), none⟩,
        ⟨(some 53), .mv (.t 2), none⟩,
        ⟨(some 54), .call f_slices_reverseRangeOrdered_int [(.t 51), (.t 52), (.t 53)], none⟩])
      (.seq (.reg [⟨(some 55), .mv (.t 2), none⟩,
        ⟨(some 56), .bin .sub (.t 55) (.c (.i .i64 1)), none⟩,
        ⟨(some 57), .mv (.t 11), none⟩,
        ⟨(some 58), .mv (.t 1), none⟩,
        ⟨(some 59), .bin .sub (.t 57) (.t 58), none⟩,
        ⟨(some 60), .bin .sub (.t 56) (.t 59), none⟩,
        ⟨(some 11), .mv (.t 60), none⟩])
      (.reg [⟨(some 12), .mv (.c (.i .i64 1)), none⟩])))
      .skip))
     (.seq (.seq (.reg [⟨(some 61), .mv (.t 8), none⟩,
       ⟨(some 62), .mv (.t 61), none⟩,
       ⟨(some 63), .mv (.t 9), (some (62, true))⟩,
       ⟨(some 64), .pick (.t 62) (.t 63) (.c (.b false)), none⟩,
       ⟨(some 65), .mv (.t 64), none⟩,
       ⟨(some 66), .mv (.t 12), (some (65, true))⟩,
       ⟨(some 67), .bin .eql (.t 66) (.c (.i .i64 1)), (some (65, true))⟩,
       ⟨(some 68), .pick (.t 65) (.t 67) (.c (.b false)), none⟩])
     (.cond (.t 68)
      (.seq (.reg [⟨(some 69), .mv (.t 0), none⟩,
        ⟨(some 70), .mv (.t 1), none⟩,
        ⟨(some 71), .mv (.t 2), none⟩,
        ⟨(some 72), .call f_slices_partialInsertionSortOrdered_int [(.t 69), (.t 70), (.t 71)], none⟩])
      (.cond (.t 72)
       .ret
       .skip))
      .skip))
     (.seq (.seq (.regD [⟨(some 73), .mv (.t 1), none⟩,
       ⟨(some 74), .bin .gtr (.t 73) (.c (.i .i64 0)), none⟩,
       ⟨(some 75), .mv (.t 74), none⟩,
       ⟨(some 76), .mv (.t 0), (some (75, true))⟩,
       ⟨(some 77), .mv (.t 1), (some (75, true))⟩,
       ⟨(some 78), .bin .sub (.t 77) (.c (.i .i64 1)), (some (75, true))⟩,
       ⟨(some 79), .ia 1 (.t 76) (.t 78), (some (75, true))⟩,
       ⟨(some 80), .ld false 1 (.t 79), (some (75, true))⟩,
       ⟨(some 81), .mv (.t 0), (some (75, true))⟩,
       ⟨(some 82), .mv (.t 11), (some (75, true))⟩,
       ⟨(some 83), .ia 1 (.t 81) (.t 82), (some (75, true))⟩,
       ⟨(some 84), .ld false 1 (.t 83), (some (75, true))⟩,
       ⟨(some 85), .call f_cmp_Less_int [(.t 80), (.t 84)], (some (75, true))⟩,
       ⟨(some 86), .un .not (.t 85), (some (75, true))⟩,
       ⟨(some 87), .pick (.t 75) (.t 86) (.c (.b false)), none⟩] [])
     (.cond (.t 87)
      (.seq (.reg [⟨(some 88), .mv (.t 0), none⟩,
        ⟨(some 89), .mv (.t 1), none⟩,
        ⟨(some 90), .mv (.t 2), none⟩,
        ⟨(some 91), .mv (.t 11), none⟩,
        ⟨(some 92), .call f_slices_partitionEqualOrdered_int [(.t 88), (.t 89), (.t 90), (.t 91)], none⟩,
        ⟨(some 13), .mv (.t 92), none⟩])
      (.seq (.reg [⟨(some 93), .mv (.t 13), none⟩,
        ⟨(some 1), .mv (.t 93), none⟩])
      (.exit 1)))
      .skip))
     (.seq (.reg [⟨(some 95), .mv (.t 0), none⟩,
       ⟨(some 96), .mv (.t 1), none⟩,
       ⟨(some 97), .mv (.t 2), none⟩,
       ⟨(some 98), .mv (.t 11), none⟩,
       ⟨(some 99), .call f_slices_partitionOrdered_int [(.t 95), (.t 96), (.t 97), (.t 98)], none⟩,
       ⟨(some 94), .mv (.t 99), none⟩,
       ⟨(some 100), .ext (.t 94) 0, none⟩,
       ⟨(some 101), .ext (.t 94) 1, none⟩,
       ⟨(some 14), .mv (.t 100), none⟩,
       ⟨(some 15), .mv (.t 101), none⟩])
     (.seq (.reg [⟨(some 102), .mv (.t 15), none⟩,
       ⟨(some 9), .mv (.t 102), none⟩])
     (.seq (.reg [⟨(some 103), .mv (.t 14), none⟩,
       ⟨(some 104), .mv (.t 1), none⟩,
       ⟨(some 105), .bin .sub (.t 103) (.t 104), none⟩,
       ⟨(some 106), .mv (.t 2), none⟩,
       ⟨(some 107), .mv (.t 14), none⟩,
       ⟨(some 108), .bin .sub (.t 106) (.t 107), none⟩,
       ⟨(some 16), .mv (.t 105), none⟩,
       ⟨(some 17), .mv (.t 108), none⟩])
     (.seq (.reg [⟨(some 109), .mv (.t 10), none⟩,
       ⟨(some 110), .bin .quo (.t 109) (.c (.i .i64 8)), none⟩,
       ⟨(some 18), .mv (.t 110), none⟩])
     (.seq (.reg [⟨(some 111), .mv (.t 16), none⟩,
       ⟨(some 112), .mv (.t 17), none⟩,
       ⟨(some 113), .bin .lss (.t 111) (.t 112), none⟩])
     (.cond (.t 113)
      (.seq (.reg [⟨(some 114), .mv (.t 16), none⟩,
        ⟨(some 115), .mv (.t 18), none⟩,
        ⟨(some 116), .bin .geq (.t 114) (.t 115), none⟩,
        ⟨(some 8), .mv (.t 116), none⟩])
      (.seq (.reg [⟨(some 117), .mv (.t 0), none⟩,
        ⟨(some 118), .mv (.t 1), none⟩,
        ⟨(some 119), .mv (.t 14), none⟩,
        ⟨(some 120), .mv (.t 3), none⟩,
        ⟨(some 121), .call f_slices_pdqsortOrdered_int [(.t 117), (.t 118), (.t 119), (.t 120)], none⟩])
      (.reg [⟨(some 122), .mv (.t 14), none⟩,
        ⟨(some 123), .bin .add (.t 122) (.c (.i .i64 1)), none⟩,
        ⟨(some 1), .mv (.t 123), none⟩])))
      (.seq (.reg [⟨(some 124), .mv (.t 17), none⟩,
        ⟨(some 125), .mv (.t 18), none⟩,
        ⟨(some 126), .bin .geq (.t 124) (.t 125), none⟩,
        ⟨(some 8), .mv (.t 126), none⟩])
      (.seq (.reg [⟨(some 127), .mv (.t 0), none⟩,
        ⟨(some 128), .mv (.t 14), none⟩,
        ⟨(some 129), .bin .add (.t 128) (.c (.i .i64 1)), none⟩,
        ⟨(some 130), .mv (.t 2), none⟩,
        ⟨(some 131), .mv (.t 3), none⟩,
        ⟨(some 132), .call f_slices_pdqsortOrdered_int [(.t 127), (.t 129), (.t 130), (.t 131)], none⟩])
      (.reg [⟨(some 133), .mv (.t 14), none⟩,
        ⟨(some 2), .mv (.t 133), none⟩])))))))))))))))))))))) }
def c_math_bits_Len : Fun := { cin := [.id], cout := [.id], ntmps := 8, keep := false, res := [(2, none)], body :=
  (.seq (.reg [⟨(some 2), .mv (.c (.i .i64 0)), none⟩])
  (.seq (.cond (.c (.b false))
   (.seq (.reg [⟨(some 3), .mv (.t 0), none⟩,
     ⟨(some 4), .cvI .u32 (.t 3), none⟩,
     ⟨(some 5), .call f_math_bits_Len32 [(.t 4)], none⟩,
     ⟨(some 2), .mv (.t 5), none⟩])
   .ret)
   .skip)
  (.seq (.reg [⟨(some 6), .mv (.t 0), none⟩,
    ⟨(some 7), .call f_math_bits_Len64 [(.t 6)], none⟩,
    ⟨(some 2), .mv (.t 7), none⟩])
  .ret))) }
def c_strings_IndexByte : Fun := { cin := [.id, .id], cout := [.id], ntmps := 8, keep := false, res := [(4, none)], body :=
  (.seq (.reg [⟨(some 4), .mv (.c (.i .i64 0)), none⟩])
  (.seq (.reg [⟨(some 5), .mv (.t 0), none⟩,
    ⟨(some 6), .mv (.t 1), none⟩,
    ⟨(some 7), .call f_internal_stringslite_IndexByte [(.t 5), (.t 6)], none⟩,
    ⟨(some 4), .mv (.t 7), none⟩])
  .ret)) }
def c_unicode_utf8_ValidRune : Fun := { cin := [.id], cout := [.id], ntmps := 17, keep := false, res := [(2, none)], body :=
  (.seq (.reg [⟨(some 2), .mv (.c (.b false)), none⟩])
  (.seq (.blk 0 (.seq (.reg [⟨(some 4), .mv (.t 0), none⟩,
     ⟨(some 5), .bin .leq (.c (.i .i32 0)) (.t 4), none⟩,
     ⟨(some 6), .mv (.t 5), none⟩,
     ⟨(some 7), .mv (.t 0), (some (6, true))⟩,
     ⟨(some 8), .bin .lss (.t 7) (.c (.i .i32 55296)), (some (6, true))⟩,
     ⟨(some 9), .pick (.t 6) (.t 8) (.c (.b false)), none⟩,
     ⟨(some 3), .mv (.t 9), none⟩])
   (.cond (.t 3)
    (.seq (.reg [⟨(some 2), .mv (.c (.b true)), none⟩])
    .ret)
    (.seq (.reg [⟨(some 11), .mv (.t 0), none⟩,
      ⟨(some 12), .bin .lss (.c (.i .i32 57343)) (.t 11), none⟩,
      ⟨(some 13), .mv (.t 12), none⟩,
      ⟨(some 14), .mv (.t 0), (some (13, true))⟩,
      ⟨(some 15), .bin .leq (.t 14) (.c (.i .i32 1114111)), (some (13, true))⟩,
      ⟨(some 16), .pick (.t 13) (.t 15) (.c (.b false)), none⟩,
      ⟨(some 10), .mv (.t 16), none⟩])
    (.cond (.t 10)
     (.seq (.reg [⟨(some 2), .mv (.c (.b true)), none⟩])
     .ret)
     .skip)))))
  (.seq (.reg [⟨(some 2), .mv (.c (.b false)), none⟩])
  .ret))) }
def c_internal_bytealg_Cutover : Fun := { cin := [.id], cout := [.id], ntmps := 6, keep := false, res := [(2, none)], body :=
  (.seq (.reg [⟨(some 2), .mv (.c (.i .i64 0)), none⟩])
  (.seq (.reg [⟨(some 3), .mv (.t 0), none⟩,
    ⟨(some 4), .bin .add (.t 3) (.c (.i .i64 16)), none⟩,
    ⟨(some 5), .bin .quo (.t 4) (.c (.i .i64 8)), none⟩,
    ⟨(some 2), .mv (.t 5), none⟩])
  .ret)) }
def c_slices_insertionSortOrdered_int : Fun := { cin := [(.sl 1 .id), .id, .id], cout := [], ntmps := 49, keep := false, res := [], body :=
  (.seq (.reg [⟨(some 8), .mv (.t 1), none⟩,
    ⟨(some 9), .bin .add (.t 8) (.c (.i .i64 1)), none⟩,
    ⟨(some 6), .mv (.t 9), none⟩])
  (.blk 0 (.loop (.seq (.seq (.reg [⟨(some 10), .mv (.t 6), none⟩,
      ⟨(some 11), .mv (.t 2), none⟩,
      ⟨(some 12), .bin .lss (.t 10) (.t 11), none⟩])
    (.cond (.t 12)
     .skip
     (.exit 0)))
    (.seq (.blk 1 (.seq (.reg [⟨(some 15), .mv (.t 6), none⟩,
       ⟨(some 7), .mv (.t 15), none⟩])
     (.blk 2 (.loop (.seq (.seq (.regD [⟨(some 16), .mv (.t 7), none⟩,
         ⟨(some 17), .mv (.t 1), none⟩,
         ⟨(some 18), .bin .gtr (.t 16) (.t 17), none⟩,
         ⟨(some 19), .mv (.t 18), none⟩,
         ⟨(some 20), .mv (.t 0), (some (19, true))⟩,
         ⟨(some 21), .mv (.t 7), (some (19, true))⟩,
         ⟨(some 22), .ia 1 (.t 20) (.t 21), (some (19, true))⟩,
         ⟨(some 23), .ld false 1 (.t 22), (some (19, true))⟩,
         ⟨(some 24), .mv (.t 0), (some (19, true))⟩,
         ⟨(some 25), .mv (.t 7), (some (19, true))⟩,
         ⟨(some 26), .bin .sub (.t 25) (.c (.i .i64 1)), (some (19, true))⟩,
         ⟨(some 27), .ia 1 (.t 24) (.t 26), (some (19, true))⟩,
         ⟨(some 28), .ld false 1 (.t 27), (some (19, true))⟩,
         ⟨(some 29), .call f_cmp_Less_int [(.t 23), (.t 28)], (some (19, true))⟩,
         ⟨(some 30), .pick (.t 19) (.t 29) (.c (.b false)), none⟩] [])
       (.cond (.t 30)
        .skip
        (.exit 2)))
       (.seq (.blk 3 (.seq (.thw 0)
        (.regD [⟨(some 33), .mv (.t 0), none⟩,
          ⟨(some 34), .mv (.t 7), none⟩,
          ⟨(some 35), .mv (.t 0), none⟩,
          ⟨(some 36), .mv (.t 7), none⟩,
          ⟨(some 37), .bin .sub (.t 36) (.c (.i .i64 1)), none⟩,
          ⟨(some 38), .mv (.t 0), none⟩,
          ⟨(some 39), .mv (.t 7), none⟩,
          ⟨(some 40), .bin .sub (.t 39) (.c (.i .i64 1)), none⟩,
          ⟨(some 41), .ia 1 (.t 38) (.t 40), none⟩,
          ⟨(some 42), .ld false 1 (.t 41), none⟩,
          ⟨(some 43), .mv (.t 0), none⟩,
          ⟨(some 44), .mv (.t 7), none⟩,
          ⟨(some 45), .ia 1 (.t 43) (.t 44), none⟩,
          ⟨(some 46), .ld false 1 (.t 45), none⟩,
          ⟨(some 47), .ia 1 (.t 33) (.t 34), none⟩,
          ⟨none, .st 1 (.t 47) (.t 42), none⟩,
          ⟨(some 48), .ia 1 (.t 35) (.t 37), none⟩,
          ⟨none, .st 1 (.t 48) (.t 46), none⟩] [])))
       (.reg [⟨(some 31), .mv (.t 7), none⟩,
         ⟨(some 32), .bin .sub (.t 31) (.c (.i .i64 1)), none⟩,
         ⟨(some 7), .mv (.t 32), none⟩])))))))
    (.reg [⟨(some 13), .mv (.t 6), none⟩,
      ⟨(some 14), .bin .add (.t 13) (.c (.i .i64 1)), none⟩,
      ⟨(some 6), .mv (.t 14), none⟩])))))) }
def c_slices_heapSortOrdered_int : Fun := { cin := [(.sl 1 .id), .id, .id], cout := [], ntmps := 56, keep := false, res := [], body :=
  (.seq (.reg [⟨(some 11), .mv (.t 1), none⟩,
    ⟨(some 6), .mv (.t 11), none⟩])
  (.seq (.reg [⟨(some 7), .mv (.c (.i .i64 0)), none⟩])
  (.seq (.reg [⟨(some 12), .mv (.t 2), none⟩,
    ⟨(some 13), .mv (.t 1), none⟩,
    ⟨(some 14), .bin .sub (.t 12) (.t 13), none⟩,
    ⟨(some 8), .mv (.t 14), none⟩])
  (.seq (.seq (.reg [⟨(some 15), .mv (.t 8), none⟩,
    ⟨(some 16), .bin .sub (.t 15) (.c (.i .i64 1)), none⟩,
    ⟨(some 17), .bin .quo (.t 16) (.c (.i .i64 2)), none⟩,
    ⟨(some 9), .mv (.t 17), none⟩])
  (.blk 0 (.loop (.seq (.seq (.reg [⟨(some 18), .mv (.t 9), none⟩,
      ⟨(some 19), .bin .geq (.t 18) (.c (.i .i64 0)), none⟩])
    (.cond (.t 19)
     .skip
     (.exit 0)))
    (.seq (.blk 1 (.reg [⟨(some 22), .mv (.t 0), none⟩,
       ⟨(some 23), .mv (.t 9), none⟩,
       ⟨(some 24), .mv (.t 8), none⟩,
       ⟨(some 25), .mv (.t 6), none⟩,
       ⟨(some 26), .call f_slices_siftDownOrdered_int [(.t 22), (.t 23), (.t 24), (.t 25)], none⟩]))
    (.reg [⟨(some 20), .mv (.t 9), none⟩,
      ⟨(some 21), .bin .sub (.t 20) (.c (.i .i64 1)), none⟩,
      ⟨(some 9), .mv (.t 21), none⟩]))))))
  (.seq (.reg [⟨(some 27), .mv (.t 8), none⟩,
    ⟨(some 28), .bin .sub (.t 27) (.c (.i .i64 1)), none⟩,
    ⟨(some 10), .mv (.t 28), none⟩])
  (.blk 2 (.loop (.seq (.seq (.reg [⟨(some 29), .mv (.t 10), none⟩,
      ⟨(some 30), .bin .geq (.t 29) (.c (.i .i64 0)), none⟩])
    (.cond (.t 30)
     .skip
     (.exit 2)))
    (.seq (.blk 3 (.seq (.seq (.thw 0)
     (.regD [⟨(some 33), .mv (.t 0), none⟩,
       ⟨(some 34), .mv (.t 6), none⟩,
       ⟨(some 35), .mv (.t 0), none⟩,
       ⟨(some 36), .mv (.t 6), none⟩,
       ⟨(some 37), .mv (.t 10), none⟩,
       ⟨(some 38), .bin .add (.t 36) (.t 37), none⟩,
       ⟨(some 39), .mv (.t 0), none⟩,
       ⟨(some 40), .mv (.t 6), none⟩,
       ⟨(some 41), .mv (.t 10), none⟩,
       ⟨(some 42), .bin .add (.t 40) (.t 41), none⟩,
       ⟨(some 43), .ia 1 (.t 39) (.t 42), none⟩,
       ⟨(some 44), .ld false 1 (.t 43), none⟩,
       ⟨(some 45), .mv (.t 0), none⟩,
       ⟨(some 46), .mv (.t 6), none⟩,
       ⟨(some 47), .ia 1 (.t 45) (.t 46), none⟩,
       ⟨(some 48), .ld false 1 (.t 47), none⟩,
       ⟨(some 49), .ia 1 (.t 33) (.t 34), none⟩,
       ⟨none, .st 1 (.t 49) (.t 44), none⟩,
       ⟨(some 50), .ia 1 (.t 35) (.t 38), none⟩,
       ⟨none, .st 1 (.t 50) (.t 48), none⟩] []))
     (.reg [⟨(some 51), .mv (.t 0), none⟩,
       ⟨(some 52), .mv (.t 7), none⟩,
       ⟨(some 53), .mv (.t 10), none⟩,
       ⟨(some 54), .mv (.t 6), none⟩,
       ⟨(some 55), .call f_slices_siftDownOrdered_int [(.t 51), (.t 52), (.t 53), (.t 54)], none⟩])))
    (.reg [⟨(some 31), .mv (.t 10), none⟩,
      ⟨(some 32), .bin .sub (.t 31) (.c (.i .i64 1)), none⟩,
      ⟨(some 10), .mv (.t 32), none⟩])))))))))) }
def c_slices_breakPatternsOrdered_int : Fun := { cin := [(.sl 1 .id), .id, .id], cout := [], ntmps := 65, keep := false, res := [], body :=
  (.seq (.reg [⟨(some 11), .mv (.t 2), none⟩,
    ⟨(some 12), .mv (.t 1), none⟩,
    ⟨(some 13), .bin .sub (.t 11) (.t 12), none⟩,
    ⟨(some 6), .mv (.t 13), none⟩])
  (.seq (.reg [⟨(some 14), .mv (.t 6), none⟩,
    ⟨(some 15), .bin .geq (.t 14) (.c (.i .i64 8)), none⟩])
  (.cond (.t 15)
   (.seq (.reg [⟨(some 16), .mv (.t 6), none⟩,
     ⟨(some 17), .cvI .u64 (.t 16), none⟩,
     ⟨(some 7), .alloc 104 [(.i .u64 0)], none⟩,
     ⟨none, .st 1 (.t 7) (.t 17), none⟩])
   (.seq (.reg [⟨(some 18), .mv (.t 6), none⟩,
     ⟨(some 19), .call f_slices_nextPowerOfTwo [(.t 18)], none⟩,
     ⟨(some 8), .mv (.t 19), none⟩])
   (.seq (.reg [⟨(some 20), .mv (.t 1), none⟩,
     ⟨(some 21), .mv (.t 6), none⟩,
     ⟨(some 22), .bin .quo (.t 21) (.c (.i .i64 4)), none⟩,
     ⟨(some 23), .bin .mul (.t 22) (.c (.i .i64 2)), none⟩,
     ⟨(some 24), .bin .add (.t 20) (.t 23), none⟩,
     ⟨(some 25), .bin .sub (.t 24) (.c (.i .i64 1)), none⟩,
     ⟨(some 9), .mv (.t 25), none⟩])
   (.blk 0 (.loop (.seq (.seq (.reg [⟨(some 26), .mv (.t 9), none⟩,
       ⟨(some 27), .mv (.t 1), none⟩,
       ⟨(some 28), .mv (.t 6), none⟩,
       ⟨(some 29), .bin .quo (.t 28) (.c (.i .i64 4)), none⟩,
       ⟨(some 30), .bin .mul (.t 29) (.c (.i .i64 2)), none⟩,
       ⟨(some 31), .bin .add (.t 27) (.t 30), none⟩,
       ⟨(some 32), .bin .add (.t 31) (.c (.i .i64 1)), none⟩,
       ⟨(some 33), .bin .leq (.t 26) (.t 32), none⟩])
     (.cond (.t 33)
      .skip
      (.exit 0)))
     (.seq (.blk 1 (.seq (.reg [⟨(some 36), .call f_slices_xorshift_Next [(.t 7)], none⟩,
        ⟨(some 37), .mv (.t 8), none⟩,
        ⟨(some 38), .bin .sub (.t 37) (.c (.i .u64 1)), none⟩,
        ⟨(some 39), .bin .and (.t 36) (.t 38), none⟩,
        ⟨(some 40), .cvI .i64 (.t 39), none⟩,
        ⟨(some 10), .mv (.t 40), none⟩])
      (.seq (.seq (.reg [⟨(some 41), .mv (.t 10), none⟩,
        ⟨(some 42), .mv (.t 6), none⟩,
        ⟨(some 43), .bin .geq (.t 41) (.t 42), none⟩])
      (.cond (.t 43)
       (.reg [⟨(some 44), .mv (.t 10), none⟩,
         ⟨(some 45), .mv (.t 6), none⟩,
         ⟨(some 46), .bin .sub (.t 44) (.t 45), none⟩,
         ⟨(some 10), .mv (.t 46), none⟩])
       .skip))
      (.seq (.thw 0)
      (.regD [⟨(some 47), .mv (.t 0), none⟩,
        ⟨(some 48), .mv (.t 9), none⟩,
        ⟨(some 49), .mv (.t 0), none⟩,
        ⟨(some 50), .mv (.t 1), none⟩,
        ⟨(some 51), .mv (.t 10), none⟩,
        ⟨(some 52), .bin .add (.t 50) (.t 51), none⟩,
        ⟨(some 53), .mv (.t 0), none⟩,
        ⟨(some 54), .mv (.t 1), none⟩,
        ⟨(some 55), .mv (.t 10), none⟩,
        ⟨(some 56), .bin .add (.t 54) (.t 55), none⟩,
        ⟨(some 57), .ia 1 (.t 53) (.t 56), none⟩,
        ⟨(some 58), .ld false 1 (.t 57), none⟩,
        ⟨(some 59), .mv (.t 0), none⟩,
        ⟨(some 60), .mv (.t 9), none⟩,
        ⟨(some 61), .ia 1 (.t 59) (.t 60), none⟩,
        ⟨(some 62), .ld false 1 (.t 61), none⟩,
        ⟨(some 63), .ia 1 (.t 47) (.t 48), none⟩,
        ⟨none, .st 1 (.t 63) (.t 58), none⟩,
        ⟨(some 64), .ia 1 (.t 49) (.t 52), none⟩,
        ⟨none, .st 1 (.t 64) (.t 62), none⟩] [])))))
     (.reg [⟨(some 34), .mv (.t 9), none⟩,
       ⟨(some 35), .bin .add (.t 34) (.c (.i .i64 1)), none⟩,
       ⟨(some 9), .mv (.t 35), none⟩]))))))))
   .skip))) }
def c_slices_choosePivotOrdered_int : Fun := { cin := [(.sl 1 .id), .id, .id], cout := [.id, .id], ntmps := 57, keep := false, res := [(6, none), (7, none)], body :=
  (.seq (.reg [⟨(some 6), .mv (.c (.i .i64 0)), none⟩,
    ⟨(some 7), .mv (.c (.i .i64 0)), none⟩])
  (.seq (.reg [⟨(some 13), .mv (.t 2), none⟩,
    ⟨(some 14), .mv (.t 1), none⟩,
    ⟨(some 15), .bin .sub (.t 13) (.t 14), none⟩,
    ⟨(some 8), .mv (.t 15), none⟩])
  (.seq (.reg [⟨(some 9), .alloc 3 [(.i .i64 0)], none⟩])
  (.seq (.reg [⟨(some 16), .mv (.t 1), none⟩,
    ⟨(some 17), .mv (.t 8), none⟩,
    ⟨(some 18), .bin .quo (.t 17) (.c (.i .i64 4)), none⟩,
    ⟨(some 19), .bin .mul (.t 18) (.c (.i .i64 1)), none⟩,
    ⟨(some 20), .bin .add (.t 16) (.t 19), none⟩,
    ⟨(some 10), .mv (.t 20), none⟩])
  (.seq (.reg [⟨(some 21), .mv (.t 1), none⟩,
    ⟨(some 22), .mv (.t 8), none⟩,
    ⟨(some 23), .bin .quo (.t 22) (.c (.i .i64 4)), none⟩,
    ⟨(some 24), .bin .mul (.t 23) (.c (.i .i64 2)), none⟩,
    ⟨(some 25), .bin .add (.t 21) (.t 24), none⟩,
    ⟨(some 11), .mv (.t 25), none⟩])
  (.seq (.reg [⟨(some 26), .mv (.t 1), none⟩,
    ⟨(some 27), .mv (.t 8), none⟩,
    ⟨(some 28), .bin .quo (.t 27) (.c (.i .i64 4)), none⟩,
    ⟨(some 29), .bin .mul (.t 28) (.c (.i .i64 3)), none⟩,
    ⟨(some 30), .bin .add (.t 26) (.t 29), none⟩,
    ⟨(some 12), .mv (.t 30), none⟩])
  (.seq (.seq (.reg [⟨(some 31), .mv (.t 8), none⟩,
    ⟨(some 32), .bin .geq (.t 31) (.c (.i .i64 8)), none⟩])
  (.cond (.t 32)
   (.seq (.seq (.reg [⟨(some 33), .mv (.t 8), none⟩,
     ⟨(some 34), .bin .geq (.t 33) (.c (.i .i64 50)), none⟩])
   (.cond (.t 34)
    (.seq (.reg [⟨(some 35), .mv (.t 0), none⟩,
      ⟨(some 36), .mv (.t 10), none⟩,
      ⟨(some 37), .call f_slices_medianAdjacentOrdered_int [(.t 35), (.t 36), (.t 9)], none⟩,
      ⟨(some 10), .mv (.t 37), none⟩])
    (.seq (.reg [⟨(some 38), .mv (.t 0), none⟩,
      ⟨(some 39), .mv (.t 11), none⟩,
      ⟨(some 40), .call f_slices_medianAdjacentOrdered_int [(.t 38), (.t 39), (.t 9)], none⟩,
      ⟨(some 11), .mv (.t 40), none⟩])
    (.reg [⟨(some 41), .mv (.t 0), none⟩,
      ⟨(some 42), .mv (.t 12), none⟩,
      ⟨(some 43), .call f_slices_medianAdjacentOrdered_int [(.t 41), (.t 42), (.t 9)], none⟩,
      ⟨(some 12), .mv (.t 43), none⟩])))
    .skip))
   (.reg [⟨(some 44), .mv (.t 0), none⟩,
     ⟨(some 45), .mv (.t 10), none⟩,
     ⟨(some 46), .mv (.t 11), none⟩,
     ⟨(some 47), .mv (.t 12), none⟩,
     ⟨(some 48), .call f_slices_medianOrdered_int [(.t 44), (.t 45), (.t 46), (.t 47), (.t 9)], none⟩,
     ⟨(some 11), .mv (.t 48), none⟩]))
   .skip))
  (.seq (.reg [⟨(some 49), .ld false 1 (.t 9), none⟩])
  (.blk 0 (.seq (.reg [⟨(some 52), .bin .eql (.t 49) (.c (.i .i64 0)), none⟩,
     ⟨(some 51), .mv (.t 52), none⟩])
   (.cond (.t 51)
    (.seq (.reg [⟨(some 53), .mv (.t 11), none⟩,
      ⟨(some 6), .mv (.t 53), none⟩,
      ⟨(some 7), .mv (.c (.i .i64 1)), none⟩])
    .ret)
    (.seq (.reg [⟨(some 55), .bin .eql (.t 49) (.c (.i .i64 12)), none⟩,
      ⟨(some 54), .mv (.t 55), none⟩])
    (.cond (.t 54)
     (.seq (.reg [⟨(some 56), .mv (.t 11), none⟩,
       ⟨(some 6), .mv (.t 56), none⟩,
       ⟨(some 7), .mv (.c (.i .i64 2)), none⟩])
     .ret)
     (.seq (.reg [⟨(some 50), .mv (.t 11), none⟩,
       ⟨(some 6), .mv (.t 50), none⟩,
       ⟨(some 7), .mv (.c (.i .i64 0)), none⟩])
     .ret)))))))))))))) }
def c_slices_reverseRangeOrdered_int : Fun := { cin := [(.sl 1 .id), .id, .id], cout := [], ntmps := 32, keep := false, res := [], body :=
  (.seq (.reg [⟨(some 8), .mv (.t 1), none⟩,
    ⟨(some 6), .mv (.t 8), none⟩])
  (.seq (.reg [⟨(some 9), .mv (.t 2), none⟩,
    ⟨(some 10), .bin .sub (.t 9) (.c (.i .i64 1)), none⟩,
    ⟨(some 7), .mv (.t 10), none⟩])
  (.blk 0 (.loop (.seq (.seq (.reg [⟨(some 11), .mv (.t 6), none⟩,
      ⟨(some 12), .mv (.t 7), none⟩,
      ⟨(some 13), .bin .lss (.t 11) (.t 12), none⟩])
    (.cond (.t 13)
     .skip
     (.exit 0)))
    (.blk 1 (.seq (.seq (.thw 0)
     (.regD [⟨(some 14), .mv (.t 0), none⟩,
       ⟨(some 15), .mv (.t 6), none⟩,
       ⟨(some 16), .mv (.t 0), none⟩,
       ⟨(some 17), .mv (.t 7), none⟩,
       ⟨(some 18), .mv (.t 0), none⟩,
       ⟨(some 19), .mv (.t 7), none⟩,
       ⟨(some 20), .ia 1 (.t 18) (.t 19), none⟩,
       ⟨(some 21), .ld false 1 (.t 20), none⟩,
       ⟨(some 22), .mv (.t 0), none⟩,
       ⟨(some 23), .mv (.t 6), none⟩,
       ⟨(some 24), .ia 1 (.t 22) (.t 23), none⟩,
       ⟨(some 25), .ld false 1 (.t 24), none⟩,
       ⟨(some 26), .ia 1 (.t 14) (.t 15), none⟩,
       ⟨none, .st 1 (.t 26) (.t 21), none⟩,
       ⟨(some 27), .ia 1 (.t 16) (.t 17), none⟩,
       ⟨none, .st 1 (.t 27) (.t 25), none⟩] []))
     (.seq (.reg [⟨(some 28), .mv (.t 6), none⟩,
       ⟨(some 29), .bin .add (.t 28) (.c (.i .i64 1)), none⟩,
       ⟨(some 6), .mv (.t 29), none⟩])
     (.reg [⟨(some 30), .mv (.t 7), none⟩,
       ⟨(some 31), .bin .sub (.t 30) (.c (.i .i64 1)), none⟩,
       ⟨(some 7), .mv (.t 31), none⟩]))))))))) }
def c_slices_partialInsertionSortOrdered_int : Fun := { cin := [(.sl 1 .id), .id, .id], cout := [.id], ntmps := 133, keep := false, res := [(6, none)], body :=
  (.seq (.reg [⟨(some 6), .mv (.c (.b false)), none⟩])
  (.seq (.reg [⟨(some 11), .mv (.t 1), none⟩,
    ⟨(some 12), .bin .add (.t 11) (.c (.i .i64 1)), none⟩,
    ⟨(some 7), .mv (.t 12), none⟩])
  (.seq (.seq (.reg [⟨(some 8), .mv (.c (.i .i64 0)), none⟩])
  (.blk 0 (.loop (.seq (.seq (.reg [⟨(some 13), .mv (.t 8), none⟩,
      ⟨(some 14), .bin .lss (.t 13) (.c (.i .i64 5)), none⟩])
    (.cond (.t 14)
     .skip
     (.exit 0)))
    (.seq (.blk 1 (.seq (.blk 2 (.loop (.seq (.seq (.regD [⟨(some 17), .mv (.t 7), none⟩,
         ⟨(some 18), .mv (.t 2), none⟩,
         ⟨(some 19), .bin .lss (.t 17) (.t 18), none⟩,
         ⟨(some 20), .mv (.t 19), none⟩,
         ⟨(some 21), .mv (.t 0), (some (20, true))⟩,
         ⟨(some 22), .mv (.t 7), (some (20, true))⟩,
         ⟨(some 23), .ia 1 (.t 21) (.t 22), (some (20, true))⟩,
         ⟨(some 24), .ld false 1 (.t 23), (some (20, true))⟩,
         ⟨(some 25), .mv (.t 0), (some (20, true))⟩,
         ⟨(some 26), .mv (.t 7), (some (20, true))⟩,
         ⟨(some 27), .bin .sub (.t 26) (.c (.i .i64 1)), (some (20, true))⟩,
         ⟨(some 28), .ia 1 (.t 25) (.t 27), (some (20, true))⟩,
         ⟨(some 29), .ld false 1 (.t 28), (some (20, true))⟩,
         ⟨(some 30), .call f_cmp_Less_int [(.t 24), (.t 29)], (some (20, true))⟩,
         ⟨(some 31), .un .not (.t 30), (some (20, true))⟩,
         ⟨(some 32), .pick (.t 20) (.t 31) (.c (.b false)), none⟩] [])
       (.cond (.t 32)
        .skip
        (.exit 2)))
       (.blk 3 (.reg [⟨(some 33), .mv (.t 7), none⟩,
          ⟨(some 34), .bin .add (.t 33) (.c (.i .i64 1)), none⟩,
          ⟨(some 7), .mv (.t 34), none⟩])))))
     (.seq (.seq (.reg [⟨(some 35), .mv (.t 7), none⟩,
       ⟨(some 36), .mv (.t 2), none⟩,
       ⟨(some 37), .bin .eql (.t 35) (.t 36), none⟩])
     (.cond (.t 37)
      (.seq (.reg [⟨(some 6), .mv (.c (.b true)), none⟩])
      .ret)
      .skip))
     (.seq (.seq (.reg [⟨(some 38), .mv (.t 2), none⟩,
       ⟨(some 39), .mv (.t 1), none⟩,
       ⟨(some 40), .bin .sub (.t 38) (.t 39), none⟩,
       ⟨(some 41), .bin .lss (.t 40) (.c (.i .i64 50)), none⟩])
     (.cond (.t 41)
      (.seq (.reg [⟨(some 6), .mv (.c (.b false)), none⟩])
      .ret)
      .skip))
     (.seq (.seq (.thw 0)
     (.regD [⟨(some 42), .mv (.t 0), none⟩,
       ⟨(some 43), .mv (.t 7), none⟩,
       ⟨(some 44), .mv (.t 0), none⟩,
       ⟨(some 45), .mv (.t 7), none⟩,
       ⟨(some 46), .bin .sub (.t 45) (.c (.i .i64 1)), none⟩,
       ⟨(some 47), .mv (.t 0), none⟩,
       ⟨(some 48), .mv (.t 7), none⟩,
       ⟨(some 49), .bin .sub (.t 48) (.c (.i .i64 1)), none⟩,
       ⟨(some 50), .ia 1 (.t 47) (.t 49), none⟩,
       ⟨(some 51), .ld false 1 (.t 50), none⟩,
       ⟨(some 52), .mv (.t 0), none⟩,
       ⟨(some 53), .mv (.t 7), none⟩,
       ⟨(some 54), .ia 1 (.t 52) (.t 53), none⟩,
       ⟨(some 55), .ld false 1 (.t 54), none⟩,
       ⟨(some 56), .ia 1 (.t 42) (.t 43), none⟩,
       ⟨none, .st 1 (.t 56) (.t 51), none⟩,
       ⟨(some 57), .ia 1 (.t 44) (.t 46), none⟩,
       ⟨none, .st 1 (.t 57) (.t 55), none⟩] []))
     (.seq (.seq (.reg [⟨(some 58), .mv (.t 7), none⟩,
       ⟨(some 59), .mv (.t 1), none⟩,
       ⟨(some 60), .bin .sub (.t 58) (.t 59), none⟩,
       ⟨(some 61), .bin .geq (.t 60) (.c (.i .i64 2)), none⟩])
     (.cond (.t 61)
      (.seq (.reg [⟨(some 62), .mv (.t 7), none⟩,
        ⟨(some 63), .bin .sub (.t 62) (.c (.i .i64 1)), none⟩,
        ⟨(some 9), .mv (.t 63), none⟩])
      (.blk 4 (.loop (.seq (.seq (.reg [⟨(some 64), .mv (.t 9), none⟩,
          ⟨(some 65), .bin .geq (.t 64) (.c (.i .i64 1)), none⟩])
        (.cond (.t 65)
         .skip
         (.exit 4)))
        (.seq (.blk 5 (.seq (.seq (.regD [⟨(some 68), .mv (.t 0), none⟩,
           ⟨(some 69), .mv (.t 9), none⟩,
           ⟨(some 70), .ia 1 (.t 68) (.t 69), none⟩,
           ⟨(some 71), .ld false 1 (.t 70), none⟩,
           ⟨(some 72), .mv (.t 0), none⟩,
           ⟨(some 73), .mv (.t 9), none⟩,
           ⟨(some 74), .bin .sub (.t 73) (.c (.i .i64 1)), none⟩,
           ⟨(some 75), .ia 1 (.t 72) (.t 74), none⟩,
           ⟨(some 76), .ld false 1 (.t 75), none⟩,
           ⟨(some 77), .call f_cmp_Less_int [(.t 71), (.t 76)], none⟩,
           ⟨(some 78), .un .not (.t 77), none⟩] [])
         (.cond (.t 78)
          (.exit 4)
          .skip))
         (.seq (.thw 0)
         (.regD [⟨(some 79), .mv (.t 0), none⟩,
           ⟨(some 80), .mv (.t 9), none⟩,
           ⟨(some 81), .mv (.t 0), none⟩,
           ⟨(some 82), .mv (.t 9), none⟩,
           ⟨(some 83), .bin .sub (.t 82) (.c (.i .i64 1)), none⟩,
           ⟨(some 84), .mv (.t 0), none⟩,
           ⟨(some 85), .mv (.t 9), none⟩,
           ⟨(some 86), .bin .sub (.t 85) (.c (.i .i64 1)), none⟩,
           ⟨(some 87), .ia 1 (.t 84) (.t 86), none⟩,
           ⟨(some 88), .ld false 1 (.t 87), none⟩,
           ⟨(some 89), .mv (.t 0), none⟩,
           ⟨(some 90), .mv (.t 9), none⟩,
           ⟨(some 91), .ia 1 (.t 89) (.t 90), none⟩,
           ⟨(some 92), .ld false 1 (.t 91), none⟩,
           ⟨(some 93), .ia 1 (.t 79) (.t 80), none⟩,
           ⟨none, .st 1 (.t 93) (.t 88), none⟩,
           ⟨(some 94), .ia 1 (.t 81) (.t 83), none⟩,
           ⟨none, .st 1 (.t 94) (.t 92), none⟩] []))))
        (.reg [⟨(some 66), .mv (.t 9), none⟩,
          ⟨(some 67), .bin .sub (.t 66) (.c (.i .i64 1)), none⟩,
          ⟨(some 9), .mv (.t 67), none⟩]))))))
      .skip))
     (.seq (.reg [⟨(some 95), .mv (.t 2), none⟩,
       ⟨(some 96), .mv (.t 7), none⟩,
       ⟨(some 97), .bin .sub (.t 95) (.t 96), none⟩,
       ⟨(some 98), .bin .geq (.t 97) (.c (.i .i64 2)), none⟩])
     (.cond (.t 98)
      (.seq (.reg [⟨(some 99), .mv (.t 7), none⟩,
        ⟨(some 100), .bin .add (.t 99) (.c (.i .i64 1)), none⟩,
        ⟨(some 10), .mv (.t 100), none⟩])
      (.blk 6 (.loop (.seq (.seq (.reg [⟨(some 101), .mv (.t 10), none⟩,
          ⟨(some 102), .mv (.t 2), none⟩,
          ⟨(some 103), .bin .lss (.t 101) (.t 102), none⟩])
        (.cond (.t 103)
         .skip
         (.exit 6)))
        (.seq (.blk 7 (.seq (.seq (.regD [⟨(some 106), .mv (.t 0), none⟩,
           ⟨(some 107), .mv (.t 10), none⟩,
           ⟨(some 108), .ia 1 (.t 106) (.t 107), none⟩,
           ⟨(some 109), .ld false 1 (.t 108), none⟩,
           ⟨(some 110), .mv (.t 0), none⟩,
           ⟨(some 111), .mv (.t 10), none⟩,
           ⟨(some 112), .bin .sub (.t 111) (.c (.i .i64 1)), none⟩,
           ⟨(some 113), .ia 1 (.t 110) (.t 112), none⟩,
           ⟨(some 114), .ld false 1 (.t 113), none⟩,
           ⟨(some 115), .call f_cmp_Less_int [(.t 109), (.t 114)], none⟩,
           ⟨(some 116), .un .not (.t 115), none⟩] [])
         (.cond (.t 116)
          (.exit 6)
          .skip))
         (.seq (.thw 0)
         (.regD [⟨(some 117), .mv (.t 0), none⟩,
           ⟨(some 118), .mv (.t 10), none⟩,
           ⟨(some 119), .mv (.t 0), none⟩,
           ⟨(some 120), .mv (.t 10), none⟩,
           ⟨(some 121), .bin .sub (.t 120) (.c (.i .i64 1)), none⟩,
           ⟨(some 122), .mv (.t 0), none⟩,
           ⟨(some 123), .mv (.t 10), none⟩,
           ⟨(some 124), .bin .sub (.t 123) (.c (.i .i64 1)), none⟩,
           ⟨(some 125), .ia 1 (.t 122) (.t 124), none⟩,
           ⟨(some 126), .ld false 1 (.t 125), none⟩,
           ⟨(some 127), .mv (.t 0), none⟩,
           ⟨(some 128), .mv (.t 10), none⟩,
           ⟨(some 129), .ia 1 (.t 127) (.t 128), none⟩,
           ⟨(some 130), .ld false 1 (.t 129), none⟩,
           ⟨(some 131), .ia 1 (.t 117) (.t 118), none⟩,
           ⟨none, .st 1 (.t 131) (.t 126), none⟩,
           ⟨(some 132), .ia 1 (.t 119) (.t 121), none⟩,
           ⟨none, .st 1 (.t 132) (.t 130), none⟩] []))))
        (.reg [⟨(some 104), .mv (.t 10), none⟩,
          ⟨(some 105), .bin .add (.t 104) (.c (.i .i64 1)), none⟩,
          ⟨(some 10), .mv (.t 105), none⟩]))))))
      .skip))))))))
    (.reg [⟨(some 15), .mv (.t 8), none⟩,
      ⟨(some 16), .bin .add (.t 15) (.c (.i .i64 1)), none⟩,
      ⟨(some 8), .mv (.t 16), none⟩]))))))
  (.seq (.reg [⟨(some 6), .mv (.c (.b false)), none⟩])
  .ret)))) }
def c_cmp_Less_int : Fun := { cin := [.id, .id], cout := [.id], ntmps := 17, keep := false, res := [(4, none)], body :=
  (.seq (.reg [⟨(some 4), .mv (.c (.b false)), none⟩])
  (.seq (.reg [⟨(some 5), .mv (.t 0), none⟩,
    ⟨(some 6), .call f_cmp_isNaN_int [(.t 5)], none⟩,
    ⟨(some 7), .mv (.t 6), none⟩,
    ⟨(some 8), .mv (.t 1), (some (7, true))⟩,
    ⟨(some 9), .call f_cmp_isNaN_int [(.t 8)], (some (7, true))⟩,
    ⟨(some 10), .un .not (.t 9), (some (7, true))⟩,
    ⟨(some 11), .pick (.t 7) (.t 10) (.c (.b false)), none⟩,
    ⟨(some 12), .mv (.t 11), none⟩,
    ⟨(some 13), .mv (.t 0), (some (12, false))⟩,
    ⟨(some 14), .mv (.t 1), (some (12, false))⟩,
    ⟨(some 15), .bin .lss (.t 13) (.t 14), (some (12, false))⟩,
    ⟨(some 16), .pick (.t 12) (.c (.b true)) (.t 15), none⟩,
    ⟨(some 4), .mv (.t 16), none⟩])
  .ret)) }
def c_slices_partitionEqualOrdered_int : Fun := { cin := [(.sl 1 .id), .id, .id, .id], cout := [.id], ntmps := 84, keep := false, res := [(8, none)], body :=
  (.seq (.reg [⟨(some 8), .mv (.c (.i .i64 0)), none⟩])
  (.seq (.seq (.thw 0)
  (.regD [⟨(some 11), .mv (.t 0), none⟩,
    ⟨(some 12), .mv (.t 1), none⟩,
    ⟨(some 13), .mv (.t 0), none⟩,
    ⟨(some 14), .mv (.t 3), none⟩,
    ⟨(some 15), .mv (.t 0), none⟩,
    ⟨(some 16), .mv (.t 3), none⟩,
    ⟨(some 17), .ia 1 (.t 15) (.t 16), none⟩,
    ⟨(some 18), .ld false 1 (.t 17), none⟩,
    ⟨(some 19), .mv (.t 0), none⟩,
    ⟨(some 20), .mv (.t 1), none⟩,
    ⟨(some 21), .ia 1 (.t 19) (.t 20), none⟩,
    ⟨(some 22), .ld false 1 (.t 21), none⟩,
    ⟨(some 23), .ia 1 (.t 11) (.t 12), none⟩,
    ⟨none, .st 1 (.t 23) (.t 18), none⟩,
    ⟨(some 24), .ia 1 (.t 13) (.t 14), none⟩,
    ⟨none, .st 1 (.t 24) (.t 22), none⟩] []))
  (.seq (.reg [⟨(some 25), .mv (.t 1), none⟩,
    ⟨(some 26), .bin .add (.t 25) (.c (.i .i64 1)), none⟩,
    ⟨(some 27), .mv (.t 2), none⟩,
    ⟨(some 28), .bin .sub (.t 27) (.c (.i .i64 1)), none⟩,
    ⟨(some 9), .mv (.t 26), none⟩,
    ⟨(some 10), .mv (.t 28), none⟩])
  (.seq (.blk 0 (.loop (.blk 1 (.seq (.blk 2 (.loop (.seq (.seq (.regD [⟨(some 29), .mv (.t 9), none⟩,
         ⟨(some 30), .mv (.t 10), none⟩,
         ⟨(some 31), .bin .leq (.t 29) (.t 30), none⟩,
         ⟨(some 32), .mv (.t 31), none⟩,
         ⟨(some 33), .mv (.t 0), (some (32, true))⟩,
         ⟨(some 34), .mv (.t 1), (some (32, true))⟩,
         ⟨(some 35), .ia 1 (.t 33) (.t 34), (some (32, true))⟩,
         ⟨(some 36), .ld false 1 (.t 35), (some (32, true))⟩,
         ⟨(some 37), .mv (.t 0), (some (32, true))⟩,
         ⟨(some 38), .mv (.t 9), (some (32, true))⟩,
         ⟨(some 39), .ia 1 (.t 37) (.t 38), (some (32, true))⟩,
         ⟨(some 40), .ld false 1 (.t 39), (some (32, true))⟩,
         ⟨(some 41), .call f_cmp_Less_int [(.t 36), (.t 40)], (some (32, true))⟩,
         ⟨(some 42), .un .not (.t 41), (some (32, true))⟩,
         ⟨(some 43), .pick (.t 32) (.t 42) (.c (.b false)), none⟩] [])
       (.cond (.t 43)
        .skip
        (.exit 2)))
       (.blk 3 (.reg [⟨(some 44), .mv (.t 9), none⟩,
          ⟨(some 45), .bin .add (.t 44) (.c (.i .i64 1)), none⟩,
          ⟨(some 9), .mv (.t 45), none⟩])))))
     (.seq (.blk 4 (.loop (.seq (.seq (.regD [⟨(some 46), .mv (.t 9), none⟩,
         ⟨(some 47), .mv (.t 10), none⟩,
         ⟨(some 48), .bin .leq (.t 46) (.t 47), none⟩,
         ⟨(some 49), .mv (.t 48), none⟩,
         ⟨(some 50), .mv (.t 0), (some (49, true))⟩,
         ⟨(some 51), .mv (.t 1), (some (49, true))⟩,
         ⟨(some 52), .ia 1 (.t 50) (.t 51), (some (49, true))⟩,
         ⟨(some 53), .ld false 1 (.t 52), (some (49, true))⟩,
         ⟨(some 54), .mv (.t 0), (some (49, true))⟩,
         ⟨(some 55), .mv (.t 10), (some (49, true))⟩,
         ⟨(some 56), .ia 1 (.t 54) (.t 55), (some (49, true))⟩,
         ⟨(some 57), .ld false 1 (.t 56), (some (49, true))⟩,
         ⟨(some 58), .call f_cmp_Less_int [(.t 53), (.t 57)], (some (49, true))⟩,
         ⟨(some 59), .pick (.t 49) (.t 58) (.c (.b false)), none⟩] [])
       (.cond (.t 59)
        .skip
        (.exit 4)))
       (.blk 5 (.reg [⟨(some 60), .mv (.t 10), none⟩,
          ⟨(some 61), .bin .sub (.t 60) (.c (.i .i64 1)), none⟩,
          ⟨(some 10), .mv (.t 61), none⟩])))))
     (.seq (.seq (.reg [⟨(some 62), .mv (.t 9), none⟩,
       ⟨(some 63), .mv (.t 10), none⟩,
       ⟨(some 64), .bin .gtr (.t 62) (.t 63), none⟩])
     (.cond (.t 64)
      (.exit 0)
      .skip))
     (.seq (.seq (.thw 0)
     (.regD [⟨(some 65), .mv (.t 0), none⟩,
       ⟨(some 66), .mv (.t 9), none⟩,
       ⟨(some 67), .mv (.t 0), none⟩,
       ⟨(some 68), .mv (.t 10), none⟩,
       ⟨(some 69), .mv (.t 0), none⟩,
       ⟨(some 70), .mv (.t 10), none⟩,
       ⟨(some 71), .ia 1 (.t 69) (.t 70), none⟩,
       ⟨(some 72), .ld false 1 (.t 71), none⟩,
       ⟨(some 73), .mv (.t 0), none⟩,
       ⟨(some 74), .mv (.t 9), none⟩,
       ⟨(some 75), .ia 1 (.t 73) (.t 74), none⟩,
       ⟨(some 76), .ld false 1 (.t 75), none⟩,
       ⟨(some 77), .ia 1 (.t 65) (.t 66), none⟩,
       ⟨none, .st 1 (.t 77) (.t 72), none⟩,
       ⟨(some 78), .ia 1 (.t 67) (.t 68), none⟩,
       ⟨none, .st 1 (.t 78) (.t 76), none⟩] []))
     (.seq (.reg [⟨(some 79), .mv (.t 9), none⟩,
       ⟨(some 80), .bin .add (.t 79) (.c (.i .i64 1)), none⟩,
       ⟨(some 9), .mv (.t 80), none⟩])
     (.reg [⟨(some 81), .mv (.t 10), none⟩,
       ⟨(some 82), .bin .sub (.t 81) (.c (.i .i64 1)), none⟩,
       ⟨(some 10), .mv (.t 82), none⟩])))))))))
  (.seq (.reg [⟨(some 83), .mv (.t 9), none⟩,
    ⟨(some 8), .mv (.t 83), none⟩])
  .ret))))) }
def c_slices_partitionOrdered_int : Fun := { cin := [(.sl 1 .id), .id, .id, .id], cout := [.id, .id], ntmps := 168, keep := false, res := [(8, none), (9, none)], body :=
  (.seq (.reg [⟨(some 8), .mv (.c (.i .i64 0)), none⟩,
    ⟨(some 9), .mv (.c (.b false)), none⟩])
  (.seq (.seq (.thw 0)
  (.regD [⟨(some 12), .mv (.t 0), none⟩,
    ⟨(some 13), .mv (.t 1), none⟩,
    ⟨(some 14), .mv (.t 0), none⟩,
    ⟨(some 15), .mv (.t 3), none⟩,
    ⟨(some 16), .mv (.t 0), none⟩,
    ⟨(some 17), .mv (.t 3), none⟩,
    ⟨(some 18), .ia 1 (.t 16) (.t 17), none⟩,
    ⟨(some 19), .ld false 1 (.t 18), none⟩,
    ⟨(some 20), .mv (.t 0), none⟩,
    ⟨(some 21), .mv (.t 1), none⟩,
    ⟨(some 22), .ia 1 (.t 20) (.t 21), none⟩,
    ⟨(some 23), .ld false 1 (.t 22), none⟩,
    ⟨(some 24), .ia 1 (.t 12) (.t 13), none⟩,
    ⟨none, .st 1 (.t 24) (.t 19), none⟩,
    ⟨(some 25), .ia 1 (.t 14) (.t 15), none⟩,
    ⟨none, .st 1 (.t 25) (.t 23), none⟩] []))
  (.seq (.reg [⟨(some 26), .mv (.t 1), none⟩,
    ⟨(some 27), .bin .add (.t 26) (.c (.i .i64 1)), none⟩,
    ⟨(some 28), .mv (.t 2), none⟩,
    ⟨(some 29), .bin .sub (.t 28) (.c (.i .i64 1)), none⟩,
    ⟨(some 10), .mv (.t 27), none⟩,
    ⟨(some 11), .mv (.t 29), none⟩])
  (.seq (.blk 0 (.loop (.seq (.seq (.regD [⟨(some 30), .mv (.t 10), none⟩,
      ⟨(some 31), .mv (.t 11), none⟩,
      ⟨(some 32), .bin .leq (.t 30) (.t 31), none⟩,
      ⟨(some 33), .mv (.t 32), none⟩,
      ⟨(some 34), .mv (.t 0), (some (33, true))⟩,
      ⟨(some 35), .mv (.t 10), (some (33, true))⟩,
      ⟨(some 36), .ia 1 (.t 34) (.t 35), (some (33, true))⟩,
      ⟨(some 37), .ld false 1 (.t 36), (some (33, true))⟩,
      ⟨(some 38), .mv (.t 0), (some (33, true))⟩,
      ⟨(some 39), .mv (.t 1), (some (33, true))⟩,
      ⟨(some 40), .ia 1 (.t 38) (.t 39), (some (33, true))⟩,
      ⟨(some 41), .ld false 1 (.t 40), (some (33, true))⟩,
      ⟨(some 42), .call f_cmp_Less_int [(.t 37), (.t 41)], (some (33, true))⟩,
      ⟨(some 43), .pick (.t 33) (.t 42) (.c (.b false)), none⟩] [])
    (.cond (.t 43)
     .skip
     (.exit 0)))
    (.blk 1 (.reg [⟨(some 44), .mv (.t 10), none⟩,
       ⟨(some 45), .bin .add (.t 44) (.c (.i .i64 1)), none⟩,
       ⟨(some 10), .mv (.t 45), none⟩])))))
  (.seq (.blk 2 (.loop (.seq (.seq (.regD [⟨(some 46), .mv (.t 10), none⟩,
      ⟨(some 47), .mv (.t 11), none⟩,
      ⟨(some 48), .bin .leq (.t 46) (.t 47), none⟩,
      ⟨(some 49), .mv (.t 48), none⟩,
      ⟨(some 50), .mv (.t 0), (some (49, true))⟩,
      ⟨(some 51), .mv (.t 11), (some (49, true))⟩,
      ⟨(some 52), .ia 1 (.t 50) (.t 51), (some (49, true))⟩,
      ⟨(some 53), .ld false 1 (.t 52), (some (49, true))⟩,
      ⟨(some 54), .mv (.t 0), (some (49, true))⟩,
      ⟨(some 55), .mv (.t 1), (some (49, true))⟩,
      ⟨(some 56), .ia 1 (.t 54) (.t 55), (some (49, true))⟩,
      ⟨(some 57), .ld false 1 (.t 56), (some (49, true))⟩,
      ⟨(some 58), .call f_cmp_Less_int [(.t 53), (.t 57)], (some (49, true))⟩,
      ⟨(some 59), .un .not (.t 58), (some (49, true))⟩,
      ⟨(some 60), .pick (.t 49) (.t 59) (.c (.b false)), none⟩] [])
    (.cond (.t 60)
     .skip
     (.exit 2)))
    (.blk 3 (.reg [⟨(some 61), .mv (.t 11), none⟩,
       ⟨(some 62), .bin .sub (.t 61) (.c (.i .i64 1)), none⟩,
       ⟨(some 11), .mv (.t 62), none⟩])))))
  (.seq (.seq (.reg [⟨(some 63), .mv (.t 10), none⟩,
    ⟨(some 64), .mv (.t 11), none⟩,
    ⟨(some 65), .bin .gtr (.t 63) (.t 64), none⟩])
  (.cond (.t 65)
   (.seq (.seq (.thw 0)
   (.regD [⟨(some 66), .mv (.t 0), none⟩,
     ⟨(some 67), .mv (.t 11), none⟩,
     ⟨(some 68), .mv (.t 0), none⟩,
     ⟨(some 69), .mv (.t 1), none⟩,
     ⟨(some 70), .mv (.t 0), none⟩,
     ⟨(some 71), .mv (.t 1), none⟩,
     ⟨(some 72), .ia 1 (.t 70) (.t 71), none⟩,
     ⟨(some 73), .ld false 1 (.t 72), none⟩,
     ⟨(some 74), .mv (.t 0), none⟩,
     ⟨(some 75), .mv (.t 11), none⟩,
     ⟨(some 76), .ia 1 (.t 74) (.t 75), none⟩,
     ⟨(some 77), .ld false 1 (.t 76), none⟩,
     ⟨(some 78), .ia 1 (.t 66) (.t 67), none⟩,
     ⟨none, .st 1 (.t 78) (.t 73), none⟩,
     ⟨(some 79), .ia 1 (.t 68) (.t 69), none⟩,
     ⟨none, .st 1 (.t 79) (.t 77), none⟩] []))
   (.seq (.reg [⟨(some 80), .mv (.t 11), none⟩,
     ⟨(some 8), .mv (.t 80), none⟩,
     ⟨(some 9), .mv (.c (.b true)), none⟩])
   .ret))
   .skip))
  (.seq (.seq (.thw 0)
  (.regD [⟨(some 81), .mv (.t 0), none⟩,
    ⟨(some 82), .mv (.t 10), none⟩,
    ⟨(some 83), .mv (.t 0), none⟩,
    ⟨(some 84), .mv (.t 11), none⟩,
    ⟨(some 85), .mv (.t 0), none⟩,
    ⟨(some 86), .mv (.t 11), none⟩,
    ⟨(some 87), .ia 1 (.t 85) (.t 86), none⟩,
    ⟨(some 88), .ld false 1 (.t 87), none⟩,
    ⟨(some 89), .mv (.t 0), none⟩,
    ⟨(some 90), .mv (.t 10), none⟩,
    ⟨(some 91), .ia 1 (.t 89) (.t 90), none⟩,
    ⟨(some 92), .ld false 1 (.t 91), none⟩,
    ⟨(some 93), .ia 1 (.t 81) (.t 82), none⟩,
    ⟨none, .st 1 (.t 93) (.t 88), none⟩,
    ⟨(some 94), .ia 1 (.t 83) (.t 84), none⟩,
    ⟨none, .st 1 (.t 94) (.t 92), none⟩] []))
  (.seq (.reg [⟨(some 95), .mv (.t 10), none⟩,
    ⟨(some 96), .bin .add (.t 95) (.c (.i .i64 1)), none⟩,
    ⟨(some 10), .mv (.t 96), none⟩])
  (.seq (.reg [⟨(some 97), .mv (.t 11), none⟩,
    ⟨(some 98), .bin .sub (.t 97) (.c (.i .i64 1)), none⟩,
    ⟨(some 11), .mv (.t 98), none⟩])
  (.seq (.blk 4 (.loop (.blk 5 (.seq (.blk 6 (.loop (.seq (.seq (.regD [⟨(some 99), .mv (.t 10), none⟩,
         ⟨(some 100), .mv (.t 11), none⟩,
         ⟨(some 101), .bin .leq (.t 99) (.t 100), none⟩,
         ⟨(some 102), .mv (.t 101), none⟩,
         ⟨(some 103), .mv (.t 0), (some (102, true))⟩,
         ⟨(some 104), .mv (.t 10), (some (102, true))⟩,
         ⟨(some 105), .ia 1 (.t 103) (.t 104), (some (102, true))⟩,
         ⟨(some 106), .ld false 1 (.t 105), (some (102, true))⟩,
         ⟨(some 107), .mv (.t 0), (some (102, true))⟩,
         ⟨(some 108), .mv (.t 1), (some (102, true))⟩,
         ⟨(some 109), .ia 1 (.t 107) (.t 108), (some (102, true))⟩,
         ⟨(some 110), .ld false 1 (.t 109), (some (102, true))⟩,
         ⟨(some 111), .call f_cmp_Less_int [(.t 106), (.t 110)], (some (102, true))⟩,
         ⟨(some 112), .pick (.t 102) (.t 111) (.c (.b false)), none⟩] [])
       (.cond (.t 112)
        .skip
        (.exit 6)))
       (.blk 7 (.reg [⟨(some 113), .mv (.t 10), none⟩,
          ⟨(some 114), .bin .add (.t 113) (.c (.i .i64 1)), none⟩,
          ⟨(some 10), .mv (.t 114), none⟩])))))
     (.seq (.blk 8 (.loop (.seq (.seq (.regD [⟨(some 115), .mv (.t 10), none⟩,
         ⟨(some 116), .mv (.t 11), none⟩,
         ⟨(some 117), .bin .leq (.t 115) (.t 116), none⟩,
         ⟨(some 118), .mv (.t 117), none⟩,
         ⟨(some 119), .mv (.t 0), (some (118, true))⟩,
         ⟨(some 120), .mv (.t 11), (some (118, true))⟩,
         ⟨(some 121), .ia 1 (.t 119) (.t 120), (some (118, true))⟩,
         ⟨(some 122), .ld false 1 (.t 121), (some (118, true))⟩,
         ⟨(some 123), .mv (.t 0), (some (118, true))⟩,
         ⟨(some 124), .mv (.t 1), (some (118, true))⟩,
         ⟨(some 125), .ia 1 (.t 123) (.t 124), (some (118, true))⟩,
         ⟨(some 126), .ld false 1 (.t 125), (some (118, true))⟩,
         ⟨(some 127), .call f_cmp_Less_int [(.t 122), (.t 126)], (some (118, true))⟩,
         ⟨(some 128), .un .not (.t 127), (some (118, true))⟩,
         ⟨(some 129), .pick (.t 118) (.t 128) (.c (.b false)), none⟩] [])
       (.cond (.t 129)
        .skip
        (.exit 8)))
       (.blk 9 (.reg [⟨(some 130), .mv (.t 11), none⟩,
          ⟨(some 131), .bin .sub (.t 130) (.c (.i .i64 1)), none⟩,
          ⟨(some 11), .mv (.t 131), none⟩])))))
     (.seq (.seq (.reg [⟨(some 132), .mv (.t 10), none⟩,
       ⟨(some 133), .mv (.t 11), none⟩,
       ⟨(some 134), .bin .gtr (.t 132) (.t 133), none⟩])
     (.cond (.t 134)
      (.exit 4)
      .skip))
     (.seq (.seq (.thw 0)
     (.regD [⟨(some 135), .mv (.t 0), none⟩,
       ⟨(some 136), .mv (.t 10), none⟩,
       ⟨(some 137), .mv (.t 0), none⟩,
       ⟨(some 138), .mv (.t 11), none⟩,
       ⟨(some 139), .mv (.t 0), none⟩,
       ⟨(some 140), .mv (.t 11), none⟩,
       ⟨(some 141), .ia 1 (.t 139) (.t 140), none⟩,
       ⟨(some 142), .ld false 1 (.t 141), none⟩,
       ⟨(some 143), .mv (.t 0), none⟩,
       ⟨(some 144), .mv (.t 10), none⟩,
       ⟨(some 145), .ia 1 (.t 143) (.t 144), none⟩,
       ⟨(some 146), .ld false 1 (.t 145), none⟩,
       ⟨(some 147), .ia 1 (.t 135) (.t 136), none⟩,
       ⟨none, .st 1 (.t 147) (.t 142), none⟩,
       ⟨(some 148), .ia 1 (.t 137) (.t 138), none⟩,
       ⟨none, .st 1 (.t 148) (.t 146), none⟩] []))
     (.seq (.reg [⟨(some 149), .mv (.t 10), none⟩,
       ⟨(some 150), .bin .add (.t 149) (.c (.i .i64 1)), none⟩,
       ⟨(some 10), .mv (.t 150), none⟩])
     (.reg [⟨(some 151), .mv (.t 11), none⟩,
       ⟨(some 152), .bin .sub (.t 151) (.c (.i .i64 1)), none⟩,
       ⟨(some 11), .mv (.t 152), none⟩])))))))))
  (.seq (.seq (.thw 0)
  (.regD [⟨(some 153), .mv (.t 0), none⟩,
    ⟨(some 154), .mv (.t 11), none⟩,
    ⟨(some 155), .mv (.t 0), none⟩,
    ⟨(some 156), .mv (.t 1), none⟩,
    ⟨(some 157), .mv (.t 0), none⟩,
    ⟨(some 158), .mv (.t 1), none⟩,
    ⟨(some 159), .ia 1 (.t 157) (.t 158), none⟩,
    ⟨(some 160), .ld false 1 (.t 159), none⟩,
    ⟨(some 161), .mv (.t 0), none⟩,
    ⟨(some 162), .mv (.t 11), none⟩,
    ⟨(some 163), .ia 1 (.t 161) (.t 162), none⟩,
    ⟨(some 164), .ld false 1 (.t 163), none⟩,
    ⟨(some 165), .ia 1 (.t 153) (.t 154), none⟩,
    ⟨none, .st 1 (.t 165) (.t 160), none⟩,
    ⟨(some 166), .ia 1 (.t 155) (.t 156), none⟩,
    ⟨none, .st 1 (.t 166) (.t 164), none⟩] []))
  (.seq (.reg [⟨(some 167), .mv (.t 11), none⟩,
    ⟨(some 8), .mv (.t 167), none⟩,
    ⟨(some 9), .mv (.c (.b false)), none⟩])
  .ret)))))))))))) }
def c_math_bits_Len32 : Fun := { cin := [.id], cout := [.id], ntmps := 19, keep := false, res := [(2, none)], body :=
  (.seq (.reg [⟨(some 2), .mv (.c (.i .i64 0)), none⟩])
  (.seq (.seq (.reg [⟨(some 3), .mv (.t 0), none⟩,
    ⟨(some 4), .bin .geq (.t 3) (.c (.i .u32 65536)), none⟩])
  (.cond (.t 4)
   (.seq (.reg [⟨(some 5), .mv (.t 0), none⟩,
     ⟨(some 6), .bin .shr (.t 5) (.c (.i .u64 16)), none⟩,
     ⟨(some 0), .mv (.t 6), none⟩])
   (.reg [⟨(some 2), .mv (.c (.i .i64 16)), none⟩]))
   .skip))
  (.seq (.seq (.reg [⟨(some 7), .mv (.t 0), none⟩,
    ⟨(some 8), .bin .geq (.t 7) (.c (.i .u32 256)), none⟩])
  (.cond (.t 8)
   (.seq (.reg [⟨(some 9), .mv (.t 0), none⟩,
     ⟨(some 10), .bin .shr (.t 9) (.c (.i .u64 8)), none⟩,
     ⟨(some 0), .mv (.t 10), none⟩])
   (.reg [⟨(some 11), .mv (.t 2), none⟩,
     ⟨(some 12), .bin .add (.t 11) (.c (.i .i64 8)), none⟩,
     ⟨(some 2), .mv (.t 12), none⟩]))
   .skip))
  (.seq (.reg [⟨(some 13), .mv (.t 2), none⟩,
    ⟨(some 14), .mv (.t 0), none⟩,
    ⟨(some 15), .cvI .u8 (.t 14), none⟩,
    ⟨(some 16), .ixS (.c (.s [0, 1, 2, 2, 3, 3, 3, 3, 4, 4, 4, 4, 4, 4, 4, 4, 5, 5, 5, 5, 5, 5, 5, 5, 5, 5, 5, 5, 5, 5, 5, 5, 6, 6, 6, 6, 6, 6, 6, 6, 6, 6, 6, 6, 6, 6, 6, 6, 6, 6, 6, 6, 6, 6, 6, 6, 6, 6, 6, 6, 6, 6, 6, 6, 7, 7, 7, 7, 7, 7, 7, 7, 7, 7, 7, 7, 7, 7, 7, 7, 7, 7, 7, 7, 7, 7, 7, 7, 7, 7, 7, 7, 7, 7, 7, 7, 7, 7, 7, 7, 7, 7, 7, 7, 7, 7, 7, 7, 7, 7, 7, 7, 7, 7, 7, 7, 7, 7, 7, 7, 7, 7, 7, 7, 7, 7, 7, 7, 8, 8, 8, 8, 8, 8, 8, 8, 8, 8, 8, 8, 8, 8, 8, 8, 8, 8, 8, 8, 8, 8, 8, 8, 8, 8, 8, 8, 8, 8, 8, 8, 8, 8, 8, 8, 8, 8, 8, 8, 8, 8, 8, 8, 8, 8, 8, 8, 8, 8, 8, 8, 8, 8, 8, 8, 8, 8, 8, 8, 8, 8, 8, 8, 8, 8, 8, 8, 8, 8, 8, 8, 8, 8, 8, 8, 8, 8, 8, 8, 8, 8, 8, 8, 8, 8, 8, 8, 8, 8, 8, 8, 8, 8, 8, 8, 8, 8, 8, 8, 8, 8, 8, 8, 8, 8, 8, 8, 8, 8, 8, 8, 8, 8, 8, 8, 8, 8, 8, 8, 8, 8, 8, 8, 8, 8, 8, 8])) (.t 15), none⟩,
    ⟨(some 17), .cvI .i64 (.t 16), none⟩,
    ⟨(some 18), .bin .add (.t 13) (.t 17), none⟩,
    ⟨(some 2), .mv (.t 18), none⟩])
  .ret)))) }
def c_math_bits_Len64 : Fun := { cin := [.id], cout := [.id], ntmps := 25, keep := false, res := [(2, none)], body :=
  (.seq (.reg [⟨(some 2), .mv (.c (.i .i64 0)), none⟩])
  (.seq (.seq (.reg [⟨(some 3), .mv (.t 0), none⟩,
    ⟨(some 4), .bin .geq (.t 3) (.c (.i .u64 4294967296)), none⟩])
  (.cond (.t 4)
   (.seq (.reg [⟨(some 5), .mv (.t 0), none⟩,
     ⟨(some 6), .bin .shr (.t 5) (.c (.i .u64 32)), none⟩,
     ⟨(some 0), .mv (.t 6), none⟩])
   (.reg [⟨(some 2), .mv (.c (.i .i64 32)), none⟩]))
   .skip))
  (.seq (.seq (.reg [⟨(some 7), .mv (.t 0), none⟩,
    ⟨(some 8), .bin .geq (.t 7) (.c (.i .u64 65536)), none⟩])
  (.cond (.t 8)
   (.seq (.reg [⟨(some 9), .mv (.t 0), none⟩,
     ⟨(some 10), .bin .shr (.t 9) (.c (.i .u64 16)), none⟩,
     ⟨(some 0), .mv (.t 10), none⟩])
   (.reg [⟨(some 11), .mv (.t 2), none⟩,
     ⟨(some 12), .bin .add (.t 11) (.c (.i .i64 16)), none⟩,
     ⟨(some 2), .mv (.t 12), none⟩]))
   .skip))
  (.seq (.seq (.reg [⟨(some 13), .mv (.t 0), none⟩,
    ⟨(some 14), .bin .geq (.t 13) (.c (.i .u64 256)), none⟩])
  (.cond (.t 14)
   (.seq (.reg [⟨(some 15), .mv (.t 0), none⟩,
     ⟨(some 16), .bin .shr (.t 15) (.c (.i .u64 8)), none⟩,
     ⟨(some 0), .mv (.t 16), none⟩])
   (.reg [⟨(some 17), .mv (.t 2), none⟩,
     ⟨(some 18), .bin .add (.t 17) (.c (.i .i64 8)), none⟩,
     ⟨(some 2), .mv (.t 18), none⟩]))
   .skip))
  (.seq (.reg [⟨(some 19), .mv (.t 2), none⟩,
    ⟨(some 20), .mv (.t 0), none⟩,
    ⟨(some 21), .cvI .u8 (.t 20), none⟩,
    ⟨(some 22), .ixS (.c (.s [0, 1, 2, 2, 3, 3, 3, 3, 4, 4, 4, 4, 4, 4, 4, 4, 5, 5, 5, 5, 5, 5, 5, 5, 5, 5, 5, 5, 5, 5, 5, 5, 6, 6, 6, 6, 6, 6, 6, 6, 6, 6, 6, 6, 6, 6, 6, 6, 6, 6, 6, 6, 6, 6, 6, 6, 6, 6, 6, 6, 6, 6, 6, 6, 7, 7, 7, 7, 7, 7, 7, 7, 7, 7, 7, 7, 7, 7, 7, 7, 7, 7, 7, 7, 7, 7, 7, 7, 7, 7, 7, 7, 7, 7, 7, 7, 7, 7, 7, 7, 7, 7, 7, 7, 7, 7, 7, 7, 7, 7, 7, 7, 7, 7, 7, 7, 7, 7, 7, 7, 7, 7, 7, 7, 7, 7, 7, 7, 8, 8, 8, 8, 8, 8, 8, 8, 8, 8, 8, 8, 8, 8, 8, 8, 8, 8, 8, 8, 8, 8, 8, 8, 8, 8, 8, 8, 8, 8, 8, 8, 8, 8, 8, 8, 8, 8, 8, 8, 8, 8, 8, 8, 8, 8, 8, 8, 8, 8, 8, 8, 8, 8, 8, 8, 8, 8, 8, 8, 8, 8, 8, 8, 8, 8, 8, 8, 8, 8, 8, 8, 8, 8, 8, 8, 8, 8, 8, 8, 8, 8, 8, 8, 8, 8, 8, 8, 8, 8, 8, 8, 8, 8, 8, 8, 8, 8, 8, 8, 8, 8, 8, 8, 8, 8, 8, 8, 8, 8, 8, 8, 8, 8, 8, 8, 8, 8, 8, 8, 8, 8, 8, 8, 8, 8, 8, 8])) (.t 21), none⟩,
    ⟨(some 23), .cvI .i64 (.t 22), none⟩,
    ⟨(some 24), .bin .add (.t 19) (.t 23), none⟩,
    ⟨(some 2), .mv (.t 24), none⟩])
  .ret))))) }
def c_internal_stringslite_IndexByte : Fun := { cin := [.id, .id], cout := [.id], ntmps := 8, keep := false, res := [(4, none)], body :=
  (.seq (.reg [⟨(some 4), .mv (.c (.i .i64 0)), none⟩])
  (.seq (.reg [⟨(some 5), .mv (.t 0), none⟩,
    ⟨(some 6), .mv (.t 1), none⟩,
    ⟨(some 7), .xtn 0 [(.t 5), (.t 6)], none⟩,
    ⟨(some 4), .mv (.t 7), none⟩])
  .ret)) }
def c_slices_siftDownOrdered_int : Fun := { cin := [(.sl 1 .id), .id, .id, .id], cout := [], ntmps := 76, keep := false, res := [], body :=
  (.seq (.reg [⟨(some 10), .mv (.t 1), none⟩,
    ⟨(some 8), .mv (.t 10), none⟩])
  (.blk 0 (.loop (.blk 1 (.seq (.reg [⟨(some 11), .mv (.t 8), none⟩,
       ⟨(some 12), .bin .mul (.c (.i .i64 2)) (.t 11), none⟩,
       ⟨(some 13), .bin .add (.t 12) (.c (.i .i64 1)), none⟩,
       ⟨(some 9), .mv (.t 13), none⟩])
     (.seq (.seq (.reg [⟨(some 14), .mv (.t 9), none⟩,
       ⟨(some 15), .mv (.t 2), none⟩,
       ⟨(some 16), .bin .geq (.t 14) (.t 15), none⟩])
     (.cond (.t 16)
      (.exit 0)
      .skip))
     (.seq (.seq (.regD [⟨(some 17), .mv (.t 9), none⟩,
       ⟨(some 18), .bin .add (.t 17) (.c (.i .i64 1)), none⟩,
       ⟨(some 19), .mv (.t 2), none⟩,
       ⟨(some 20), .bin .lss (.t 18) (.t 19), none⟩,
       ⟨(some 21), .mv (.t 20), none⟩,
       ⟨(some 22), .mv (.t 0), (some (21, true))⟩,
       ⟨(some 23), .mv (.t 3), (some (21, true))⟩,
       ⟨(some 24), .mv (.t 9), (some (21, true))⟩,
       ⟨(some 25), .bin .add (.t 23) (.t 24), (some (21, true))⟩,
       ⟨(some 26), .ia 1 (.t 22) (.t 25), (some (21, true))⟩,
       ⟨(some 27), .ld false 1 (.t 26), (some (21, true))⟩,
       ⟨(some 28), .mv (.t 0), (some (21, true))⟩,
       ⟨(some 29), .mv (.t 3), (some (21, true))⟩,
       ⟨(some 30), .mv (.t 9), (some (21, true))⟩,
       ⟨(some 31), .bin .add (.t 29) (.t 30), (some (21, true))⟩,
       ⟨(some 32), .bin .add (.t 31) (.c (.i .i64 1)), (some (21, true))⟩,
       ⟨(some 33), .ia 1 (.t 28) (.t 32), (some (21, true))⟩,
       ⟨(some 34), .ld false 1 (.t 33), (some (21, true))⟩,
       ⟨(some 35), .call f_cmp_Less_int [(.t 27), (.t 34)], (some (21, true))⟩,
       ⟨(some 36), .pick (.t 21) (.t 35) (.c (.b false)), none⟩] [])
     (.cond (.t 36)
      (.reg [⟨(some 37), .mv (.t 9), none⟩,
        ⟨(some 38), .bin .add (.t 37) (.c (.i .i64 1)), none⟩,
        ⟨(some 9), .mv (.t 38), none⟩])
      .skip))
     (.seq (.seq (.regD [⟨(some 39), .mv (.t 0), none⟩,
       ⟨(some 40), .mv (.t 3), none⟩,
       ⟨(some 41), .mv (.t 8), none⟩,
       ⟨(some 42), .bin .add (.t 40) (.t 41), none⟩,
       ⟨(some 43), .ia 1 (.t 39) (.t 42), none⟩,
       ⟨(some 44), .ld false 1 (.t 43), none⟩,
       ⟨(some 45), .mv (.t 0), none⟩,
       ⟨(some 46), .mv (.t 3), none⟩,
       ⟨(some 47), .mv (.t 9), none⟩,
       ⟨(some 48), .bin .add (.t 46) (.t 47), none⟩,
       ⟨(some 49), .ia 1 (.t 45) (.t 48), none⟩,
       ⟨(some 50), .ld false 1 (.t 49), none⟩,
       ⟨(some 51), .call f_cmp_Less_int [(.t 44), (.t 50)], none⟩,
       ⟨(some 52), .un .not (.t 51), none⟩] [])
     (.cond (.t 52)
      .ret
      .skip))
     (.seq (.seq (.thw 0)
     (.regD [⟨(some 53), .mv (.t 0), none⟩,
       ⟨(some 54), .mv (.t 3), none⟩,
       ⟨(some 55), .mv (.t 8), none⟩,
       ⟨(some 56), .bin .add (.t 54) (.t 55), none⟩,
       ⟨(some 57), .mv (.t 0), none⟩,
       ⟨(some 58), .mv (.t 3), none⟩,
       ⟨(some 59), .mv (.t 9), none⟩,
       ⟨(some 60), .bin .add (.t 58) (.t 59), none⟩,
       ⟨(some 61), .mv (.t 0), none⟩,
       ⟨(some 62), .mv (.t 3), none⟩,
       ⟨(some 63), .mv (.t 9), none⟩,
       ⟨(some 64), .bin .add (.t 62) (.t 63), none⟩,
       ⟨(some 65), .ia 1 (.t 61) (.t 64), none⟩,
       ⟨(some 66), .ld false 1 (.t 65), none⟩,
       ⟨(some 67), .mv (.t 0), none⟩,
       ⟨(some 68), .mv (.t 3), none⟩,
       ⟨(some 69), .mv (.t 8), none⟩,
       ⟨(some 70), .bin .add (.t 68) (.t 69), none⟩,
       ⟨(some 71), .ia 1 (.t 67) (.t 70), none⟩,
       ⟨(some 72), .ld false 1 (.t 71), none⟩,
       ⟨(some 73), .ia 1 (.t 53) (.t 56), none⟩,
       ⟨none, .st 1 (.t 73) (.t 66), none⟩,
       ⟨(some 74), .ia 1 (.t 57) (.t 60), none⟩,
       ⟨none, .st 1 (.t 74) (.t 72), none⟩] []))
     (.reg [⟨(some 75), .mv (.t 9), none⟩,
       ⟨(some 8), .mv (.t 75), none⟩])))))))))) }
def c_slices_nextPowerOfTwo : Fun := { cin := [.id], cout := [.id], ntmps := 7, keep := false, res := [(2, none)], body :=
  (.seq (.reg [⟨(some 2), .mv (.c (.i .u64 0)), none⟩])
  (.seq (.reg [⟨(some 3), .mv (.t 0), none⟩,
    ⟨(some 4), .cvI .u64 (.t 3), none⟩,
    ⟨(some 5), .call f_math_bits_Len [(.t 4)], none⟩,
    ⟨(some 6), .bin .shl (.c (.i .u64 1)) (.t 5), none⟩,
    ⟨(some 2), .mv (.t 6), none⟩])
  .ret)) }
def c_slices_xorshift_Next : Fun := { cin := [.id], cout := [.id], ntmps := 33, keep := false, res := [(2, none)], body :=
  (.seq (.reg [⟨(some 2), .mv (.c (.i .u64 0)), none⟩])
  (.seq (.regD [⟨(some 3), .mv (.t 0), none⟩,
    ⟨(some 4), .nck (.t 3), none⟩,
    ⟨(some 5), .ld false 1 (.t 4), none⟩,
    ⟨(some 6), .mv (.t 0), none⟩,
    ⟨(some 7), .nck (.t 6), none⟩,
    ⟨(some 8), .ld false 1 (.t 7), none⟩,
    ⟨(some 9), .bin .shl (.t 8) (.c (.i .u64 13)), none⟩,
    ⟨(some 10), .bin .xor (.t 5) (.t 9), none⟩,
    ⟨(some 11), .nck (.t 3), none⟩,
    ⟨none, .st 1 (.t 11) (.t 10), none⟩] [])
  (.seq (.regD [⟨(some 12), .mv (.t 0), none⟩,
    ⟨(some 13), .nck (.t 12), none⟩,
    ⟨(some 14), .ld false 1 (.t 13), none⟩,
    ⟨(some 15), .mv (.t 0), none⟩,
    ⟨(some 16), .nck (.t 15), none⟩,
    ⟨(some 17), .ld false 1 (.t 16), none⟩,
    ⟨(some 18), .bin .shr (.t 17) (.c (.i .u64 7)), none⟩,
    ⟨(some 19), .bin .xor (.t 14) (.t 18), none⟩,
    ⟨(some 20), .nck (.t 12), none⟩,
    ⟨none, .st 1 (.t 20) (.t 19), none⟩] [])
  (.seq (.regD [⟨(some 21), .mv (.t 0), none⟩,
    ⟨(some 22), .nck (.t 21), none⟩,
    ⟨(some 23), .ld false 1 (.t 22), none⟩,
    ⟨(some 24), .mv (.t 0), none⟩,
    ⟨(some 25), .nck (.t 24), none⟩,
    ⟨(some 26), .ld false 1 (.t 25), none⟩,
    ⟨(some 27), .bin .shl (.t 26) (.c (.i .u64 17)), none⟩,
    ⟨(some 28), .bin .xor (.t 23) (.t 27), none⟩,
    ⟨(some 29), .nck (.t 21), none⟩,
    ⟨none, .st 1 (.t 29) (.t 28), none⟩] [])
  (.seq (.reg [⟨(some 30), .mv (.t 0), none⟩,
    ⟨(some 31), .nck (.t 30), none⟩,
    ⟨(some 32), .ld false 1 (.t 31), none⟩,
    ⟨(some 2), .mv (.t 32), none⟩])
  .ret))))) }
def c_slices_medianAdjacentOrdered_int : Fun := { cin := [(.sl 1 .id), .id, .id], cout := [.id], ntmps := 15, keep := false, res := [(6, none)], body :=
  (.seq (.reg [⟨(some 6), .mv (.c (.i .i64 0)), none⟩])
  (.seq (.reg [⟨(some 7), .mv (.t 0), none⟩,
    ⟨(some 8), .mv (.t 1), none⟩,
    ⟨(some 9), .bin .sub (.t 8) (.c (.i .i64 1)), none⟩,
    ⟨(some 10), .mv (.t 1), none⟩,
    ⟨(some 11), .mv (.t 1), none⟩,
    ⟨(some 12), .bin .add (.t 11) (.c (.i .i64 1)), none⟩,
    ⟨(some 13), .mv (.t 2), none⟩,
    ⟨(some 14), .call f_slices_medianOrdered_int [(.t 7), (.t 9), (.t 10), (.t 12), (.t 13)], none⟩,
    ⟨(some 6), .mv (.t 14), none⟩])
  .ret)) }
def c_slices_medianOrdered_int : Fun := { cin := [(.sl 1 .id), .id, .id, .id, .id], cout := [.id], ntmps := 36, keep := false, res := [(10, none)], body :=
  (.seq (.reg [⟨(some 10), .mv (.c (.i .i64 0)), none⟩])
  (.seq (.reg [⟨(some 12), .mv (.t 0), none⟩,
    ⟨(some 13), .mv (.t 1), none⟩,
    ⟨(some 14), .mv (.t 2), none⟩,
    ⟨(some 15), .mv (.t 4), none⟩,
    ⟨(some 16), .call f_slices_order2Ordered_int [(.t 12), (.t 13), (.t 14), (.t 15)], none⟩,
    ⟨(some 11), .mv (.t 16), none⟩,
    ⟨(some 17), .ext (.t 11) 0, none⟩,
    ⟨(some 18), .ext (.t 11) 1, none⟩,
    ⟨(some 1), .mv (.t 17), none⟩,
    ⟨(some 2), .mv (.t 18), none⟩])
  (.seq (.reg [⟨(some 20), .mv (.t 0), none⟩,
    ⟨(some 21), .mv (.t 2), none⟩,
    ⟨(some 22), .mv (.t 3), none⟩,
    ⟨(some 23), .mv (.t 4), none⟩,
    ⟨(some 24), .call f_slices_order2Ordered_int [(.t 20), (.t 21), (.t 22), (.t 23)], none⟩,
    ⟨(some 19), .mv (.t 24), none⟩,
    ⟨(some 25), .ext (.t 19) 0, none⟩,
    ⟨(some 26), .ext (.t 19) 1, none⟩,
    ⟨(some 2), .mv (.t 25), none⟩,
    ⟨(some 3), .mv (.t 26), none⟩])
  (.seq (.reg [⟨(some 28), .mv (.t 0), none⟩,
    ⟨(some 29), .mv (.t 1), none⟩,
    ⟨(some 30), .mv (.t 2), none⟩,
    ⟨(some 31), .mv (.t 4), none⟩,
    ⟨(some 32), .call f_slices_order2Ordered_int [(.t 28), (.t 29), (.t 30), (.t 31)], none⟩,
    ⟨(some 27), .mv (.t 32), none⟩,
    ⟨(some 33), .ext (.t 27) 0, none⟩,
    ⟨(some 34), .ext (.t 27) 1, none⟩,
    ⟨(some 1), .mv (.t 33), none⟩,
    ⟨(some 2), .mv (.t 34), none⟩])
  (.seq (.reg [⟨(some 35), .mv (.t 2), none⟩,
    ⟨(some 10), .mv (.t 35), none⟩])
  .ret))))) }
def c_cmp_isNaN_int : Fun := { cin := [.id], cout := [.id], ntmps := 6, keep := false, res := [(2, none)], body :=
  (.seq (.reg [⟨(some 2), .mv (.c (.b false)), none⟩])
  (.seq (.reg [⟨(some 3), .mv (.t 0), none⟩,
    ⟨(some 4), .mv (.t 0), none⟩,
    ⟨(some 5), .bin .neq (.t 3) (.t 4), none⟩,
    ⟨(some 2), .mv (.t 5), none⟩])
  .ret)) }
def c_slices_order2Ordered_int : Fun := { cin := [(.sl 1 .id), .id, .id, .id], cout := [.id, .id], ntmps := 28, keep := false, res := [(8, none), (9, none)], body :=
  (.seq (.reg [⟨(some 8), .mv (.c (.i .i64 0)), none⟩,
    ⟨(some 9), .mv (.c (.i .i64 0)), none⟩])
  (.seq (.seq (.regD [⟨(some 10), .mv (.t 0), none⟩,
    ⟨(some 11), .mv (.t 2), none⟩,
    ⟨(some 12), .ia 1 (.t 10) (.t 11), none⟩,
    ⟨(some 13), .ld false 1 (.t 12), none⟩,
    ⟨(some 14), .mv (.t 0), none⟩,
    ⟨(some 15), .mv (.t 1), none⟩,
    ⟨(some 16), .ia 1 (.t 14) (.t 15), none⟩,
    ⟨(some 17), .ld false 1 (.t 16), none⟩,
    ⟨(some 18), .call f_cmp_Less_int [(.t 13), (.t 17)], none⟩] [])
  (.cond (.t 18)
   (.seq (.reg [⟨(some 19), .mv (.t 3), none⟩,
     ⟨(some 20), .nck (.t 19), none⟩,
     ⟨(some 21), .ld false 1 (.t 20), none⟩,
     ⟨(some 22), .bin .add (.t 21) (.c (.i .i64 1)), none⟩,
     ⟨(some 23), .nck (.t 19), none⟩,
     ⟨none, .st 1 (.t 23) (.t 22), none⟩])
   (.seq (.reg [⟨(some 24), .mv (.t 2), none⟩,
     ⟨(some 25), .mv (.t 1), none⟩,
     ⟨(some 8), .mv (.t 24), none⟩,
     ⟨(some 9), .mv (.t 25), none⟩])
   .ret))
   .skip))
  (.seq (.reg [⟨(some 26), .mv (.t 1), none⟩,
    ⟨(some 27), .mv (.t 2), none⟩,
    ⟨(some 8), .mv (.t 26), none⟩,
    ⟨(some 9), .mv (.t 27), none⟩])
  .ret))) }
def tab : PT := (.n 49 c_pat_dir (.n 25 c_store_Whole_1 (.n 14 c_slices_Clone_api_Fact_api_Fact (.n 8 c_store_Ask (.n 5 c_fork_Ways (.n 4 c_touchstonelaw22_StoreNames (.n 3 c_touchstonelaw24_ForkNames .e .e) .e) (.n 7 c_touchstonelaw24_awake (.n 6 c_fork_Follow .e .e) .e)) (.n 11 c_store_More (.n 10 c_store_Whole (.n 9 c_store_Know .e .e) .e) (.n 13 c_fork_Split_calls (.n 12 c_touchstonelaw22_awake .e .e) .e))) (.n 20 c_slices_BinarySearch_string_string (.n 17 c_store_dir (.n 16 c_store_Ask_1 (.n 15 c_store_change .e .e) .e) (.n 19 c_store_Ask_2 (.n 18 c_path_Name .e .e) .e)) (.n 23 c_store_Know_1 (.n 22 c_slices_Insert_int_int (.n 21 c_slices_Insert_string_string .e .e) .e) (.n 24 c_store_Know_2 .e .e)))) (.n 36 c_store_own (.n 31 c_fork_Split_calls_1 (.n 28 c_store_More_1 (.n 27 c_store_Whole_2 (.n 26 c_store_there .e .e) .e) (.n 30 c_pat_Root (.n 29 c_store_More_2 .e .e) .e)) (.n 34 c_fork_Split_calls_3 (.n 33 c_fork_kinds (.n 32 c_fork_Split_calls_2 .e .e) .e) (.n 35 c_pat_May .e .e))) (.n 44 c_slices_Sorted_int (.n 39 c_slices_isNaN_string (.n 38 c_cmp_Less_string (.n 37 c_strings_ContainsAny .e .e) .e) (.n 43 c_slices_rotateRight_int (.n 41 c_slices_rotateRight_string .e .e) .e)) (.n 47 c_store_there_1 (.n 46 c_slices_ContainsFunc_int_int (.n 45 c_slices_Values_int_int .e .e) .e) (.n 48 c_fork_kinds_1 .e .e))))) (.n 71 c_strings_IndexByte (.n 60 c_slices_Values_int_int_1 (.n 55 c_cmp_isNaN_string (.n 52 c_slices_Clone_string_string (.n 51 c_pat_May_1 (.n 50 c_pat_one .e .e) .e) (.n 54 c_strings_IndexAny (.n 53 c_slices_Clone_int_int .e .e) .e)) (.n 58 c_slices_Collect_int (.n 57 c_slices_rotateLeft_int (.n 56 c_slices_rotateLeft_string .e .e) .e) (.n 59 c_slices_Sort_int_int .e .e))) (.n 66 c_slices_Reverse_string_string (.n 63 c_strings_shouldUseASCIISet (.n 62 c_strings_IndexRune (.n 61 c_slices_IndexFunc_int_int .e .e) .e) (.n 65 c_strings_asciiSet_contains (.n 64 c_strings_makeASCIISet .e .e) .e)) (.n 69 c_slices_pdqsortOrdered_int (.n 68 c_slices_AppendSeq_int_int (.n 67 c_slices_Reverse_int_int .e .e) .e) (.n 70 c_math_bits_Len .e .e)))) (.n 83 c_slices_partitionOrdered_int (.n 78 c_slices_choosePivotOrdered_int (.n 75 c_slices_insertionSortOrdered_int (.n 73 c_internal_bytealg_Cutover (.n 72 c_unicode_utf8_ValidRune .e .e) .e) (.n 77 c_slices_breakPatternsOrdered_int (.n 76 c_slices_heapSortOrdered_int .e .e) .e)) (.n 81 c_cmp_Less_int (.n 80 c_slices_partialInsertionSortOrdered_int (.n 79 c_slices_reverseRangeOrdered_int .e .e) .e) (.n 82 c_slices_partitionEqualOrdered_int .e .e))) (.n 89 c_slices_xorshift_Next (.n 86 c_internal_stringslite_IndexByte (.n 85 c_math_bits_Len64 (.n 84 c_math_bits_Len32 .e .e) .e) (.n 88 c_slices_nextPowerOfTwo (.n 87 c_slices_siftDownOrdered_int .e .e) .e)) (.n 92 c_cmp_isNaN_int (.n 91 c_slices_medianOrdered_int (.n 90 c_slices_medianAdjacentOrdered_int .e .e) .e) (.n 94 c_slices_order2Ordered_int .e .e))))))
def prog (n : Nat) : Option Fun := tab.get n
theorem p_touchstonelaw24_ForkNames : prog f_touchstonelaw24_ForkNames = some c_touchstonelaw24_ForkNames := rfl
theorem p_touchstonelaw22_StoreNames : prog f_touchstonelaw22_StoreNames = some c_touchstonelaw22_StoreNames := rfl
theorem p_fork_Ways : prog f_fork_Ways = some c_fork_Ways := rfl
theorem p_fork_Follow : prog f_fork_Follow = some c_fork_Follow := rfl
theorem p_touchstonelaw24_awake : prog f_touchstonelaw24_awake = some c_touchstonelaw24_awake := rfl
theorem p_store_Ask : prog f_store_Ask = some c_store_Ask := rfl
theorem p_store_Know : prog f_store_Know = some c_store_Know := rfl
theorem p_store_Whole : prog f_store_Whole = some c_store_Whole := rfl
theorem p_store_More : prog f_store_More = some c_store_More := rfl
theorem p_touchstonelaw22_awake : prog f_touchstonelaw22_awake = some c_touchstonelaw22_awake := rfl
theorem p_fork_Split_calls : prog f_fork_Split_calls = some c_fork_Split_calls := rfl
theorem p_slices_Clone_api_Fact_api_Fact : prog f_slices_Clone_api_Fact_api_Fact = some c_slices_Clone_api_Fact_api_Fact := rfl
theorem p_store_change : prog f_store_change = some c_store_change := rfl
theorem p_store_Ask_1 : prog f_store_Ask_1 = some c_store_Ask_1 := rfl
theorem p_store_dir : prog f_store_dir = some c_store_dir := rfl
theorem p_path_Name : prog f_path_Name = some c_path_Name := rfl
theorem p_store_Ask_2 : prog f_store_Ask_2 = some c_store_Ask_2 := rfl
theorem p_slices_BinarySearch_string_string : prog f_slices_BinarySearch_string_string = some c_slices_BinarySearch_string_string := rfl
theorem p_slices_Insert_string_string : prog f_slices_Insert_string_string = some c_slices_Insert_string_string := rfl
theorem p_slices_Insert_int_int : prog f_slices_Insert_int_int = some c_slices_Insert_int_int := rfl
theorem p_store_Know_1 : prog f_store_Know_1 = some c_store_Know_1 := rfl
theorem p_store_Know_2 : prog f_store_Know_2 = some c_store_Know_2 := rfl
theorem p_store_Whole_1 : prog f_store_Whole_1 = some c_store_Whole_1 := rfl
theorem p_store_there : prog f_store_there = some c_store_there := rfl
theorem p_store_Whole_2 : prog f_store_Whole_2 = some c_store_Whole_2 := rfl
theorem p_store_More_1 : prog f_store_More_1 = some c_store_More_1 := rfl
theorem p_store_More_2 : prog f_store_More_2 = some c_store_More_2 := rfl
theorem p_pat_Root : prog f_pat_Root = some c_pat_Root := rfl
theorem p_fork_Split_calls_1 : prog f_fork_Split_calls_1 = some c_fork_Split_calls_1 := rfl
theorem p_fork_Split_calls_2 : prog f_fork_Split_calls_2 = some c_fork_Split_calls_2 := rfl
theorem p_fork_kinds : prog f_fork_kinds = some c_fork_kinds := rfl
theorem p_fork_Split_calls_3 : prog f_fork_Split_calls_3 = some c_fork_Split_calls_3 := rfl
theorem p_pat_May : prog f_pat_May = some c_pat_May := rfl
theorem p_store_own : prog f_store_own = some c_store_own := rfl
theorem p_strings_ContainsAny : prog f_strings_ContainsAny = some c_strings_ContainsAny := rfl
theorem p_cmp_Less_string : prog f_cmp_Less_string = some c_cmp_Less_string := rfl
theorem p_slices_isNaN_string : prog f_slices_isNaN_string = some c_slices_isNaN_string := rfl
theorem p_slices_rotateRight_string : prog f_slices_rotateRight_string = some c_slices_rotateRight_string := rfl
theorem p_slices_rotateRight_int : prog f_slices_rotateRight_int = some c_slices_rotateRight_int := rfl
theorem p_slices_Sorted_int : prog f_slices_Sorted_int = some c_slices_Sorted_int := rfl
theorem p_slices_Values_int_int : prog f_slices_Values_int_int = some c_slices_Values_int_int := rfl
theorem p_slices_ContainsFunc_int_int : prog f_slices_ContainsFunc_int_int = some c_slices_ContainsFunc_int_int := rfl
theorem p_store_there_1 : prog f_store_there_1 = some c_store_there_1 := rfl
theorem p_fork_kinds_1 : prog f_fork_kinds_1 = some c_fork_kinds_1 := rfl
theorem p_pat_dir : prog f_pat_dir = some c_pat_dir := rfl
theorem p_pat_one : prog f_pat_one = some c_pat_one := rfl
theorem p_pat_May_1 : prog f_pat_May_1 = some c_pat_May_1 := rfl
theorem p_slices_Clone_string_string : prog f_slices_Clone_string_string = some c_slices_Clone_string_string := rfl
theorem p_slices_Clone_int_int : prog f_slices_Clone_int_int = some c_slices_Clone_int_int := rfl
theorem p_strings_IndexAny : prog f_strings_IndexAny = some c_strings_IndexAny := rfl
theorem p_cmp_isNaN_string : prog f_cmp_isNaN_string = some c_cmp_isNaN_string := rfl
theorem p_slices_rotateLeft_string : prog f_slices_rotateLeft_string = some c_slices_rotateLeft_string := rfl
theorem p_slices_rotateLeft_int : prog f_slices_rotateLeft_int = some c_slices_rotateLeft_int := rfl
theorem p_slices_Collect_int : prog f_slices_Collect_int = some c_slices_Collect_int := rfl
theorem p_slices_Sort_int_int : prog f_slices_Sort_int_int = some c_slices_Sort_int_int := rfl
theorem p_slices_Values_int_int_1 : prog f_slices_Values_int_int_1 = some c_slices_Values_int_int_1 := rfl
theorem p_slices_IndexFunc_int_int : prog f_slices_IndexFunc_int_int = some c_slices_IndexFunc_int_int := rfl
theorem p_strings_IndexRune : prog f_strings_IndexRune = some c_strings_IndexRune := rfl
theorem p_strings_shouldUseASCIISet : prog f_strings_shouldUseASCIISet = some c_strings_shouldUseASCIISet := rfl
theorem p_strings_makeASCIISet : prog f_strings_makeASCIISet = some c_strings_makeASCIISet := rfl
theorem p_strings_asciiSet_contains : prog f_strings_asciiSet_contains = some c_strings_asciiSet_contains := rfl
theorem p_slices_Reverse_string_string : prog f_slices_Reverse_string_string = some c_slices_Reverse_string_string := rfl
theorem p_slices_Reverse_int_int : prog f_slices_Reverse_int_int = some c_slices_Reverse_int_int := rfl
theorem p_slices_AppendSeq_int_int : prog f_slices_AppendSeq_int_int = some c_slices_AppendSeq_int_int := rfl
theorem p_slices_pdqsortOrdered_int : prog f_slices_pdqsortOrdered_int = some c_slices_pdqsortOrdered_int := rfl
theorem p_math_bits_Len : prog f_math_bits_Len = some c_math_bits_Len := rfl
theorem p_strings_IndexByte : prog f_strings_IndexByte = some c_strings_IndexByte := rfl
theorem p_unicode_utf8_ValidRune : prog f_unicode_utf8_ValidRune = some c_unicode_utf8_ValidRune := rfl
theorem p_internal_bytealg_Cutover : prog f_internal_bytealg_Cutover = some c_internal_bytealg_Cutover := rfl
theorem p_slices_insertionSortOrdered_int : prog f_slices_insertionSortOrdered_int = some c_slices_insertionSortOrdered_int := rfl
theorem p_slices_heapSortOrdered_int : prog f_slices_heapSortOrdered_int = some c_slices_heapSortOrdered_int := rfl
theorem p_slices_breakPatternsOrdered_int : prog f_slices_breakPatternsOrdered_int = some c_slices_breakPatternsOrdered_int := rfl
theorem p_slices_choosePivotOrdered_int : prog f_slices_choosePivotOrdered_int = some c_slices_choosePivotOrdered_int := rfl
theorem p_slices_reverseRangeOrdered_int : prog f_slices_reverseRangeOrdered_int = some c_slices_reverseRangeOrdered_int := rfl
theorem p_slices_partialInsertionSortOrdered_int : prog f_slices_partialInsertionSortOrdered_int = some c_slices_partialInsertionSortOrdered_int := rfl
theorem p_cmp_Less_int : prog f_cmp_Less_int = some c_cmp_Less_int := rfl
theorem p_slices_partitionEqualOrdered_int : prog f_slices_partitionEqualOrdered_int = some c_slices_partitionEqualOrdered_int := rfl
theorem p_slices_partitionOrdered_int : prog f_slices_partitionOrdered_int = some c_slices_partitionOrdered_int := rfl
theorem p_math_bits_Len32 : prog f_math_bits_Len32 = some c_math_bits_Len32 := rfl
theorem p_math_bits_Len64 : prog f_math_bits_Len64 = some c_math_bits_Len64 := rfl
theorem p_internal_stringslite_IndexByte : prog f_internal_stringslite_IndexByte = some c_internal_stringslite_IndexByte := rfl
theorem p_slices_siftDownOrdered_int : prog f_slices_siftDownOrdered_int = some c_slices_siftDownOrdered_int := rfl
theorem p_slices_nextPowerOfTwo : prog f_slices_nextPowerOfTwo = some c_slices_nextPowerOfTwo := rfl
theorem p_slices_xorshift_Next : prog f_slices_xorshift_Next = some c_slices_xorshift_Next := rfl
theorem p_slices_medianAdjacentOrdered_int : prog f_slices_medianAdjacentOrdered_int = some c_slices_medianAdjacentOrdered_int := rfl
theorem p_slices_medianOrdered_int : prog f_slices_medianOrdered_int = some c_slices_medianOrdered_int := rfl
theorem p_cmp_isNaN_int : prog f_cmp_isNaN_int = some c_cmp_isNaN_int := rfl
theorem p_slices_order2Ordered_int : prog f_slices_order2Ordered_int = some c_slices_order2Ordered_int := rfl
end Go.Proofs.Ytpghcnfeeakcpaa
