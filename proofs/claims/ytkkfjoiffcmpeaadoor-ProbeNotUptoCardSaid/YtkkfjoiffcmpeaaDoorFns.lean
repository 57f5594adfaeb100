/-
  The functions, as the abstract machine's: numbers and texts. By program.
-/
import Derived.Test.YtkkfjoiffcmpeaaDoorAmRf
import Derived.Test.YtkkfjoiffcmpeaaDoorAmTyped
set_option linter.all false
set_option linter.unusedVariables false
set_option linter.unusedSimpArgs false
set_option linter.unusedSectionVars false
set_option maxRecDepth 100000
namespace Go.Proofs.YtkkfjoiffcmpeaaDoor
open Go.Proofs.YtkkfjoiffcmpeaaDoor.Am
def f_touchstonelaw14_ProbeNot : Nat := 4
def f_ftree_New : Nat := 8
def f_walk_Find : Nat := 9
def f_walk_Spot : Nat := 10
def f_ftree_Tree_Kind : Nat := 13
def f_path_Name : Nat := 16
def f_touchstonelaw14_long : Nat := 17
def f_touchstonelaw14_awake : Nat := 18
def f_probe_Holds : Nat := 19
def f_probe_Run : Nat := 20
def f_ftree_May : Nat := 29
def f_ftree_own : Nat := 30
def f_walk_walk : Nat := 31
def f_strings_Join : Nat := 32
def f_ftree_Tree_at : Nat := 34
def f_path_steps : Nat := 35
def f_strings_ContainsAny : Nat := 36
def f_touchstoneref07_May : Nat := 37
def f_touchstoneref07_Nodes : Nat := 38
def f_touchstonelaw14_example : Nat := 39
def f_probe_asks : Nat := 40
def f_ftree_Well : Nat := 41
def f_ftree_Nodes : Nat := 42
def f_ftree_depth : Nat := 43
def f_slices_Clone_string_string : Nat := 44
def f_path_Steps : Nat := 45
def f_path_Dir : Nat := 46
def f_walk_walker_run : Nat := 47
def f_ftree_find : Nat := 51
def f_path_steps_1 : Nat := 52
def f_strings_SplitSeq : Nat := 53
def f_strings_IndexAny : Nat := 54
def f_touchstoneref07_Well : Nat := 55
def f_touchstoneref07_deep : Nat := 56
def f_probe_asks_1 : Nat := 57
def f_probe_asks_1_1 : Nat := 58
def f_probe_kind : Nat := 59
def f_probe_asks_2 : Nat := 60
def f_probe_asks_2_1 : Nat := 61
def f_probe_asks_3 : Nat := 62
def f_probe_asks_4 : Nat := 63
def f_probe_asks_5 : Nat := 64
def f_strings_IndexByte : Nat := 65
def f_slices_Collect_string : Nat := 66
def f_strings_LastIndexByte : Nat := 67
def f_walk_walker_name : Nat := 68
def f_slices_BinarySearch_string_string : Nat := 71
def f_strings_splitSeq : Nat := 72
def f_strings_IndexRune : Nat := 73
def f_strings_shouldUseASCIISet : Nat := 74
def f_strings_makeASCIISet : Nat := 75
def f_strings_asciiSet_contains : Nat := 76
def f_touchstoneref07_text : Nat := 77
def f_touchstoneref06_Name : Nat := 78
def f_path_Check : Nat := 79
def f_internal_stringslite_IndexByte : Nat := 80
def f_slices_AppendSeq_string_string : Nat := 81
def f_internal_bytealg_LastIndexByteString : Nat := 82
def f_walk_walker_below : Nat := 83
def f_walk_walker_follow : Nat := 84
def f_cmp_Less_string : Nat := 87
def f_slices_isNaN_string : Nat := 88
def f_strings_splitSeq_1 : Nat := 89
def f_unicode_utf8_DecodeRuneInString : Nat := 90
def f_strings_Index : Nat := 91
def f_unicode_utf8_ValidRune : Nat := 92
def f_internal_bytealg_Cutover : Nat := 93
def f_internal_bytealg_IndexString : Nat := 94
def f_strings_Contains : Nat := 95
def f_internal_bytealg_IndexByteString : Nat := 96
def f_strings_HasPrefix : Nat := 97
def f_cmp_isNaN_string : Nat := 98
def f_unicode_utf8_decodeRuneInStringSlow : Nat := 99
def f_internal_stringslite_Index : Nat := 100
def f_internal_stringslite_HasPrefix : Nat := 101
def f_internal_bytealg_IndexRabinKarp_string : Nat := 102
def f_internal_bytealg_hashStr_string : Nat := 103
def f_internal_abi_Type_Kind : Nat := 117
def f_ftree_Tree_Text : Nat := 121
def c_touchstonelaw14_ProbeNot : Fun := { cin := [(.agg [.id, .id, (.sl 1 .id), (.sl 4 (.agg [.id, .id, (.sl 1 .id), (.sl 4 (.agg [.id, .id, (.sl 1 .id), (.sl 4 .id)]))]))]), (.sl 1 .id), .id], cout := [.id], ntmps := 140, keep := false, res := [(6, none)], body :=
  (.seq (.reg [⟨(some 3), .box 25 4 (.t 0), none⟩,
    ⟨(some 6), .mv (.c (.b false)), none⟩])
  (.seq (.seq (.reg [⟨(some 19), .ld true 4 (.t 3), none⟩,
    ⟨(some 20), .mv (.t 1), none⟩,
    ⟨(some 21), .call f_touchstonelaw14_long [(.t 19), (.t 20)], none⟩,
    ⟨(some 22), .mv (.t 21), none⟩,
    ⟨(some 23), .mv (.t 2), (some (22, false))⟩,
    ⟨(some 24), .len 0 (.t 23), (some (22, false))⟩,
    ⟨(some 25), .bin .gtr (.t 24) (.c (.i .i64 600)), (some (22, false))⟩,
    ⟨(some 26), .pick (.t 22) (.c (.b true)) (.t 25), none⟩,
    ⟨(some 27), .mv (.t 26), none⟩,
    ⟨(some 28), .call f_touchstonelaw14_awake [], (some (27, false))⟩,
    ⟨(some 29), .un .not (.t 28), (some (27, false))⟩,
    ⟨(some 30), .pick (.t 27) (.c (.b true)) (.t 29), none⟩])
  (.cond (.t 30)
   (.seq (.reg [⟨(some 31), .call f_touchstonelaw14_awake [], none⟩,
     ⟨(some 6), .mv (.t 31), none⟩])
   .ret)
   .skip))
  (.seq (.reg [⟨(some 33), .ld true 4 (.t 3), none⟩,
    ⟨(some 34), .call f_ftree_New [(.t 33)], none⟩,
    ⟨(some 32), .mv (.t 34), none⟩,
    ⟨(some 35), .ext (.t 32) 0, none⟩,
    ⟨(some 36), .ext (.t 32) 1, none⟩,
    ⟨(some 7), .mv (.t 35), none⟩,
    ⟨(some 8), .mv (.t 36), none⟩])
  (.seq (.seq (.reg [⟨(some 37), .mv (.t 8), none⟩,
    ⟨(some 38), .bin .neq (.t 37) (.c (.i .i64 0)), none⟩])
  (.cond (.t 38)
   (.seq (.reg [⟨(some 6), .mv (.c (.b false)), none⟩])
   .ret)
   .skip))
  (.seq (.reg [⟨(some 40), .mv (.t 7), none⟩,
    ⟨(some 41), .mki 28 (.t 40), none⟩,
    ⟨(some 42), .mv (.t 2), none⟩,
    ⟨(some 43), .bsl 1 [(.c (.s [45, 101])), (.t 42)], none⟩,
    ⟨(some 44), .call f_probe_Holds [(.t 41), (.t 43)], none⟩,
    ⟨(some 39), .mv (.t 44), none⟩,
    ⟨(some 45), .ext (.t 39) 0, none⟩,
    ⟨(some 46), .ext (.t 39) 1, none⟩,
    ⟨(some 9), .mv (.t 45), none⟩,
    ⟨(some 10), .mv (.t 46), none⟩])
  (.seq (.reg [⟨(some 48), .mv (.t 7), none⟩,
    ⟨(some 49), .mki 28 (.t 48), none⟩,
    ⟨(some 50), .mv (.t 2), none⟩,
    ⟨(some 51), .bsl 1 [(.c (.s [45, 102])), (.t 50)], none⟩,
    ⟨(some 52), .call f_probe_Holds [(.t 49), (.t 51)], none⟩,
    ⟨(some 47), .mv (.t 52), none⟩,
    ⟨(some 53), .ext (.t 47) 0, none⟩,
    ⟨(some 54), .ext (.t 47) 1, none⟩,
    ⟨(some 11), .mv (.t 53), none⟩,
    ⟨(some 12), .mv (.t 54), none⟩])
  (.seq (.reg [⟨(some 56), .mv (.t 7), none⟩,
    ⟨(some 57), .mki 28 (.t 56), none⟩,
    ⟨(some 58), .mv (.t 2), none⟩,
    ⟨(some 59), .bsl 1 [(.c (.s [45, 100])), (.t 58)], none⟩,
    ⟨(some 60), .call f_probe_Holds [(.t 57), (.t 59)], none⟩,
    ⟨(some 55), .mv (.t 60), none⟩,
    ⟨(some 61), .ext (.t 55) 0, none⟩,
    ⟨(some 62), .ext (.t 55) 1, none⟩,
    ⟨(some 13), .mv (.t 61), none⟩,
    ⟨(some 14), .mv (.t 62), none⟩])
  (.seq (.seq (.reg [⟨(some 63), .mv (.t 10), none⟩,
    ⟨(some 64), .un .not (.t 63), none⟩,
    ⟨(some 65), .mv (.t 64), none⟩,
    ⟨(some 66), .mv (.t 12), (some (65, false))⟩,
    ⟨(some 67), .un .not (.t 66), (some (65, false))⟩,
    ⟨(some 68), .pick (.t 65) (.c (.b true)) (.t 67), none⟩,
    ⟨(some 69), .mv (.t 68), none⟩,
    ⟨(some 70), .mv (.t 14), (some (69, false))⟩,
    ⟨(some 71), .un .not (.t 70), (some (69, false))⟩,
    ⟨(some 72), .pick (.t 69) (.c (.b true)) (.t 71), none⟩,
    ⟨(some 73), .mv (.t 72), none⟩,
    ⟨(some 74), .mv (.t 9), (some (73, false))⟩,
    ⟨(some 75), .mv (.t 11), (some (73, false))⟩,
    ⟨(some 76), .mv (.t 75), (some (73, false))⟩,
    ⟨(some 77), .mv (.t 13), (some (76, false))⟩,
    ⟨(some 78), .pick (.t 76) (.c (.b true)) (.t 77), (some (73, false))⟩,
    ⟨(some 79), .eq .bool true (.t 74) (.t 78), (some (73, false))⟩,
    ⟨(some 80), .pick (.t 73) (.c (.b true)) (.t 79), none⟩,
    ⟨(some 81), .mv (.t 80), none⟩,
    ⟨(some 82), .mv (.t 11), (some (81, false))⟩,
    ⟨(some 83), .mv (.t 82), (some (81, false))⟩,
    ⟨(some 84), .mv (.t 13), (some (83, true))⟩,
    ⟨(some 85), .pick (.t 83) (.t 84) (.c (.b false)), (some (81, false))⟩,
    ⟨(some 86), .pick (.t 81) (.c (.b true)) (.t 85), none⟩])
  (.cond (.t 86)
   (.seq (.reg [⟨(some 6), .mv (.c (.b false)), none⟩])
   .ret)
   .skip))
  (.seq (.seq (.reg [⟨(some 87), .mv (.t 1), none⟩,
    ⟨(some 88), .len 1 (.t 87), none⟩,
    ⟨(some 89), .bin .lss (.t 88) (.c (.i .i64 1)), none⟩,
    ⟨(some 90), .mv (.t 89), none⟩,
    ⟨(some 91), .mv (.t 1), (some (90, false))⟩,
    ⟨(some 92), .len 1 (.t 91), (some (90, false))⟩,
    ⟨(some 93), .bin .gtr (.t 92) (.c (.i .i64 3)), (some (90, false))⟩,
    ⟨(some 94), .pick (.t 90) (.c (.b true)) (.t 93), none⟩,
    ⟨(some 95), .mv (.t 94), none⟩,
    ⟨(some 96), .mv (.t 1), (some (95, false))⟩,
    ⟨(some 97), .len 1 (.t 96), (some (95, false))⟩,
    ⟨(some 98), .bin .eql (.t 97) (.c (.i .i64 2)), (some (95, false))⟩,
    ⟨(some 99), .mv (.t 98), (some (95, false))⟩,
    ⟨(some 100), .mv (.t 1), (some (99, true))⟩,
    ⟨(some 101), .ia 1 (.t 100) (.c (.i .i64 0)), (some (99, true))⟩,
    ⟨(some 102), .ld false 1 (.t 101), (some (99, true))⟩,
    ⟨(some 103), .bin .eql (.t 102) (.c (.s [61])), (some (99, true))⟩,
    ⟨(some 104), .mv (.t 103), (some (99, true))⟩,
    ⟨(some 105), .mv (.t 1), (some (104, false))⟩,
    ⟨(some 106), .ia 1 (.t 105) (.c (.i .i64 0)), (some (104, false))⟩,
    ⟨(some 107), .ld false 1 (.t 106), (some (104, false))⟩,
    ⟨(some 108), .bin .eql (.t 107) (.c (.s [33, 61])), (some (104, false))⟩,
    ⟨(some 109), .pick (.t 104) (.c (.b true)) (.t 108), (some (99, true))⟩,
    ⟨(some 110), .pick (.t 99) (.t 109) (.c (.b false)), (some (95, false))⟩,
    ⟨(some 111), .pick (.t 95) (.c (.b true)) (.t 110), none⟩])
  (.cond (.t 111)
   (.seq (.reg [⟨(some 6), .mv (.c (.b true)), none⟩])
   .ret)
   .skip))
  (.seq (.reg [⟨(some 113), .mv (.t 7), none⟩,
    ⟨(some 114), .mki 28 (.t 113), none⟩,
    ⟨(some 115), .mv (.t 1), none⟩,
    ⟨(some 116), .call f_probe_Holds [(.t 114), (.t 115)], none⟩,
    ⟨(some 112), .mv (.t 116), none⟩,
    ⟨(some 117), .ext (.t 112) 0, none⟩,
    ⟨(some 118), .ext (.t 112) 1, none⟩,
    ⟨(some 15), .mv (.t 117), none⟩,
    ⟨(some 16), .mv (.t 118), none⟩])
  (.seq (.reg [⟨(some 120), .mv (.t 7), none⟩,
    ⟨(some 121), .mki 28 (.t 120), none⟩,
    ⟨(some 122), .bsl 1 [(.c (.s [33]))], none⟩,
    ⟨(some 123), .mv (.t 1), none⟩,
    ⟨(some 124), .app 1 9 (.t 122) (.t 123), none⟩,
    ⟨(some 125), .call f_probe_Holds [(.t 121), (.t 124)], none⟩,
    ⟨(some 119), .mv (.t 125), none⟩,
    ⟨(some 126), .ext (.t 119) 0, none⟩,
    ⟨(some 127), .ext (.t 119) 1, none⟩,
    ⟨(some 17), .mv (.t 126), none⟩,
    ⟨(some 18), .mv (.t 127), none⟩])
  (.seq (.reg [⟨(some 128), .mv (.t 16), none⟩,
    ⟨(some 129), .mv (.t 18), none⟩,
    ⟨(some 130), .eq .bool false (.t 128) (.t 129), none⟩,
    ⟨(some 131), .mv (.t 130), none⟩,
    ⟨(some 132), .mv (.t 16), (some (131, true))⟩,
    ⟨(some 133), .un .not (.t 132), (some (131, true))⟩,
    ⟨(some 134), .mv (.t 133), (some (131, true))⟩,
    ⟨(some 135), .mv (.t 15), (some (134, false))⟩,
    ⟨(some 136), .mv (.t 17), (some (134, false))⟩,
    ⟨(some 137), .eq .bool true (.t 135) (.t 136), (some (134, false))⟩,
    ⟨(some 138), .pick (.t 134) (.c (.b true)) (.t 137), (some (131, true))⟩,
    ⟨(some 139), .pick (.t 131) (.t 138) (.c (.b false)), none⟩,
    ⟨(some 6), .mv (.t 139), none⟩])
  .ret)))))))))))) }
def c_ftree_New : Fun := { cin := [(.agg [.id, .id, (.sl 1 .id), (.sl 4 (.agg [.id, .id, (.sl 1 .id), (.sl 4 (.agg [.id, .id, (.sl 1 .id), (.sl 4 .id)]))]))])], cout := [.id, .id], ntmps := 11, keep := false, res := [(2, none), (3, none)], body :=
  (.seq (.reg [⟨(some 1), .box 25 4 (.t 0), none⟩,
    ⟨(some 2), .mv (.c .np), none⟩,
    ⟨(some 3), .mv (.c (.i .i64 0)), none⟩])
  (.seq (.seq (.reg [⟨(some 4), .ld true 4 (.t 1), none⟩,
    ⟨(some 5), .call f_ftree_May [(.t 4)], none⟩,
    ⟨(some 6), .un .not (.t 5), none⟩])
  (.cond (.t 6)
   (.seq (.reg [⟨(some 2), .mv (.c .np), none⟩,
     ⟨(some 3), .mv (.c (.i .i64 4)), none⟩])
   .ret)
   .skip))
  (.seq (.reg [⟨(some 7), .ld true 4 (.t 1), none⟩,
    ⟨(some 8), .call f_ftree_own [(.t 7)], none⟩,
    ⟨(some 9), .build [(.i .u8 0), (.s []), .nsl, .nsl] [(0, 4, (.t 8))], none⟩,
    ⟨(some 10), .box 55 4 (.t 9), none⟩,
    ⟨(some 2), .mv (.t 10), none⟩,
    ⟨(some 3), .mv (.c (.i .i64 0)), none⟩])
  .ret))) }
def c_walk_Find : Fun := { cin := [.id, .id], cout := [(.sl 1 .id), .id, .id], ntmps := 13, keep := false, res := [(4, none), (5, none), (6, none)], body :=
  (.seq (.reg [⟨(some 4), .mv (.c .nsl), none⟩,
    ⟨(some 5), .mv (.c (.i .u8 0)), none⟩,
    ⟨(some 6), .mv (.c (.i .i64 0)), none⟩])
  (.seq (.reg [⟨(some 7), .mv (.t 0), none⟩,
    ⟨(some 8), .mv (.t 1), none⟩,
    ⟨(some 9), .call f_walk_walk [(.t 7), (.t 8), (.c (.b true))], none⟩,
    ⟨(some 10), .ext (.t 9) 0, none⟩,
    ⟨(some 11), .ext (.t 9) 1, none⟩,
    ⟨(some 12), .ext (.t 9) 2, none⟩,
    ⟨(some 4), .mv (.t 10), none⟩,
    ⟨(some 5), .mv (.t 11), none⟩,
    ⟨(some 6), .mv (.t 12), none⟩])
  .ret)) }
def c_walk_Spot : Fun := { cin := [.id, .id], cout := [(.sl 1 .id), .id, .id], ntmps := 13, keep := false, res := [(4, none), (5, none), (6, none)], body :=
  (.seq (.reg [⟨(some 4), .mv (.c .nsl), none⟩,
    ⟨(some 5), .mv (.c (.i .u8 0)), none⟩,
    ⟨(some 6), .mv (.c (.i .i64 0)), none⟩])
  (.seq (.reg [⟨(some 7), .mv (.t 0), none⟩,
    ⟨(some 8), .mv (.t 1), none⟩,
    ⟨(some 9), .call f_walk_walk [(.t 7), (.t 8), (.c (.b false))], none⟩,
    ⟨(some 10), .ext (.t 9) 0, none⟩,
    ⟨(some 11), .ext (.t 9) 1, none⟩,
    ⟨(some 12), .ext (.t 9) 2, none⟩,
    ⟨(some 4), .mv (.t 10), none⟩,
    ⟨(some 5), .mv (.t 11), none⟩,
    ⟨(some 6), .mv (.t 12), none⟩])
  .ret)) }
def c_ftree_Tree_Kind : Fun := { cin := [.id, (.sl 1 .id)], cout := [.id], ntmps := 9, keep := false, res := [(4, none)], body :=
  (.seq (.reg [⟨(some 4), .mv (.c (.i .u8 0)), none⟩])
  (.seq (.reg [⟨(some 5), .mv (.t 0), none⟩,
    ⟨(some 6), .mv (.t 1), none⟩,
    ⟨(some 7), .call f_ftree_Tree_at [(.t 5), (.t 6)], none⟩,
    ⟨(some 8), .fld false 0 1 (.t 7), none⟩,
    ⟨(some 4), .mv (.t 8), none⟩])
  .ret)) }
def c_path_Name : Fun := { cin := [.id], cout := [.id], ntmps := 23, keep := false, res := [(2, none)], body :=
  (.seq (.reg [⟨(some 2), .mv (.c (.b false)), none⟩])
  (.seq (.reg [⟨(some 3), .mv (.t 0), none⟩,
    ⟨(some 4), .bin .neq (.t 3) (.c (.s [])), none⟩,
    ⟨(some 5), .mv (.t 4), none⟩,
    ⟨(some 6), .mv (.t 0), (some (5, true))⟩,
    ⟨(some 7), .len 0 (.t 6), (some (5, true))⟩,
    ⟨(some 8), .bin .leq (.t 7) (.c (.i .i64 64)), (some (5, true))⟩,
    ⟨(some 9), .pick (.t 5) (.t 8) (.c (.b false)), none⟩,
    ⟨(some 10), .mv (.t 9), none⟩,
    ⟨(some 11), .mv (.t 0), (some (10, true))⟩,
    ⟨(some 12), .bin .neq (.t 11) (.c (.s [46])), (some (10, true))⟩,
    ⟨(some 13), .pick (.t 10) (.t 12) (.c (.b false)), none⟩,
    ⟨(some 14), .mv (.t 13), none⟩,
    ⟨(some 15), .mv (.t 0), (some (14, true))⟩,
    ⟨(some 16), .bin .neq (.t 15) (.c (.s [46, 46])), (some (14, true))⟩,
    ⟨(some 17), .pick (.t 14) (.t 16) (.c (.b false)), none⟩,
    ⟨(some 18), .mv (.t 17), none⟩,
    ⟨(some 19), .mv (.t 0), (some (18, true))⟩,
    ⟨(some 20), .call f_strings_ContainsAny [(.t 19), (.c (.s [47, 0, 10]))], (some (18, true))⟩,
    ⟨(some 21), .un .not (.t 20), (some (18, true))⟩,
    ⟨(some 22), .pick (.t 18) (.t 21) (.c (.b false)), none⟩,
    ⟨(some 2), .mv (.t 22), none⟩])
  .ret)) }
def c_touchstonelaw14_long : Fun := { cin := [(.agg [.id, .id, (.sl 1 .id), (.sl 4 (.agg [.id, .id, (.sl 1 .id), (.sl 4 (.agg [.id, .id, (.sl 1 .id), (.sl 4 .id)]))]))]), (.sl 1 .id)], cout := [.id], ntmps := 31, keep := false, res := [(4, none)], body :=
  (.seq (.reg [⟨(some 2), .box 25 4 (.t 0), none⟩,
    ⟨(some 4), .mv (.c (.b false)), none⟩])
  (.seq (.seq (.reg [⟨(some 6), .ld true 4 (.t 2), none⟩,
    ⟨(some 7), .call f_touchstoneref07_May [(.t 6)], none⟩,
    ⟨(some 8), .un .not (.t 7), none⟩,
    ⟨(some 9), .mv (.t 8), none⟩,
    ⟨(some 10), .ld true 4 (.t 2), (some (9, false))⟩,
    ⟨(some 11), .call f_touchstoneref07_Nodes [(.t 10)], (some (9, false))⟩,
    ⟨(some 12), .bin .gtr (.t 11) (.c (.i .i64 200)), (some (9, false))⟩,
    ⟨(some 13), .pick (.t 9) (.c (.b true)) (.t 12), none⟩,
    ⟨(some 14), .mv (.t 13), none⟩,
    ⟨(some 15), .mv (.t 1), (some (14, false))⟩,
    ⟨(some 16), .len 1 (.t 15), (some (14, false))⟩,
    ⟨(some 17), .bin .gtr (.t 16) (.c (.i .i64 100)), (some (14, false))⟩,
    ⟨(some 18), .pick (.t 14) (.c (.b true)) (.t 17), none⟩])
  (.cond (.t 18)
   (.seq (.reg [⟨(some 4), .mv (.c (.b true)), none⟩])
   .ret)
   .skip))
  (.seq (.seq (.reg [⟨(some 5), .mv (.c (.i .i64 0)), none⟩])
  (.blk 0 (.loop (.seq (.seq (.reg [⟨(some 19), .mv (.t 5), none⟩,
      ⟨(some 20), .mv (.t 1), none⟩,
      ⟨(some 21), .len 1 (.t 20), none⟩,
      ⟨(some 22), .bin .lss (.t 19) (.t 21), none⟩])
    (.cond (.t 22)
     .skip
     (.exit 0)))
    (.seq (.blk 1 (.seq (.reg [⟨(some 25), .mv (.t 1), none⟩,
       ⟨(some 26), .mv (.t 5), none⟩,
       ⟨(some 27), .ia 1 (.t 25) (.t 26), none⟩,
       ⟨(some 28), .ld false 1 (.t 27), none⟩,
       ⟨(some 29), .len 0 (.t 28), none⟩,
       ⟨(some 30), .bin .gtr (.t 29) (.c (.i .i64 600)), none⟩])
     (.cond (.t 30)
      (.seq (.reg [⟨(some 4), .mv (.c (.b true)), none⟩])
      .ret)
      .skip)))
    (.reg [⟨(some 23), .mv (.t 5), none⟩,
      ⟨(some 24), .bin .add (.t 23) (.c (.i .i64 1)), none⟩,
      ⟨(some 5), .mv (.t 24), none⟩]))))))
  (.seq (.reg [⟨(some 4), .mv (.c (.b false)), none⟩])
  .ret)))) }
def c_touchstonelaw14_awake : Fun := { cin := [], cout := [], ntmps := 0, keep := false, res := [], body := .bad, prim := some (pureP primTrue) }
def cR_touchstonelaw14_awake : Fun := { cin := [], cout := [.id], ntmps := 59, keep := false, res := [(0, none)], body :=
  (.seq (.reg [⟨(some 0), .mv (.c (.b false)), none⟩])
  (.seq (.reg [⟨(some 12), .call f_touchstonelaw14_example [], none⟩,
    ⟨(some 1), .mv (.t 12), none⟩])
  (.seq (.seq (.reg [⟨(some 13), .mv (.t 1), none⟩,
    ⟨(some 14), .eq .ptr false (.t 13) (.c .np), none⟩])
  (.cond (.t 14)
   (.seq (.reg [⟨(some 0), .mv (.c (.b false)), none⟩])
   .ret)
   .skip))
  (.seq (.reg [⟨(some 16), .mv (.t 1), none⟩,
    ⟨(some 17), .mki 28 (.t 16), none⟩,
    ⟨(some 18), .bsl 1 [(.c (.s [91])), (.c (.s [45, 100])), (.c (.s [108])), (.c (.s [93]))], none⟩,
    ⟨(some 19), .call f_probe_Run [(.t 17), (.t 18)], none⟩,
    ⟨(some 15), .mv (.t 19), none⟩,
    ⟨(some 20), .ext (.t 15) 0, none⟩,
    ⟨(some 21), .ext (.t 15) 1, none⟩,
    ⟨(some 22), .ext (.t 15) 2, none⟩,
    ⟨(some 23), .ext (.t 15) 3, none⟩,
    ⟨(some 2), .mv (.t 20), none⟩,
    ⟨(some 3), .mv (.t 21), none⟩,
    ⟨(some 4), .mv (.t 22), none⟩,
    ⟨(some 5), .mv (.t 23), none⟩])
  (.seq (.reg [⟨(some 25), .mv (.t 1), none⟩,
    ⟨(some 26), .mki 28 (.t 25), none⟩,
    ⟨(some 27), .bsl 1 [(.c (.s [101, 99, 104, 111])), (.c (.s [97])), (.c (.s [98]))], none⟩,
    ⟨(some 28), .call f_probe_Run [(.t 26), (.t 27)], none⟩,
    ⟨(some 24), .mv (.t 28), none⟩,
    ⟨(some 29), .ext (.t 24) 0, none⟩,
    ⟨(some 30), .ext (.t 24) 1, none⟩,
    ⟨(some 31), .ext (.t 24) 2, none⟩,
    ⟨(some 32), .ext (.t 24) 3, none⟩,
    ⟨(some 6), .mv (.t 29), none⟩,
    ⟨(some 7), .mv (.t 30), none⟩,
    ⟨(some 8), .mv (.t 31), none⟩,
    ⟨(some 9), .mv (.t 32), none⟩])
  (.seq (.reg [⟨(some 34), .mv (.t 1), none⟩,
    ⟨(some 35), .mki 28 (.t 34), none⟩,
    ⟨(some 36), .bsl 1 [(.c (.s [33])), (.c (.s [45, 102])), (.c (.s [97]))], none⟩,
    ⟨(some 37), .call f_probe_Holds [(.t 35), (.t 36)], none⟩,
    ⟨(some 33), .mv (.t 37), none⟩,
    ⟨(some 38), .ext (.t 33) 0, none⟩,
    ⟨(some 39), .ext (.t 33) 1, none⟩,
    ⟨(some 10), .mv (.t 38), none⟩,
    ⟨(some 11), .mv (.t 39), none⟩])
  (.seq (.reg [⟨(some 40), .mv (.t 2), none⟩,
    ⟨(some 41), .bin .eql (.t 40) (.c (.i .i64 0)), none⟩,
    ⟨(some 42), .mv (.t 41), none⟩,
    ⟨(some 43), .mv (.t 5), (some (42, true))⟩,
    ⟨(some 44), .pick (.t 42) (.t 43) (.c (.b false)), none⟩,
    ⟨(some 45), .mv (.t 44), none⟩,
    ⟨(some 46), .mv (.t 7), (some (45, true))⟩,
    ⟨(some 47), .bin .eql (.t 46) (.c (.s [97, 32, 98, 10])), (some (45, true))⟩,
    ⟨(some 48), .pick (.t 45) (.t 47) (.c (.b false)), none⟩,
    ⟨(some 49), .mv (.t 48), none⟩,
    ⟨(some 50), .mv (.t 9), (some (49, true))⟩,
    ⟨(some 51), .pick (.t 49) (.t 50) (.c (.b false)), none⟩,
    ⟨(some 52), .mv (.t 51), none⟩,
    ⟨(some 53), .mv (.t 10), (some (52, true))⟩,
    ⟨(some 54), .un .not (.t 53), (some (52, true))⟩,
    ⟨(some 55), .pick (.t 52) (.t 54) (.c (.b false)), none⟩,
    ⟨(some 56), .mv (.t 55), none⟩,
    ⟨(some 57), .mv (.t 11), (some (56, true))⟩,
    ⟨(some 58), .pick (.t 56) (.t 57) (.c (.b false)), none⟩,
    ⟨(some 0), .mv (.t 58), none⟩])
  .ret))))))) }
def c_probe_Holds : Fun := { cin := [.id, (.sl 1 .id)], cout := [.id, .id], ntmps := 97, keep := false, res := [(4, none), (5, none)], body :=
  (.seq (.reg [⟨(some 4), .mv (.c (.b false)), none⟩,
    ⟨(some 5), .mv (.c (.b false)), none⟩])
  (.seq (.seq (.reg [⟨(some 11), .mv (.t 0), none⟩,
    ⟨(some 12), .eq .ifc false (.t 11) (.c .ni), none⟩])
  (.cond (.t 12)
   (.seq (.reg [⟨(some 4), .mv (.c (.b false)), none⟩,
     ⟨(some 5), .mv (.c (.b false)), none⟩])
   .ret)
   .skip))
  (.seq (.reg [⟨(some 13), .mv (.t 1), none⟩,
    ⟨(some 14), .len 1 (.t 13), none⟩,
    ⟨(some 6), .mv (.t 14), none⟩])
  (.seq (.blk 0 (.seq (.reg [⟨(some 16), .mv (.t 6), none⟩,
     ⟨(some 17), .bin .eql (.t 16) (.c (.i .i64 0)), none⟩,
     ⟨(some 15), .mv (.t 17), none⟩])
   (.cond (.t 15)
    (.seq (.reg [⟨(some 4), .mv (.c (.b false)), none⟩,
      ⟨(some 5), .mv (.c (.b true)), none⟩])
    .ret)
    (.seq (.reg [⟨(some 19), .mv (.t 6), none⟩,
      ⟨(some 20), .bin .eql (.t 19) (.c (.i .i64 1)), none⟩,
      ⟨(some 18), .mv (.t 20), none⟩])
    (.cond (.t 18)
     (.seq (.reg [⟨(some 21), .mv (.t 1), none⟩,
       ⟨(some 22), .ia 1 (.t 21) (.c (.i .i64 0)), none⟩,
       ⟨(some 23), .ld false 1 (.t 22), none⟩,
       ⟨(some 24), .bin .neq (.t 23) (.c (.s [])), none⟩,
       ⟨(some 4), .mv (.t 24), none⟩,
       ⟨(some 5), .mv (.c (.b true)), none⟩])
     .ret)
     (.seq (.reg [⟨(some 26), .mv (.t 6), none⟩,
       ⟨(some 27), .bin .eql (.t 26) (.c (.i .i64 3)), none⟩,
       ⟨(some 28), .mv (.t 27), none⟩,
       ⟨(some 29), .mv (.t 1), (some (28, true))⟩,
       ⟨(some 30), .ia 1 (.t 29) (.c (.i .i64 1)), (some (28, true))⟩,
       ⟨(some 31), .ld false 1 (.t 30), (some (28, true))⟩,
       ⟨(some 32), .bin .eql (.t 31) (.c (.s [61])), (some (28, true))⟩,
       ⟨(some 33), .pick (.t 28) (.t 32) (.c (.b false)), none⟩,
       ⟨(some 25), .mv (.t 33), none⟩])
     (.cond (.t 25)
      (.seq (.regD [⟨(some 34), .mv (.t 1), none⟩,
        ⟨(some 35), .ia 1 (.t 34) (.c (.i .i64 0)), none⟩,
        ⟨(some 36), .ld false 1 (.t 35), none⟩,
        ⟨(some 37), .mv (.t 1), none⟩,
        ⟨(some 38), .ia 1 (.t 37) (.c (.i .i64 2)), none⟩,
        ⟨(some 39), .ld false 1 (.t 38), none⟩,
        ⟨(some 40), .bin .eql (.t 36) (.t 39), none⟩,
        ⟨(some 4), .mv (.t 40), none⟩,
        ⟨(some 5), .mv (.c (.b true)), none⟩] [])
      .ret)
      (.seq (.reg [⟨(some 42), .mv (.t 6), none⟩,
        ⟨(some 43), .bin .eql (.t 42) (.c (.i .i64 3)), none⟩,
        ⟨(some 44), .mv (.t 43), none⟩,
        ⟨(some 45), .mv (.t 1), (some (44, true))⟩,
        ⟨(some 46), .ia 1 (.t 45) (.c (.i .i64 1)), (some (44, true))⟩,
        ⟨(some 47), .ld false 1 (.t 46), (some (44, true))⟩,
        ⟨(some 48), .bin .eql (.t 47) (.c (.s [33, 61])), (some (44, true))⟩,
        ⟨(some 49), .pick (.t 44) (.t 48) (.c (.b false)), none⟩,
        ⟨(some 41), .mv (.t 49), none⟩])
      (.cond (.t 41)
       (.seq (.regD [⟨(some 50), .mv (.t 1), none⟩,
         ⟨(some 51), .ia 1 (.t 50) (.c (.i .i64 0)), none⟩,
         ⟨(some 52), .ld false 1 (.t 51), none⟩,
         ⟨(some 53), .mv (.t 1), none⟩,
         ⟨(some 54), .ia 1 (.t 53) (.c (.i .i64 2)), none⟩,
         ⟨(some 55), .ld false 1 (.t 54), none⟩,
         ⟨(some 56), .bin .neq (.t 52) (.t 55), none⟩,
         ⟨(some 4), .mv (.t 56), none⟩,
         ⟨(some 5), .mv (.c (.b true)), none⟩] [])
       .ret)
       (.seq (.reg [⟨(some 58), .mv (.t 6), none⟩,
         ⟨(some 59), .bin .leq (.t 58) (.c (.i .i64 4)), none⟩,
         ⟨(some 60), .mv (.t 59), none⟩,
         ⟨(some 61), .mv (.t 1), (some (60, true))⟩,
         ⟨(some 62), .ia 1 (.t 61) (.c (.i .i64 0)), (some (60, true))⟩,
         ⟨(some 63), .ld false 1 (.t 62), (some (60, true))⟩,
         ⟨(some 64), .bin .eql (.t 63) (.c (.s [33])), (some (60, true))⟩,
         ⟨(some 65), .pick (.t 60) (.t 64) (.c (.b false)), none⟩,
         ⟨(some 57), .mv (.t 65), none⟩])
       (.cond (.t 57)
        (.seq (.reg [⟨(some 67), .mv (.t 0), none⟩,
          ⟨(some 68), .mv (.t 1), none⟩,
          ⟨(some 69), .slc false 1 (.t 68) (some (.c (.i .i64 1))) none none, none⟩,
          ⟨(some 70), .call f_probe_Holds [(.t 67), (.t 69)], none⟩,
          ⟨(some 66), .mv (.t 70), none⟩,
          ⟨(some 71), .ext (.t 66) 0, none⟩,
          ⟨(some 72), .ext (.t 66) 1, none⟩,
          ⟨(some 7), .mv (.t 71), none⟩,
          ⟨(some 8), .mv (.t 72), none⟩])
        (.seq (.reg [⟨(some 73), .mv (.t 8), none⟩,
          ⟨(some 74), .mv (.t 73), none⟩,
          ⟨(some 75), .mv (.t 7), (some (74, true))⟩,
          ⟨(some 76), .un .not (.t 75), (some (74, true))⟩,
          ⟨(some 77), .pick (.t 74) (.t 76) (.c (.b false)), none⟩,
          ⟨(some 78), .mv (.t 8), none⟩,
          ⟨(some 4), .mv (.t 77), none⟩,
          ⟨(some 5), .mv (.t 78), none⟩])
        .ret))
        (.seq (.reg [⟨(some 80), .mv (.t 6), none⟩,
          ⟨(some 81), .bin .eql (.t 80) (.c (.i .i64 2)), none⟩,
          ⟨(some 79), .mv (.t 81), none⟩])
        (.cond (.t 79)
         (.seq (.regD [⟨(some 83), .mv (.t 0), none⟩,
           ⟨(some 84), .call f_probe_asks [(.t 83)], none⟩,
           ⟨(some 85), .mv (.t 1), none⟩,
           ⟨(some 86), .ia 1 (.t 85) (.c (.i .i64 0)), none⟩,
           ⟨(some 87), .ld false 1 (.t 86), none⟩,
           ⟨(some 88), .look 1 .nf true (.t 84) (.t 87), none⟩,
           ⟨(some 82), .mv (.t 88), none⟩,
           ⟨(some 89), .ext (.t 82) 0, none⟩,
           ⟨(some 90), .ext (.t 82) 1, none⟩,
           ⟨(some 9), .mv (.t 89), none⟩,
           ⟨(some 10), .mv (.t 90), none⟩] [(4, (1, 4))])
         (.seq (.reg [⟨(some 91), .mv (.t 10), none⟩])
         (.cond (.t 91)
          (.seq (.reg [⟨(some 92), .mv (.t 9), none⟩,
            ⟨(some 93), .mv (.t 1), none⟩,
            ⟨(some 94), .ia 1 (.t 93) (.c (.i .i64 1)), none⟩,
            ⟨(some 95), .ld false 1 (.t 94), none⟩,
            ⟨(some 96), .callX (.t 92) [(.t 95)], none⟩,
            ⟨(some 4), .mv (.t 96), none⟩,
            ⟨(some 5), .mv (.c (.b true)), none⟩])
          .ret)
          .skip)))
         .skip)))))))))))))
  (.seq (.reg [⟨(some 4), .mv (.c (.b false)), none⟩,
    ⟨(some 5), .mv (.c (.b false)), none⟩])
  .ret))))) }
def c_probe_Run : Fun := { cin := [.id, (.sl 1 .id)], cout := [.id, .id, .id, .id], ntmps := 70, keep := false, res := [(4, none), (5, none), (6, none), (7, none)], body :=
  (.seq (.reg [⟨(some 4), .mv (.c (.i .i64 0)), none⟩,
    ⟨(some 5), .mv (.c (.s [])), none⟩,
    ⟨(some 6), .mv (.c (.s [])), none⟩,
    ⟨(some 7), .mv (.c (.b false)), none⟩])
  (.seq (.seq (.reg [⟨(some 13), .mv (.t 0), none⟩,
    ⟨(some 14), .eq .ifc false (.t 13) (.c .ni), none⟩,
    ⟨(some 15), .mv (.t 14), none⟩,
    ⟨(some 16), .mv (.t 1), (some (15, false))⟩,
    ⟨(some 17), .len 1 (.t 16), (some (15, false))⟩,
    ⟨(some 18), .bin .eql (.t 17) (.c (.i .i64 0)), (some (15, false))⟩,
    ⟨(some 19), .pick (.t 15) (.c (.b true)) (.t 18), none⟩])
  (.cond (.t 19)
   (.seq (.reg [⟨(some 4), .mv (.c (.i .i64 0)), none⟩,
     ⟨(some 5), .mv (.c (.s [])), none⟩,
     ⟨(some 6), .mv (.c (.s [])), none⟩,
     ⟨(some 7), .mv (.c (.b false)), none⟩])
   .ret)
   .skip))
  (.seq (.regD [⟨(some 20), .mv (.t 1), none⟩,
    ⟨(some 21), .ia 1 (.t 20) (.c (.i .i64 0)), none⟩,
    ⟨(some 22), .ld false 1 (.t 21), none⟩,
    ⟨(some 23), .mv (.t 1), none⟩,
    ⟨(some 24), .slc false 1 (.t 23) (some (.c (.i .i64 1))) none none, none⟩,
    ⟨(some 8), .mv (.t 22), none⟩,
    ⟨(some 9), .mv (.t 24), none⟩] [])
  (.seq (.seq (.reg [⟨(some 25), .mv (.t 8), none⟩])
  (.blk 0 (.seq (.seq (.reg [⟨(some 27), .bin .eql (.t 25) (.c (.s [116, 114, 117, 101])), none⟩,
     ⟨(some 26), .mv (.t 27), none⟩])
   (.cond (.t 26)
    .skip
    (.reg [⟨(some 28), .bin .eql (.t 25) (.c (.s [58])), none⟩,
      ⟨(some 26), .mv (.t 28), none⟩])))
   (.cond (.t 26)
    (.seq (.reg [⟨(some 4), .mv (.c (.i .i64 0)), none⟩,
      ⟨(some 5), .mv (.c (.s [])), none⟩,
      ⟨(some 6), .mv (.c (.s [])), none⟩,
      ⟨(some 7), .mv (.c (.b true)), none⟩])
    .ret)
    (.seq (.reg [⟨(some 30), .bin .eql (.t 25) (.c (.s [102, 97, 108, 115, 101])), none⟩,
      ⟨(some 29), .mv (.t 30), none⟩])
    (.cond (.t 29)
     (.seq (.reg [⟨(some 4), .mv (.c (.i .i64 1)), none⟩,
       ⟨(some 5), .mv (.c (.s [])), none⟩,
       ⟨(some 6), .mv (.c (.s [])), none⟩,
       ⟨(some 7), .mv (.c (.b true)), none⟩])
     .ret)
     (.seq (.reg [⟨(some 32), .bin .eql (.t 25) (.c (.s [101, 99, 104, 111])), none⟩,
       ⟨(some 31), .mv (.t 32), none⟩])
     (.cond (.t 31)
      (.seq (.reg [⟨(some 33), .mv (.t 9), none⟩,
        ⟨(some 34), .call f_strings_Join [(.t 33), (.c (.s [32]))], none⟩,
        ⟨(some 35), .bin .add (.t 34) (.c (.s [10])), none⟩,
        ⟨(some 4), .mv (.c (.i .i64 0)), none⟩,
        ⟨(some 5), .mv (.t 35), none⟩,
        ⟨(some 6), .mv (.c (.s [])), none⟩,
        ⟨(some 7), .mv (.c (.b true)), none⟩])
      .ret)
      (.seq (.reg [⟨(some 37), .bin .eql (.t 25) (.c (.s [116, 101, 115, 116])), none⟩,
        ⟨(some 36), .mv (.t 37), none⟩])
      (.cond (.t 36)
       .skip
       (.seq (.reg [⟨(some 39), .bin .eql (.t 25) (.c (.s [91])), none⟩,
         ⟨(some 38), .mv (.t 39), none⟩])
       (.cond (.t 38)
        (.seq (.reg [⟨(some 40), .mv (.t 9), none⟩,
          ⟨(some 41), .len 1 (.t 40), none⟩,
          ⟨(some 42), .bin .sub (.t 41) (.c (.i .i64 1)), none⟩,
          ⟨(some 10), .mv (.t 42), none⟩])
        (.seq (.seq (.reg [⟨(some 43), .mv (.t 10), none⟩,
          ⟨(some 44), .bin .lss (.t 43) (.c (.i .i64 0)), none⟩,
          ⟨(some 45), .mv (.t 44), none⟩,
          ⟨(some 46), .mv (.t 9), (some (45, false))⟩,
          ⟨(some 47), .mv (.t 10), (some (45, false))⟩,
          ⟨(some 48), .ia 1 (.t 46) (.t 47), (some (45, false))⟩,
          ⟨(some 49), .ld false 1 (.t 48), (some (45, false))⟩,
          ⟨(some 50), .bin .neq (.t 49) (.c (.s [93])), (some (45, false))⟩,
          ⟨(some 51), .pick (.t 45) (.c (.b true)) (.t 50), none⟩])
        (.cond (.t 51)
         (.seq (.reg [⟨(some 4), .mv (.c (.i .i64 2)), none⟩,
           ⟨(some 5), .mv (.c (.s [])), none⟩,
           ⟨(some 6), .mv (.c (.s [91, 58, 32, 117, 115, 97, 103, 101, 10])), none⟩,
           ⟨(some 7), .mv (.c (.b true)), none⟩])
         .ret)
         .skip))
        (.reg [⟨(some 52), .mv (.t 9), none⟩,
          ⟨(some 53), .mv (.t 10), none⟩,
          ⟨(some 54), .slc true 1 (.t 52) none (some (.t 53)) none, none⟩,
          ⟨(some 9), .mv (.t 54), none⟩])))
        (.seq (.reg [⟨(some 4), .mv (.c (.i .i64 0)), none⟩,
          ⟨(some 5), .mv (.c (.s [])), none⟩,
          ⟨(some 6), .mv (.c (.s [])), none⟩,
          ⟨(some 7), .mv (.c (.b false)), none⟩])
        .ret)))))))))))))
  (.seq (.reg [⟨(some 56), .mv (.t 0), none⟩,
    ⟨(some 57), .mv (.t 9), none⟩,
    ⟨(some 58), .call f_probe_Holds [(.t 56), (.t 57)], none⟩,
    ⟨(some 55), .mv (.t 58), none⟩,
    ⟨(some 59), .ext (.t 55) 0, none⟩,
    ⟨(some 60), .ext (.t 55) 1, none⟩,
    ⟨(some 11), .mv (.t 59), none⟩,
    ⟨(some 12), .mv (.t 60), none⟩])
  (.seq (.blk 1 (.seq (.reg [⟨(some 62), .mv (.t 12), none⟩,
     ⟨(some 63), .un .not (.t 62), none⟩,
     ⟨(some 61), .mv (.t 63), none⟩])
   (.cond (.t 61)
    (.seq (.reg [⟨(some 64), .mv (.t 8), none⟩,
      ⟨(some 65), .bin .add (.t 64) (.c (.s [58, 32, 117, 115, 97, 103, 101, 10])), none⟩,
      ⟨(some 4), .mv (.c (.i .i64 2)), none⟩,
      ⟨(some 5), .mv (.c (.s [])), none⟩,
      ⟨(some 6), .mv (.t 65), none⟩,
      ⟨(some 7), .mv (.c (.b true)), none⟩])
    .ret)
    (.seq (.reg [⟨(some 67), .mv (.t 11), none⟩,
      ⟨(some 68), .un .not (.t 67), none⟩,
      ⟨(some 66), .mv (.t 68), none⟩])
    (.cond (.t 66)
     (.reg [⟨(some 4), .mv (.c (.i .i64 1)), none⟩])
     .skip)))))
  (.seq (.reg [⟨(some 69), .mv (.t 4), none⟩,
    ⟨(some 4), .mv (.t 69), none⟩,
    ⟨(some 5), .mv (.c (.s [])), none⟩,
    ⟨(some 6), .mv (.c (.s [])), none⟩,
    ⟨(some 7), .mv (.c (.b true)), none⟩])
  .ret))))))) }
def c_ftree_May : Fun := { cin := [(.agg [.id, .id, (.sl 1 .id), (.sl 4 (.agg [.id, .id, (.sl 1 .id), (.sl 4 (.agg [.id, .id, (.sl 1 .id), (.sl 4 .id)]))]))])], cout := [.id], ntmps := 20, keep := false, res := [(2, none)], body :=
  (.seq (.reg [⟨(some 1), .box 25 4 (.t 0), none⟩,
    ⟨(some 2), .mv (.c (.b false)), none⟩])
  (.seq (.reg [⟨(some 3), .fa 0 (.t 1), none⟩,
    ⟨(some 4), .ld false 1 (.t 3), none⟩,
    ⟨(some 5), .bin .eql (.t 4) (.c (.i .u8 2)), none⟩,
    ⟨(some 6), .mv (.t 5), none⟩,
    ⟨(some 7), .ld true 4 (.t 1), (some (6, true))⟩,
    ⟨(some 8), .call f_ftree_Well [(.t 7)], (some (6, true))⟩,
    ⟨(some 9), .pick (.t 6) (.t 8) (.c (.b false)), none⟩,
    ⟨(some 10), .mv (.t 9), none⟩,
    ⟨(some 11), .ld true 4 (.t 1), (some (10, true))⟩,
    ⟨(some 12), .call f_ftree_Nodes [(.t 11)], (some (10, true))⟩,
    ⟨(some 13), .bin .leq (.t 12) (.c (.i .i64 1024)), (some (10, true))⟩,
    ⟨(some 14), .pick (.t 10) (.t 13) (.c (.b false)), none⟩,
    ⟨(some 15), .mv (.t 14), none⟩,
    ⟨(some 16), .ld true 4 (.t 1), (some (15, true))⟩,
    ⟨(some 17), .call f_ftree_depth [(.t 16)], (some (15, true))⟩,
    ⟨(some 18), .bin .leq (.t 17) (.c (.i .i64 24)), (some (15, true))⟩,
    ⟨(some 19), .pick (.t 15) (.t 18) (.c (.b false)), none⟩,
    ⟨(some 2), .mv (.t 19), none⟩])
  .ret)) }
def c_ftree_own : Fun := { cin := [(.agg [.id, .id, (.sl 1 .id), (.sl 4 (.agg [.id, .id, (.sl 1 .id), (.sl 4 (.agg [.id, .id, (.sl 1 .id), (.sl 4 .id)]))]))])], cout := [(.agg [.id, .id, (.sl 1 .id), (.sl 4 (.agg [.id, .id, (.sl 1 .id), (.sl 4 (.agg [.id, .id, (.sl 1 .id), (.sl 4 .id)]))]))])], ntmps := 26, keep := false, res := [(2, some (true, 4))], body :=
  (.seq (.reg [⟨(some 1), .box 25 4 (.t 0), none⟩,
    ⟨(some 2), .alloc 25 [(.i .u8 0), (.s []), .nsl, .nsl], none⟩])
  (.seq (.reg [⟨(some 6), .fa 2 (.t 1), none⟩,
    ⟨(some 7), .ld false 1 (.t 6), none⟩,
    ⟨(some 8), .call f_slices_Clone_string_string [(.t 7)], none⟩,
    ⟨(some 9), .fa 2 (.t 1), none⟩,
    ⟨none, .st 1 (.t 9) (.t 8), none⟩])
  (.seq (.reg [⟨(some 3), .mv (.c .nsl), none⟩])
  (.seq (.seq (.reg [⟨(some 10), .fa 3 (.t 1), none⟩,
    ⟨(some 11), .ld false 1 (.t 10), none⟩,
    ⟨(some 12), .len 1 (.t 11), none⟩,
    ⟨(some 13), .mv (.c (.i .i64 0)), none⟩])
  (.blk 0 (.loop (.seq (.reg [⟨(some 14), .bin .lss (.t 13) (.t 12), none⟩])
    (.seq (.cond (.t 14)
     .skip
     (.exit 0))
    (.seq (.blk 1 (.seq (.reg [⟨(some 15), .ia 4 (.t 11) (.t 13), none⟩,
       ⟨(some 16), .ld true 4 (.t 15), none⟩,
       ⟨(some 5), .alloc 25 [(.i .u8 0), (.s []), .nsl, .nsl], none⟩,
       ⟨none, .st 4 (.t 5) (.t 16), none⟩])
     (.reg [⟨(some 17), .mv (.t 3), none⟩,
       ⟨(some 18), .ld true 4 (.t 5), none⟩,
       ⟨(some 19), .call f_ftree_own [(.t 18)], none⟩,
       ⟨(some 20), .bsl 4 [(.t 19)], none⟩,
       ⟨(some 21), .app 4 25 (.t 17) (.t 20), none⟩,
       ⟨(some 3), .mv (.t 21), none⟩])))
    (.reg [⟨(some 22), .bin .add (.t 13) (.c (.i .i64 1)), none⟩,
      ⟨(some 13), .mv (.t 22), none⟩])))))))
  (.seq (.reg [⟨(some 23), .mv (.t 3), none⟩,
    ⟨(some 24), .fa 3 (.t 1), none⟩,
    ⟨none, .st 1 (.t 24) (.t 23), none⟩])
  (.seq (.reg [⟨(some 25), .ld true 4 (.t 1), none⟩,
    ⟨none, .st 4 (.t 2) (.t 25), none⟩])
  .ret)))))) }
def c_walk_walk : Fun := { cin := [.id, .id, .id], cout := [(.sl 1 .id), .id, .id], ntmps := 34, keep := false, res := [(6, none), (7, none), (8, none)], body :=
  (.seq (.reg [⟨(some 6), .mv (.c .nsl), none⟩,
    ⟨(some 7), .mv (.c (.i .u8 0)), none⟩,
    ⟨(some 8), .mv (.c (.i .i64 0)), none⟩])
  (.seq (.seq (.reg [⟨(some 13), .mv (.t 0), none⟩,
    ⟨(some 14), .eq .ifc false (.t 13) (.c .ni), none⟩])
  (.cond (.t 14)
   (.seq (.reg [⟨(some 6), .mv (.c .nsl), none⟩,
     ⟨(some 7), .mv (.c (.i .u8 0)), none⟩,
     ⟨(some 8), .mv (.c (.i .i64 2)), none⟩])
   .ret)
   .skip))
  (.seq (.reg [⟨(some 15), .mv (.t 0), none⟩,
    ⟨(some 16), .mv (.t 1), none⟩,
    ⟨(some 17), .call f_path_Steps [(.t 16)], none⟩,
    ⟨(some 18), .mv (.t 1), none⟩,
    ⟨(some 19), .call f_path_Dir [(.t 18)], none⟩,
    ⟨(some 20), .mv (.t 2), none⟩,
    ⟨(some 21), .build [.ni, .nsl, .nsl, (.b false), (.b false), (.i .i64 0)] [(0, 1, (.t 15)), (2, 1, (.t 17)), (3, 1, (.t 19)), (4, 1, (.t 20))], none⟩,
    ⟨(some 22), .box 72 6 (.t 21), none⟩,
    ⟨(some 9), .mv (.t 22), none⟩])
  (.seq (.reg [⟨(some 24), .mv (.t 9), none⟩,
    ⟨(some 25), .call f_walk_walker_run [(.t 24)], none⟩,
    ⟨(some 23), .mv (.t 25), none⟩,
    ⟨(some 26), .ext (.t 23) 0, none⟩,
    ⟨(some 27), .ext (.t 23) 1, none⟩,
    ⟨(some 28), .ext (.t 23) 2, none⟩,
    ⟨(some 10), .mv (.t 26), none⟩,
    ⟨(some 11), .mv (.t 27), none⟩,
    ⟨(some 12), .mv (.t 28), none⟩])
  (.seq (.reg [⟨(some 29), .bsl 1 [], none⟩,
    ⟨(some 30), .mv (.t 10), none⟩,
    ⟨(some 31), .app 1 9 (.t 29) (.t 30), none⟩,
    ⟨(some 32), .mv (.t 11), none⟩,
    ⟨(some 33), .mv (.t 12), none⟩,
    ⟨(some 6), .mv (.t 31), none⟩,
    ⟨(some 7), .mv (.t 32), none⟩,
    ⟨(some 8), .mv (.t 33), none⟩])
  .ret))))) }
def c_strings_Join : Fun := { cin := [], cout := [], ntmps := 0, keep := false, res := [], body := .bad, prim := some (pureP primJoin) }
def c_ftree_Tree_at : Fun := { cin := [.id, (.sl 1 .id)], cout := [(.agg [.id, .id, (.sl 1 .id), (.sl 4 (.agg [.id, .id, (.sl 1 .id), (.sl 4 (.agg [.id, .id, (.sl 1 .id), (.sl 4 .id)]))]))])], ntmps := 20, keep := false, res := [(4, some (true, 4))], body :=
  (.seq (.reg [⟨(some 4), .alloc 25 [(.i .u8 0), (.s []), .nsl, .nsl], none⟩])
  (.seq (.seq (.reg [⟨(some 7), .mv (.t 0), none⟩,
    ⟨(some 8), .eq .ptr false (.t 7) (.c .np), none⟩])
  (.cond (.t 8)
   (.seq (.reg [⟨(some 9), .build [(.i .u8 0), (.s []), .nsl, .nsl] [], none⟩,
     ⟨none, .st 4 (.t 4) (.t 9), none⟩])
   .ret)
   .skip))
  (.seq (.reg [⟨(some 11), .mv (.t 0), none⟩,
    ⟨(some 12), .nck (.t 11), none⟩,
    ⟨(some 13), .fa 0 (.t 12), none⟩,
    ⟨(some 14), .ld true 4 (.t 13), none⟩,
    ⟨(some 15), .mv (.t 1), none⟩,
    ⟨(some 16), .call f_ftree_find [(.t 14), (.t 15)], none⟩,
    ⟨(some 10), .mv (.t 16), none⟩,
    ⟨(some 17), .ext (.t 10) 0, none⟩,
    ⟨(some 18), .ext (.t 10) 1, none⟩,
    ⟨(some 5), .alloc 25 [(.i .u8 0), (.s []), .nsl, .nsl], none⟩,
    ⟨none, .st 4 (.t 5) (.t 17), none⟩,
    ⟨(some 6), .mv (.t 18), none⟩])
  (.seq (.reg [⟨(some 19), .ld true 4 (.t 5), none⟩,
    ⟨none, .st 4 (.t 4) (.t 19), none⟩])
  .ret)))) }
def c_path_steps : Fun := { cin := [.id], cout := [.id], ntmps := 4, keep := false, res := [(2, none)], body :=
  (.seq (.reg [⟨(some 1), .box 9 1 (.t 0), none⟩,
    ⟨(some 2), .mv (.c .nf), none⟩])
  (.seq (.reg [⟨(some 3), .mkf f_path_steps_1 [(.t 1)], none⟩,
    ⟨(some 2), .mv (.t 3), none⟩])
  .ret)) }
def c_strings_ContainsAny : Fun := { cin := [.id, .id], cout := [.id], ntmps := 9, keep := false, res := [(4, none)], body :=
  (.seq (.reg [⟨(some 4), .mv (.c (.b false)), none⟩])
  (.seq (.reg [⟨(some 5), .mv (.t 0), none⟩,
    ⟨(some 6), .mv (.t 1), none⟩,
    ⟨(some 7), .call f_strings_IndexAny [(.t 5), (.t 6)], none⟩,
    ⟨(some 8), .bin .geq (.t 7) (.c (.i .i64 0)), none⟩,
    ⟨(some 4), .mv (.t 8), none⟩])
  .ret)) }
def c_touchstoneref07_May : Fun := { cin := [(.agg [.id, .id, (.sl 1 .id), (.sl 4 (.agg [.id, .id, (.sl 1 .id), (.sl 4 (.agg [.id, .id, (.sl 1 .id), (.sl 4 .id)]))]))])], cout := [.id], ntmps := 20, keep := false, res := [(2, none)], body :=
  (.seq (.reg [⟨(some 1), .box 25 4 (.t 0), none⟩,
    ⟨(some 2), .mv (.c (.b false)), none⟩])
  (.seq (.reg [⟨(some 3), .fa 0 (.t 1), none⟩,
    ⟨(some 4), .ld false 1 (.t 3), none⟩,
    ⟨(some 5), .bin .eql (.t 4) (.c (.i .u8 2)), none⟩,
    ⟨(some 6), .mv (.t 5), none⟩,
    ⟨(some 7), .ld true 4 (.t 1), (some (6, true))⟩,
    ⟨(some 8), .call f_touchstoneref07_Well [(.t 7)], (some (6, true))⟩,
    ⟨(some 9), .pick (.t 6) (.t 8) (.c (.b false)), none⟩,
    ⟨(some 10), .mv (.t 9), none⟩,
    ⟨(some 11), .ld true 4 (.t 1), (some (10, true))⟩,
    ⟨(some 12), .call f_touchstoneref07_Nodes [(.t 11)], (some (10, true))⟩,
    ⟨(some 13), .bin .leq (.t 12) (.c (.i .i64 1024)), (some (10, true))⟩,
    ⟨(some 14), .pick (.t 10) (.t 13) (.c (.b false)), none⟩,
    ⟨(some 15), .mv (.t 14), none⟩,
    ⟨(some 16), .ld true 4 (.t 1), (some (15, true))⟩,
    ⟨(some 17), .call f_touchstoneref07_deep [(.t 16)], (some (15, true))⟩,
    ⟨(some 18), .bin .leq (.t 17) (.c (.i .i64 24)), (some (15, true))⟩,
    ⟨(some 19), .pick (.t 15) (.t 18) (.c (.b false)), none⟩,
    ⟨(some 2), .mv (.t 19), none⟩])
  .ret)) }
def c_touchstoneref07_Nodes : Fun := { cin := [(.agg [.id, .id, (.sl 1 .id), (.sl 4 (.agg [.id, .id, (.sl 1 .id), (.sl 4 (.agg [.id, .id, (.sl 1 .id), (.sl 4 .id)]))]))])], cout := [.id], ntmps := 21, keep := false, res := [(2, none)], body :=
  (.seq (.reg [⟨(some 1), .box 25 4 (.t 0), none⟩,
    ⟨(some 2), .mv (.c (.i .i64 0)), none⟩])
  (.seq (.reg [⟨(some 3), .mv (.c (.i .i64 1)), none⟩])
  (.seq (.seq (.reg [⟨(some 4), .mv (.c (.i .i64 0)), none⟩])
  (.blk 0 (.loop (.seq (.seq (.reg [⟨(some 5), .mv (.t 4), none⟩,
      ⟨(some 6), .fa 3 (.t 1), none⟩,
      ⟨(some 7), .ld false 1 (.t 6), none⟩,
      ⟨(some 8), .len 1 (.t 7), none⟩,
      ⟨(some 9), .bin .lss (.t 5) (.t 8), none⟩])
    (.cond (.t 9)
     .skip
     (.exit 0)))
    (.seq (.blk 1 (.reg [⟨(some 12), .mv (.t 3), none⟩,
       ⟨(some 13), .fa 3 (.t 1), none⟩,
       ⟨(some 14), .ld false 1 (.t 13), none⟩,
       ⟨(some 15), .mv (.t 4), none⟩,
       ⟨(some 16), .ia 4 (.t 14) (.t 15), none⟩,
       ⟨(some 17), .ld true 4 (.t 16), none⟩,
       ⟨(some 18), .call f_touchstoneref07_Nodes [(.t 17)], none⟩,
       ⟨(some 19), .bin .add (.t 12) (.t 18), none⟩,
       ⟨(some 3), .mv (.t 19), none⟩]))
    (.reg [⟨(some 10), .mv (.t 4), none⟩,
      ⟨(some 11), .bin .add (.t 10) (.c (.i .i64 1)), none⟩,
      ⟨(some 4), .mv (.t 11), none⟩]))))))
  (.seq (.reg [⟨(some 20), .mv (.t 3), none⟩,
    ⟨(some 2), .mv (.t 20), none⟩])
  .ret)))) }
def c_touchstonelaw14_example : Fun := { cin := [], cout := [.id], ntmps := 16, keep := false, res := [(0, none)], body :=
  (.seq (.reg [⟨(some 0), .mv (.c .np), none⟩])
  (.seq (.reg [⟨(some 4), .bsl 1 [(.c (.s [97])), (.c (.s [100])), (.c (.s [108]))], none⟩,
    ⟨(some 5), .build [(.i .u8 0), (.s []), .nsl, .nsl] [(0, 1, (.c (.i .u8 1))), (1, 1, (.c (.s [120])))], none⟩,
    ⟨(some 6), .build [(.i .u8 0), (.s []), .nsl, .nsl] [(0, 1, (.c (.i .u8 2)))], none⟩,
    ⟨(some 7), .build [(.i .u8 0), (.s []), .nsl, .nsl] [(0, 1, (.c (.i .u8 3))), (1, 1, (.c (.s [100])))], none⟩,
    ⟨(some 8), .bsl 4 [(.t 5), (.t 6), (.t 7)], none⟩,
    ⟨(some 9), .build [(.i .u8 0), (.s []), .nsl, .nsl] [(0, 1, (.c (.i .u8 2))), (2, 1, (.t 4)), (3, 1, (.t 8))], none⟩,
    ⟨(some 10), .call f_ftree_New [(.t 9)], none⟩,
    ⟨(some 3), .mv (.t 10), none⟩,
    ⟨(some 11), .ext (.t 3) 0, none⟩,
    ⟨(some 12), .ext (.t 3) 1, none⟩,
    ⟨(some 1), .mv (.t 11), none⟩,
    ⟨(some 2), .mv (.t 12), none⟩])
  (.seq (.seq (.reg [⟨(some 13), .mv (.t 2), none⟩,
    ⟨(some 14), .bin .neq (.t 13) (.c (.i .i64 0)), none⟩])
  (.cond (.t 14)
   (.seq (.reg [⟨(some 0), .mv (.c .np), none⟩])
   .ret)
   .skip))
  (.seq (.reg [⟨(some 15), .mv (.t 1), none⟩,
    ⟨(some 0), .mv (.t 15), none⟩])
  .ret)))) }
def c_probe_asks : Fun := { cin := [.id], cout := [.id], ntmps := 25, keep := false, res := [(2, none)], body :=
  (.seq (.reg [⟨(some 1), .box 57 1 (.t 0), none⟩,
    ⟨(some 2), .mv (.c .nm), none⟩])
  (.seq (.reg [⟨(some 6), .mkf f_probe_asks_1 [(.t 1)], none⟩,
    ⟨(some 3), .mv (.t 6), none⟩])
  (.seq (.reg [⟨(some 4), .mv (.c (.fn f_probe_asks_2 [])), none⟩])
  (.seq (.reg [⟨(some 7), .mv (.t 3), none⟩,
    ⟨(some 8), .mv (.t 4), none⟩,
    ⟨(some 9), .callX (.t 8) [(.c (.i .u8 3))], none⟩,
    ⟨(some 10), .callX (.t 7) [(.c (.fn f_walk_Spot [])), (.t 9)], none⟩,
    ⟨(some 5), .mv (.t 10), none⟩])
  (.seq (.reg [⟨(some 11), .mkm, none⟩,
    ⟨none, .ins 1 (.t 11) (.c (.s [45, 110])) (.c (.fn f_probe_asks_3 [])), none⟩,
    ⟨none, .ins 1 (.t 11) (.c (.s [45, 122])) (.c (.fn f_probe_asks_4 [])), none⟩,
    ⟨(some 12), .mv (.t 3), none⟩,
    ⟨(some 13), .callX (.t 12) [(.c (.fn f_walk_Find [])), (.c (.fn f_probe_asks_5 []))], none⟩,
    ⟨none, .ins 1 (.t 11) (.c (.s [45, 101])) (.t 13), none⟩,
    ⟨(some 14), .mv (.t 3), none⟩,
    ⟨(some 15), .mv (.t 4), none⟩,
    ⟨(some 16), .callX (.t 15) [(.c (.i .u8 1))], none⟩,
    ⟨(some 17), .callX (.t 14) [(.c (.fn f_walk_Find [])), (.t 16)], none⟩,
    ⟨none, .ins 1 (.t 11) (.c (.s [45, 102])) (.t 17), none⟩,
    ⟨(some 18), .mv (.t 3), none⟩,
    ⟨(some 19), .mv (.t 4), none⟩,
    ⟨(some 20), .callX (.t 19) [(.c (.i .u8 2))], none⟩,
    ⟨(some 21), .callX (.t 18) [(.c (.fn f_walk_Find [])), (.t 20)], none⟩,
    ⟨none, .ins 1 (.t 11) (.c (.s [45, 100])) (.t 21), none⟩,
    ⟨(some 22), .mv (.t 5), none⟩,
    ⟨none, .ins 1 (.t 11) (.c (.s [45, 76])) (.t 22), none⟩,
    ⟨(some 23), .mv (.t 5), none⟩,
    ⟨none, .ins 1 (.t 11) (.c (.s [45, 104])) (.t 23), none⟩,
    ⟨(some 24), .mv (.t 11), none⟩,
    ⟨(some 2), .mv (.t 24), none⟩])
  .ret))))) }
def c_ftree_Well : Fun := { cin := [(.agg [.id, .id, (.sl 1 .id), (.sl 4 (.agg [.id, .id, (.sl 1 .id), (.sl 4 (.agg [.id, .id, (.sl 1 .id), (.sl 4 .id)]))]))])], cout := [.id], ntmps := 89, keep := false, res := [(2, none)], body :=
  (.seq (.reg [⟨(some 1), .box 25 4 (.t 0), none⟩,
    ⟨(some 2), .mv (.c (.b false)), none⟩])
  (.seq (.seq (.reg [⟨(some 5), .fa 0 (.t 1), none⟩,
    ⟨(some 6), .ld false 1 (.t 5), none⟩])
  (.blk 0 (.seq (.seq (.reg [⟨(some 8), .bin .eql (.t 6) (.c (.i .u8 1)), none⟩,
     ⟨(some 7), .mv (.t 8), none⟩])
   (.cond (.t 7)
    .skip
    (.reg [⟨(some 9), .bin .eql (.t 6) (.c (.i .u8 3)), none⟩,
      ⟨(some 7), .mv (.t 9), none⟩])))
   (.cond (.t 7)
    (.seq (.reg [⟨(some 10), .fa 2 (.t 1), none⟩,
      ⟨(some 11), .ld false 1 (.t 10), none⟩,
      ⟨(some 12), .len 1 (.t 11), none⟩,
      ⟨(some 13), .fa 3 (.t 1), none⟩,
      ⟨(some 14), .ld false 1 (.t 13), none⟩,
      ⟨(some 15), .len 1 (.t 14), none⟩,
      ⟨(some 16), .bin .add (.t 12) (.t 15), none⟩,
      ⟨(some 17), .bin .eql (.t 16) (.c (.i .i64 0)), none⟩,
      ⟨(some 18), .mv (.t 17), none⟩,
      ⟨(some 19), .fa 1 (.t 1), (some (18, true))⟩,
      ⟨(some 20), .ld false 1 (.t 19), (some (18, true))⟩,
      ⟨(some 21), .len 0 (.t 20), (some (18, true))⟩,
      ⟨(some 22), .bin .leq (.t 21) (.c (.i .i64 256)), (some (18, true))⟩,
      ⟨(some 23), .pick (.t 18) (.t 22) (.c (.b false)), none⟩,
      ⟨(some 24), .mv (.t 23), none⟩,
      ⟨(some 25), .fa 1 (.t 1), (some (24, true))⟩,
      ⟨(some 26), .ld false 1 (.t 25), (some (24, true))⟩,
      ⟨(some 27), .call f_strings_IndexByte [(.t 26), (.c (.i .u8 0))], (some (24, true))⟩,
      ⟨(some 28), .bin .lss (.t 27) (.c (.i .i64 0)), (some (24, true))⟩,
      ⟨(some 29), .pick (.t 24) (.t 28) (.c (.b false)), none⟩,
      ⟨(some 30), .mv (.t 29), none⟩,
      ⟨(some 31), .fa 0 (.t 1), (some (30, true))⟩,
      ⟨(some 32), .ld false 1 (.t 31), (some (30, true))⟩,
      ⟨(some 33), .bin .eql (.t 32) (.c (.i .u8 1)), (some (30, true))⟩,
      ⟨(some 34), .mv (.t 33), (some (30, true))⟩,
      ⟨(some 35), .fa 1 (.t 1), (some (34, false))⟩,
      ⟨(some 36), .ld false 1 (.t 35), (some (34, false))⟩,
      ⟨(some 37), .bin .neq (.t 36) (.c (.s [])), (some (34, false))⟩,
      ⟨(some 38), .pick (.t 34) (.c (.b true)) (.t 37), (some (30, true))⟩,
      ⟨(some 39), .pick (.t 30) (.t 38) (.c (.b false)), none⟩,
      ⟨(some 2), .mv (.t 39), none⟩])
    .ret)
    (.seq (.reg [⟨(some 41), .bin .eql (.t 6) (.c (.i .u8 2)), none⟩,
      ⟨(some 40), .mv (.t 41), none⟩])
    (.cond (.t 40)
     (.seq (.seq (.reg [⟨(some 42), .fa 1 (.t 1), none⟩,
       ⟨(some 43), .ld false 1 (.t 42), none⟩,
       ⟨(some 44), .bin .neq (.t 43) (.c (.s [])), none⟩,
       ⟨(some 45), .mv (.t 44), none⟩,
       ⟨(some 46), .fa 2 (.t 1), (some (45, false))⟩,
       ⟨(some 47), .ld false 1 (.t 46), (some (45, false))⟩,
       ⟨(some 48), .len 1 (.t 47), (some (45, false))⟩,
       ⟨(some 49), .fa 3 (.t 1), (some (45, false))⟩,
       ⟨(some 50), .ld false 1 (.t 49), (some (45, false))⟩,
       ⟨(some 51), .len 1 (.t 50), (some (45, false))⟩,
       ⟨(some 52), .bin .neq (.t 48) (.t 51), (some (45, false))⟩,
       ⟨(some 53), .pick (.t 45) (.c (.b true)) (.t 52), none⟩])
     (.cond (.t 53)
      (.seq (.reg [⟨(some 2), .mv (.c (.b false)), none⟩])
      .ret)
      .skip))
     (.seq (.seq (.reg [⟨(some 54), .fa 2 (.t 1), none⟩,
       ⟨(some 55), .ld false 1 (.t 54), none⟩,
       ⟨(some 56), .len 1 (.t 55), none⟩,
       ⟨(some 57), .mv (.c (.i .i64 0)), none⟩])
     (.blk 1 (.loop (.seq (.reg [⟨(some 58), .bin .lss (.t 57) (.t 56), none⟩])
       (.seq (.cond (.t 58)
        .skip
        (.exit 1))
       (.seq (.blk 2 (.seq (.reg [⟨(some 59), .mv (.t 57), none⟩,
          ⟨(some 60), .ia 1 (.t 55) (.t 57), none⟩,
          ⟨(some 61), .ld false 1 (.t 60), none⟩,
          ⟨(some 3), .mv (.t 59), none⟩,
          ⟨(some 4), .mv (.t 61), none⟩])
        (.seq (.reg [⟨(some 62), .mv (.t 4), none⟩,
          ⟨(some 63), .call f_path_Name [(.t 62)], none⟩,
          ⟨(some 64), .un .not (.t 63), none⟩,
          ⟨(some 65), .mv (.t 64), none⟩,
          ⟨(some 66), .mv (.t 3), (some (65, false))⟩,
          ⟨(some 67), .bin .gtr (.t 66) (.c (.i .i64 0)), (some (65, false))⟩,
          ⟨(some 68), .mv (.t 67), (some (65, false))⟩,
          ⟨(some 69), .mv (.t 4), (some (68, true))⟩,
          ⟨(some 70), .fa 2 (.t 1), (some (68, true))⟩,
          ⟨(some 71), .ld false 1 (.t 70), (some (68, true))⟩,
          ⟨(some 72), .mv (.t 3), (some (68, true))⟩,
          ⟨(some 73), .bin .sub (.t 72) (.c (.i .i64 1)), (some (68, true))⟩,
          ⟨(some 74), .ia 1 (.t 71) (.t 73), (some (68, true))⟩,
          ⟨(some 75), .ld false 1 (.t 74), (some (68, true))⟩,
          ⟨(some 76), .bin .leq (.t 69) (.t 75), (some (68, true))⟩,
          ⟨(some 77), .pick (.t 68) (.t 76) (.c (.b false)), (some (65, false))⟩,
          ⟨(some 78), .pick (.t 65) (.c (.b true)) (.t 77), none⟩,
          ⟨(some 79), .mv (.t 78), none⟩,
          ⟨(some 80), .fa 3 (.t 1), (some (79, false))⟩,
          ⟨(some 81), .ld false 1 (.t 80), (some (79, false))⟩,
          ⟨(some 82), .mv (.t 3), (some (79, false))⟩,
          ⟨(some 83), .ia 4 (.t 81) (.t 82), (some (79, false))⟩,
          ⟨(some 84), .ld true 4 (.t 83), (some (79, false))⟩,
          ⟨(some 85), .call f_ftree_Well [(.t 84)], (some (79, false))⟩,
          ⟨(some 86), .un .not (.t 85), (some (79, false))⟩,
          ⟨(some 87), .pick (.t 79) (.c (.b true)) (.t 86), none⟩])
        (.cond (.t 87)
         (.seq (.reg [⟨(some 2), .mv (.c (.b false)), none⟩])
         .ret)
         .skip))))
       (.reg [⟨(some 88), .bin .add (.t 57) (.c (.i .i64 1)), none⟩,
         ⟨(some 57), .mv (.t 88), none⟩])))))))
     (.seq (.reg [⟨(some 2), .mv (.c (.b true)), none⟩])
     .ret)))
     .skip))))))
  (.seq (.reg [⟨(some 2), .mv (.c (.b false)), none⟩])
  .ret))) }
def c_ftree_Nodes : Fun := { cin := [(.agg [.id, .id, (.sl 1 .id), (.sl 4 (.agg [.id, .id, (.sl 1 .id), (.sl 4 (.agg [.id, .id, (.sl 1 .id), (.sl 4 .id)]))]))])], cout := [.id], ntmps := 19, keep := false, res := [(2, none)], body :=
  (.seq (.reg [⟨(some 1), .box 25 4 (.t 0), none⟩,
    ⟨(some 2), .mv (.c (.i .i64 0)), none⟩])
  (.seq (.reg [⟨(some 3), .mv (.c (.i .i64 1)), none⟩])
  (.seq (.seq (.reg [⟨(some 6), .fa 3 (.t 1), none⟩,
    ⟨(some 7), .ld false 1 (.t 6), none⟩,
    ⟨(some 8), .len 1 (.t 7), none⟩,
    ⟨(some 9), .mv (.c (.i .i64 0)), none⟩])
  (.blk 0 (.loop (.seq (.reg [⟨(some 10), .bin .lss (.t 9) (.t 8), none⟩])
    (.seq (.cond (.t 10)
     .skip
     (.exit 0))
    (.seq (.blk 1 (.seq (.reg [⟨(some 11), .ia 4 (.t 7) (.t 9), none⟩,
       ⟨(some 12), .ld true 4 (.t 11), none⟩,
       ⟨(some 5), .alloc 25 [(.i .u8 0), (.s []), .nsl, .nsl], none⟩,
       ⟨none, .st 4 (.t 5) (.t 12), none⟩])
     (.reg [⟨(some 13), .mv (.t 3), none⟩,
       ⟨(some 14), .ld true 4 (.t 5), none⟩,
       ⟨(some 15), .call f_ftree_Nodes [(.t 14)], none⟩,
       ⟨(some 16), .bin .add (.t 13) (.t 15), none⟩,
       ⟨(some 3), .mv (.t 16), none⟩])))
    (.reg [⟨(some 17), .bin .add (.t 9) (.c (.i .i64 1)), none⟩,
      ⟨(some 9), .mv (.t 17), none⟩])))))))
  (.seq (.reg [⟨(some 18), .mv (.t 3), none⟩,
    ⟨(some 2), .mv (.t 18), none⟩])
  .ret)))) }
def c_ftree_depth : Fun := { cin := [(.agg [.id, .id, (.sl 1 .id), (.sl 4 (.agg [.id, .id, (.sl 1 .id), (.sl 4 (.agg [.id, .id, (.sl 1 .id), (.sl 4 .id)]))]))])], cout := [.id], ntmps := 20, keep := false, res := [(2, none)], body :=
  (.seq (.reg [⟨(some 1), .box 25 4 (.t 0), none⟩,
    ⟨(some 2), .mv (.c (.i .i64 0)), none⟩])
  (.seq (.reg [⟨(some 3), .mv (.c (.i .i64 0)), none⟩])
  (.seq (.seq (.reg [⟨(some 6), .fa 3 (.t 1), none⟩,
    ⟨(some 7), .ld false 1 (.t 6), none⟩,
    ⟨(some 8), .len 1 (.t 7), none⟩,
    ⟨(some 9), .mv (.c (.i .i64 0)), none⟩])
  (.blk 0 (.loop (.seq (.reg [⟨(some 10), .bin .lss (.t 9) (.t 8), none⟩])
    (.seq (.cond (.t 10)
     .skip
     (.exit 0))
    (.seq (.blk 1 (.seq (.reg [⟨(some 11), .ia 4 (.t 7) (.t 9), none⟩,
       ⟨(some 12), .ld true 4 (.t 11), none⟩,
       ⟨(some 5), .alloc 25 [(.i .u8 0), (.s []), .nsl, .nsl], none⟩,
       ⟨none, .st 4 (.t 5) (.t 12), none⟩])
     (.reg [⟨(some 13), .mv (.t 3), none⟩,
       ⟨(some 14), .ld true 4 (.t 5), none⟩,
       ⟨(some 15), .call f_ftree_depth [(.t 14)], none⟩,
       ⟨(some 16), .bin .add (.c (.i .i64 1)) (.t 15), none⟩,
       ⟨(some 17), .mm true (.t 13) (.t 16), none⟩,
       ⟨(some 3), .mv (.t 17), none⟩])))
    (.reg [⟨(some 18), .bin .add (.t 9) (.c (.i .i64 1)), none⟩,
      ⟨(some 9), .mv (.t 18), none⟩])))))))
  (.seq (.reg [⟨(some 19), .mv (.t 3), none⟩,
    ⟨(some 2), .mv (.t 19), none⟩])
  .ret)))) }
def c_slices_Clone_string_string : Fun := { cin := [(.sl 1 .id)], cout := [], ntmps := 8, keep := true, res := [(2, none)], body :=
  (.seq (.reg [⟨(some 2), .mv (.c .nsl), none⟩])
  (.seq (.seq (.reg [⟨(some 3), .mv (.t 0), none⟩,
    ⟨(some 4), .eq .sl false (.t 3) (.c .nsl), none⟩])
  (.cond (.t 4)
   (.seq (.reg [⟨(some 2), .mv (.c .nsl), none⟩])
   .ret)
   .skip))
  (.seq (.reg [⟨(some 5), .bsl 1 [], none⟩,
    ⟨(some 6), .mv (.t 0), none⟩,
    ⟨(some 7), .app 1 9 (.t 5) (.t 6), none⟩,
    ⟨(some 2), .mv (.t 7), none⟩])
  .ret))) }
def c_path_Steps : Fun := { cin := [.id], cout := [(.sl 1 .id)], ntmps := 6, keep := false, res := [(2, none)], body :=
  (.seq (.reg [⟨(some 2), .mv (.c .nsl), none⟩])
  (.seq (.reg [⟨(some 3), .mv (.t 0), none⟩,
    ⟨(some 4), .call f_path_steps [(.t 3)], none⟩,
    ⟨(some 5), .call f_slices_Collect_string [(.t 4)], none⟩,
    ⟨(some 2), .mv (.t 5), none⟩])
  .ret)) }
def c_path_Dir : Fun := { cin := [.id], cout := [.id], ntmps := 23, keep := false, res := [(2, none)], body :=
  (.seq (.reg [⟨(some 2), .mv (.c (.b false)), none⟩])
  (.seq (.reg [⟨(some 4), .mv (.t 0), none⟩,
    ⟨(some 5), .mv (.t 0), none⟩,
    ⟨(some 6), .call f_strings_LastIndexByte [(.t 5), (.c (.i .u8 47))], none⟩,
    ⟨(some 7), .bin .add (.t 6) (.c (.i .i64 1)), none⟩,
    ⟨(some 8), .slS (.t 4) (some (.t 7)) none, none⟩,
    ⟨(some 3), .mv (.t 8), none⟩])
  (.seq (.reg [⟨(some 9), .mv (.t 3), none⟩,
    ⟨(some 10), .bin .eql (.t 9) (.c (.s [46])), none⟩,
    ⟨(some 11), .mv (.t 10), none⟩,
    ⟨(some 12), .mv (.t 3), (some (11, false))⟩,
    ⟨(some 13), .bin .eql (.t 12) (.c (.s [46, 46])), (some (11, false))⟩,
    ⟨(some 14), .pick (.t 11) (.c (.b true)) (.t 13), none⟩,
    ⟨(some 15), .mv (.t 14), none⟩,
    ⟨(some 16), .mv (.t 3), (some (15, false))⟩,
    ⟨(some 17), .bin .eql (.t 16) (.c (.s [])), (some (15, false))⟩,
    ⟨(some 18), .mv (.t 17), (some (15, false))⟩,
    ⟨(some 19), .mv (.t 0), (some (18, true))⟩,
    ⟨(some 20), .bin .neq (.t 19) (.c (.s [])), (some (18, true))⟩,
    ⟨(some 21), .pick (.t 18) (.t 20) (.c (.b false)), (some (15, false))⟩,
    ⟨(some 22), .pick (.t 15) (.c (.b true)) (.t 21), none⟩,
    ⟨(some 2), .mv (.t 22), none⟩])
  .ret))) }
def c_walk_walker_run : Fun := { cin := [.id], cout := [(.sl 1 .id), .id, .id], ntmps := 66, keep := false, res := [(2, none), (3, none), (4, none)], body :=
  (.seq (.reg [⟨(some 2), .mv (.c .nsl), none⟩,
    ⟨(some 3), .mv (.c (.i .u8 0)), none⟩,
    ⟨(some 4), .mv (.c (.i .i64 0)), none⟩])
  (.seq (.blk 0 (.loop (.seq (.seq (.reg [⟨(some 9), .mv (.t 0), none⟩,
      ⟨(some 10), .nck (.t 9), none⟩,
      ⟨(some 11), .fa 2 (.t 10), none⟩,
      ⟨(some 12), .ld false 1 (.t 11), none⟩,
      ⟨(some 13), .len 1 (.t 12), none⟩,
      ⟨(some 14), .bin .gtr (.t 13) (.c (.i .i64 0)), none⟩])
    (.cond (.t 14)
     .skip
     (.exit 0)))
    (.blk 1 (.seq (.reg [⟨(some 15), .mv (.t 0), none⟩,
       ⟨(some 16), .nck (.t 15), none⟩,
       ⟨(some 17), .fa 2 (.t 16), none⟩,
       ⟨(some 18), .ld false 1 (.t 17), none⟩,
       ⟨(some 19), .ia 1 (.t 18) (.c (.i .i64 0)), none⟩,
       ⟨(some 20), .ld false 1 (.t 19), none⟩,
       ⟨(some 5), .mv (.t 20), none⟩])
     (.seq (.reg [⟨(some 21), .mv (.t 0), none⟩,
       ⟨(some 22), .mv (.t 0), none⟩,
       ⟨(some 23), .nck (.t 22), none⟩,
       ⟨(some 24), .fa 2 (.t 23), none⟩,
       ⟨(some 25), .ld false 1 (.t 24), none⟩,
       ⟨(some 26), .slc false 1 (.t 25) (some (.c (.i .i64 1))) none none, none⟩,
       ⟨(some 27), .nck (.t 21), none⟩,
       ⟨(some 28), .fa 2 (.t 27), none⟩,
       ⟨none, .st 1 (.t 28) (.t 26), none⟩])
     (.seq (.seq (.reg [⟨(some 29), .mv (.t 5), none⟩,
       ⟨(some 30), .bin .eql (.t 29) (.c (.s [46, 46])), none⟩])
     (.cond (.t 30)
      (.seq (.regD [⟨(some 31), .mv (.t 0), none⟩,
        ⟨(some 32), .mv (.t 0), none⟩,
        ⟨(some 33), .nck (.t 32), none⟩,
        ⟨(some 34), .fa 1 (.t 33), none⟩,
        ⟨(some 35), .ld false 1 (.t 34), none⟩,
        ⟨(some 36), .mv (.t 0), none⟩,
        ⟨(some 37), .nck (.t 36), none⟩,
        ⟨(some 38), .fa 1 (.t 37), none⟩,
        ⟨(some 39), .ld false 1 (.t 38), none⟩,
        ⟨(some 40), .len 1 (.t 39), none⟩,
        ⟨(some 41), .bin .sub (.t 40) (.c (.i .i64 1)), none⟩,
        ⟨(some 42), .mm true (.c (.i .i64 0)) (.t 41), none⟩,
        ⟨(some 43), .slc true 1 (.t 35) none (some (.t 42)) none, none⟩,
        ⟨(some 44), .nck (.t 31), none⟩,
        ⟨(some 45), .fa 1 (.t 44), none⟩,
        ⟨none, .st 1 (.t 45) (.t 43), none⟩] [])
      (.exit 1))
      .skip))
     (.seq (.reg [⟨(some 47), .mv (.t 0), none⟩,
       ⟨(some 48), .mv (.t 5), none⟩,
       ⟨(some 49), .call f_walk_walker_name [(.t 47), (.t 48)], none⟩,
       ⟨(some 46), .mv (.t 49), none⟩,
       ⟨(some 50), .ext (.t 46) 0, none⟩,
       ⟨(some 51), .ext (.t 46) 1, none⟩,
       ⟨(some 52), .ext (.t 46) 2, none⟩,
       ⟨(some 6), .mv (.t 50), none⟩,
       ⟨(some 7), .mv (.t 51), none⟩,
       ⟨(some 8), .mv (.t 52), none⟩])
     (.seq (.seq (.reg [⟨(some 53), .mv (.t 8), none⟩,
       ⟨(some 54), .bin .neq (.t 53) (.c (.i .i64 0)), none⟩])
     (.cond (.t 54)
      (.seq (.reg [⟨(some 55), .mv (.t 8), none⟩,
        ⟨(some 2), .mv (.c .nsl), none⟩,
        ⟨(some 3), .mv (.c (.i .u8 0)), none⟩,
        ⟨(some 4), .mv (.t 55), none⟩])
      .ret)
      .skip))
     (.seq (.reg [⟨(some 56), .mv (.t 7), none⟩])
     (.cond (.t 56)
      (.seq (.reg [⟨(some 57), .mv (.t 0), none⟩,
        ⟨(some 58), .nck (.t 57), none⟩,
        ⟨(some 59), .fa 1 (.t 58), none⟩,
        ⟨(some 60), .ld false 1 (.t 59), none⟩,
        ⟨(some 61), .mv (.t 6), none⟩,
        ⟨(some 2), .mv (.t 60), none⟩,
        ⟨(some 3), .mv (.t 61), none⟩,
        ⟨(some 4), .mv (.c (.i .i64 0)), none⟩])
      .ret)
      .skip)))))))))))
  (.seq (.reg [⟨(some 62), .mv (.t 0), none⟩,
    ⟨(some 63), .nck (.t 62), none⟩,
    ⟨(some 64), .fa 1 (.t 63), none⟩,
    ⟨(some 65), .ld false 1 (.t 64), none⟩,
    ⟨(some 2), .mv (.t 65), none⟩,
    ⟨(some 3), .mv (.c (.i .u8 2)), none⟩,
    ⟨(some 4), .mv (.c (.i .i64 0)), none⟩])
  .ret))) }
def c_ftree_find : Fun := { cin := [(.agg [.id, .id, (.sl 1 .id), (.sl 4 (.agg [.id, .id, (.sl 1 .id), (.sl 4 (.agg [.id, .id, (.sl 1 .id), (.sl 4 .id)]))]))]), (.sl 1 .id)], cout := [(.agg [.id, .id, (.sl 1 .id), (.sl 4 (.agg [.id, .id, (.sl 1 .id), (.sl 4 (.agg [.id, .id, (.sl 1 .id), (.sl 4 .id)]))]))]), .id], ntmps := 38, keep := false, res := [(4, some (true, 4)), (5, none)], body :=
  (.seq (.reg [⟨(some 2), .box 25 4 (.t 0), none⟩,
    ⟨(some 4), .alloc 25 [(.i .u8 0), (.s []), .nsl, .nsl], none⟩,
    ⟨(some 5), .mv (.c (.b false)), none⟩])
  (.seq (.seq (.reg [⟨(some 10), .mv (.t 1), none⟩,
    ⟨(some 11), .len 1 (.t 10), none⟩,
    ⟨(some 12), .mv (.c (.i .i64 0)), none⟩])
  (.blk 0 (.loop (.seq (.reg [⟨(some 13), .bin .lss (.t 12) (.t 11), none⟩])
    (.seq (.cond (.t 13)
     .skip
     (.exit 0))
    (.seq (.blk 1 (.seq (.reg [⟨(some 14), .ia 1 (.t 10) (.t 12), none⟩,
       ⟨(some 15), .ld false 1 (.t 14), none⟩,
       ⟨(some 7), .mv (.t 15), none⟩])
     (.seq (.reg [⟨(some 17), .fa 2 (.t 2), none⟩,
       ⟨(some 18), .ld false 1 (.t 17), none⟩,
       ⟨(some 19), .mv (.t 7), none⟩,
       ⟨(some 20), .call f_slices_BinarySearch_string_string [(.t 18), (.t 19)], none⟩,
       ⟨(some 16), .mv (.t 20), none⟩,
       ⟨(some 21), .ext (.t 16) 0, none⟩,
       ⟨(some 22), .ext (.t 16) 1, none⟩,
       ⟨(some 8), .mv (.t 21), none⟩,
       ⟨(some 9), .mv (.t 22), none⟩])
     (.seq (.seq (.reg [⟨(some 23), .fa 0 (.t 2), none⟩,
       ⟨(some 24), .ld false 1 (.t 23), none⟩,
       ⟨(some 25), .bin .neq (.t 24) (.c (.i .u8 2)), none⟩,
       ⟨(some 26), .mv (.t 25), none⟩,
       ⟨(some 27), .mv (.t 9), (some (26, false))⟩,
       ⟨(some 28), .un .not (.t 27), (some (26, false))⟩,
       ⟨(some 29), .pick (.t 26) (.c (.b true)) (.t 28), none⟩])
     (.cond (.t 29)
      (.seq (.reg [⟨(some 30), .build [(.i .u8 0), (.s []), .nsl, .nsl] [], none⟩,
        ⟨none, .st 4 (.t 4) (.t 30), none⟩,
        ⟨(some 5), .mv (.c (.b false)), none⟩])
      .ret)
      .skip))
     (.reg [⟨(some 31), .fa 3 (.t 2), none⟩,
       ⟨(some 32), .ld false 1 (.t 31), none⟩,
       ⟨(some 33), .mv (.t 8), none⟩,
       ⟨(some 34), .ia 4 (.t 32) (.t 33), none⟩,
       ⟨(some 35), .ld true 4 (.t 34), none⟩,
       ⟨none, .st 4 (.t 2) (.t 35), none⟩])))))
    (.reg [⟨(some 36), .bin .add (.t 12) (.c (.i .i64 1)), none⟩,
      ⟨(some 12), .mv (.t 36), none⟩])))))))
  (.seq (.reg [⟨(some 37), .ld true 4 (.t 2), none⟩,
    ⟨none, .st 4 (.t 4) (.t 37), none⟩,
    ⟨(some 5), .mv (.c (.b true)), none⟩])
  .ret))) }
def c_path_steps_1 : Fun := { cin := [.id], cout := [], ntmps := 19, keep := false, res := [], body :=
  (.seq (.reg [⟨(some 2), .box 39 1 (.t 0), none⟩])
  (.seq (.reg [⟨(some 4), .ld false 1 (.t 1), none⟩,
    ⟨(some 5), .call f_strings_SplitSeq [(.t 4), (.c (.s [47]))], none⟩])
  (.blk 0 (.rf (.t 5) [6] (.reg [⟨(some 3), .mv (.t 6), none⟩])
   (.blk 1 (.seq (.reg [⟨(some 7), .mv (.t 3), none⟩,
       ⟨(some 8), .bin .neq (.t 7) (.c (.s [])), none⟩,
       ⟨(some 9), .mv (.t 8), none⟩,
       ⟨(some 10), .mv (.t 3), (some (9, true))⟩,
       ⟨(some 11), .bin .neq (.t 10) (.c (.s [46])), (some (9, true))⟩,
       ⟨(some 12), .pick (.t 9) (.t 11) (.c (.b false)), none⟩,
       ⟨(some 13), .mv (.t 12), none⟩,
       ⟨(some 14), .ld false 1 (.t 2), (some (13, true))⟩,
       ⟨(some 15), .mv (.t 3), (some (13, true))⟩,
       ⟨(some 16), .callX (.t 14) [(.t 15)], (some (13, true))⟩,
       ⟨(some 17), .un .not (.t 16), (some (13, true))⟩,
       ⟨(some 18), .pick (.t 13) (.t 17) (.c (.b false)), none⟩])
     (.cond (.t 18)
      .ret
      .skip))))))) }
def c_strings_SplitSeq : Fun := { cin := [.id, .id], cout := [.id], ntmps := 8, keep := false, res := [(4, none)], body :=
  (.seq (.reg [⟨(some 4), .mv (.c .nf), none⟩])
  (.seq (.reg [⟨(some 5), .mv (.t 0), none⟩,
    ⟨(some 6), .mv (.t 1), none⟩,
    ⟨(some 7), .call f_strings_splitSeq [(.t 5), (.t 6), (.c (.i .i64 0))], none⟩,
    ⟨(some 4), .mv (.t 7), none⟩])
  .ret)) }
def c_strings_IndexAny : Fun := { cin := [.id, .id], cout := [.id], ntmps := 55, keep := false, res := [(4, none)], body :=
  (.seq (.reg [⟨(some 4), .mv (.c (.i .i64 0)), none⟩])
  (.seq (.seq (.reg [⟨(some 11), .mv (.t 1), none⟩,
    ⟨(some 12), .bin .eql (.t 11) (.c (.s [])), none⟩])
  (.cond (.t 12)
   (.seq (.reg [⟨(some 4), .mv (.c (.i .i64 (-1))), none⟩])
   .ret)
   .skip))
  (.seq (.seq (.reg [⟨(some 13), .mv (.t 1), none⟩,
    ⟨(some 14), .len 0 (.t 13), none⟩,
    ⟨(some 15), .bin .eql (.t 14) (.c (.i .i64 1)), none⟩])
  (.cond (.t 15)
   (.seq (.reg [⟨(some 16), .mv (.t 1), none⟩,
     ⟨(some 17), .ixS (.t 16) (.c (.i .i64 0)), none⟩,
     ⟨(some 18), .cvI .i32 (.t 17), none⟩,
     ⟨(some 5), .mv (.t 18), none⟩])
   (.seq (.seq (.reg [⟨(some 19), .mv (.t 5), none⟩,
     ⟨(some 20), .bin .geq (.t 19) (.c (.i .i32 128)), none⟩])
   (.cond (.t 20)
    (.reg [⟨(some 5), .mv (.c (.i .i32 65533)), none⟩])
    .skip))
   (.seq (.reg [⟨(some 21), .mv (.t 0), none⟩,
     ⟨(some 22), .mv (.t 5), none⟩,
     ⟨(some 23), .call f_strings_IndexRune [(.t 21), (.t 22)], none⟩,
     ⟨(some 4), .mv (.t 23), none⟩])
   .ret)))
   .skip))
  (.seq (.seq (.reg [⟨(some 24), .mv (.t 0), none⟩,
    ⟨(some 25), .len 0 (.t 24), none⟩,
    ⟨(some 26), .call f_strings_shouldUseASCIISet [(.t 25)], none⟩])
  (.cond (.t 26)
   (.seq (.reg [⟨(some 28), .mv (.t 1), none⟩,
     ⟨(some 29), .call f_strings_makeASCIISet [(.t 28)], none⟩,
     ⟨(some 27), .mv (.t 29), none⟩,
     ⟨(some 30), .ext (.t 27) 0, none⟩,
     ⟨(some 31), .ext (.t 27) 1, none⟩,
     ⟨(some 6), .alloc 104 [(.b false), (.b false), (.b false), (.b false), (.b false), (.b false), (.b false), (.b false), (.b false), (.b false), (.b false), (.b false), (.b false), (.b false), (.b false), (.b false), (.b false), (.b false), (.b false), (.b false), (.b false), (.b false), (.b false), (.b false), (.b false), (.b false), (.b false), (.b false), (.b false), (.b false), (.b false), (.b false), (.b false), (.b false), (.b false), (.b false), (.b false), (.b false), (.b false), (.b false), (.b false), (.b false), (.b false), (.b false), (.b false), (.b false), (.b false), (.b false), (.b false), (.b false), (.b false), (.b false), (.b false), (.b false), (.b false), (.b false), (.b false), (.b false), (.b false), (.b false), (.b false), (.b false), (.b false), (.b false), (.b false), (.b false), (.b false), (.b false), (.b false), (.b false), (.b false), (.b false), (.b false), (.b false), (.b false), (.b false), (.b false), (.b false), (.b false), (.b false), (.b false), (.b false), (.b false), (.b false), (.b false), (.b false), (.b false), (.b false), (.b false), (.b false), (.b false), (.b false), (.b false), (.b false), (.b false), (.b false), (.b false), (.b false), (.b false), (.b false), (.b false), (.b false), (.b false), (.b false), (.b false), (.b false), (.b false), (.b false), (.b false), (.b false), (.b false), (.b false), (.b false), (.b false), (.b false), (.b false), (.b false), (.b false), (.b false), (.b false), (.b false), (.b false), (.b false), (.b false), (.b false), (.b false), (.b false), (.b false), (.b false), (.b false), (.b false), (.b false), (.b false), (.b false), (.b false), (.b false), (.b false), (.b false), (.b false), (.b false), (.b false), (.b false), (.b false), (.b false), (.b false), (.b false), (.b false), (.b false), (.b false), (.b false), (.b false), (.b false), (.b false), (.b false), (.b false), (.b false), (.b false), (.b false), (.b false), (.b false), (.b false), (.b false), (.b false), (.b false), (.b false), (.b false), (.b false), (.b false), (.b false), (.b false), (.b false), (.b false), (.b false), (.b false), (.b false), (.b false), (.b false), (.b false), (.b false), (.b false), (.b false), (.b false), (.b false), (.b false), (.b false), (.b false), (.b false), (.b false), (.b false), (.b false), (.b false), (.b false), (.b false), (.b false), (.b false), (.b false), (.b false), (.b false), (.b false), (.b false), (.b false), (.b false), (.b false), (.b false), (.b false), (.b false), (.b false), (.b false), (.b false), (.b false), (.b false), (.b false), (.b false), (.b false), (.b false), (.b false), (.b false), (.b false), (.b false), (.b false), (.b false), (.b false), (.b false), (.b false), (.b false), (.b false), (.b false), (.b false), (.b false), (.b false), (.b false), (.b false), (.b false), (.b false), (.b false), (.b false), (.b false), (.b false), (.b false), (.b false), (.b false), (.b false), (.b false), (.b false), (.b false), (.b false), (.b false), (.b false), (.b false), (.b false), (.b false), (.b false), (.b false), (.b false), (.b false), (.b false)], none⟩,
     ⟨none, .st 256 (.t 6) (.t 30), none⟩,
     ⟨(some 7), .mv (.t 31), none⟩])
   (.seq (.reg [⟨(some 32), .mv (.t 7), none⟩])
   (.cond (.t 32)
    (.seq (.seq (.reg [⟨(some 8), .mv (.c (.i .i64 0)), none⟩])
    (.blk 0 (.loop (.seq (.seq (.reg [⟨(some 33), .mv (.t 8), none⟩,
        ⟨(some 34), .mv (.t 0), none⟩,
        ⟨(some 35), .len 0 (.t 34), none⟩,
        ⟨(some 36), .bin .lss (.t 33) (.t 35), none⟩])
      (.cond (.t 36)
       .skip
       (.exit 0)))
      (.seq (.blk 1 (.seq (.reg [⟨(some 39), .mv (.t 0), none⟩,
         ⟨(some 40), .mv (.t 8), none⟩,
         ⟨(some 41), .ixS (.t 39) (.t 40), none⟩,
         ⟨(some 42), .call f_strings_asciiSet_contains [(.t 6), (.t 41)], none⟩])
       (.cond (.t 42)
        (.seq (.reg [⟨(some 43), .mv (.t 8), none⟩,
          ⟨(some 4), .mv (.t 43), none⟩])
        .ret)
        .skip)))
      (.reg [⟨(some 37), .mv (.t 8), none⟩,
        ⟨(some 38), .bin .add (.t 37) (.c (.i .i64 1)), none⟩,
        ⟨(some 8), .mv (.t 38), none⟩]))))))
    (.seq (.reg [⟨(some 4), .mv (.c (.i .i64 (-1))), none⟩])
    .ret))
    .skip)))
   .skip))
  (.seq (.seq (.reg [⟨(some 44), .mv (.t 0), none⟩,
    ⟨(some 45), .siter (.t 44), none⟩])
  (.blk 2 (.loop (.seq (.reg [⟨(some 46), .snext (.t 45), none⟩,
      ⟨(some 47), .ext (.t 46) 0, none⟩])
    (.seq (.cond (.t 47)
     .skip
     (.exit 2))
    (.blk 3 (.seq (.reg [⟨(some 48), .ext (.t 46) 1, none⟩,
       ⟨(some 49), .ext (.t 46) 2, none⟩,
       ⟨(some 9), .mv (.t 48), none⟩,
       ⟨(some 10), .mv (.t 49), none⟩])
     (.seq (.reg [⟨(some 50), .mv (.t 1), none⟩,
       ⟨(some 51), .mv (.t 10), none⟩,
       ⟨(some 52), .call f_strings_IndexRune [(.t 50), (.t 51)], none⟩,
       ⟨(some 53), .bin .geq (.t 52) (.c (.i .i64 0)), none⟩])
     (.cond (.t 53)
      (.seq (.reg [⟨(some 54), .mv (.t 9), none⟩,
        ⟨(some 4), .mv (.t 54), none⟩])
      .ret)
      .skip)))))))))
  (.seq (.reg [⟨(some 4), .mv (.c (.i .i64 (-1))), none⟩])
  .ret)))))) }
def c_touchstoneref07_Well : Fun := { cin := [(.agg [.id, .id, (.sl 1 .id), (.sl 4 (.agg [.id, .id, (.sl 1 .id), (.sl 4 (.agg [.id, .id, (.sl 1 .id), (.sl 4 .id)]))]))])], cout := [.id], ntmps := 96, keep := false, res := [(2, none)], body :=
  (.seq (.reg [⟨(some 1), .box 25 4 (.t 0), none⟩,
    ⟨(some 2), .mv (.c (.b false)), none⟩])
  (.seq (.seq (.reg [⟨(some 4), .fa 0 (.t 1), none⟩,
    ⟨(some 5), .ld false 1 (.t 4), none⟩,
    ⟨(some 6), .bin .eql (.t 5) (.c (.i .u8 1)), none⟩,
    ⟨(some 7), .mv (.t 6), none⟩,
    ⟨(some 8), .fa 0 (.t 1), (some (7, false))⟩,
    ⟨(some 9), .ld false 1 (.t 8), (some (7, false))⟩,
    ⟨(some 10), .bin .eql (.t 9) (.c (.i .u8 3)), (some (7, false))⟩,
    ⟨(some 11), .pick (.t 7) (.c (.b true)) (.t 10), none⟩])
  (.cond (.t 11)
   (.seq (.reg [⟨(some 12), .fa 2 (.t 1), none⟩,
     ⟨(some 13), .ld false 1 (.t 12), none⟩,
     ⟨(some 14), .len 1 (.t 13), none⟩,
     ⟨(some 15), .bin .eql (.t 14) (.c (.i .i64 0)), none⟩,
     ⟨(some 16), .mv (.t 15), none⟩,
     ⟨(some 17), .fa 3 (.t 1), (some (16, true))⟩,
     ⟨(some 18), .ld false 1 (.t 17), (some (16, true))⟩,
     ⟨(some 19), .len 1 (.t 18), (some (16, true))⟩,
     ⟨(some 20), .bin .eql (.t 19) (.c (.i .i64 0)), (some (16, true))⟩,
     ⟨(some 21), .pick (.t 16) (.t 20) (.c (.b false)), none⟩,
     ⟨(some 22), .mv (.t 21), none⟩,
     ⟨(some 23), .fa 1 (.t 1), (some (22, true))⟩,
     ⟨(some 24), .ld false 1 (.t 23), (some (22, true))⟩,
     ⟨(some 25), .call f_touchstoneref07_text [(.t 24)], (some (22, true))⟩,
     ⟨(some 26), .pick (.t 22) (.t 25) (.c (.b false)), none⟩,
     ⟨(some 27), .mv (.t 26), none⟩,
     ⟨(some 28), .fa 0 (.t 1), (some (27, true))⟩,
     ⟨(some 29), .ld false 1 (.t 28), (some (27, true))⟩,
     ⟨(some 30), .bin .eql (.t 29) (.c (.i .u8 1)), (some (27, true))⟩,
     ⟨(some 31), .mv (.t 30), (some (27, true))⟩,
     ⟨(some 32), .fa 1 (.t 1), (some (31, false))⟩,
     ⟨(some 33), .ld false 1 (.t 32), (some (31, false))⟩,
     ⟨(some 34), .len 0 (.t 33), (some (31, false))⟩,
     ⟨(some 35), .bin .gtr (.t 34) (.c (.i .i64 0)), (some (31, false))⟩,
     ⟨(some 36), .pick (.t 31) (.c (.b true)) (.t 35), (some (27, true))⟩,
     ⟨(some 37), .pick (.t 27) (.t 36) (.c (.b false)), none⟩,
     ⟨(some 2), .mv (.t 37), none⟩])
   .ret)
   .skip))
  (.seq (.seq (.reg [⟨(some 38), .fa 0 (.t 1), none⟩,
    ⟨(some 39), .ld false 1 (.t 38), none⟩,
    ⟨(some 40), .bin .neq (.t 39) (.c (.i .u8 2)), none⟩,
    ⟨(some 41), .mv (.t 40), none⟩,
    ⟨(some 42), .fa 1 (.t 1), (some (41, false))⟩,
    ⟨(some 43), .ld false 1 (.t 42), (some (41, false))⟩,
    ⟨(some 44), .bin .neq (.t 43) (.c (.s [])), (some (41, false))⟩,
    ⟨(some 45), .pick (.t 41) (.c (.b true)) (.t 44), none⟩,
    ⟨(some 46), .mv (.t 45), none⟩,
    ⟨(some 47), .fa 2 (.t 1), (some (46, false))⟩,
    ⟨(some 48), .ld false 1 (.t 47), (some (46, false))⟩,
    ⟨(some 49), .len 1 (.t 48), (some (46, false))⟩,
    ⟨(some 50), .fa 3 (.t 1), (some (46, false))⟩,
    ⟨(some 51), .ld false 1 (.t 50), (some (46, false))⟩,
    ⟨(some 52), .len 1 (.t 51), (some (46, false))⟩,
    ⟨(some 53), .bin .neq (.t 49) (.t 52), (some (46, false))⟩,
    ⟨(some 54), .pick (.t 46) (.c (.b true)) (.t 53), none⟩])
  (.cond (.t 54)
   (.seq (.reg [⟨(some 2), .mv (.c (.b false)), none⟩])
   .ret)
   .skip))
  (.seq (.seq (.reg [⟨(some 3), .mv (.c (.i .i64 0)), none⟩])
  (.blk 0 (.loop (.seq (.seq (.reg [⟨(some 55), .mv (.t 3), none⟩,
      ⟨(some 56), .fa 2 (.t 1), none⟩,
      ⟨(some 57), .ld false 1 (.t 56), none⟩,
      ⟨(some 58), .len 1 (.t 57), none⟩,
      ⟨(some 59), .bin .lss (.t 55) (.t 58), none⟩])
    (.cond (.t 59)
     .skip
     (.exit 0)))
    (.seq (.blk 1 (.seq (.regD [⟨(some 62), .fa 2 (.t 1), none⟩,
       ⟨(some 63), .ld false 1 (.t 62), none⟩,
       ⟨(some 64), .mv (.t 3), none⟩,
       ⟨(some 65), .ia 1 (.t 63) (.t 64), none⟩,
       ⟨(some 66), .ld false 1 (.t 65), none⟩,
       ⟨(some 67), .call f_touchstoneref06_Name [(.t 66)], none⟩,
       ⟨(some 68), .un .not (.t 67), none⟩,
       ⟨(some 69), .mv (.t 68), none⟩,
       ⟨(some 70), .mv (.t 3), (some (69, false))⟩,
       ⟨(some 71), .bin .gtr (.t 70) (.c (.i .i64 0)), (some (69, false))⟩,
       ⟨(some 72), .mv (.t 71), (some (69, false))⟩,
       ⟨(some 73), .fa 2 (.t 1), (some (72, true))⟩,
       ⟨(some 74), .ld false 1 (.t 73), (some (72, true))⟩,
       ⟨(some 75), .mv (.t 3), (some (72, true))⟩,
       ⟨(some 76), .ia 1 (.t 74) (.t 75), (some (72, true))⟩,
       ⟨(some 77), .ld false 1 (.t 76), (some (72, true))⟩,
       ⟨(some 78), .fa 2 (.t 1), (some (72, true))⟩,
       ⟨(some 79), .ld false 1 (.t 78), (some (72, true))⟩,
       ⟨(some 80), .mv (.t 3), (some (72, true))⟩,
       ⟨(some 81), .bin .sub (.t 80) (.c (.i .i64 1)), (some (72, true))⟩,
       ⟨(some 82), .ia 1 (.t 79) (.t 81), (some (72, true))⟩,
       ⟨(some 83), .ld false 1 (.t 82), (some (72, true))⟩,
       ⟨(some 84), .bin .leq (.t 77) (.t 83), (some (72, true))⟩,
       ⟨(some 85), .pick (.t 72) (.t 84) (.c (.b false)), (some (69, false))⟩,
       ⟨(some 86), .pick (.t 69) (.c (.b true)) (.t 85), none⟩,
       ⟨(some 87), .mv (.t 86), none⟩,
       ⟨(some 88), .fa 3 (.t 1), (some (87, false))⟩,
       ⟨(some 89), .ld false 1 (.t 88), (some (87, false))⟩,
       ⟨(some 90), .mv (.t 3), (some (87, false))⟩,
       ⟨(some 91), .ia 4 (.t 89) (.t 90), (some (87, false))⟩,
       ⟨(some 92), .ld true 4 (.t 91), (some (87, false))⟩,
       ⟨(some 93), .call f_touchstoneref07_Well [(.t 92)], (some (87, false))⟩,
       ⟨(some 94), .un .not (.t 93), (some (87, false))⟩,
       ⟨(some 95), .pick (.t 87) (.c (.b true)) (.t 94), none⟩] [])
     (.cond (.t 95)
      (.seq (.reg [⟨(some 2), .mv (.c (.b false)), none⟩])
      .ret)
      .skip)))
    (.reg [⟨(some 60), .mv (.t 3), none⟩,
      ⟨(some 61), .bin .add (.t 60) (.c (.i .i64 1)), none⟩,
      ⟨(some 3), .mv (.t 61), none⟩]))))))
  (.seq (.reg [⟨(some 2), .mv (.c (.b true)), none⟩])
  .ret))))) }
def c_touchstoneref07_deep : Fun := { cin := [(.agg [.id, .id, (.sl 1 .id), (.sl 4 (.agg [.id, .id, (.sl 1 .id), (.sl 4 (.agg [.id, .id, (.sl 1 .id), (.sl 4 .id)]))]))])], cout := [.id], ntmps := 22, keep := false, res := [(2, none)], body :=
  (.seq (.reg [⟨(some 1), .box 25 4 (.t 0), none⟩,
    ⟨(some 2), .mv (.c (.i .i64 0)), none⟩])
  (.seq (.reg [⟨(some 3), .mv (.c (.i .i64 0)), none⟩])
  (.seq (.seq (.reg [⟨(some 4), .mv (.c (.i .i64 0)), none⟩])
  (.blk 0 (.loop (.seq (.seq (.reg [⟨(some 5), .mv (.t 4), none⟩,
      ⟨(some 6), .fa 3 (.t 1), none⟩,
      ⟨(some 7), .ld false 1 (.t 6), none⟩,
      ⟨(some 8), .len 1 (.t 7), none⟩,
      ⟨(some 9), .bin .lss (.t 5) (.t 8), none⟩])
    (.cond (.t 9)
     .skip
     (.exit 0)))
    (.seq (.blk 1 (.reg [⟨(some 12), .mv (.t 3), none⟩,
       ⟨(some 13), .fa 3 (.t 1), none⟩,
       ⟨(some 14), .ld false 1 (.t 13), none⟩,
       ⟨(some 15), .mv (.t 4), none⟩,
       ⟨(some 16), .ia 4 (.t 14) (.t 15), none⟩,
       ⟨(some 17), .ld true 4 (.t 16), none⟩,
       ⟨(some 18), .call f_touchstoneref07_deep [(.t 17)], none⟩,
       ⟨(some 19), .bin .add (.t 18) (.c (.i .i64 1)), none⟩,
       ⟨(some 20), .mm true (.t 12) (.t 19), none⟩,
       ⟨(some 3), .mv (.t 20), none⟩]))
    (.reg [⟨(some 10), .mv (.t 4), none⟩,
      ⟨(some 11), .bin .add (.t 10) (.c (.i .i64 1)), none⟩,
      ⟨(some 4), .mv (.t 11), none⟩]))))))
  (.seq (.reg [⟨(some 21), .mv (.t 3), none⟩,
    ⟨(some 2), .mv (.t 21), none⟩])
  .ret)))) }
def c_probe_asks_1 : Fun := { cin := [.id, .id], cout := [.id], ntmps := 7, keep := false, res := [(5, none)], body :=
  (.seq (.reg [⟨(some 3), .box 88 1 (.t 0), none⟩,
    ⟨(some 4), .box 89 1 (.t 1), none⟩,
    ⟨(some 5), .mv (.c .nf), none⟩])
  (.seq (.reg [⟨(some 6), .mkf f_probe_asks_1_1 [(.t 4), (.t 2), (.t 3)], none⟩,
    ⟨(some 5), .mv (.t 6), none⟩])
  .ret)) }
def c_probe_asks_1_1 : Fun := { cin := [.id], cout := [.id], ntmps := 12, keep := false, res := [(5, none)], body :=
  (.seq (.reg [⟨(some 5), .mv (.c (.b false)), none⟩])
  (.seq (.regD [⟨(some 6), .ld false 1 (.t 1), none⟩,
    ⟨(some 7), .ld false 1 (.t 2), none⟩,
    ⟨(some 8), .mv (.t 0), none⟩,
    ⟨(some 9), .ld false 1 (.t 3), none⟩,
    ⟨(some 10), .call f_probe_kind [(.t 7), (.t 8), (.t 9)], none⟩,
    ⟨(some 11), .callX (.t 6) [(.t 10)], none⟩,
    ⟨(some 5), .mv (.t 11), none⟩] [(0, (0, 5))])
  .ret)) }
def c_probe_kind : Fun := { cin := [.id, .id, .id], cout := [.id], ntmps := 24, keep := false, res := [(6, none)], body :=
  (.seq (.reg [⟨(some 6), .mv (.c (.i .u8 0)), none⟩])
  (.seq (.seq (.reg [⟨(some 10), .mv (.t 1), none⟩,
    ⟨(some 11), .call f_path_Check [(.t 10)], none⟩,
    ⟨(some 12), .bin .neq (.t 11) (.c (.i .i64 0)), none⟩])
  (.cond (.t 12)
   (.seq (.reg [⟨(some 6), .mv (.c (.i .u8 0)), none⟩])
   .ret)
   .skip))
  (.seq (.reg [⟨(some 14), .mv (.t 2), none⟩,
    ⟨(some 15), .mv (.t 0), none⟩,
    ⟨(some 16), .mv (.t 1), none⟩,
    ⟨(some 17), .callX (.t 14) [(.t 15), (.t 16)], none⟩,
    ⟨(some 13), .mv (.t 17), none⟩,
    ⟨(some 18), .ext (.t 13) 0, none⟩,
    ⟨(some 19), .ext (.t 13) 1, none⟩,
    ⟨(some 20), .ext (.t 13) 2, none⟩,
    ⟨(some 7), .mv (.t 18), none⟩,
    ⟨(some 8), .mv (.t 19), none⟩,
    ⟨(some 9), .mv (.t 20), none⟩])
  (.seq (.seq (.reg [⟨(some 21), .mv (.t 9), none⟩,
    ⟨(some 22), .bin .neq (.t 21) (.c (.i .i64 0)), none⟩])
  (.cond (.t 22)
   (.seq (.reg [⟨(some 6), .mv (.c (.i .u8 0)), none⟩])
   .ret)
   .skip))
  (.seq (.reg [⟨(some 23), .mv (.t 8), none⟩,
    ⟨(some 6), .mv (.t 23), none⟩])
  .ret))))) }
def c_probe_asks_2 : Fun := { cin := [.id], cout := [.id], ntmps := 4, keep := false, res := [(2, none)], body :=
  (.seq (.reg [⟨(some 1), .box 5 1 (.t 0), none⟩,
    ⟨(some 2), .mv (.c .nf), none⟩])
  (.seq (.reg [⟨(some 3), .mkf f_probe_asks_2_1 [(.t 1)], none⟩,
    ⟨(some 2), .mv (.t 3), none⟩])
  .ret)) }
def c_probe_asks_2_1 : Fun := { cin := [.id], cout := [.id], ntmps := 7, keep := false, res := [(3, none)], body :=
  (.seq (.reg [⟨(some 3), .mv (.c (.b false)), none⟩])
  (.seq (.reg [⟨(some 4), .mv (.t 0), none⟩,
    ⟨(some 5), .ld false 1 (.t 1), none⟩,
    ⟨(some 6), .bin .eql (.t 4) (.t 5), none⟩,
    ⟨(some 3), .mv (.t 6), none⟩])
  .ret)) }
def c_probe_asks_3 : Fun := { cin := [.id], cout := [.id], ntmps := 5, keep := false, res := [(2, none)], body :=
  (.seq (.reg [⟨(some 2), .mv (.c (.b false)), none⟩])
  (.seq (.reg [⟨(some 3), .mv (.t 0), none⟩,
    ⟨(some 4), .bin .neq (.t 3) (.c (.s [])), none⟩,
    ⟨(some 2), .mv (.t 4), none⟩])
  .ret)) }
def c_probe_asks_4 : Fun := { cin := [.id], cout := [.id], ntmps := 5, keep := false, res := [(2, none)], body :=
  (.seq (.reg [⟨(some 2), .mv (.c (.b false)), none⟩])
  (.seq (.reg [⟨(some 3), .mv (.t 0), none⟩,
    ⟨(some 4), .bin .eql (.t 3) (.c (.s [])), none⟩,
    ⟨(some 2), .mv (.t 4), none⟩])
  .ret)) }
def c_probe_asks_5 : Fun := { cin := [.id], cout := [.id], ntmps := 5, keep := false, res := [(2, none)], body :=
  (.seq (.reg [⟨(some 2), .mv (.c (.b false)), none⟩])
  (.seq (.reg [⟨(some 3), .mv (.t 0), none⟩,
    ⟨(some 4), .bin .neq (.t 3) (.c (.i .u8 0)), none⟩,
    ⟨(some 2), .mv (.t 4), none⟩])
  .ret)) }
def c_strings_IndexByte : Fun := { cin := [.id, .id], cout := [.id], ntmps := 8, keep := false, res := [(4, none)], body :=
  (.seq (.reg [⟨(some 4), .mv (.c (.i .i64 0)), none⟩])
  (.seq (.reg [⟨(some 5), .mv (.t 0), none⟩,
    ⟨(some 6), .mv (.t 1), none⟩,
    ⟨(some 7), .call f_internal_stringslite_IndexByte [(.t 5), (.t 6)], none⟩,
    ⟨(some 4), .mv (.t 7), none⟩])
  .ret)) }
def c_slices_Collect_string : Fun := { cin := [.id], cout := [(.sl 1 .id)], ntmps := 5, keep := false, res := [(2, none)], body :=
  (.seq (.reg [⟨(some 2), .mv (.c .nsl), none⟩])
  (.seq (.reg [⟨(some 3), .mv (.t 0), none⟩,
    ⟨(some 4), .call f_slices_AppendSeq_string_string [(.c .nsl), (.t 3)], none⟩,
    ⟨(some 2), .mv (.t 4), none⟩])
  .ret)) }
def c_strings_LastIndexByte : Fun := { cin := [.id, .id], cout := [.id], ntmps := 8, keep := false, res := [(4, none)], body :=
  (.seq (.reg [⟨(some 4), .mv (.c (.i .i64 0)), none⟩])
  (.seq (.reg [⟨(some 5), .mv (.t 0), none⟩,
    ⟨(some 6), .mv (.t 1), none⟩,
    ⟨(some 7), .call f_internal_bytealg_LastIndexByteString [(.t 5), (.t 6)], none⟩,
    ⟨(some 4), .mv (.t 7), none⟩])
  .ret)) }
def c_walk_walker_name : Fun := { cin := [.id, .id], cout := [.id, .id, .id], ntmps := 81, keep := false, res := [(4, none), (5, none), (6, none)], body :=
  (.seq (.reg [⟨(some 4), .mv (.c (.i .u8 0)), none⟩,
    ⟨(some 5), .mv (.c (.b false)), none⟩,
    ⟨(some 6), .mv (.c (.i .i64 0)), none⟩])
  (.seq (.reg [⟨(some 10), .mv (.t 0), none⟩,
    ⟨(some 11), .mv (.t 1), none⟩,
    ⟨(some 12), .call f_walk_walker_below [(.t 10), (.t 11)], none⟩,
    ⟨(some 7), .mv (.t 12), none⟩])
  (.seq (.reg [⟨(some 13), .mv (.t 0), none⟩,
    ⟨(some 14), .nck (.t 13), none⟩,
    ⟨(some 15), .fa 0 (.t 14), none⟩,
    ⟨(some 16), .ld false 1 (.t 15), none⟩,
    ⟨(some 17), .mv (.t 7), none⟩,
    ⟨(some 18), .inv [(17, f_internal_abi_Type_Kind), (28, f_ftree_Tree_Kind)] (.t 16) [(.t 17)], none⟩,
    ⟨(some 8), .mv (.t 18), none⟩])
  (.seq (.reg [⟨(some 19), .mv (.t 0), none⟩,
    ⟨(some 20), .nck (.t 19), none⟩,
    ⟨(some 21), .fa 2 (.t 20), none⟩,
    ⟨(some 22), .ld false 1 (.t 21), none⟩,
    ⟨(some 23), .len 1 (.t 22), none⟩,
    ⟨(some 24), .bin .eql (.t 23) (.c (.i .i64 0)), none⟩,
    ⟨(some 9), .mv (.t 24), none⟩])
  (.seq (.blk 0 (.seq (.reg [⟨(some 26), .mv (.t 8), none⟩,
     ⟨(some 27), .bin .eql (.t 26) (.c (.i .u8 3)), none⟩,
     ⟨(some 28), .mv (.t 27), none⟩,
     ⟨(some 29), .mv (.t 9), (some (28, true))⟩,
     ⟨(some 30), .un .not (.t 29), (some (28, true))⟩,
     ⟨(some 31), .mv (.t 30), (some (28, true))⟩,
     ⟨(some 32), .mv (.t 0), (some (31, false))⟩,
     ⟨(some 33), .nck (.t 32), (some (31, false))⟩,
     ⟨(some 34), .fa 3 (.t 33), (some (31, false))⟩,
     ⟨(some 35), .ld false 1 (.t 34), (some (31, false))⟩,
     ⟨(some 36), .pick (.t 31) (.c (.b true)) (.t 35), (some (28, true))⟩,
     ⟨(some 37), .mv (.t 36), (some (28, true))⟩,
     ⟨(some 38), .mv (.t 0), (some (37, false))⟩,
     ⟨(some 39), .nck (.t 38), (some (37, false))⟩,
     ⟨(some 40), .fa 4 (.t 39), (some (37, false))⟩,
     ⟨(some 41), .ld false 1 (.t 40), (some (37, false))⟩,
     ⟨(some 42), .pick (.t 37) (.c (.b true)) (.t 41), (some (28, true))⟩,
     ⟨(some 43), .pick (.t 28) (.t 42) (.c (.b false)), none⟩,
     ⟨(some 25), .mv (.t 43), none⟩])
   (.cond (.t 25)
    (.seq (.reg [⟨(some 44), .mv (.t 0), none⟩,
      ⟨(some 45), .mv (.t 7), none⟩,
      ⟨(some 46), .call f_walk_walker_follow [(.t 44), (.t 45)], none⟩,
      ⟨(some 4), .mv (.c (.i .u8 0)), none⟩,
      ⟨(some 5), .mv (.c (.b false)), none⟩,
      ⟨(some 6), .mv (.t 46), none⟩])
    .ret)
    (.seq (.reg [⟨(some 48), .mv (.t 8), none⟩,
      ⟨(some 49), .bin .eql (.t 48) (.c (.i .u8 2)), none⟩,
      ⟨(some 47), .mv (.t 49), none⟩])
    (.cond (.t 47)
     (.seq (.reg [⟨(some 50), .mv (.t 0), none⟩,
       ⟨(some 51), .mv (.t 7), none⟩,
       ⟨(some 52), .nck (.t 50), none⟩,
       ⟨(some 53), .fa 1 (.t 52), none⟩,
       ⟨none, .st 1 (.t 53) (.t 51), none⟩])
     (.seq (.reg [⟨(some 54), .mv (.t 8), none⟩,
       ⟨(some 55), .mv (.t 9), none⟩,
       ⟨(some 4), .mv (.t 54), none⟩,
       ⟨(some 5), .mv (.t 55), none⟩,
       ⟨(some 6), .mv (.c (.i .i64 0)), none⟩])
     .ret))
     (.seq (.reg [⟨(some 57), .mv (.t 8), none⟩,
       ⟨(some 58), .bin .eql (.t 57) (.c (.i .u8 1)), none⟩,
       ⟨(some 59), .mv (.t 58), none⟩,
       ⟨(some 60), .mv (.t 9), (some (59, true))⟩,
       ⟨(some 61), .un .not (.t 60), (some (59, true))⟩,
       ⟨(some 62), .mv (.t 61), (some (59, true))⟩,
       ⟨(some 63), .mv (.t 0), (some (62, false))⟩,
       ⟨(some 64), .nck (.t 63), (some (62, false))⟩,
       ⟨(some 65), .fa 3 (.t 64), (some (62, false))⟩,
       ⟨(some 66), .ld false 1 (.t 65), (some (62, false))⟩,
       ⟨(some 67), .pick (.t 62) (.c (.b true)) (.t 66), (some (59, true))⟩,
       ⟨(some 68), .pick (.t 59) (.t 67) (.c (.b false)), none⟩,
       ⟨(some 56), .mv (.t 68), none⟩])
     (.cond (.t 56)
      (.seq (.reg [⟨(some 4), .mv (.c (.i .u8 0)), none⟩,
        ⟨(some 5), .mv (.c (.b false)), none⟩,
        ⟨(some 6), .mv (.c (.i .i64 55)), none⟩])
      .ret)
      (.seq (.reg [⟨(some 70), .mv (.t 8), none⟩,
        ⟨(some 71), .bin .eql (.t 70) (.c (.i .u8 0)), none⟩,
        ⟨(some 72), .mv (.t 71), none⟩,
        ⟨(some 73), .mv (.t 9), (some (72, true))⟩,
        ⟨(some 74), .un .not (.t 73), (some (72, true))⟩,
        ⟨(some 75), .pick (.t 72) (.t 74) (.c (.b false)), none⟩,
        ⟨(some 69), .mv (.t 75), none⟩])
      (.cond (.t 69)
       (.seq (.reg [⟨(some 4), .mv (.c (.i .u8 0)), none⟩,
         ⟨(some 5), .mv (.c (.b false)), none⟩,
         ⟨(some 6), .mv (.c (.i .i64 5)), none⟩])
       .ret)
       .skip)))))))))
  (.seq (.reg [⟨(some 76), .mv (.t 0), none⟩,
    ⟨(some 77), .mv (.t 7), none⟩,
    ⟨(some 78), .nck (.t 76), none⟩,
    ⟨(some 79), .fa 1 (.t 78), none⟩,
    ⟨none, .st 1 (.t 79) (.t 77), none⟩])
  (.seq (.reg [⟨(some 80), .mv (.t 8), none⟩,
    ⟨(some 4), .mv (.t 80), none⟩,
    ⟨(some 5), .mv (.c (.b true)), none⟩,
    ⟨(some 6), .mv (.c (.i .i64 0)), none⟩])
  .ret))))))) }
def c_slices_BinarySearch_string_string : Fun := { cin := [(.sl 1 .id), .id], cout := [.id, .id], ntmps := 54, keep := false, res := [(4, none), (5, none)], body :=
  (.seq (.reg [⟨(some 4), .mv (.c (.i .i64 0)), none⟩,
    ⟨(some 5), .mv (.c (.b false)), none⟩])
  (.seq (.reg [⟨(some 10), .mv (.t 0), none⟩,
    ⟨(some 11), .len 1 (.t 10), none⟩,
    ⟨(some 6), .mv (.t 11), none⟩])
  (.seq (.reg [⟨(some 12), .mv (.t 6), none⟩,
    ⟨(some 7), .mv (.c (.i .i64 0)), none⟩,
    ⟨(some 8), .mv (.t 12), none⟩])
  (.seq (.blk 0 (.loop (.seq (.seq (.reg [⟨(some 13), .mv (.t 7), none⟩,
      ⟨(some 14), .mv (.t 8), none⟩,
      ⟨(some 15), .bin .lss (.t 13) (.t 14), none⟩])
    (.cond (.t 15)
     .skip
     (.exit 0)))
    (.blk 1 (.seq (.reg [⟨(some 16), .mv (.t 7), none⟩,
       ⟨(some 17), .mv (.t 8), none⟩,
       ⟨(some 18), .bin .add (.t 16) (.t 17), none⟩,
       ⟨(some 19), .cvI .u64 (.t 18), none⟩,
       ⟨(some 20), .bin .shr (.t 19) (.c (.i .u64 1)), none⟩,
       ⟨(some 21), .cvI .i64 (.t 20), none⟩,
       ⟨(some 9), .mv (.t 21), none⟩])
     (.seq (.reg [⟨(some 22), .mv (.t 0), none⟩,
       ⟨(some 23), .mv (.t 9), none⟩,
       ⟨(some 24), .ia 1 (.t 22) (.t 23), none⟩,
       ⟨(some 25), .ld false 1 (.t 24), none⟩,
       ⟨(some 26), .mv (.t 1), none⟩,
       ⟨(some 27), .call f_cmp_Less_string [(.t 25), (.t 26)], none⟩])
     (.cond (.t 27)
      (.reg [⟨(some 28), .mv (.t 9), none⟩,
        ⟨(some 29), .bin .add (.t 28) (.c (.i .i64 1)), none⟩,
        ⟨(some 7), .mv (.t 29), none⟩])
      (.reg [⟨(some 30), .mv (.t 9), none⟩,
        ⟨(some 8), .mv (.t 30), none⟩]))))))))
  (.seq (.reg [⟨(some 31), .mv (.t 7), none⟩,
    ⟨(some 32), .mv (.t 7), none⟩,
    ⟨(some 33), .mv (.t 6), none⟩,
    ⟨(some 34), .bin .lss (.t 32) (.t 33), none⟩,
    ⟨(some 35), .mv (.t 34), none⟩,
    ⟨(some 36), .mv (.t 0), (some (35, true))⟩,
    ⟨(some 37), .mv (.t 7), (some (35, true))⟩,
    ⟨(some 38), .ia 1 (.t 36) (.t 37), (some (35, true))⟩,
    ⟨(some 39), .ld false 1 (.t 38), (some (35, true))⟩,
    ⟨(some 40), .mv (.t 1), (some (35, true))⟩,
    ⟨(some 41), .bin .eql (.t 39) (.t 40), (some (35, true))⟩,
    ⟨(some 42), .mv (.t 41), (some (35, true))⟩,
    ⟨(some 43), .mv (.t 0), (some (42, false))⟩,
    ⟨(some 44), .mv (.t 7), (some (42, false))⟩,
    ⟨(some 45), .ia 1 (.t 43) (.t 44), (some (42, false))⟩,
    ⟨(some 46), .ld false 1 (.t 45), (some (42, false))⟩,
    ⟨(some 47), .call f_slices_isNaN_string [(.t 46)], (some (42, false))⟩,
    ⟨(some 48), .mv (.t 47), (some (42, false))⟩,
    ⟨(some 49), .mv (.t 1), (some (48, true))⟩,
    ⟨(some 50), .call f_slices_isNaN_string [(.t 49)], (some (48, true))⟩,
    ⟨(some 51), .pick (.t 48) (.t 50) (.c (.b false)), (some (42, false))⟩,
    ⟨(some 52), .pick (.t 42) (.c (.b true)) (.t 51), (some (35, true))⟩,
    ⟨(some 53), .pick (.t 35) (.t 52) (.c (.b false)), none⟩,
    ⟨(some 4), .mv (.t 31), none⟩,
    ⟨(some 5), .mv (.t 53), none⟩])
  .ret))))) }
def c_strings_splitSeq : Fun := { cin := [.id, .id, .id], cout := [.id], ntmps := 8, keep := false, res := [(6, none)], body :=
  (.seq (.reg [⟨(some 3), .box 9 1 (.t 0), none⟩,
    ⟨(some 4), .box 9 1 (.t 1), none⟩,
    ⟨(some 5), .box 3 1 (.t 2), none⟩,
    ⟨(some 6), .mv (.c .nf), none⟩])
  (.seq (.reg [⟨(some 7), .mkf f_strings_splitSeq_1 [(.t 4), (.t 3), (.t 5)], none⟩,
    ⟨(some 6), .mv (.t 7), none⟩])
  .ret)) }
def c_strings_IndexRune : Fun := { cin := [.id, .id], cout := [.id], ntmps := 187, keep := false, res := [(4, none)], body :=
  (.seq (.reg [⟨(some 4), .mv (.c (.i .i64 0)), none⟩])
  (.blk 0 (.seq (.reg [⟨(some 161), .mv (.t 1), none⟩,
     ⟨(some 162), .bin .leq (.c (.i .i32 0)) (.t 161), none⟩,
     ⟨(some 163), .mv (.t 162), none⟩,
     ⟨(some 164), .mv (.t 1), (some (163, true))⟩,
     ⟨(some 165), .bin .lss (.t 164) (.c (.i .i32 128)), (some (163, true))⟩,
     ⟨(some 166), .pick (.t 163) (.t 165) (.c (.b false)), none⟩,
     ⟨(some 160), .mv (.t 166), none⟩])
   (.cond (.t 160)
    (.seq (.reg [⟨(some 167), .mv (.t 0), none⟩,
      ⟨(some 168), .mv (.t 1), none⟩,
      ⟨(some 169), .cvI .u8 (.t 168), none⟩,
      ⟨(some 170), .call f_strings_IndexByte [(.t 167), (.t 169)], none⟩,
      ⟨(some 4), .mv (.t 170), none⟩])
    .ret)
    (.seq (.reg [⟨(some 172), .mv (.t 1), none⟩,
      ⟨(some 173), .bin .eql (.t 172) (.c (.i .i32 65533)), none⟩,
      ⟨(some 171), .mv (.t 173), none⟩])
    (.cond (.t 171)
     (.seq (.seq (.reg [⟨(some 174), .mv (.t 0), none⟩,
       ⟨(some 175), .siter (.t 174), none⟩])
     (.blk 9 (.loop (.seq (.reg [⟨(some 176), .snext (.t 175), none⟩,
         ⟨(some 177), .ext (.t 176) 0, none⟩])
       (.seq (.cond (.t 177)
        .skip
        (.exit 9))
       (.blk 10 (.seq (.reg [⟨(some 178), .ext (.t 176) 1, none⟩,
          ⟨(some 179), .ext (.t 176) 2, none⟩,
          ⟨(some 5), .mv (.t 178), none⟩,
          ⟨(some 6), .mv (.t 179), none⟩])
        (.seq (.reg [⟨(some 180), .mv (.t 6), none⟩,
          ⟨(some 181), .bin .eql (.t 180) (.c (.i .i32 65533)), none⟩])
        (.cond (.t 181)
         (.seq (.reg [⟨(some 182), .mv (.t 5), none⟩,
           ⟨(some 4), .mv (.t 182), none⟩])
         .ret)
         .skip)))))))))
     (.seq (.reg [⟨(some 4), .mv (.c (.i .i64 (-1))), none⟩])
     .ret))
     (.seq (.reg [⟨(some 184), .mv (.t 1), none⟩,
       ⟨(some 185), .call f_unicode_utf8_ValidRune [(.t 184)], none⟩,
       ⟨(some 186), .un .not (.t 185), none⟩,
       ⟨(some 183), .mv (.t 186), none⟩])
     (.cond (.t 183)
      (.seq (.reg [⟨(some 4), .mv (.c (.i .i64 (-1))), none⟩])
      .ret)
      (.seq (.reg [⟨(some 17), .mv (.t 1), none⟩,
        ⟨(some 18), .cvRS (.t 17), none⟩,
        ⟨(some 7), .mv (.t 18), none⟩])
      (.seq (.reg [⟨(some 19), .mv (.t 7), none⟩,
        ⟨(some 20), .len 0 (.t 19), none⟩,
        ⟨(some 21), .bin .sub (.t 20) (.c (.i .i64 1)), none⟩,
        ⟨(some 8), .mv (.t 21), none⟩])
      (.seq (.reg [⟨(some 22), .mv (.t 8), none⟩,
        ⟨(some 9), .mv (.t 22), none⟩])
      (.seq (.reg [⟨(some 10), .mv (.c (.i .i64 0)), none⟩])
      (.seq (.blk 1 (.loop (.seq (.seq (.reg [⟨(some 23), .mv (.t 9), none⟩,
          ⟨(some 24), .mv (.t 0), none⟩,
          ⟨(some 25), .len 0 (.t 24), none⟩,
          ⟨(some 26), .bin .lss (.t 23) (.t 25), none⟩])
        (.cond (.t 26)
         .skip
         (.exit 1)))
        (.blk 2 (.seq (.seq (.regD [⟨(some 27), .mv (.t 0), none⟩,
           ⟨(some 28), .mv (.t 9), none⟩,
           ⟨(some 29), .ixS (.t 27) (.t 28), none⟩,
           ⟨(some 30), .mv (.t 7), none⟩,
           ⟨(some 31), .mv (.t 8), none⟩,
           ⟨(some 32), .ixS (.t 30) (.t 31), none⟩,
           ⟨(some 33), .bin .neq (.t 29) (.t 32), none⟩] [])
         (.cond (.t 33)
          (.seq (.regD [⟨(some 34), .mv (.t 0), none⟩,
            ⟨(some 35), .mv (.t 9), none⟩,
            ⟨(some 36), .bin .add (.t 35) (.c (.i .i64 1)), none⟩,
            ⟨(some 37), .slS (.t 34) (some (.t 36)) none, none⟩,
            ⟨(some 38), .mv (.t 7), none⟩,
            ⟨(some 39), .mv (.t 8), none⟩,
            ⟨(some 40), .ixS (.t 38) (.t 39), none⟩,
            ⟨(some 41), .call f_strings_IndexByte [(.t 37), (.t 40)], none⟩,
            ⟨(some 11), .mv (.t 41), none⟩] [])
          (.seq (.seq (.reg [⟨(some 42), .mv (.t 11), none⟩,
            ⟨(some 43), .bin .lss (.t 42) (.c (.i .i64 0)), none⟩])
          (.cond (.t 43)
           (.seq (.reg [⟨(some 4), .mv (.c (.i .i64 (-1))), none⟩])
           .ret)
           .skip))
          (.reg [⟨(some 44), .mv (.t 9), none⟩,
            ⟨(some 45), .mv (.t 11), none⟩,
            ⟨(some 46), .bin .add (.t 45) (.c (.i .i64 1)), none⟩,
            ⟨(some 47), .bin .add (.t 44) (.t 46), none⟩,
            ⟨(some 9), .mv (.t 47), none⟩])))
          .skip))
         (.seq (.seq (.reg [⟨(some 12), .mv (.c (.i .i64 1)), none⟩])
         (.blk 3 (.loop (.seq (.seq (.reg [⟨(some 48), .mv (.t 12), none⟩,
             ⟨(some 49), .mv (.t 7), none⟩,
             ⟨(some 50), .len 0 (.t 49), none⟩,
             ⟨(some 51), .bin .lss (.t 48) (.t 50), none⟩])
           (.cond (.t 51)
            .skip
            (.exit 3)))
           (.seq (.blk 4 (.seq (.regD [⟨(some 54), .mv (.t 0), none⟩,
              ⟨(some 55), .mv (.t 9), none⟩,
              ⟨(some 56), .mv (.t 12), none⟩,
              ⟨(some 57), .bin .sub (.t 55) (.t 56), none⟩,
              ⟨(some 58), .ixS (.t 54) (.t 57), none⟩,
              ⟨(some 59), .mv (.t 7), none⟩,
              ⟨(some 60), .mv (.t 8), none⟩,
              ⟨(some 61), .mv (.t 12), none⟩,
              ⟨(some 62), .bin .sub (.t 60) (.t 61), none⟩,
              ⟨(some 63), .ixS (.t 59) (.t 62), none⟩,
              ⟨(some 64), .bin .neq (.t 58) (.t 63), none⟩] [])
            (.cond (.t 64)
             .bad
             .skip)))
           (.reg [⟨(some 52), .mv (.t 12), none⟩,
             ⟨(some 53), .bin .add (.t 52) (.c (.i .i64 1)), none⟩,
             ⟨(some 12), .mv (.t 53), none⟩]))))))
         (.seq (.seq (.reg [⟨(some 65), .mv (.t 9), none⟩,
           ⟨(some 66), .mv (.t 8), none⟩,
           ⟨(some 67), .bin .sub (.t 65) (.t 66), none⟩,
           ⟨(some 4), .mv (.t 67), none⟩])
         .ret)
         (.seq .skip
         (.seq (.reg [⟨(some 68), .mv (.t 10), none⟩,
           ⟨(some 69), .bin .add (.t 68) (.c (.i .i64 1)), none⟩,
           ⟨(some 10), .mv (.t 69), none⟩])
         (.seq (.reg [⟨(some 70), .mv (.t 9), none⟩,
           ⟨(some 71), .bin .add (.t 70) (.c (.i .i64 1)), none⟩,
           ⟨(some 9), .mv (.t 71), none⟩])
         (.seq (.reg [⟨(some 72), .mv (.c (.b true)), none⟩,
           ⟨(some 73), .mv (.t 10), (some (72, true))⟩,
           ⟨(some 74), .mv (.t 9), (some (72, true))⟩,
           ⟨(some 75), .call f_internal_bytealg_Cutover [(.t 74)], (some (72, true))⟩,
           ⟨(some 76), .bin .gtr (.t 73) (.t 75), (some (72, true))⟩,
           ⟨(some 77), .pick (.t 72) (.t 76) (.c (.b false)), none⟩,
           ⟨(some 78), .mv (.t 77), none⟩,
           ⟨(some 79), .mv (.t 9), (some (78, true))⟩,
           ⟨(some 80), .mv (.t 0), (some (78, true))⟩,
           ⟨(some 81), .len 0 (.t 80), (some (78, true))⟩,
           ⟨(some 82), .bin .lss (.t 79) (.t 81), (some (78, true))⟩,
           ⟨(some 83), .pick (.t 78) (.t 82) (.c (.b false)), none⟩,
           ⟨(some 84), .mv (.t 83), none⟩,
           ⟨(some 85), .mv (.c (.b false)), (some (84, false))⟩,
           ⟨(some 86), .mv (.t 10), (some (85, true))⟩,
           ⟨(some 87), .mv (.t 9), (some (85, true))⟩,
           ⟨(some 88), .bin .shr (.t 87) (.c (.i .u64 4)), (some (85, true))⟩,
           ⟨(some 89), .bin .add (.c (.i .i64 4)) (.t 88), (some (85, true))⟩,
           ⟨(some 90), .bin .geq (.t 86) (.t 89), (some (85, true))⟩,
           ⟨(some 91), .pick (.t 85) (.t 90) (.c (.b false)), (some (84, false))⟩,
           ⟨(some 92), .mv (.t 91), (some (84, false))⟩,
           ⟨(some 93), .mv (.t 9), (some (92, true))⟩,
           ⟨(some 94), .mv (.t 0), (some (92, true))⟩,
           ⟨(some 95), .len 0 (.t 94), (some (92, true))⟩,
           ⟨(some 96), .bin .lss (.t 93) (.t 95), (some (92, true))⟩,
           ⟨(some 97), .pick (.t 92) (.t 96) (.c (.b false)), (some (84, false))⟩,
           ⟨(some 98), .pick (.t 84) (.c (.b true)) (.t 97), none⟩])
         (.cond (.t 98)
          .bad
          .skip))))))))))))
      (.seq (.seq (.reg [⟨(some 4), .mv (.c (.i .i64 (-1))), none⟩])
      .ret)
      (.seq .skip
      (.seq (.cond (.c (.b true))
       (.seq (.reg [⟨(some 99), .mv (.t 0), none⟩,
         ⟨(some 100), .mv (.t 9), none⟩,
         ⟨(some 101), .mv (.t 8), none⟩,
         ⟨(some 102), .bin .sub (.t 100) (.t 101), none⟩,
         ⟨(some 103), .slS (.t 99) (some (.t 102)) none, none⟩,
         ⟨(some 104), .mv (.t 1), none⟩,
         ⟨(some 105), .cvRS (.t 104), none⟩,
         ⟨(some 106), .bad, none⟩,
         ⟨(some 13), .mv (.t 106), none⟩])
       (.seq (.reg [⟨(some 107), .mv (.t 13), none⟩,
         ⟨(some 108), .bin .geq (.t 107) (.c (.i .i64 0)), none⟩])
       (.cond (.t 108)
        (.seq (.reg [⟨(some 109), .mv (.t 9), none⟩,
          ⟨(some 110), .mv (.t 13), none⟩,
          ⟨(some 111), .bin .add (.t 109) (.t 110), none⟩,
          ⟨(some 112), .mv (.t 8), none⟩,
          ⟨(some 113), .bin .sub (.t 111) (.t 112), none⟩,
          ⟨(some 4), .mv (.t 113), none⟩])
        .ret)
        .skip)))
       (.seq (.reg [⟨(some 114), .mv (.t 7), none⟩,
         ⟨(some 115), .mv (.t 8), none⟩,
         ⟨(some 116), .ixS (.t 114) (.t 115), none⟩,
         ⟨(some 14), .mv (.t 116), none⟩])
       (.seq (.reg [⟨(some 117), .mv (.t 7), none⟩,
         ⟨(some 118), .mv (.t 8), none⟩,
         ⟨(some 119), .bin .sub (.t 118) (.c (.i .i64 1)), none⟩,
         ⟨(some 120), .ixS (.t 117) (.t 119), none⟩,
         ⟨(some 15), .mv (.t 120), none⟩])
       (.seq .skip
       (.blk 5 (.loop (.seq (.seq (.reg [⟨(some 121), .mv (.t 9), none⟩,
           ⟨(some 122), .mv (.t 0), none⟩,
           ⟨(some 123), .len 0 (.t 122), none⟩,
           ⟨(some 124), .bin .lss (.t 121) (.t 123), none⟩])
         (.cond (.t 124)
          .skip
          (.exit 5)))
         (.seq (.blk 6 (.seq (.reg [⟨(some 127), .mv (.t 0), none⟩,
            ⟨(some 128), .mv (.t 9), none⟩,
            ⟨(some 129), .ixS (.t 127) (.t 128), none⟩,
            ⟨(some 130), .mv (.t 14), none⟩,
            ⟨(some 131), .bin .eql (.t 129) (.t 130), none⟩,
            ⟨(some 132), .mv (.t 131), none⟩,
            ⟨(some 133), .mv (.t 0), (some (132, true))⟩,
            ⟨(some 134), .mv (.t 9), (some (132, true))⟩,
            ⟨(some 135), .bin .sub (.t 134) (.c (.i .i64 1)), (some (132, true))⟩,
            ⟨(some 136), .ixS (.t 133) (.t 135), (some (132, true))⟩,
            ⟨(some 137), .mv (.t 15), (some (132, true))⟩,
            ⟨(some 138), .bin .eql (.t 136) (.t 137), (some (132, true))⟩,
            ⟨(some 139), .pick (.t 132) (.t 138) (.c (.b false)), none⟩])
          (.cond (.t 139)
           (.seq (.seq (.reg [⟨(some 16), .mv (.c (.i .i64 2)), none⟩])
           (.blk 7 (.loop (.seq (.seq (.reg [⟨(some 140), .mv (.t 16), none⟩,
               ⟨(some 141), .mv (.t 7), none⟩,
               ⟨(some 142), .len 0 (.t 141), none⟩,
               ⟨(some 143), .bin .lss (.t 140) (.t 142), none⟩])
             (.cond (.t 143)
              .skip
              (.exit 7)))
             (.seq (.blk 8 (.seq (.regD [⟨(some 146), .mv (.t 0), none⟩,
                ⟨(some 147), .mv (.t 9), none⟩,
                ⟨(some 148), .mv (.t 16), none⟩,
                ⟨(some 149), .bin .sub (.t 147) (.t 148), none⟩,
                ⟨(some 150), .ixS (.t 146) (.t 149), none⟩,
                ⟨(some 151), .mv (.t 7), none⟩,
                ⟨(some 152), .mv (.t 8), none⟩,
                ⟨(some 153), .mv (.t 16), none⟩,
                ⟨(some 154), .bin .sub (.t 152) (.t 153), none⟩,
                ⟨(some 155), .ixS (.t 151) (.t 154), none⟩,
                ⟨(some 156), .bin .neq (.t 150) (.t 155), none⟩] [])
              (.cond (.t 156)
               (.exit 6)
               .skip)))
             (.reg [⟨(some 144), .mv (.t 16), none⟩,
               ⟨(some 145), .bin .add (.t 144) (.c (.i .i64 1)), none⟩,
               ⟨(some 16), .mv (.t 145), none⟩]))))))
           (.seq (.reg [⟨(some 157), .mv (.t 9), none⟩,
             ⟨(some 158), .mv (.t 8), none⟩,
             ⟨(some 159), .bin .sub (.t 157) (.t 158), none⟩,
             ⟨(some 4), .mv (.t 159), none⟩])
           .ret))
           .skip)))
         (.reg [⟨(some 125), .mv (.t 9), none⟩,
           ⟨(some 126), .bin .add (.t 125) (.c (.i .i64 1)), none⟩,
           ⟨(some 9), .mv (.t 126), none⟩])))))))))
      (.seq (.reg [⟨(some 4), .mv (.c (.i .i64 (-1))), none⟩])
      .ret))))))))))))))))) }
def c_strings_shouldUseASCIISet : Fun := { cin := [.id], cout := [.id], ntmps := 5, keep := false, res := [(2, none)], body :=
  (.seq (.reg [⟨(some 2), .mv (.c (.b false)), none⟩])
  (.seq (.reg [⟨(some 3), .mv (.t 0), none⟩,
    ⟨(some 4), .bin .gtr (.t 3) (.c (.i .i64 8)), none⟩,
    ⟨(some 2), .mv (.t 4), none⟩])
  .ret)) }
def c_strings_makeASCIISet : Fun := { cin := [.id], cout := [(.agg [.id, .id, .id, .id, .id, .id, .id, .id, .id, .id, .id, .id, .id, .id, .id, .id, .id, .id, .id, .id, .id, .id, .id, .id, .id, .id, .id, .id, .id, .id, .id, .id, .id, .id, .id, .id, .id, .id, .id, .id, .id, .id, .id, .id, .id, .id, .id, .id, .id, .id, .id, .id, .id, .id, .id, .id, .id, .id, .id, .id, .id, .id, .id, .id, .id, .id, .id, .id, .id, .id, .id, .id, .id, .id, .id, .id, .id, .id, .id, .id, .id, .id, .id, .id, .id, .id, .id, .id, .id, .id, .id, .id, .id, .id, .id, .id, .id, .id, .id, .id, .id, .id, .id, .id, .id, .id, .id, .id, .id, .id, .id, .id, .id, .id, .id, .id, .id, .id, .id, .id, .id, .id, .id, .id, .id, .id, .id, .id, .id, .id, .id, .id, .id, .id, .id, .id, .id, .id, .id, .id, .id, .id, .id, .id, .id, .id, .id, .id, .id, .id, .id, .id, .id, .id, .id, .id, .id, .id, .id, .id, .id, .id, .id, .id, .id, .id, .id, .id, .id, .id, .id, .id, .id, .id, .id, .id, .id, .id, .id, .id, .id, .id, .id, .id, .id, .id, .id, .id, .id, .id, .id, .id, .id, .id, .id, .id, .id, .id, .id, .id, .id, .id, .id, .id, .id, .id, .id, .id, .id, .id, .id, .id, .id, .id, .id, .id, .id, .id, .id, .id, .id, .id, .id, .id, .id, .id, .id, .id, .id, .id, .id, .id, .id, .id, .id, .id, .id, .id, .id, .id, .id, .id, .id, .id, .id, .id, .id, .id, .id, .id, .id, .id, .id, .id, .id, .id]), .id], ntmps := 21, keep := false, res := [(2, some (true, 256)), (3, none)], body :=
  (.seq (.reg [⟨(some 2), .alloc 104 [(.b false), (.b false), (.b false), (.b false), (.b false), (.b false), (.b false), (.b false), (.b false), (.b false), (.b false), (.b false), (.b false), (.b false), (.b false), (.b false), (.b false), (.b false), (.b false), (.b false), (.b false), (.b false), (.b false), (.b false), (.b false), (.b false), (.b false), (.b false), (.b false), (.b false), (.b false), (.b false), (.b false), (.b false), (.b false), (.b false), (.b false), (.b false), (.b false), (.b false), (.b false), (.b false), (.b false), (.b false), (.b false), (.b false), (.b false), (.b false), (.b false), (.b false), (.b false), (.b false), (.b false), (.b false), (.b false), (.b false), (.b false), (.b false), (.b false), (.b false), (.b false), (.b false), (.b false), (.b false), (.b false), (.b false), (.b false), (.b false), (.b false), (.b false), (.b false), (.b false), (.b false), (.b false), (.b false), (.b false), (.b false), (.b false), (.b false), (.b false), (.b false), (.b false), (.b false), (.b false), (.b false), (.b false), (.b false), (.b false), (.b false), (.b false), (.b false), (.b false), (.b false), (.b false), (.b false), (.b false), (.b false), (.b false), (.b false), (.b false), (.b false), (.b false), (.b false), (.b false), (.b false), (.b false), (.b false), (.b false), (.b false), (.b false), (.b false), (.b false), (.b false), (.b false), (.b false), (.b false), (.b false), (.b false), (.b false), (.b false), (.b false), (.b false), (.b false), (.b false), (.b false), (.b false), (.b false), (.b false), (.b false), (.b false), (.b false), (.b false), (.b false), (.b false), (.b false), (.b false), (.b false), (.b false), (.b false), (.b false), (.b false), (.b false), (.b false), (.b false), (.b false), (.b false), (.b false), (.b false), (.b false), (.b false), (.b false), (.b false), (.b false), (.b false), (.b false), (.b false), (.b false), (.b false), (.b false), (.b false), (.b false), (.b false), (.b false), (.b false), (.b false), (.b false), (.b false), (.b false), (.b false), (.b false), (.b false), (.b false), (.b false), (.b false), (.b false), (.b false), (.b false), (.b false), (.b false), (.b false), (.b false), (.b false), (.b false), (.b false), (.b false), (.b false), (.b false), (.b false), (.b false), (.b false), (.b false), (.b false), (.b false), (.b false), (.b false), (.b false), (.b false), (.b false), (.b false), (.b false), (.b false), (.b false), (.b false), (.b false), (.b false), (.b false), (.b false), (.b false), (.b false), (.b false), (.b false), (.b false), (.b false), (.b false), (.b false), (.b false), (.b false), (.b false), (.b false), (.b false), (.b false), (.b false), (.b false), (.b false), (.b false), (.b false), (.b false), (.b false), (.b false), (.b false), (.b false), (.b false), (.b false), (.b false), (.b false), (.b false), (.b false), (.b false), (.b false), (.b false), (.b false), (.b false), (.b false), (.b false), (.b false), (.b false), (.b false), (.b false), (.b false), (.b false), (.b false), (.b false), (.b false), (.b false), (.b false), (.b false)], none⟩,
    ⟨(some 3), .mv (.c (.b false)), none⟩])
  (.seq (.seq (.reg [⟨(some 4), .mv (.c (.i .i64 0)), none⟩])
  (.blk 0 (.loop (.seq (.seq (.reg [⟨(some 6), .mv (.t 4), none⟩,
      ⟨(some 7), .mv (.t 0), none⟩,
      ⟨(some 8), .len 0 (.t 7), none⟩,
      ⟨(some 9), .bin .lss (.t 6) (.t 8), none⟩])
    (.cond (.t 9)
     .skip
     (.exit 0)))
    (.seq (.blk 1 (.seq (.reg [⟨(some 12), .mv (.t 0), none⟩,
       ⟨(some 13), .mv (.t 4), none⟩,
       ⟨(some 14), .ixS (.t 12) (.t 13), none⟩,
       ⟨(some 5), .mv (.t 14), none⟩])
     (.seq (.seq (.reg [⟨(some 15), .mv (.t 5), none⟩,
       ⟨(some 16), .bin .geq (.t 15) (.c (.i .u8 128)), none⟩])
     (.cond (.t 16)
      (.seq (.reg [⟨(some 17), .ld true 256 (.t 2), none⟩,
        ⟨none, .st 256 (.t 2) (.t 17), none⟩,
        ⟨(some 3), .mv (.c (.b false)), none⟩])
      .ret)
      .skip))
     (.reg [⟨(some 18), .mv (.t 5), none⟩,
       ⟨(some 19), .iaA 256 1 (.t 2) (.t 18), none⟩,
       ⟨none, .st 1 (.t 19) (.c (.b true)), none⟩]))))
    (.reg [⟨(some 10), .mv (.t 4), none⟩,
      ⟨(some 11), .bin .add (.t 10) (.c (.i .i64 1)), none⟩,
      ⟨(some 4), .mv (.t 11), none⟩]))))))
  (.seq (.reg [⟨(some 20), .ld true 256 (.t 2), none⟩,
    ⟨none, .st 256 (.t 2) (.t 20), none⟩,
    ⟨(some 3), .mv (.c (.b true)), none⟩])
  .ret))) }
def c_strings_asciiSet_contains : Fun := { cin := [.id, .id], cout := [.id], ntmps := 10, keep := false, res := [(4, none)], body :=
  (.seq (.reg [⟨(some 4), .mv (.c (.b false)), none⟩])
  (.seq (.reg [⟨(some 5), .mv (.t 0), none⟩,
    ⟨(some 6), .mv (.t 1), none⟩,
    ⟨(some 7), .nck (.t 5), none⟩,
    ⟨(some 8), .iaA 256 1 (.t 7) (.t 6), none⟩,
    ⟨(some 9), .ld false 1 (.t 8), none⟩,
    ⟨(some 4), .mv (.t 9), none⟩])
  .ret)) }
def c_touchstoneref07_text : Fun := { cin := [.id], cout := [.id], ntmps := 17, keep := false, res := [(2, none)], body :=
  (.seq (.reg [⟨(some 2), .mv (.c (.b false)), none⟩])
  (.seq (.seq (.reg [⟨(some 3), .mv (.c (.i .i64 0)), none⟩])
  (.blk 0 (.loop (.seq (.seq (.reg [⟨(some 4), .mv (.t 3), none⟩,
      ⟨(some 5), .mv (.t 0), none⟩,
      ⟨(some 6), .len 0 (.t 5), none⟩,
      ⟨(some 7), .bin .lss (.t 4) (.t 6), none⟩])
    (.cond (.t 7)
     .skip
     (.exit 0)))
    (.seq (.blk 1 (.seq (.reg [⟨(some 10), .mv (.t 0), none⟩,
       ⟨(some 11), .mv (.t 3), none⟩,
       ⟨(some 12), .ixS (.t 10) (.t 11), none⟩,
       ⟨(some 13), .bin .eql (.t 12) (.c (.i .u8 0)), none⟩])
     (.cond (.t 13)
      (.seq (.reg [⟨(some 2), .mv (.c (.b false)), none⟩])
      .ret)
      .skip)))
    (.reg [⟨(some 8), .mv (.t 3), none⟩,
      ⟨(some 9), .bin .add (.t 8) (.c (.i .i64 1)), none⟩,
      ⟨(some 3), .mv (.t 9), none⟩]))))))
  (.seq (.reg [⟨(some 14), .mv (.t 0), none⟩,
    ⟨(some 15), .len 0 (.t 14), none⟩,
    ⟨(some 16), .bin .leq (.t 15) (.c (.i .i64 256)), none⟩,
    ⟨(some 2), .mv (.t 16), none⟩])
  .ret))) }
def c_touchstoneref06_Name : Fun := { cin := [.id], cout := [.id], ntmps := 41, keep := false, res := [(2, none)], body :=
  (.seq (.reg [⟨(some 2), .mv (.c (.b false)), none⟩])
  (.seq (.seq (.reg [⟨(some 4), .mv (.t 0), none⟩,
    ⟨(some 5), .bin .eql (.t 4) (.c (.s [])), none⟩,
    ⟨(some 6), .mv (.t 5), none⟩,
    ⟨(some 7), .mv (.t 0), (some (6, false))⟩,
    ⟨(some 8), .len 0 (.t 7), (some (6, false))⟩,
    ⟨(some 9), .bin .gtr (.t 8) (.c (.i .i64 64)), (some (6, false))⟩,
    ⟨(some 10), .pick (.t 6) (.c (.b true)) (.t 9), none⟩,
    ⟨(some 11), .mv (.t 10), none⟩,
    ⟨(some 12), .mv (.t 0), (some (11, false))⟩,
    ⟨(some 13), .bin .eql (.t 12) (.c (.s [46])), (some (11, false))⟩,
    ⟨(some 14), .pick (.t 11) (.c (.b true)) (.t 13), none⟩,
    ⟨(some 15), .mv (.t 14), none⟩,
    ⟨(some 16), .mv (.t 0), (some (15, false))⟩,
    ⟨(some 17), .bin .eql (.t 16) (.c (.s [46, 46])), (some (15, false))⟩,
    ⟨(some 18), .pick (.t 15) (.c (.b true)) (.t 17), none⟩])
  (.cond (.t 18)
   (.seq (.reg [⟨(some 2), .mv (.c (.b false)), none⟩])
   .ret)
   .skip))
  (.seq (.seq (.reg [⟨(some 3), .mv (.c (.i .i64 0)), none⟩])
  (.blk 0 (.loop (.seq (.seq (.reg [⟨(some 19), .mv (.t 3), none⟩,
      ⟨(some 20), .mv (.t 0), none⟩,
      ⟨(some 21), .len 0 (.t 20), none⟩,
      ⟨(some 22), .bin .lss (.t 19) (.t 21), none⟩])
    (.cond (.t 22)
     .skip
     (.exit 0)))
    (.seq (.blk 1 (.seq (.reg [⟨(some 25), .mv (.t 0), none⟩,
       ⟨(some 26), .mv (.t 3), none⟩,
       ⟨(some 27), .ixS (.t 25) (.t 26), none⟩,
       ⟨(some 28), .bin .eql (.t 27) (.c (.i .u8 0)), none⟩,
       ⟨(some 29), .mv (.t 28), none⟩,
       ⟨(some 30), .mv (.t 0), (some (29, false))⟩,
       ⟨(some 31), .mv (.t 3), (some (29, false))⟩,
       ⟨(some 32), .ixS (.t 30) (.t 31), (some (29, false))⟩,
       ⟨(some 33), .bin .eql (.t 32) (.c (.i .u8 47)), (some (29, false))⟩,
       ⟨(some 34), .pick (.t 29) (.c (.b true)) (.t 33), none⟩,
       ⟨(some 35), .mv (.t 34), none⟩,
       ⟨(some 36), .mv (.t 0), (some (35, false))⟩,
       ⟨(some 37), .mv (.t 3), (some (35, false))⟩,
       ⟨(some 38), .ixS (.t 36) (.t 37), (some (35, false))⟩,
       ⟨(some 39), .bin .eql (.t 38) (.c (.i .u8 10)), (some (35, false))⟩,
       ⟨(some 40), .pick (.t 35) (.c (.b true)) (.t 39), none⟩])
     (.cond (.t 40)
      (.seq (.reg [⟨(some 2), .mv (.c (.b false)), none⟩])
      .ret)
      .skip)))
    (.reg [⟨(some 23), .mv (.t 3), none⟩,
      ⟨(some 24), .bin .add (.t 23) (.c (.i .i64 1)), none⟩,
      ⟨(some 3), .mv (.t 24), none⟩]))))))
  (.seq (.reg [⟨(some 2), .mv (.c (.b true)), none⟩])
  .ret)))) }
def c_path_Check : Fun := { cin := [.id], cout := [.id], ntmps := 25, keep := false, res := [(2, some (false, 1))], body :=
  (.seq (.reg [⟨(some 2), .alloc 29 [(.i .i64 0)], none⟩])
  (.seq (.blk 0 (.seq (.reg [⟨(some 5), .mv (.t 0), none⟩,
     ⟨(some 6), .bin .eql (.t 5) (.c (.s [])), none⟩,
     ⟨(some 7), .mv (.t 6), none⟩,
     ⟨(some 8), .mv (.t 0), (some (7, false))⟩,
     ⟨(some 9), .call f_strings_Contains [(.t 8), (.c (.s [0]))], (some (7, false))⟩,
     ⟨(some 10), .pick (.t 7) (.c (.b true)) (.t 9), none⟩,
     ⟨(some 4), .mv (.t 10), none⟩])
   (.cond (.t 4)
    (.seq (.reg [⟨none, .st 1 (.t 2) (.c (.i .i64 4)), none⟩])
    .ret)
    (.seq (.reg [⟨(some 12), .mv (.t 0), none⟩,
      ⟨(some 13), .len 0 (.t 12), none⟩,
      ⟨(some 14), .bin .gtr (.t 13) (.c (.i .i64 256)), none⟩,
      ⟨(some 11), .mv (.t 14), none⟩])
    (.cond (.t 11)
     (.seq (.reg [⟨none, .st 1 (.t 2) (.c (.i .i64 40)), none⟩])
     .ret)
     .skip)))))
  (.seq (.seq (.reg [⟨(some 15), .mv (.t 0), none⟩,
    ⟨(some 16), .call f_path_steps [(.t 15)], none⟩])
  (.blk 1 (.rf (.t 16) [17] (.reg [⟨(some 3), .mv (.t 17), none⟩])
   (.blk 2 (.seq (.reg [⟨(some 18), .mv (.t 3), none⟩,
       ⟨(some 19), .bin .neq (.t 18) (.c (.s [46, 46])), none⟩,
       ⟨(some 20), .mv (.t 19), none⟩,
       ⟨(some 21), .mv (.t 3), (some (20, true))⟩,
       ⟨(some 22), .call f_path_Name [(.t 21)], (some (20, true))⟩,
       ⟨(some 23), .un .not (.t 22), (some (20, true))⟩,
       ⟨(some 24), .pick (.t 20) (.t 23) (.c (.b false)), none⟩])
     (.cond (.t 24)
      (.seq (.reg [⟨none, .st 1 (.t 2) (.c (.i .i64 4)), none⟩])
      .ret)
      .skip))))))
  (.seq (.reg [⟨none, .st 1 (.t 2) (.c (.i .i64 0)), none⟩])
  .ret)))) }
def c_internal_stringslite_IndexByte : Fun := { cin := [.id, .id], cout := [.id], ntmps := 8, keep := false, res := [(4, none)], body :=
  (.seq (.reg [⟨(some 4), .mv (.c (.i .i64 0)), none⟩])
  (.seq (.reg [⟨(some 5), .mv (.t 0), none⟩,
    ⟨(some 6), .mv (.t 1), none⟩,
    ⟨(some 7), .xtn 0 [(.t 5), (.t 6)], none⟩,
    ⟨(some 4), .mv (.t 7), none⟩])
  .ret)) }
def c_slices_AppendSeq_string_string : Fun := { cin := [], cout := [], ntmps := 13, keep := false, res := [(4, none)], body :=
  (.seq (.reg [⟨(some 2), .box 22 1 (.t 0), none⟩,
    ⟨(some 4), .mv (.c .nsl), none⟩])
  (.seq (.seq (.reg [⟨(some 6), .mv (.t 1), none⟩])
  (.blk 0 (.rf (.t 6) [7] (.reg [⟨(some 5), .mv (.t 7), none⟩])
   (.blk 1 (.reg [⟨(some 8), .ld false 1 (.t 2), none⟩,
       ⟨(some 9), .mv (.t 5), none⟩,
       ⟨(some 10), .bsl 1 [(.t 9)], none⟩,
       ⟨(some 11), .app 1 9 (.t 8) (.t 10), none⟩,
       ⟨none, .st 1 (.t 2) (.t 11), none⟩])))))
  (.seq (.reg [⟨(some 12), .ld false 1 (.t 2), none⟩,
    ⟨(some 4), .mv (.t 12), none⟩])
  .ret))) }
def c_internal_bytealg_LastIndexByteString : Fun := { cin := [.id, .id], cout := [.id], ntmps := 19, keep := false, res := [(4, none)], body :=
  (.seq (.reg [⟨(some 4), .mv (.c (.i .i64 0)), none⟩])
  (.seq (.seq (.reg [⟨(some 6), .mv (.t 0), none⟩,
    ⟨(some 7), .len 0 (.t 6), none⟩,
    ⟨(some 8), .bin .sub (.t 7) (.c (.i .i64 1)), none⟩,
    ⟨(some 5), .mv (.t 8), none⟩])
  (.blk 0 (.loop (.seq (.seq (.reg [⟨(some 9), .mv (.t 5), none⟩,
      ⟨(some 10), .bin .geq (.t 9) (.c (.i .i64 0)), none⟩])
    (.cond (.t 10)
     .skip
     (.exit 0)))
    (.seq (.blk 1 (.seq (.reg [⟨(some 13), .mv (.t 0), none⟩,
       ⟨(some 14), .mv (.t 5), none⟩,
       ⟨(some 15), .ixS (.t 13) (.t 14), none⟩,
       ⟨(some 16), .mv (.t 1), none⟩,
       ⟨(some 17), .bin .eql (.t 15) (.t 16), none⟩])
     (.cond (.t 17)
      (.seq (.reg [⟨(some 18), .mv (.t 5), none⟩,
        ⟨(some 4), .mv (.t 18), none⟩])
      .ret)
      .skip)))
    (.reg [⟨(some 11), .mv (.t 5), none⟩,
      ⟨(some 12), .bin .sub (.t 11) (.c (.i .i64 1)), none⟩,
      ⟨(some 5), .mv (.t 12), none⟩]))))))
  (.seq (.reg [⟨(some 4), .mv (.c (.i .i64 (-1))), none⟩])
  .ret))) }
def c_walk_walker_below : Fun := { cin := [.id, .id], cout := [(.sl 1 .id)], ntmps := 21, keep := false, res := [(4, none)], body :=
  (.seq (.reg [⟨(some 4), .mv (.c .nsl), none⟩])
  (.seq (.reg [⟨(some 6), .mv (.t 0), none⟩,
    ⟨(some 7), .nck (.t 6), none⟩,
    ⟨(some 8), .fa 1 (.t 7), none⟩,
    ⟨(some 9), .ld false 1 (.t 8), none⟩,
    ⟨(some 10), .len 1 (.t 9), none⟩,
    ⟨(some 5), .mv (.t 10), none⟩])
  (.seq (.reg [⟨(some 11), .mv (.t 0), none⟩,
    ⟨(some 12), .nck (.t 11), none⟩,
    ⟨(some 13), .fa 1 (.t 12), none⟩,
    ⟨(some 14), .ld false 1 (.t 13), none⟩,
    ⟨(some 15), .mv (.t 5), none⟩,
    ⟨(some 16), .mv (.t 5), none⟩,
    ⟨(some 17), .slc false 1 (.t 14) none (some (.t 15)) (some (.t 16)), none⟩,
    ⟨(some 18), .mv (.t 1), none⟩,
    ⟨(some 19), .bsl 1 [(.t 18)], none⟩,
    ⟨(some 20), .app 1 9 (.t 17) (.t 19), none⟩,
    ⟨(some 4), .mv (.t 20), none⟩])
  .ret))) }
def c_walk_walker_follow : Fun := { cin := [.id, (.sl 1 .id)], cout := [.id], ntmps := 63, keep := false, res := [(4, none)], body :=
  (.seq (.reg [⟨(some 4), .mv (.c (.i .i64 0)), none⟩])
  (.seq (.reg [⟨(some 7), .mv (.t 0), none⟩,
    ⟨(some 8), .nck (.t 7), none⟩,
    ⟨(some 9), .fa 5 (.t 8), none⟩,
    ⟨(some 10), .ld false 1 (.t 9), none⟩,
    ⟨(some 11), .bin .add (.t 10) (.c (.i .i64 1)), none⟩,
    ⟨(some 12), .nck (.t 7), none⟩,
    ⟨(some 13), .fa 5 (.t 12), none⟩,
    ⟨none, .st 1 (.t 13) (.t 11), none⟩])
  (.seq (.seq (.reg [⟨(some 14), .mv (.t 0), none⟩,
    ⟨(some 15), .nck (.t 14), none⟩,
    ⟨(some 16), .fa 5 (.t 15), none⟩,
    ⟨(some 17), .ld false 1 (.t 16), none⟩,
    ⟨(some 18), .bin .gtr (.t 17) (.c (.i .i64 8)), none⟩])
  (.cond (.t 18)
   (.seq (.reg [⟨(some 4), .mv (.c (.i .i64 61)), none⟩])
   .ret)
   .skip))
  (.seq (.reg [⟨(some 19), .mv (.t 0), none⟩,
    ⟨(some 20), .nck (.t 19), none⟩,
    ⟨(some 21), .fa 0 (.t 20), none⟩,
    ⟨(some 22), .ld false 1 (.t 21), none⟩,
    ⟨(some 23), .mv (.t 1), none⟩,
    ⟨(some 24), .inv [(28, f_ftree_Tree_Text)] (.t 22) [(.t 23)], none⟩,
    ⟨(some 5), .mv (.t 24), none⟩])
  (.seq (.seq (.reg [⟨(some 25), .mv (.t 0), none⟩,
    ⟨(some 26), .nck (.t 25), none⟩,
    ⟨(some 27), .fa 2 (.t 26), none⟩,
    ⟨(some 28), .ld false 1 (.t 27), none⟩,
    ⟨(some 29), .len 1 (.t 28), none⟩,
    ⟨(some 30), .bin .eql (.t 29) (.c (.i .i64 0)), none⟩])
  (.cond (.t 30)
   (.reg [⟨(some 31), .mv (.t 0), none⟩,
     ⟨(some 32), .mv (.t 0), none⟩,
     ⟨(some 33), .nck (.t 32), none⟩,
     ⟨(some 34), .fa 3 (.t 33), none⟩,
     ⟨(some 35), .ld false 1 (.t 34), none⟩,
     ⟨(some 36), .mv (.t 35), none⟩,
     ⟨(some 37), .mv (.t 5), (some (36, false))⟩,
     ⟨(some 38), .call f_path_Dir [(.t 37)], (some (36, false))⟩,
     ⟨(some 39), .pick (.t 36) (.c (.b true)) (.t 38), none⟩,
     ⟨(some 40), .nck (.t 31), none⟩,
     ⟨(some 41), .fa 3 (.t 40), none⟩,
     ⟨none, .st 1 (.t 41) (.t 39), none⟩])
   .skip))
  (.seq (.reg [⟨(some 42), .mv (.t 5), none⟩,
    ⟨(some 43), .call f_path_Steps [(.t 42)], none⟩,
    ⟨(some 6), .mv (.t 43), none⟩])
  (.seq (.regD [⟨(some 44), .mv (.t 0), none⟩,
    ⟨(some 45), .mv (.t 6), none⟩,
    ⟨(some 46), .mv (.t 6), none⟩,
    ⟨(some 47), .len 1 (.t 46), none⟩,
    ⟨(some 48), .mv (.t 6), none⟩,
    ⟨(some 49), .len 1 (.t 48), none⟩,
    ⟨(some 50), .slc false 1 (.t 45) none (some (.t 47)) (some (.t 49)), none⟩,
    ⟨(some 51), .mv (.t 0), none⟩,
    ⟨(some 52), .nck (.t 51), none⟩,
    ⟨(some 53), .fa 2 (.t 52), none⟩,
    ⟨(some 54), .ld false 1 (.t 53), none⟩,
    ⟨(some 55), .app 1 9 (.t 50) (.t 54), none⟩,
    ⟨(some 56), .nck (.t 44), none⟩,
    ⟨(some 57), .fa 2 (.t 56), none⟩,
    ⟨none, .st 1 (.t 57) (.t 55), none⟩] [])
  (.seq (.seq (.reg [⟨(some 58), .mv (.t 5), none⟩,
    ⟨(some 59), .call f_strings_HasPrefix [(.t 58), (.c (.s [47]))], none⟩])
  (.cond (.t 59)
   (.reg [⟨(some 60), .mv (.t 0), none⟩,
     ⟨(some 61), .nck (.t 60), none⟩,
     ⟨(some 62), .fa 1 (.t 61), none⟩,
     ⟨none, .st 1 (.t 62) (.c .nsl), none⟩])
   .skip))
  (.seq (.reg [⟨(some 4), .mv (.c (.i .i64 0)), none⟩])
  .ret))))))))) }
def c_cmp_Less_string : Fun := { cin := [.id, .id], cout := [.id], ntmps := 17, keep := false, res := [(4, none)], body :=
  (.seq (.reg [⟨(some 4), .mv (.c (.b false)), none⟩])
  (.seq (.reg [⟨(some 5), .mv (.t 0), none⟩,
    ⟨(some 6), .call f_cmp_isNaN_string [(.t 5)], none⟩,
    ⟨(some 7), .mv (.t 6), none⟩,
    ⟨(some 8), .mv (.t 1), (some (7, true))⟩,
    ⟨(some 9), .call f_cmp_isNaN_string [(.t 8)], (some (7, true))⟩,
    ⟨(some 10), .un .not (.t 9), (some (7, true))⟩,
    ⟨(some 11), .pick (.t 7) (.t 10) (.c (.b false)), none⟩,
    ⟨(some 12), .mv (.t 11), none⟩,
    ⟨(some 13), .mv (.t 0), (some (12, false))⟩,
    ⟨(some 14), .mv (.t 1), (some (12, false))⟩,
    ⟨(some 15), .bin .lss (.t 13) (.t 14), (some (12, false))⟩,
    ⟨(some 16), .pick (.t 12) (.c (.b true)) (.t 15), none⟩,
    ⟨(some 4), .mv (.t 16), none⟩])
  .ret)) }
def c_slices_isNaN_string : Fun := { cin := [.id], cout := [.id], ntmps := 6, keep := false, res := [(2, none)], body :=
  (.seq (.reg [⟨(some 2), .mv (.c (.b false)), none⟩])
  (.seq (.reg [⟨(some 3), .mv (.t 0), none⟩,
    ⟨(some 4), .mv (.t 0), none⟩,
    ⟨(some 5), .bin .neq (.t 3) (.t 4), none⟩,
    ⟨(some 2), .mv (.t 5), none⟩])
  .ret)) }
def c_strings_splitSeq_1 : Fun := { cin := [.id], cout := [], ntmps := 52, keep := false, res := [], body :=
  (.seq (.seq (.reg [⟨(some 9), .ld false 1 (.t 1), none⟩,
    ⟨(some 10), .len 0 (.t 9), none⟩,
    ⟨(some 11), .bin .eql (.t 10) (.c (.i .i64 0)), none⟩])
  (.cond (.t 11)
   (.seq (.blk 0 (.loop (.seq (.seq (.reg [⟨(some 12), .ld false 1 (.t 2), none⟩,
       ⟨(some 13), .len 0 (.t 12), none⟩,
       ⟨(some 14), .bin .gtr (.t 13) (.c (.i .i64 0)), none⟩])
     (.cond (.t 14)
      .skip
      (.exit 0)))
     (.blk 1 (.seq (.reg [⟨(some 16), .ld false 1 (.t 2), none⟩,
        ⟨(some 17), .call f_unicode_utf8_DecodeRuneInString [(.t 16)], none⟩,
        ⟨(some 15), .mv (.t 17), none⟩,
        ⟨(some 18), .ext (.t 15) 0, none⟩,
        ⟨(some 19), .ext (.t 15) 1, none⟩,
        ⟨(some 5), .mv (.t 18), none⟩,
        ⟨(some 6), .mv (.t 19), none⟩])
      (.seq (.seq (.reg [⟨(some 20), .mv (.t 0), none⟩,
        ⟨(some 21), .ld false 1 (.t 2), none⟩,
        ⟨(some 22), .mv (.t 6), none⟩,
        ⟨(some 23), .slS (.t 21) none (some (.t 22)), none⟩,
        ⟨(some 24), .callX (.t 20) [(.t 23)], none⟩,
        ⟨(some 25), .un .not (.t 24), none⟩])
      (.cond (.t 25)
       .ret
       .skip))
      (.reg [⟨(some 26), .ld false 1 (.t 2), none⟩,
        ⟨(some 27), .mv (.t 6), none⟩,
        ⟨(some 28), .slS (.t 26) (some (.t 27)) none, none⟩,
        ⟨none, .st 1 (.t 2) (.t 28), none⟩])))))))
   .ret)
   .skip))
  (.seq (.blk 2 (.loop (.blk 3 (.seq (.reg [⟨(some 29), .ld false 1 (.t 2), none⟩,
       ⟨(some 30), .ld false 1 (.t 1), none⟩,
       ⟨(some 31), .call f_strings_Index [(.t 29), (.t 30)], none⟩,
       ⟨(some 7), .mv (.t 31), none⟩])
     (.seq (.seq (.reg [⟨(some 32), .mv (.t 7), none⟩,
       ⟨(some 33), .bin .lss (.t 32) (.c (.i .i64 0)), none⟩])
     (.cond (.t 33)
      (.exit 2)
      .skip))
     (.seq (.reg [⟨(some 34), .ld false 1 (.t 2), none⟩,
       ⟨(some 35), .mv (.t 7), none⟩,
       ⟨(some 36), .ld false 1 (.t 3), none⟩,
       ⟨(some 37), .bin .add (.t 35) (.t 36), none⟩,
       ⟨(some 38), .slS (.t 34) none (some (.t 37)), none⟩,
       ⟨(some 8), .mv (.t 38), none⟩])
     (.seq (.seq (.reg [⟨(some 39), .mv (.t 0), none⟩,
       ⟨(some 40), .mv (.t 8), none⟩,
       ⟨(some 41), .callX (.t 39) [(.t 40)], none⟩,
       ⟨(some 42), .un .not (.t 41), none⟩])
     (.cond (.t 42)
      .ret
      .skip))
     (.reg [⟨(some 43), .ld false 1 (.t 2), none⟩,
       ⟨(some 44), .mv (.t 7), none⟩,
       ⟨(some 45), .ld false 1 (.t 1), none⟩,
       ⟨(some 46), .len 0 (.t 45), none⟩,
       ⟨(some 47), .bin .add (.t 44) (.t 46), none⟩,
       ⟨(some 48), .slS (.t 43) (some (.t 47)) none, none⟩,
       ⟨none, .st 1 (.t 2) (.t 48), none⟩]))))))))
  (.reg [⟨(some 49), .mv (.t 0), none⟩,
    ⟨(some 50), .ld false 1 (.t 2), none⟩,
    ⟨(some 51), .callX (.t 49) [(.t 50)], none⟩]))) }
def c_unicode_utf8_DecodeRuneInString : Fun := { cin := [.id], cout := [.id, .id], ntmps := 19, keep := false, res := [(2, none), (3, none)], body :=
  (.seq (.reg [⟨(some 2), .mv (.c (.i .i32 0)), none⟩,
    ⟨(some 3), .mv (.c (.i .i64 0)), none⟩])
  (.seq (.seq (.reg [⟨(some 4), .mv (.t 0), none⟩,
    ⟨(some 5), .bin .neq (.t 4) (.c (.s [])), none⟩,
    ⟨(some 6), .mv (.t 5), none⟩,
    ⟨(some 7), .mv (.t 0), (some (6, true))⟩,
    ⟨(some 8), .ixS (.t 7) (.c (.i .i64 0)), (some (6, true))⟩,
    ⟨(some 9), .bin .lss (.t 8) (.c (.i .u8 128)), (some (6, true))⟩,
    ⟨(some 10), .pick (.t 6) (.t 9) (.c (.b false)), none⟩])
  (.cond (.t 10)
   (.seq (.reg [⟨(some 11), .mv (.t 0), none⟩,
     ⟨(some 12), .ixS (.t 11) (.c (.i .i64 0)), none⟩,
     ⟨(some 13), .cvI .i32 (.t 12), none⟩,
     ⟨(some 2), .mv (.t 13), none⟩,
     ⟨(some 3), .mv (.c (.i .i64 1)), none⟩])
   .ret)
   (.reg [⟨(some 15), .mv (.t 0), none⟩,
     ⟨(some 16), .call f_unicode_utf8_decodeRuneInStringSlow [(.t 15)], none⟩,
     ⟨(some 14), .mv (.t 16), none⟩,
     ⟨(some 17), .ext (.t 14) 0, none⟩,
     ⟨(some 18), .ext (.t 14) 1, none⟩,
     ⟨(some 2), .mv (.t 17), none⟩,
     ⟨(some 3), .mv (.t 18), none⟩])))
  .ret)) }
def c_strings_Index : Fun := { cin := [.id, .id], cout := [.id], ntmps := 8, keep := false, res := [(4, none)], body :=
  (.seq (.reg [⟨(some 4), .mv (.c (.i .i64 0)), none⟩])
  (.seq (.reg [⟨(some 5), .mv (.t 0), none⟩,
    ⟨(some 6), .mv (.t 1), none⟩,
    ⟨(some 7), .call f_internal_stringslite_Index [(.t 5), (.t 6)], none⟩,
    ⟨(some 4), .mv (.t 7), none⟩])
  .ret)) }
def c_unicode_utf8_ValidRune : Fun := { cin := [.id], cout := [.id], ntmps := 17, keep := false, res := [(2, none)], body :=
  (.seq (.reg [⟨(some 2), .mv (.c (.b false)), none⟩])
  (.seq (.blk 0 (.seq (.reg [⟨(some 4), .mv (.t 0), none⟩,
     ⟨(some 5), .bin .leq (.c (.i .i32 0)) (.t 4), none⟩,
     ⟨(some 6), .mv (.t 5), none⟩,
     ⟨(some 7), .mv (.t 0), (some (6, true))⟩,
     ⟨(some 8), .bin .lss (.t 7) (.c (.i .i32 55296)), (some (6, true))⟩,
     ⟨(some 9), .pick (.t 6) (.t 8) (.c (.b false)), none⟩,
     ⟨(some 3), .mv (.t 9), none⟩])
   (.cond (.t 3)
    (.seq (.reg [⟨(some 2), .mv (.c (.b true)), none⟩])
    .ret)
    (.seq (.reg [⟨(some 11), .mv (.t 0), none⟩,
      ⟨(some 12), .bin .lss (.c (.i .i32 57343)) (.t 11), none⟩,
      ⟨(some 13), .mv (.t 12), none⟩,
      ⟨(some 14), .mv (.t 0), (some (13, true))⟩,
      ⟨(some 15), .bin .leq (.t 14) (.c (.i .i32 1114111)), (some (13, true))⟩,
      ⟨(some 16), .pick (.t 13) (.t 15) (.c (.b false)), none⟩,
      ⟨(some 10), .mv (.t 16), none⟩])
    (.cond (.t 10)
     (.seq (.reg [⟨(some 2), .mv (.c (.b true)), none⟩])
     .ret)
     .skip)))))
  (.seq (.reg [⟨(some 2), .mv (.c (.b false)), none⟩])
  .ret))) }
def c_internal_bytealg_Cutover : Fun := { cin := [.id], cout := [.id], ntmps := 6, keep := false, res := [(2, none)], body :=
  (.seq (.reg [⟨(some 2), .mv (.c (.i .i64 0)), none⟩])
  (.seq (.reg [⟨(some 3), .mv (.t 0), none⟩,
    ⟨(some 4), .bin .add (.t 3) (.c (.i .i64 16)), none⟩,
    ⟨(some 5), .bin .quo (.t 4) (.c (.i .i64 8)), none⟩,
    ⟨(some 2), .mv (.t 5), none⟩])
  .ret)) }
def c_strings_Contains : Fun := { cin := [.id, .id], cout := [.id], ntmps := 9, keep := false, res := [(4, none)], body :=
  (.seq (.reg [⟨(some 4), .mv (.c (.b false)), none⟩])
  (.seq (.reg [⟨(some 5), .mv (.t 0), none⟩,
    ⟨(some 6), .mv (.t 1), none⟩,
    ⟨(some 7), .call f_strings_Index [(.t 5), (.t 6)], none⟩,
    ⟨(some 8), .bin .geq (.t 7) (.c (.i .i64 0)), none⟩,
    ⟨(some 4), .mv (.t 8), none⟩])
  .ret)) }
def c_strings_HasPrefix : Fun := { cin := [.id, .id], cout := [.id], ntmps := 8, keep := false, res := [(4, none)], body :=
  (.seq (.reg [⟨(some 4), .mv (.c (.b false)), none⟩])
  (.seq (.reg [⟨(some 5), .mv (.t 0), none⟩,
    ⟨(some 6), .mv (.t 1), none⟩,
    ⟨(some 7), .call f_internal_stringslite_HasPrefix [(.t 5), (.t 6)], none⟩,
    ⟨(some 4), .mv (.t 7), none⟩])
  .ret)) }
def c_cmp_isNaN_string : Fun := { cin := [.id], cout := [.id], ntmps := 6, keep := false, res := [(2, none)], body :=
  (.seq (.reg [⟨(some 2), .mv (.c (.b false)), none⟩])
  (.seq (.reg [⟨(some 3), .mv (.t 0), none⟩,
    ⟨(some 4), .mv (.t 0), none⟩,
    ⟨(some 5), .bin .neq (.t 3) (.t 4), none⟩,
    ⟨(some 2), .mv (.t 5), none⟩])
  .ret)) }
def c_unicode_utf8_decodeRuneInStringSlow : Fun := { cin := [.id], cout := [.id, .id], ntmps := 117, keep := false, res := [(2, none), (3, none)], body :=
  (.seq (.reg [⟨(some 2), .mv (.c (.i .i32 0)), none⟩,
    ⟨(some 3), .mv (.c (.i .i64 0)), none⟩])
  (.seq (.reg [⟨(some 13), .mv (.t 0), none⟩,
    ⟨(some 14), .len 0 (.t 13), none⟩,
    ⟨(some 4), .mv (.t 14), none⟩])
  (.seq (.seq (.reg [⟨(some 15), .mv (.t 4), none⟩,
    ⟨(some 16), .bin .lss (.t 15) (.c (.i .i64 1)), none⟩])
  (.cond (.t 16)
   (.seq (.reg [⟨(some 2), .mv (.c (.i .i32 65533)), none⟩,
     ⟨(some 3), .mv (.c (.i .i64 0)), none⟩])
   .ret)
   .skip))
  (.seq (.reg [⟨(some 17), .mv (.t 0), none⟩,
    ⟨(some 18), .ixS (.t 17) (.c (.i .i64 0)), none⟩,
    ⟨(some 5), .mv (.t 18), none⟩])
  (.seq (.reg [⟨(some 19), .mv (.t 5), none⟩,
    ⟨(some 20), .bad, none⟩,
    ⟨(some 21), .ld false 1 (.t 20), none⟩,
    ⟨(some 6), .mv (.t 21), none⟩])
  (.seq (.seq (.reg [⟨(some 22), .mv (.t 6), none⟩,
    ⟨(some 23), .bin .geq (.t 22) (.c (.i .u8 240)), none⟩])
  (.cond (.t 23)
   (.seq (.reg [⟨(some 24), .mv (.t 6), none⟩,
     ⟨(some 25), .cvI .i32 (.t 24), none⟩,
     ⟨(some 26), .bin .shl (.t 25) (.c (.i .u64 31)), none⟩,
     ⟨(some 27), .bin .shr (.t 26) (.c (.i .u64 31)), none⟩,
     ⟨(some 7), .mv (.t 27), none⟩])
   (.seq (.reg [⟨(some 28), .mv (.t 0), none⟩,
     ⟨(some 29), .ixS (.t 28) (.c (.i .i64 0)), none⟩,
     ⟨(some 30), .cvI .i32 (.t 29), none⟩,
     ⟨(some 31), .mv (.t 7), none⟩,
     ⟨(some 32), .bin .andNot (.t 30) (.t 31), none⟩,
     ⟨(some 33), .mv (.t 7), none⟩,
     ⟨(some 34), .bin .and (.c (.i .i32 65533)) (.t 33), none⟩,
     ⟨(some 35), .bin .or (.t 32) (.t 34), none⟩,
     ⟨(some 2), .mv (.t 35), none⟩,
     ⟨(some 3), .mv (.c (.i .i64 1)), none⟩])
   .ret))
   .skip))
  (.seq (.reg [⟨(some 36), .mv (.t 6), none⟩,
    ⟨(some 37), .bin .and (.t 36) (.c (.i .u8 7)), none⟩,
    ⟨(some 38), .cvI .i64 (.t 37), none⟩,
    ⟨(some 8), .mv (.t 38), none⟩])
  (.seq (.reg [⟨(some 39), .mv (.t 6), none⟩,
    ⟨(some 40), .bin .shr (.t 39) (.c (.i .u64 4)), none⟩,
    ⟨(some 41), .bad, none⟩,
    ⟨(some 42), .ld true 2 (.t 41), none⟩,
    ⟨(some 9), .alloc 121 [(.i .u8 0), (.i .u8 0)], none⟩,
    ⟨none, .st 2 (.t 9) (.t 42), none⟩])
  (.seq (.seq (.reg [⟨(some 43), .mv (.t 4), none⟩,
    ⟨(some 44), .mv (.t 8), none⟩,
    ⟨(some 45), .bin .lss (.t 43) (.t 44), none⟩])
  (.cond (.t 45)
   (.seq (.reg [⟨(some 2), .mv (.c (.i .i32 65533)), none⟩,
     ⟨(some 3), .mv (.c (.i .i64 1)), none⟩])
   .ret)
   .skip))
  (.seq (.reg [⟨(some 46), .mv (.t 0), none⟩,
    ⟨(some 47), .ixS (.t 46) (.c (.i .i64 1)), none⟩,
    ⟨(some 10), .mv (.t 47), none⟩])
  (.seq (.seq (.reg [⟨(some 48), .mv (.t 10), none⟩,
    ⟨(some 49), .fa 0 (.t 9), none⟩,
    ⟨(some 50), .ld false 1 (.t 49), none⟩,
    ⟨(some 51), .bin .lss (.t 48) (.t 50), none⟩,
    ⟨(some 52), .mv (.t 51), none⟩,
    ⟨(some 53), .fa 1 (.t 9), (some (52, false))⟩,
    ⟨(some 54), .ld false 1 (.t 53), (some (52, false))⟩,
    ⟨(some 55), .mv (.t 10), (some (52, false))⟩,
    ⟨(some 56), .bin .lss (.t 54) (.t 55), (some (52, false))⟩,
    ⟨(some 57), .pick (.t 52) (.c (.b true)) (.t 56), none⟩])
  (.cond (.t 57)
   (.seq (.reg [⟨(some 2), .mv (.c (.i .i32 65533)), none⟩,
     ⟨(some 3), .mv (.c (.i .i64 1)), none⟩])
   .ret)
   .skip))
  (.seq (.seq (.reg [⟨(some 58), .mv (.t 8), none⟩,
    ⟨(some 59), .bin .leq (.t 58) (.c (.i .i64 2)), none⟩])
  (.cond (.t 59)
   (.seq (.reg [⟨(some 60), .mv (.t 5), none⟩,
     ⟨(some 61), .bin .and (.t 60) (.c (.i .u8 31)), none⟩,
     ⟨(some 62), .cvI .i32 (.t 61), none⟩,
     ⟨(some 63), .bin .shl (.t 62) (.c (.i .u64 6)), none⟩,
     ⟨(some 64), .mv (.t 10), none⟩,
     ⟨(some 65), .bin .and (.t 64) (.c (.i .u8 63)), none⟩,
     ⟨(some 66), .cvI .i32 (.t 65), none⟩,
     ⟨(some 67), .bin .or (.t 63) (.t 66), none⟩,
     ⟨(some 2), .mv (.t 67), none⟩,
     ⟨(some 3), .mv (.c (.i .i64 2)), none⟩])
   .ret)
   .skip))
  (.seq (.reg [⟨(some 68), .mv (.t 0), none⟩,
    ⟨(some 69), .ixS (.t 68) (.c (.i .i64 2)), none⟩,
    ⟨(some 11), .mv (.t 69), none⟩])
  (.seq (.seq (.reg [⟨(some 70), .mv (.t 11), none⟩,
    ⟨(some 71), .bin .lss (.t 70) (.c (.i .u8 128)), none⟩,
    ⟨(some 72), .mv (.t 71), none⟩,
    ⟨(some 73), .mv (.t 11), (some (72, false))⟩,
    ⟨(some 74), .bin .lss (.c (.i .u8 191)) (.t 73), (some (72, false))⟩,
    ⟨(some 75), .pick (.t 72) (.c (.b true)) (.t 74), none⟩])
  (.cond (.t 75)
   (.seq (.reg [⟨(some 2), .mv (.c (.i .i32 65533)), none⟩,
     ⟨(some 3), .mv (.c (.i .i64 1)), none⟩])
   .ret)
   .skip))
  (.seq (.seq (.reg [⟨(some 76), .mv (.t 8), none⟩,
    ⟨(some 77), .bin .leq (.t 76) (.c (.i .i64 3)), none⟩])
  (.cond (.t 77)
   (.seq (.reg [⟨(some 78), .mv (.t 5), none⟩,
     ⟨(some 79), .bin .and (.t 78) (.c (.i .u8 15)), none⟩,
     ⟨(some 80), .cvI .i32 (.t 79), none⟩,
     ⟨(some 81), .bin .shl (.t 80) (.c (.i .u64 12)), none⟩,
     ⟨(some 82), .mv (.t 10), none⟩,
     ⟨(some 83), .bin .and (.t 82) (.c (.i .u8 63)), none⟩,
     ⟨(some 84), .cvI .i32 (.t 83), none⟩,
     ⟨(some 85), .bin .shl (.t 84) (.c (.i .u64 6)), none⟩,
     ⟨(some 86), .bin .or (.t 81) (.t 85), none⟩,
     ⟨(some 87), .mv (.t 11), none⟩,
     ⟨(some 88), .bin .and (.t 87) (.c (.i .u8 63)), none⟩,
     ⟨(some 89), .cvI .i32 (.t 88), none⟩,
     ⟨(some 90), .bin .or (.t 86) (.t 89), none⟩,
     ⟨(some 2), .mv (.t 90), none⟩,
     ⟨(some 3), .mv (.c (.i .i64 3)), none⟩])
   .ret)
   .skip))
  (.seq (.reg [⟨(some 91), .mv (.t 0), none⟩,
    ⟨(some 92), .ixS (.t 91) (.c (.i .i64 3)), none⟩,
    ⟨(some 12), .mv (.t 92), none⟩])
  (.seq (.seq (.reg [⟨(some 93), .mv (.t 12), none⟩,
    ⟨(some 94), .bin .lss (.t 93) (.c (.i .u8 128)), none⟩,
    ⟨(some 95), .mv (.t 94), none⟩,
    ⟨(some 96), .mv (.t 12), (some (95, false))⟩,
    ⟨(some 97), .bin .lss (.c (.i .u8 191)) (.t 96), (some (95, false))⟩,
    ⟨(some 98), .pick (.t 95) (.c (.b true)) (.t 97), none⟩])
  (.cond (.t 98)
   (.seq (.reg [⟨(some 2), .mv (.c (.i .i32 65533)), none⟩,
     ⟨(some 3), .mv (.c (.i .i64 1)), none⟩])
   .ret)
   .skip))
  (.seq (.reg [⟨(some 99), .mv (.t 5), none⟩,
    ⟨(some 100), .bin .and (.t 99) (.c (.i .u8 7)), none⟩,
    ⟨(some 101), .cvI .i32 (.t 100), none⟩,
    ⟨(some 102), .bin .shl (.t 101) (.c (.i .u64 18)), none⟩,
    ⟨(some 103), .mv (.t 10), none⟩,
    ⟨(some 104), .bin .and (.t 103) (.c (.i .u8 63)), none⟩,
    ⟨(some 105), .cvI .i32 (.t 104), none⟩,
    ⟨(some 106), .bin .shl (.t 105) (.c (.i .u64 12)), none⟩,
    ⟨(some 107), .bin .or (.t 102) (.t 106), none⟩,
    ⟨(some 108), .mv (.t 11), none⟩,
    ⟨(some 109), .bin .and (.t 108) (.c (.i .u8 63)), none⟩,
    ⟨(some 110), .cvI .i32 (.t 109), none⟩,
    ⟨(some 111), .bin .shl (.t 110) (.c (.i .u64 6)), none⟩,
    ⟨(some 112), .bin .or (.t 107) (.t 111), none⟩,
    ⟨(some 113), .mv (.t 12), none⟩,
    ⟨(some 114), .bin .and (.t 113) (.c (.i .u8 63)), none⟩,
    ⟨(some 115), .cvI .i32 (.t 114), none⟩,
    ⟨(some 116), .bin .or (.t 112) (.t 115), none⟩,
    ⟨(some 2), .mv (.t 116), none⟩,
    ⟨(some 3), .mv (.c (.i .i64 4)), none⟩])
  .ret)))))))))))))))))) }
def c_internal_stringslite_Index : Fun := { cin := [.id, .id], cout := [.id], ntmps := 143, keep := false, res := [(4, none)], body :=
  (.seq (.reg [⟨(some 4), .mv (.c (.i .i64 0)), none⟩])
  (.seq (.reg [⟨(some 14), .mv (.t 1), none⟩,
    ⟨(some 15), .len 0 (.t 14), none⟩,
    ⟨(some 5), .mv (.t 15), none⟩])
  (.seq (.blk 0 (.seq (.reg [⟨(some 17), .mv (.t 5), none⟩,
     ⟨(some 18), .bin .eql (.t 17) (.c (.i .i64 0)), none⟩,
     ⟨(some 19), .mv (.t 18), none⟩,
     ⟨(some 20), .mv (.t 1), (some (19, false))⟩,
     ⟨(some 21), .mv (.t 0), (some (19, false))⟩,
     ⟨(some 22), .bin .eql (.t 20) (.t 21), (some (19, false))⟩,
     ⟨(some 23), .pick (.t 19) (.c (.b true)) (.t 22), none⟩,
     ⟨(some 16), .mv (.t 23), none⟩])
   (.cond (.t 16)
    (.seq (.reg [⟨(some 4), .mv (.c (.i .i64 0)), none⟩])
    .ret)
    (.seq (.reg [⟨(some 25), .mv (.t 5), none⟩,
      ⟨(some 26), .bin .eql (.t 25) (.c (.i .i64 1)), none⟩,
      ⟨(some 24), .mv (.t 26), none⟩])
    (.cond (.t 24)
     (.seq (.reg [⟨(some 27), .mv (.t 0), none⟩,
       ⟨(some 28), .mv (.t 1), none⟩,
       ⟨(some 29), .ixS (.t 28) (.c (.i .i64 0)), none⟩,
       ⟨(some 30), .call f_internal_stringslite_IndexByte [(.t 27), (.t 29)], none⟩,
       ⟨(some 4), .mv (.t 30), none⟩])
     .ret)
     (.seq (.reg [⟨(some 32), .mv (.t 5), none⟩,
       ⟨(some 33), .mv (.t 0), none⟩,
       ⟨(some 34), .len 0 (.t 33), none⟩,
       ⟨(some 35), .bin .geq (.t 32) (.t 34), none⟩,
       ⟨(some 31), .mv (.t 35), none⟩])
     (.cond (.t 31)
      (.seq (.reg [⟨(some 4), .mv (.c (.i .i64 (-1))), none⟩])
      .ret)
      (.seq (.reg [⟨(some 37), .mv (.t 5), none⟩,
        ⟨(some 38), .bad, none⟩,
        ⟨(some 39), .bin .leq (.t 37) (.t 38), none⟩,
        ⟨(some 40), .mv (.t 39), none⟩,
        ⟨(some 41), .mv (.t 0), (some (40, true))⟩,
        ⟨(some 42), .len 0 (.t 41), (some (40, true))⟩,
        ⟨(some 43), .bin .leq (.t 42) (.c (.i .i64 64)), (some (40, true))⟩,
        ⟨(some 44), .pick (.t 40) (.t 43) (.c (.b false)), none⟩,
        ⟨(some 36), .mv (.t 44), none⟩])
      (.cond (.t 36)
       (.seq (.reg [⟨(some 45), .mv (.t 0), none⟩,
         ⟨(some 46), .mv (.t 1), none⟩,
         ⟨(some 47), .bad, none⟩,
         ⟨(some 4), .mv (.t 47), none⟩])
       .ret)
       .skip)))))))))
  (.seq (.reg [⟨(some 48), .mv (.t 1), none⟩,
    ⟨(some 49), .ixS (.t 48) (.c (.i .i64 0)), none⟩,
    ⟨(some 6), .mv (.t 49), none⟩])
  (.seq (.reg [⟨(some 50), .mv (.t 1), none⟩,
    ⟨(some 51), .ixS (.t 50) (.c (.i .i64 1)), none⟩,
    ⟨(some 7), .mv (.t 51), none⟩])
  (.seq (.reg [⟨(some 8), .mv (.c (.i .i64 0)), none⟩])
  (.seq (.reg [⟨(some 52), .mv (.t 0), none⟩,
    ⟨(some 53), .len 0 (.t 52), none⟩,
    ⟨(some 54), .mv (.t 5), none⟩,
    ⟨(some 55), .bin .sub (.t 53) (.t 54), none⟩,
    ⟨(some 56), .bin .add (.t 55) (.c (.i .i64 1)), none⟩,
    ⟨(some 9), .mv (.t 56), none⟩])
  (.seq (.reg [⟨(some 10), .mv (.c (.i .i64 0)), none⟩])
  (.seq (.blk 1 (.loop (.seq (.seq (.reg [⟨(some 57), .mv (.t 8), none⟩,
      ⟨(some 58), .mv (.t 9), none⟩,
      ⟨(some 59), .bin .lss (.t 57) (.t 58), none⟩])
    (.cond (.t 59)
     .skip
     (.exit 1)))
    (.blk 2 (.seq (.seq (.reg [⟨(some 60), .mv (.t 0), none⟩,
       ⟨(some 61), .mv (.t 8), none⟩,
       ⟨(some 62), .ixS (.t 60) (.t 61), none⟩,
       ⟨(some 63), .mv (.t 6), none⟩,
       ⟨(some 64), .bin .neq (.t 62) (.t 63), none⟩])
     (.cond (.t 64)
      (.seq (.reg [⟨(some 65), .mv (.t 0), none⟩,
        ⟨(some 66), .mv (.t 8), none⟩,
        ⟨(some 67), .bin .add (.t 66) (.c (.i .i64 1)), none⟩,
        ⟨(some 68), .mv (.t 9), none⟩,
        ⟨(some 69), .slS (.t 65) (some (.t 67)) (some (.t 68)), none⟩,
        ⟨(some 70), .mv (.t 6), none⟩,
        ⟨(some 71), .call f_internal_stringslite_IndexByte [(.t 69), (.t 70)], none⟩,
        ⟨(some 11), .mv (.t 71), none⟩])
      (.seq (.seq (.reg [⟨(some 72), .mv (.t 11), none⟩,
        ⟨(some 73), .bin .lss (.t 72) (.c (.i .i64 0)), none⟩])
      (.cond (.t 73)
       (.seq (.reg [⟨(some 4), .mv (.c (.i .i64 (-1))), none⟩])
       .ret)
       .skip))
      (.reg [⟨(some 74), .mv (.t 8), none⟩,
        ⟨(some 75), .mv (.t 11), none⟩,
        ⟨(some 76), .bin .add (.t 75) (.c (.i .i64 1)), none⟩,
        ⟨(some 77), .bin .add (.t 74) (.t 76), none⟩,
        ⟨(some 8), .mv (.t 77), none⟩])))
      .skip))
     (.seq (.seq (.reg [⟨(some 78), .mv (.t 0), none⟩,
       ⟨(some 79), .mv (.t 8), none⟩,
       ⟨(some 80), .bin .add (.t 79) (.c (.i .i64 1)), none⟩,
       ⟨(some 81), .ixS (.t 78) (.t 80), none⟩,
       ⟨(some 82), .mv (.t 7), none⟩,
       ⟨(some 83), .bin .eql (.t 81) (.t 82), none⟩,
       ⟨(some 84), .mv (.t 83), none⟩,
       ⟨(some 85), .mv (.t 0), (some (84, true))⟩,
       ⟨(some 86), .mv (.t 8), (some (84, true))⟩,
       ⟨(some 87), .mv (.t 8), (some (84, true))⟩,
       ⟨(some 88), .mv (.t 5), (some (84, true))⟩,
       ⟨(some 89), .bin .add (.t 87) (.t 88), (some (84, true))⟩,
       ⟨(some 90), .slS (.t 85) (some (.t 86)) (some (.t 89)), (some (84, true))⟩,
       ⟨(some 91), .mv (.t 1), (some (84, true))⟩,
       ⟨(some 92), .bin .eql (.t 90) (.t 91), (some (84, true))⟩,
       ⟨(some 93), .pick (.t 84) (.t 92) (.c (.b false)), none⟩])
     (.cond (.t 93)
      (.seq (.reg [⟨(some 94), .mv (.t 8), none⟩,
        ⟨(some 4), .mv (.t 94), none⟩])
      .ret)
      .skip))
     (.seq (.reg [⟨(some 95), .mv (.t 8), none⟩,
       ⟨(some 96), .bin .add (.t 95) (.c (.i .i64 1)), none⟩,
       ⟨(some 8), .mv (.t 96), none⟩])
     (.seq (.reg [⟨(some 97), .mv (.t 10), none⟩,
       ⟨(some 98), .bin .add (.t 97) (.c (.i .i64 1)), none⟩,
       ⟨(some 10), .mv (.t 98), none⟩])
     (.seq (.reg [⟨(some 99), .mv (.t 5), none⟩,
       ⟨(some 100), .bad, none⟩,
       ⟨(some 101), .bin .leq (.t 99) (.t 100), none⟩,
       ⟨(some 102), .mv (.t 101), none⟩,
       ⟨(some 103), .mv (.t 10), (some (102, true))⟩,
       ⟨(some 104), .mv (.t 8), (some (102, true))⟩,
       ⟨(some 105), .call f_internal_bytealg_Cutover [(.t 104)], (some (102, true))⟩,
       ⟨(some 106), .bin .gtr (.t 103) (.t 105), (some (102, true))⟩,
       ⟨(some 107), .pick (.t 102) (.t 106) (.c (.b false)), none⟩])
     (.cond (.t 107)
      (.seq (.reg [⟨(some 108), .mv (.t 0), none⟩,
        ⟨(some 109), .mv (.t 8), none⟩,
        ⟨(some 110), .slS (.t 108) (some (.t 109)) none, none⟩,
        ⟨(some 111), .mv (.t 1), none⟩,
        ⟨(some 112), .bad, none⟩,
        ⟨(some 12), .mv (.t 112), none⟩])
      (.seq (.seq (.reg [⟨(some 113), .mv (.t 12), none⟩,
        ⟨(some 114), .bin .geq (.t 113) (.c (.i .i64 0)), none⟩])
      (.cond (.t 114)
       (.seq (.reg [⟨(some 115), .mv (.t 12), none⟩,
         ⟨(some 116), .mv (.t 8), none⟩,
         ⟨(some 117), .bin .add (.t 115) (.t 116), none⟩,
         ⟨(some 4), .mv (.t 117), none⟩])
       .ret)
       .skip))
      (.seq (.reg [⟨(some 4), .mv (.c (.i .i64 (-1))), none⟩])
      .ret)))
      (.seq (.reg [⟨(some 118), .mv (.t 5), none⟩,
        ⟨(some 119), .bad, none⟩,
        ⟨(some 120), .bin .gtr (.t 118) (.t 119), none⟩,
        ⟨(some 121), .mv (.t 120), none⟩,
        ⟨(some 122), .mv (.t 10), (some (121, true))⟩,
        ⟨(some 123), .mv (.t 8), (some (121, true))⟩,
        ⟨(some 124), .bin .shr (.t 123) (.c (.i .u64 4)), (some (121, true))⟩,
        ⟨(some 125), .bin .add (.c (.i .i64 4)) (.t 124), (some (121, true))⟩,
        ⟨(some 126), .bin .geq (.t 122) (.t 125), (some (121, true))⟩,
        ⟨(some 127), .pick (.t 121) (.t 126) (.c (.b false)), none⟩,
        ⟨(some 128), .mv (.t 127), none⟩,
        ⟨(some 129), .mv (.t 8), (some (128, true))⟩,
        ⟨(some 130), .mv (.t 9), (some (128, true))⟩,
        ⟨(some 131), .bin .lss (.t 129) (.t 130), (some (128, true))⟩,
        ⟨(some 132), .pick (.t 128) (.t 131) (.c (.b false)), none⟩])
      (.cond (.t 132)
       (.seq (.reg [⟨(some 133), .mv (.t 0), none⟩,
         ⟨(some 134), .mv (.t 8), none⟩,
         ⟨(some 135), .slS (.t 133) (some (.t 134)) none, none⟩,
         ⟨(some 136), .mv (.t 1), none⟩,
         ⟨(some 137), .call f_internal_bytealg_IndexRabinKarp_string [(.t 135), (.t 136)], none⟩,
         ⟨(some 13), .mv (.t 137), none⟩])
       (.seq (.seq (.reg [⟨(some 138), .mv (.t 13), none⟩,
         ⟨(some 139), .bin .lss (.t 138) (.c (.i .i64 0)), none⟩])
       (.cond (.t 139)
        (.seq (.reg [⟨(some 4), .mv (.c (.i .i64 (-1))), none⟩])
        .ret)
        .skip))
       (.seq (.reg [⟨(some 140), .mv (.t 8), none⟩,
         ⟨(some 141), .mv (.t 13), none⟩,
         ⟨(some 142), .bin .add (.t 140) (.t 141), none⟩,
         ⟨(some 4), .mv (.t 142), none⟩])
       .ret)))
       .skip))))))))))))
  (.seq (.reg [⟨(some 4), .mv (.c (.i .i64 (-1))), none⟩])
  .ret)))))))))) }
def c_internal_stringslite_HasPrefix : Fun := { cin := [.id, .id], cout := [.id], ntmps := 18, keep := false, res := [(4, none)], body :=
  (.seq (.reg [⟨(some 4), .mv (.c (.b false)), none⟩])
  (.seq (.reg [⟨(some 5), .mv (.t 0), none⟩,
    ⟨(some 6), .len 0 (.t 5), none⟩,
    ⟨(some 7), .mv (.t 1), none⟩,
    ⟨(some 8), .len 0 (.t 7), none⟩,
    ⟨(some 9), .bin .geq (.t 6) (.t 8), none⟩,
    ⟨(some 10), .mv (.t 9), none⟩,
    ⟨(some 11), .mv (.t 0), (some (10, true))⟩,
    ⟨(some 12), .mv (.t 1), (some (10, true))⟩,
    ⟨(some 13), .len 0 (.t 12), (some (10, true))⟩,
    ⟨(some 14), .slS (.t 11) none (some (.t 13)), (some (10, true))⟩,
    ⟨(some 15), .mv (.t 1), (some (10, true))⟩,
    ⟨(some 16), .bin .eql (.t 14) (.t 15), (some (10, true))⟩,
    ⟨(some 17), .pick (.t 10) (.t 16) (.c (.b false)), none⟩,
    ⟨(some 4), .mv (.t 17), none⟩])
  .ret)) }
def c_internal_bytealg_IndexRabinKarp_string : Fun := { cin := [.id, .id], cout := [.id], ntmps := 81, keep := false, res := [(4, none)], body :=
  (.seq (.reg [⟨(some 4), .mv (.c (.i .i64 0)), none⟩])
  (.seq (.reg [⟨(some 12), .mv (.t 1), none⟩,
    ⟨(some 13), .call f_internal_bytealg_hashStr_string [(.t 12)], none⟩,
    ⟨(some 11), .mv (.t 13), none⟩,
    ⟨(some 14), .ext (.t 11) 0, none⟩,
    ⟨(some 15), .ext (.t 11) 1, none⟩,
    ⟨(some 5), .mv (.t 14), none⟩,
    ⟨(some 6), .mv (.t 15), none⟩])
  (.seq (.reg [⟨(some 16), .mv (.t 1), none⟩,
    ⟨(some 17), .len 0 (.t 16), none⟩,
    ⟨(some 7), .mv (.t 17), none⟩])
  (.seq (.reg [⟨(some 8), .mv (.c (.i .u32 0)), none⟩])
  (.seq (.seq (.reg [⟨(some 9), .mv (.c (.i .i64 0)), none⟩])
  (.blk 0 (.loop (.seq (.seq (.reg [⟨(some 18), .mv (.t 9), none⟩,
      ⟨(some 19), .mv (.t 7), none⟩,
      ⟨(some 20), .bin .lss (.t 18) (.t 19), none⟩])
    (.cond (.t 20)
     .skip
     (.exit 0)))
    (.seq (.blk 1 (.reg [⟨(some 23), .mv (.t 8), none⟩,
       ⟨(some 24), .bin .mul (.t 23) (.c (.i .u32 16777619)), none⟩,
       ⟨(some 25), .mv (.t 0), none⟩,
       ⟨(some 26), .mv (.t 9), none⟩,
       ⟨(some 27), .ixS (.t 25) (.t 26), none⟩,
       ⟨(some 28), .cvI .u32 (.t 27), none⟩,
       ⟨(some 29), .bin .add (.t 24) (.t 28), none⟩,
       ⟨(some 8), .mv (.t 29), none⟩]))
    (.reg [⟨(some 21), .mv (.t 9), none⟩,
      ⟨(some 22), .bin .add (.t 21) (.c (.i .i64 1)), none⟩,
      ⟨(some 9), .mv (.t 22), none⟩]))))))
  (.seq (.seq (.reg [⟨(some 30), .mv (.t 8), none⟩,
    ⟨(some 31), .mv (.t 5), none⟩,
    ⟨(some 32), .bin .eql (.t 30) (.t 31), none⟩,
    ⟨(some 33), .mv (.t 32), none⟩,
    ⟨(some 34), .mv (.t 0), (some (33, true))⟩,
    ⟨(some 35), .mv (.t 7), (some (33, true))⟩,
    ⟨(some 36), .slS (.t 34) none (some (.t 35)), (some (33, true))⟩,
    ⟨(some 37), .mv (.t 1), (some (33, true))⟩,
    ⟨(some 38), .bin .eql (.t 36) (.t 37), (some (33, true))⟩,
    ⟨(some 39), .pick (.t 33) (.t 38) (.c (.b false)), none⟩])
  (.cond (.t 39)
   (.seq (.reg [⟨(some 4), .mv (.c (.i .i64 0)), none⟩])
   .ret)
   .skip))
  (.seq (.seq (.reg [⟨(some 40), .mv (.t 7), none⟩,
    ⟨(some 10), .mv (.t 40), none⟩])
  (.blk 2 (.loop (.seq (.seq (.reg [⟨(some 41), .mv (.t 10), none⟩,
      ⟨(some 42), .mv (.t 0), none⟩,
      ⟨(some 43), .len 0 (.t 42), none⟩,
      ⟨(some 44), .bin .lss (.t 41) (.t 43), none⟩])
    (.cond (.t 44)
     .skip
     (.exit 2)))
    (.blk 3 (.seq (.reg [⟨(some 45), .mv (.t 8), none⟩,
       ⟨(some 46), .bin .mul (.t 45) (.c (.i .u32 16777619)), none⟩,
       ⟨(some 8), .mv (.t 46), none⟩])
     (.seq (.reg [⟨(some 47), .mv (.t 8), none⟩,
       ⟨(some 48), .mv (.t 0), none⟩,
       ⟨(some 49), .mv (.t 10), none⟩,
       ⟨(some 50), .ixS (.t 48) (.t 49), none⟩,
       ⟨(some 51), .cvI .u32 (.t 50), none⟩,
       ⟨(some 52), .bin .add (.t 47) (.t 51), none⟩,
       ⟨(some 8), .mv (.t 52), none⟩])
     (.seq (.reg [⟨(some 53), .mv (.t 8), none⟩,
       ⟨(some 54), .mv (.t 6), none⟩,
       ⟨(some 55), .mv (.t 0), none⟩,
       ⟨(some 56), .mv (.t 10), none⟩,
       ⟨(some 57), .mv (.t 7), none⟩,
       ⟨(some 58), .bin .sub (.t 56) (.t 57), none⟩,
       ⟨(some 59), .ixS (.t 55) (.t 58), none⟩,
       ⟨(some 60), .cvI .u32 (.t 59), none⟩,
       ⟨(some 61), .bin .mul (.t 54) (.t 60), none⟩,
       ⟨(some 62), .bin .sub (.t 53) (.t 61), none⟩,
       ⟨(some 8), .mv (.t 62), none⟩])
     (.seq (.reg [⟨(some 63), .mv (.t 10), none⟩,
       ⟨(some 64), .bin .add (.t 63) (.c (.i .i64 1)), none⟩,
       ⟨(some 10), .mv (.t 64), none⟩])
     (.seq (.reg [⟨(some 65), .mv (.t 8), none⟩,
       ⟨(some 66), .mv (.t 5), none⟩,
       ⟨(some 67), .bin .eql (.t 65) (.t 66), none⟩,
       ⟨(some 68), .mv (.t 67), none⟩,
       ⟨(some 69), .mv (.t 0), (some (68, true))⟩,
       ⟨(some 70), .mv (.t 10), (some (68, true))⟩,
       ⟨(some 71), .mv (.t 7), (some (68, true))⟩,
       ⟨(some 72), .bin .sub (.t 70) (.t 71), (some (68, true))⟩,
       ⟨(some 73), .mv (.t 10), (some (68, true))⟩,
       ⟨(some 74), .slS (.t 69) (some (.t 72)) (some (.t 73)), (some (68, true))⟩,
       ⟨(some 75), .mv (.t 1), (some (68, true))⟩,
       ⟨(some 76), .bin .eql (.t 74) (.t 75), (some (68, true))⟩,
       ⟨(some 77), .pick (.t 68) (.t 76) (.c (.b false)), none⟩])
     (.cond (.t 77)
      (.seq (.reg [⟨(some 78), .mv (.t 10), none⟩,
        ⟨(some 79), .mv (.t 7), none⟩,
        ⟨(some 80), .bin .sub (.t 78) (.t 79), none⟩,
        ⟨(some 4), .mv (.t 80), none⟩])
      .ret)
      .skip)))))))))))
  (.seq (.reg [⟨(some 4), .mv (.c (.i .i64 (-1))), none⟩])
  .ret)))))))) }
def c_internal_bytealg_hashStr_string : Fun := { cin := [.id], cout := [.id, .id], ntmps := 39, keep := false, res := [(2, none), (3, none)], body :=
  (.seq (.reg [⟨(some 2), .mv (.c (.i .u32 0)), none⟩,
    ⟨(some 3), .mv (.c (.i .u32 0)), none⟩])
  (.seq (.reg [⟨(some 4), .mv (.c (.i .u32 0)), none⟩])
  (.seq (.seq (.reg [⟨(some 5), .mv (.c (.i .i64 0)), none⟩])
  (.blk 0 (.loop (.seq (.seq (.reg [⟨(some 9), .mv (.t 5), none⟩,
      ⟨(some 10), .mv (.t 0), none⟩,
      ⟨(some 11), .len 0 (.t 10), none⟩,
      ⟨(some 12), .bin .lss (.t 9) (.t 11), none⟩])
    (.cond (.t 12)
     .skip
     (.exit 0)))
    (.seq (.blk 1 (.reg [⟨(some 15), .mv (.t 4), none⟩,
       ⟨(some 16), .bin .mul (.t 15) (.c (.i .u32 16777619)), none⟩,
       ⟨(some 17), .mv (.t 0), none⟩,
       ⟨(some 18), .mv (.t 5), none⟩,
       ⟨(some 19), .ixS (.t 17) (.t 18), none⟩,
       ⟨(some 20), .cvI .u32 (.t 19), none⟩,
       ⟨(some 21), .bin .add (.t 16) (.t 20), none⟩,
       ⟨(some 4), .mv (.t 21), none⟩]))
    (.reg [⟨(some 13), .mv (.t 5), none⟩,
      ⟨(some 14), .bin .add (.t 13) (.c (.i .i64 1)), none⟩,
      ⟨(some 5), .mv (.t 14), none⟩]))))))
  (.seq (.reg [⟨(some 6), .mv (.c (.i .u32 1)), none⟩,
    ⟨(some 7), .mv (.c (.i .u32 16777619)), none⟩])
  (.seq (.seq (.reg [⟨(some 22), .mv (.t 0), none⟩,
    ⟨(some 23), .len 0 (.t 22), none⟩,
    ⟨(some 8), .mv (.t 23), none⟩])
  (.blk 2 (.loop (.seq (.seq (.reg [⟨(some 24), .mv (.t 8), none⟩,
      ⟨(some 25), .bin .gtr (.t 24) (.c (.i .i64 0)), none⟩])
    (.cond (.t 25)
     .skip
     (.exit 2)))
    (.seq (.blk 3 (.seq (.seq (.reg [⟨(some 28), .mv (.t 8), none⟩,
       ⟨(some 29), .bin .and (.t 28) (.c (.i .i64 1)), none⟩,
       ⟨(some 30), .bin .neq (.t 29) (.c (.i .i64 0)), none⟩])
     (.cond (.t 30)
      (.reg [⟨(some 31), .mv (.t 6), none⟩,
        ⟨(some 32), .mv (.t 7), none⟩,
        ⟨(some 33), .bin .mul (.t 31) (.t 32), none⟩,
        ⟨(some 6), .mv (.t 33), none⟩])
      .skip))
     (.reg [⟨(some 34), .mv (.t 7), none⟩,
       ⟨(some 35), .mv (.t 7), none⟩,
       ⟨(some 36), .bin .mul (.t 34) (.t 35), none⟩,
       ⟨(some 7), .mv (.t 36), none⟩])))
    (.reg [⟨(some 26), .mv (.t 8), none⟩,
      ⟨(some 27), .bin .shr (.t 26) (.c (.i .u64 1)), none⟩,
      ⟨(some 8), .mv (.t 27), none⟩]))))))
  (.seq (.reg [⟨(some 37), .mv (.t 4), none⟩,
    ⟨(some 38), .mv (.t 6), none⟩,
    ⟨(some 2), .mv (.t 37), none⟩,
    ⟨(some 3), .mv (.t 38), none⟩])
  .ret)))))) }
def c_ftree_Tree_Text : Fun := { cin := [.id, (.sl 1 .id)], cout := [.id], ntmps := 9, keep := false, res := [(4, none)], body :=
  (.seq (.reg [⟨(some 4), .mv (.c (.s [])), none⟩])
  (.seq (.reg [⟨(some 5), .mv (.t 0), none⟩,
    ⟨(some 6), .mv (.t 1), none⟩,
    ⟨(some 7), .call f_ftree_Tree_at [(.t 5), (.t 6)], none⟩,
    ⟨(some 8), .fld false 1 1 (.t 7), none⟩,
    ⟨(some 4), .mv (.t 8), none⟩])
  .ret)) }
def tab : PT := (.n 62 c_probe_asks_3 (.n 41 c_ftree_Well (.n 29 c_ftree_May (.n 13 c_ftree_Tree_Kind (.n 9 c_walk_Find (.n 8 c_ftree_New (.n 4 c_touchstonelaw14_ProbeNot .e .e) .e) (.n 10 c_walk_Spot .e .e)) (.n 18 c_touchstonelaw14_awake (.n 17 c_touchstonelaw14_long (.n 16 c_path_Name .e .e) .e) (.n 19 c_probe_Holds .e .e))) (.n 36 c_strings_ContainsAny (.n 34 c_ftree_Tree_at (.n 31 c_walk_walk (.n 30 c_ftree_own .e .e) .e) (.n 35 c_path_steps .e .e)) (.n 38 c_touchstoneref07_Nodes (.n 37 c_touchstoneref07_May .e .e) (.n 40 c_probe_asks .e .e)))) (.n 53 c_strings_SplitSeq (.n 46 c_path_Dir (.n 44 c_slices_Clone_string_string (.n 43 c_ftree_depth (.n 42 c_ftree_Nodes .e .e) .e) (.n 45 c_path_Steps .e .e)) (.n 51 c_ftree_find (.n 47 c_walk_walker_run .e .e) (.n 52 c_path_steps_1 .e .e))) (.n 58 c_probe_asks_1_1 (.n 56 c_touchstoneref07_deep (.n 55 c_touchstoneref07_Well (.n 54 c_strings_IndexAny .e .e) .e) (.n 57 c_probe_asks_1 .e .e)) (.n 60 c_probe_asks_2 (.n 59 c_probe_kind .e .e) (.n 61 c_probe_asks_2_1 .e .e))))) (.n 83 c_walk_walker_below (.n 74 c_strings_shouldUseASCIISet (.n 67 c_strings_LastIndexByte (.n 65 c_strings_IndexByte (.n 64 c_probe_asks_5 (.n 63 c_probe_asks_4 .e .e) .e) (.n 66 c_slices_Collect_string .e .e)) (.n 72 c_strings_splitSeq (.n 71 c_slices_BinarySearch_string_string (.n 68 c_walk_walker_name .e .e) .e) (.n 73 c_strings_IndexRune .e .e))) (.n 79 c_path_Check (.n 77 c_touchstoneref07_text (.n 76 c_strings_asciiSet_contains (.n 75 c_strings_makeASCIISet .e .e) .e) (.n 78 c_touchstoneref06_Name .e .e)) (.n 81 c_slices_AppendSeq_string_string (.n 80 c_internal_stringslite_IndexByte .e .e) (.n 82 c_internal_bytealg_LastIndexByteString .e .e)))) (.n 95 c_strings_Contains (.n 90 c_unicode_utf8_DecodeRuneInString (.n 88 c_slices_isNaN_string (.n 87 c_cmp_Less_string (.n 84 c_walk_walker_follow .e .e) .e) (.n 89 c_strings_splitSeq_1 .e .e)) (.n 92 c_unicode_utf8_ValidRune (.n 91 c_strings_Index .e .e) (.n 93 c_internal_bytealg_Cutover .e .e))) (.n 101 c_internal_stringslite_HasPrefix (.n 99 c_unicode_utf8_decodeRuneInStringSlow (.n 98 c_cmp_isNaN_string (.n 97 c_strings_HasPrefix .e .e) .e) (.n 100 c_internal_stringslite_Index .e .e)) (.n 103 c_internal_bytealg_hashStr_string (.n 102 c_internal_bytealg_IndexRabinKarp_string .e .e) (.n 121 c_ftree_Tree_Text .e .e))))))
def prog (n : Nat) : Option Fun := tab.get n
def tabC : PT := (.n 63 c_probe_asks_4 (.n 41 c_ftree_Well (.n 29 c_ftree_May (.n 16 c_path_Name (.n 10 c_walk_Spot (.n 9 c_walk_Find (.n 8 c_ftree_New .e .e) .e) (.n 13 c_ftree_Tree_Kind .e .e)) (.n 19 c_probe_Holds (.n 18 cR_touchstonelaw14_awake .e .e) (.n 20 c_probe_Run .e .e))) (.n 35 c_path_steps (.n 32 c_strings_Join (.n 31 c_walk_walk (.n 30 c_ftree_own .e .e) .e) (.n 34 c_ftree_Tree_at .e .e)) (.n 39 c_touchstonelaw14_example (.n 36 c_strings_ContainsAny .e .e) (.n 40 c_probe_asks .e .e)))) (.n 53 c_strings_SplitSeq (.n 46 c_path_Dir (.n 44 c_slices_Clone_string_string (.n 43 c_ftree_depth (.n 42 c_ftree_Nodes .e .e) .e) (.n 45 c_path_Steps .e .e)) (.n 51 c_ftree_find (.n 47 c_walk_walker_run .e .e) (.n 52 c_path_steps_1 .e .e))) (.n 59 c_probe_kind (.n 57 c_probe_asks_1 (.n 54 c_strings_IndexAny .e .e) (.n 58 c_probe_asks_1_1 .e .e)) (.n 61 c_probe_asks_2_1 (.n 60 c_probe_asks_2 .e .e) (.n 62 c_probe_asks_3 .e .e))))) (.n 84 c_walk_walker_follow (.n 74 c_strings_shouldUseASCIISet (.n 68 c_walk_walker_name (.n 66 c_slices_Collect_string (.n 65 c_strings_IndexByte (.n 64 c_probe_asks_5 .e .e) .e) (.n 67 c_strings_LastIndexByte .e .e)) (.n 72 c_strings_splitSeq (.n 71 c_slices_BinarySearch_string_string .e .e) (.n 73 c_strings_IndexRune .e .e))) (.n 80 c_internal_stringslite_IndexByte (.n 76 c_strings_asciiSet_contains (.n 75 c_strings_makeASCIISet .e .e) (.n 79 c_path_Check .e .e)) (.n 82 c_internal_bytealg_LastIndexByteString (.n 81 c_slices_AppendSeq_string_string .e .e) (.n 83 c_walk_walker_below .e .e)))) (.n 97 c_strings_HasPrefix (.n 91 c_strings_Index (.n 89 c_strings_splitSeq_1 (.n 88 c_slices_isNaN_string (.n 87 c_cmp_Less_string .e .e) .e) (.n 90 c_unicode_utf8_DecodeRuneInString .e .e)) (.n 93 c_internal_bytealg_Cutover (.n 92 c_unicode_utf8_ValidRune .e .e) (.n 95 c_strings_Contains .e .e))) (.n 101 c_internal_stringslite_HasPrefix (.n 99 c_unicode_utf8_decodeRuneInStringSlow (.n 98 c_cmp_isNaN_string .e .e) (.n 100 c_internal_stringslite_Index .e .e)) (.n 103 c_internal_bytealg_hashStr_string (.n 102 c_internal_bytealg_IndexRabinKarp_string .e .e) (.n 121 c_ftree_Tree_Text .e .e))))))
def progC (n : Nat) : Option Fun := tabC.get n
theorem p_touchstonelaw14_ProbeNot : prog f_touchstonelaw14_ProbeNot = some c_touchstonelaw14_ProbeNot := rfl
theorem p_ftree_New : prog f_ftree_New = some c_ftree_New := rfl
theorem p_walk_Find : prog f_walk_Find = some c_walk_Find := rfl
theorem p_walk_Spot : prog f_walk_Spot = some c_walk_Spot := rfl
theorem p_ftree_Tree_Kind : prog f_ftree_Tree_Kind = some c_ftree_Tree_Kind := rfl
theorem p_path_Name : prog f_path_Name = some c_path_Name := rfl
theorem p_touchstonelaw14_long : prog f_touchstonelaw14_long = some c_touchstonelaw14_long := rfl
theorem p_touchstonelaw14_awake : prog f_touchstonelaw14_awake = some c_touchstonelaw14_awake := rfl
theorem p_probe_Holds : prog f_probe_Holds = some c_probe_Holds := rfl
theorem p_ftree_May : prog f_ftree_May = some c_ftree_May := rfl
theorem p_ftree_own : prog f_ftree_own = some c_ftree_own := rfl
theorem p_walk_walk : prog f_walk_walk = some c_walk_walk := rfl
theorem p_ftree_Tree_at : prog f_ftree_Tree_at = some c_ftree_Tree_at := rfl
theorem p_path_steps : prog f_path_steps = some c_path_steps := rfl
theorem p_strings_ContainsAny : prog f_strings_ContainsAny = some c_strings_ContainsAny := rfl
theorem p_touchstoneref07_May : prog f_touchstoneref07_May = some c_touchstoneref07_May := rfl
theorem p_touchstoneref07_Nodes : prog f_touchstoneref07_Nodes = some c_touchstoneref07_Nodes := rfl
theorem p_probe_asks : prog f_probe_asks = some c_probe_asks := rfl
theorem p_ftree_Well : prog f_ftree_Well = some c_ftree_Well := rfl
theorem p_ftree_Nodes : prog f_ftree_Nodes = some c_ftree_Nodes := rfl
theorem p_ftree_depth : prog f_ftree_depth = some c_ftree_depth := rfl
theorem p_slices_Clone_string_string : prog f_slices_Clone_string_string = some c_slices_Clone_string_string := rfl
theorem p_path_Steps : prog f_path_Steps = some c_path_Steps := rfl
theorem p_path_Dir : prog f_path_Dir = some c_path_Dir := rfl
theorem p_walk_walker_run : prog f_walk_walker_run = some c_walk_walker_run := rfl
theorem p_ftree_find : prog f_ftree_find = some c_ftree_find := rfl
theorem p_path_steps_1 : prog f_path_steps_1 = some c_path_steps_1 := rfl
theorem p_strings_SplitSeq : prog f_strings_SplitSeq = some c_strings_SplitSeq := rfl
theorem p_strings_IndexAny : prog f_strings_IndexAny = some c_strings_IndexAny := rfl
theorem p_touchstoneref07_Well : prog f_touchstoneref07_Well = some c_touchstoneref07_Well := rfl
theorem p_touchstoneref07_deep : prog f_touchstoneref07_deep = some c_touchstoneref07_deep := rfl
theorem p_probe_asks_1 : prog f_probe_asks_1 = some c_probe_asks_1 := rfl
theorem p_probe_asks_1_1 : prog f_probe_asks_1_1 = some c_probe_asks_1_1 := rfl
theorem p_probe_kind : prog f_probe_kind = some c_probe_kind := rfl
theorem p_probe_asks_2 : prog f_probe_asks_2 = some c_probe_asks_2 := rfl
theorem p_probe_asks_2_1 : prog f_probe_asks_2_1 = some c_probe_asks_2_1 := rfl
theorem p_probe_asks_3 : prog f_probe_asks_3 = some c_probe_asks_3 := rfl
theorem p_probe_asks_4 : prog f_probe_asks_4 = some c_probe_asks_4 := rfl
theorem p_probe_asks_5 : prog f_probe_asks_5 = some c_probe_asks_5 := rfl
theorem p_strings_IndexByte : prog f_strings_IndexByte = some c_strings_IndexByte := rfl
theorem p_slices_Collect_string : prog f_slices_Collect_string = some c_slices_Collect_string := rfl
theorem p_strings_LastIndexByte : prog f_strings_LastIndexByte = some c_strings_LastIndexByte := rfl
theorem p_walk_walker_name : prog f_walk_walker_name = some c_walk_walker_name := rfl
theorem p_slices_BinarySearch_string_string : prog f_slices_BinarySearch_string_string = some c_slices_BinarySearch_string_string := rfl
theorem p_strings_splitSeq : prog f_strings_splitSeq = some c_strings_splitSeq := rfl
theorem p_strings_IndexRune : prog f_strings_IndexRune = some c_strings_IndexRune := rfl
theorem p_strings_shouldUseASCIISet : prog f_strings_shouldUseASCIISet = some c_strings_shouldUseASCIISet := rfl
theorem p_strings_makeASCIISet : prog f_strings_makeASCIISet = some c_strings_makeASCIISet := rfl
theorem p_strings_asciiSet_contains : prog f_strings_asciiSet_contains = some c_strings_asciiSet_contains := rfl
theorem p_touchstoneref07_text : prog f_touchstoneref07_text = some c_touchstoneref07_text := rfl
theorem p_touchstoneref06_Name : prog f_touchstoneref06_Name = some c_touchstoneref06_Name := rfl
theorem p_path_Check : prog f_path_Check = some c_path_Check := rfl
theorem p_internal_stringslite_IndexByte : prog f_internal_stringslite_IndexByte = some c_internal_stringslite_IndexByte := rfl
theorem p_slices_AppendSeq_string_string : prog f_slices_AppendSeq_string_string = some c_slices_AppendSeq_string_string := rfl
theorem p_internal_bytealg_LastIndexByteString : prog f_internal_bytealg_LastIndexByteString = some c_internal_bytealg_LastIndexByteString := rfl
theorem p_walk_walker_below : prog f_walk_walker_below = some c_walk_walker_below := rfl
theorem p_walk_walker_follow : prog f_walk_walker_follow = some c_walk_walker_follow := rfl
theorem p_cmp_Less_string : prog f_cmp_Less_string = some c_cmp_Less_string := rfl
theorem p_slices_isNaN_string : prog f_slices_isNaN_string = some c_slices_isNaN_string := rfl
theorem p_strings_splitSeq_1 : prog f_strings_splitSeq_1 = some c_strings_splitSeq_1 := rfl
theorem p_unicode_utf8_DecodeRuneInString : prog f_unicode_utf8_DecodeRuneInString = some c_unicode_utf8_DecodeRuneInString := rfl
theorem p_strings_Index : prog f_strings_Index = some c_strings_Index := rfl
theorem p_unicode_utf8_ValidRune : prog f_unicode_utf8_ValidRune = some c_unicode_utf8_ValidRune := rfl
theorem p_internal_bytealg_Cutover : prog f_internal_bytealg_Cutover = some c_internal_bytealg_Cutover := rfl
theorem p_strings_Contains : prog f_strings_Contains = some c_strings_Contains := rfl
theorem p_strings_HasPrefix : prog f_strings_HasPrefix = some c_strings_HasPrefix := rfl
theorem p_cmp_isNaN_string : prog f_cmp_isNaN_string = some c_cmp_isNaN_string := rfl
theorem p_unicode_utf8_decodeRuneInStringSlow : prog f_unicode_utf8_decodeRuneInStringSlow = some c_unicode_utf8_decodeRuneInStringSlow := rfl
theorem p_internal_stringslite_Index : prog f_internal_stringslite_Index = some c_internal_stringslite_Index := rfl
theorem p_internal_stringslite_HasPrefix : prog f_internal_stringslite_HasPrefix = some c_internal_stringslite_HasPrefix := rfl
theorem p_internal_bytealg_IndexRabinKarp_string : prog f_internal_bytealg_IndexRabinKarp_string = some c_internal_bytealg_IndexRabinKarp_string := rfl
theorem p_internal_bytealg_hashStr_string : prog f_internal_bytealg_hashStr_string = some c_internal_bytealg_hashStr_string := rfl
theorem p_ftree_Tree_Text : prog f_ftree_Tree_Text = some c_ftree_Tree_Text := rfl
end Go.Proofs.YtkkfjoiffcmpeaaDoor
