/-
  The functions, as the abstract machine's: numbers and texts. By program.
-/
import Derived.Test.YtgloinighjdhlaaAmKeep
import Derived.Test.YtgloinighjdhlaaAmHpI
set_option linter.all false
set_option linter.unusedVariables false
set_option linter.unusedSimpArgs false
set_option linter.unusedSectionVars false
set_option maxRecDepth 100000
namespace Go.Proofs.Ytgloinighjdhlaa
open Go.Proofs.Ytgloinighjdhlaa.Am
def f_touchstonelaw24_ForkFollows : Nat := 4
def f_touchstonelaw24_long : Nat := 7
def f_touchstonelaw24_awake : Nat := 8
def f_fork_Ways : Nat := 9
def f_touchstoneref24_Ways : Nat := 10
def f_touchstoneref20_Same : Nat := 11
def f_fork_Follow : Nat := 13
def f_touchstonelaw24_given : Nat := 14
def f_touchstoneref24_Follow : Nat := 15
def f_pat_May : Nat := 28
def f_fork_Split_calls : Nat := 30
def f_touchstoneref22_More : Nat := 31
def f_touchstoneref22_Whole : Nat := 32
def f_touchstoneref22_Know : Nat := 33
def f_touchstoneref06_Same : Nat := 34
def f_slices_Clone_api_Fact_api_Fact : Nat := 35
def f_touchstoneref20_May : Nat := 39
def f_pat_dir : Nat := 50
def f_pat_one : Nat := 51
def f_slices_ContainsFunc_int_int : Nat := 52
def f_pat_May_1 : Nat := 53
def f_fork_Split_calls_1 : Nat := 54
def f_store_Whole : Nat := 55
def f_fork_Split_calls_2 : Nat := 56
def f_store_More : Nat := 57
def f_fork_kinds : Nat := 58
def f_fork_Split_calls_3 : Nat := 59
def f_store_Know : Nat := 60
def f_touchstoneref22_dir : Nat := 61
def f_touchstoneref22_with : Nat := 62
def f_touchstoneref22_Beside : Nat := 63
def f_touchstoneref22_wrong : Nat := 64
def f_touchstoneref06_Under : Nat := 65
def f_touchstoneref20_dir : Nat := 75
def f_touchstoneref20_one : Nat := 76
def f_touchstoneref20_above : Nat := 77
def f_slices_Clone_string_string : Nat := 81
def f_touchstoneref06_Name : Nat := 83
def f_path_Name : Nat := 84
def f_slices_IndexFunc_int_int : Nat := 85
def f_store_change : Nat := 86
def f_store_Whole_1 : Nat := 87
def f_store_dir : Nat := 88
def f_store_there : Nat := 89
def f_store_Whole_2 : Nat := 90
def f_store_More_1 : Nat := 91
def f_store_More_2 : Nat := 92
def f_fork_kinds_1 : Nat := 93
def f_store_Know_1 : Nat := 94
def f_store_Know_2 : Nat := 95
def f_strings_IndexByte : Nat := 96
def f_slices_Sorted_int : Nat := 100
def f_slices_Values_int_int : Nat := 101
def f_strings_ContainsAny : Nat := 108
def f_store_own : Nat := 109
def f_store_there_1 : Nat := 110
def f_internal_stringslite_IndexByte : Nat := 111
def f_slices_Collect_int : Nat := 113
def f_slices_Sort_int_int : Nat := 114
def f_slices_Values_int_int_1 : Nat := 115
def f_strings_IndexAny : Nat := 119
def f_slices_Clone_int_int : Nat := 120
def f_internal_bytealg_IndexByteString : Nat := 121
def f_slices_AppendSeq_int_int : Nat := 122
def f_strings_IndexRune : Nat := 126
def f_strings_shouldUseASCIISet : Nat := 127
def f_strings_makeASCIISet : Nat := 128
def f_strings_asciiSet_contains : Nat := 129
def f_unicode_utf8_ValidRune : Nat := 141
def f_internal_bytealg_Cutover : Nat := 142
def f_internal_bytealg_IndexString : Nat := 143
def c_touchstonelaw24_ForkFollows : Fun := { cin := [(.sl 6 (.agg [.id, .id, (.sl 1 .id), (.sl 1 .id), .id, .id])), (.sl 2 (.agg [.id, .id])), (.sl 1 .id), .id], cout := [.id], ntmps := 54, keep := false, res := [(8, none)], body :=
  (.seq (.reg [⟨(some 8), .mv (.c (.b false)), none⟩])
  (.seq (.seq (.reg [⟨(some 13), .mv (.t 0), none⟩,
    ⟨(some 14), .call f_touchstonelaw24_long [(.t 13)], none⟩,
    ⟨(some 15), .mv (.t 14), none⟩,
    ⟨(some 16), .mv (.t 1), (some (15, false))⟩,
    ⟨(some 17), .len 1 (.t 16), (some (15, false))⟩,
    ⟨(some 18), .bin .gtr (.t 17) (.c (.i .i64 30)), (some (15, false))⟩,
    ⟨(some 19), .pick (.t 15) (.c (.b true)) (.t 18), none⟩,
    ⟨(some 20), .mv (.t 19), none⟩,
    ⟨(some 21), .mv (.t 2), (some (20, false))⟩,
    ⟨(some 22), .len 1 (.t 21), (some (20, false))⟩,
    ⟨(some 23), .bin .gtr (.t 22) (.c (.i .i64 60)), (some (20, false))⟩,
    ⟨(some 24), .pick (.t 20) (.c (.b true)) (.t 23), none⟩])
  (.cond (.t 24)
   (.seq (.reg [⟨(some 25), .call f_touchstonelaw24_awake [], none⟩,
     ⟨(some 8), .mv (.t 25), none⟩])
   .ret)
   .skip))
  (.seq (.reg [⟨(some 27), .mv (.t 0), none⟩,
    ⟨(some 28), .mv (.t 1), none⟩,
    ⟨(some 29), .call f_touchstonelaw24_given [(.t 28)], none⟩,
    ⟨(some 30), .mv (.t 2), none⟩,
    ⟨(some 31), .mv (.t 3), none⟩,
    ⟨(some 32), .call f_fork_Follow [(.t 27), (.t 29), (.t 30), (.t 31)], none⟩,
    ⟨(some 26), .mv (.t 32), none⟩,
    ⟨(some 33), .ext (.t 26) 0, none⟩,
    ⟨(some 34), .ext (.t 26) 1, none⟩,
    ⟨(some 9), .mv (.t 33), none⟩,
    ⟨(some 10), .mv (.t 34), none⟩])
  (.seq (.reg [⟨(some 36), .mv (.t 0), none⟩,
    ⟨(some 37), .mv (.t 1), none⟩,
    ⟨(some 38), .mv (.t 2), none⟩,
    ⟨(some 39), .mv (.t 3), none⟩,
    ⟨(some 40), .call f_touchstoneref24_Follow [(.t 36), (.t 37), (.t 38), (.t 39)], none⟩,
    ⟨(some 35), .mv (.t 40), none⟩,
    ⟨(some 41), .ext (.t 35) 0, none⟩,
    ⟨(some 42), .ext (.t 35) 1, none⟩,
    ⟨(some 11), .mv (.t 41), none⟩,
    ⟨(some 12), .mv (.t 42), none⟩])
  (.seq (.reg [⟨(some 43), .mv (.t 10), none⟩,
    ⟨(some 44), .mv (.t 12), none⟩,
    ⟨(some 45), .bin .eql (.t 43) (.t 44), none⟩,
    ⟨(some 46), .mv (.t 45), none⟩,
    ⟨(some 47), .mv (.t 9), (some (46, true))⟩,
    ⟨(some 48), .mv (.t 11), (some (46, true))⟩,
    ⟨(some 49), .call f_touchstoneref20_Same [(.t 47), (.t 48)], (some (46, true))⟩,
    ⟨(some 50), .pick (.t 46) (.t 49) (.c (.b false)), none⟩,
    ⟨(some 51), .mv (.t 50), none⟩,
    ⟨(some 52), .call f_touchstonelaw24_awake [], (some (51, true))⟩,
    ⟨(some 53), .pick (.t 51) (.t 52) (.c (.b false)), none⟩,
    ⟨(some 8), .mv (.t 53), none⟩])
  .ret))))) }
def c_touchstonelaw24_long : Fun := { cin := [(.sl 6 (.agg [.id, .id, (.sl 1 .id), (.sl 1 .id), .id, .id]))], cout := [.id], ntmps := 50, keep := false, res := [(2, none)], body :=
  (.seq (.reg [⟨(some 2), .mv (.c (.b false)), none⟩])
  (.seq (.seq (.reg [⟨(some 5), .mv (.t 0), none⟩,
    ⟨(some 6), .len 1 (.t 5), none⟩,
    ⟨(some 7), .bin .gtr (.t 6) (.c (.i .i64 50)), none⟩])
  (.cond (.t 7)
   (.seq (.reg [⟨(some 2), .mv (.c (.b true)), none⟩])
   .ret)
   .skip))
  (.seq (.seq (.reg [⟨(some 3), .mv (.c (.i .i64 0)), none⟩])
  (.blk 0 (.loop (.seq (.seq (.reg [⟨(some 8), .mv (.t 3), none⟩,
      ⟨(some 9), .mv (.t 0), none⟩,
      ⟨(some 10), .len 1 (.t 9), none⟩,
      ⟨(some 11), .bin .lss (.t 8) (.t 10), none⟩])
    (.cond (.t 11)
     .skip
     (.exit 0)))
    (.seq (.blk 1 (.seq (.seq (.seq (.thw 0)
     (.reg [⟨(some 14), .mv (.t 0), none⟩,
       ⟨(some 15), .mv (.t 3), none⟩,
       ⟨(some 16), .ia 6 (.t 14) (.t 15), none⟩,
       ⟨(some 17), .fa 2 (.t 16), none⟩,
       ⟨(some 18), .ld false 1 (.t 17), none⟩,
       ⟨(some 19), .len 1 (.t 18), none⟩,
       ⟨(some 20), .bin .gtr (.t 19) (.c (.i .i64 50)), none⟩,
       ⟨(some 21), .mv (.t 20), none⟩,
       ⟨(some 22), .mv (.t 0), (some (21, false))⟩,
       ⟨(some 23), .mv (.t 3), (some (21, false))⟩,
       ⟨(some 24), .ia 6 (.t 22) (.t 23), (some (21, false))⟩,
       ⟨(some 25), .fa 3 (.t 24), (some (21, false))⟩,
       ⟨(some 26), .ld false 1 (.t 25), (some (21, false))⟩,
       ⟨(some 27), .len 1 (.t 26), (some (21, false))⟩,
       ⟨(some 28), .bin .gtr (.t 27) (.c (.i .i64 50)), (some (21, false))⟩,
       ⟨(some 29), .pick (.t 21) (.c (.b true)) (.t 28), none⟩]))
     (.cond (.t 29)
      (.seq (.reg [⟨(some 2), .mv (.c (.b true)), none⟩])
      .ret)
      .skip))
     (.seq (.reg [⟨(some 4), .mv (.c (.i .i64 0)), none⟩])
     (.blk 2 (.loop (.seq (.seq (.seq (.thw 0)
       (.reg [⟨(some 30), .mv (.t 4), none⟩,
         ⟨(some 31), .mv (.t 0), none⟩,
         ⟨(some 32), .mv (.t 3), none⟩,
         ⟨(some 33), .ia 6 (.t 31) (.t 32), none⟩,
         ⟨(some 34), .fa 2 (.t 33), none⟩,
         ⟨(some 35), .ld false 1 (.t 34), none⟩,
         ⟨(some 36), .len 1 (.t 35), none⟩,
         ⟨(some 37), .bin .lss (.t 30) (.t 36), none⟩]))
       (.cond (.t 37)
        .skip
        (.exit 2)))
       (.seq (.blk 3 (.seq (.seq (.thw 0)
        (.reg [⟨(some 40), .mv (.t 0), none⟩,
          ⟨(some 41), .mv (.t 3), none⟩,
          ⟨(some 42), .ia 6 (.t 40) (.t 41), none⟩,
          ⟨(some 43), .fa 2 (.t 42), none⟩,
          ⟨(some 44), .ld false 1 (.t 43), none⟩,
          ⟨(some 45), .mv (.t 4), none⟩,
          ⟨(some 46), .ia 1 (.t 44) (.t 45), none⟩,
          ⟨(some 47), .ld false 1 (.t 46), none⟩,
          ⟨(some 48), .len 0 (.t 47), none⟩,
          ⟨(some 49), .bin .gtr (.t 48) (.c (.i .i64 300)), none⟩]))
        (.cond (.t 49)
         (.seq (.reg [⟨(some 2), .mv (.c (.b true)), none⟩])
         .ret)
         .skip)))
       (.reg [⟨(some 38), .mv (.t 4), none⟩,
         ⟨(some 39), .bin .add (.t 38) (.c (.i .i64 1)), none⟩,
         ⟨(some 4), .mv (.t 39), none⟩]))))))))
    (.reg [⟨(some 12), .mv (.t 3), none⟩,
      ⟨(some 13), .bin .add (.t 12) (.c (.i .i64 1)), none⟩,
      ⟨(some 3), .mv (.t 13), none⟩]))))))
  (.seq (.reg [⟨(some 2), .mv (.c (.b false)), none⟩])
  .ret)))) }
def c_touchstonelaw24_awake : Fun := { cin := [], cout := [], ntmps := 0, keep := false, res := [], body := .bad, prim := some (pureP primTrue) }
def cR_touchstonelaw24_awake : Fun := { cin := [], cout := [.id], ntmps := 109, keep := false, res := [(0, none)], body :=
  (.seq (.reg [⟨(some 0), .mv (.c (.b false)), none⟩])
  (.seq (.reg [⟨(some 8), .bsl 1 [(.c (.s [97]))], none⟩,
    ⟨(some 9), .bsl 1 [(.c (.i .i64 1))], none⟩,
    ⟨(some 10), .build [(.b false), (.i .u8 0), .nsl, .nsl, (.i .i64 0), (.i .i64 0)] [(0, 1, (.c (.b true))), (1, 1, (.c (.i .u8 2))), (2, 1, (.t 8)), (3, 1, (.t 9))], none⟩,
    ⟨(some 11), .build [(.b false), (.i .u8 0), .nsl, .nsl, (.i .i64 0), (.i .i64 0)] [], none⟩,
    ⟨(some 12), .bsl 6 [(.t 10), (.t 11)], none⟩,
    ⟨(some 1), .mv (.t 12), none⟩])
  (.seq (.reg [⟨(some 14), .mv (.t 1), none⟩,
    ⟨(some 15), .build [(.i .i64 0), (.b false)] [(0, 1, (.c (.i .i64 1)))], none⟩,
    ⟨(some 16), .call f_fork_Ways [(.t 14), (.t 15), (.c (.b false))], none⟩,
    ⟨(some 13), .mv (.t 16), none⟩,
    ⟨(some 17), .ext (.t 13) 0, none⟩,
    ⟨(some 18), .ext (.t 13) 1, none⟩,
    ⟨(some 2), .mv (.t 17), none⟩,
    ⟨(some 3), .mv (.t 18), none⟩])
  (.seq (.reg [⟨(some 20), .mv (.t 1), none⟩,
    ⟨(some 21), .build [(.i .i64 0), (.b false)] [(0, 1, (.c (.i .i64 0))), (1, 1, (.c (.b true)))], none⟩,
    ⟨(some 22), .call f_fork_Ways [(.t 20), (.t 21), (.c (.b false))], none⟩,
    ⟨(some 19), .mv (.t 22), none⟩,
    ⟨(some 23), .ext (.t 19) 0, none⟩,
    ⟨(some 24), .ext (.t 19) 1, none⟩,
    ⟨(some 4), .mv (.t 23), none⟩,
    ⟨(some 5), .mv (.t 24), none⟩])
  (.seq (.reg [⟨(some 26), .mv (.t 1), none⟩,
    ⟨(some 27), .build [(.i .i64 0), (.b false)] [(0, 1, (.c (.i .i64 1)))], none⟩,
    ⟨(some 28), .build [(.i .i64 0), (.b false)] [(0, 1, (.c (.i .i64 0))), (1, 1, (.c (.b true)))], none⟩,
    ⟨(some 29), .bsl 2 [(.t 27), (.t 28)], none⟩,
    ⟨(some 30), .bsl 1 [(.c (.i .i64 2)), (.c (.i .i64 0))], none⟩,
    ⟨(some 31), .call f_fork_Follow [(.t 26), (.t 29), (.t 30), (.c (.b false))], none⟩,
    ⟨(some 25), .mv (.t 31), none⟩,
    ⟨(some 32), .ext (.t 25) 0, none⟩,
    ⟨(some 33), .ext (.t 25) 1, none⟩,
    ⟨(some 6), .mv (.t 32), none⟩,
    ⟨(some 7), .mv (.t 33), none⟩])
  (.seq (.seq (.thw 6)
  (.reg [⟨(some 34), .mv (.t 3), none⟩,
    ⟨(some 35), .bin .eql (.t 34) (.c (.i .i64 0)), none⟩,
    ⟨(some 36), .mv (.t 35), none⟩,
    ⟨(some 37), .mv (.t 2), (some (36, true))⟩,
    ⟨(some 38), .len 1 (.t 37), (some (36, true))⟩,
    ⟨(some 39), .bin .eql (.t 38) (.c (.i .i64 3)), (some (36, true))⟩,
    ⟨(some 40), .pick (.t 36) (.t 39) (.c (.b false)), none⟩,
    ⟨(some 41), .mv (.t 40), none⟩,
    ⟨(some 42), .mv (.t 2), (some (41, true))⟩,
    ⟨(some 43), .ia 1 (.t 42) (.c (.i .i64 1)), (some (41, true))⟩,
    ⟨(some 44), .ld false 1 (.t 43), (some (41, true))⟩,
    ⟨(some 45), .ia 6 (.t 44) (.c (.i .i64 1)), (some (41, true))⟩,
    ⟨(some 46), .fa 1 (.t 45), (some (41, true))⟩,
    ⟨(some 47), .ld false 1 (.t 46), (some (41, true))⟩,
    ⟨(some 48), .bin .eql (.t 47) (.c (.i .u8 1)), (some (41, true))⟩,
    ⟨(some 49), .pick (.t 41) (.t 48) (.c (.b false)), none⟩,
    ⟨(some 50), .mv (.t 49), none⟩,
    ⟨(some 51), .mv (.t 5), (some (50, true))⟩,
    ⟨(some 52), .bin .eql (.t 51) (.c (.i .i64 0)), (some (50, true))⟩,
    ⟨(some 53), .pick (.t 50) (.t 52) (.c (.b false)), none⟩,
    ⟨(some 54), .mv (.t 53), none⟩,
    ⟨(some 55), .mv (.t 4), (some (54, true))⟩,
    ⟨(some 56), .len 1 (.t 55), (some (54, true))⟩,
    ⟨(some 57), .bin .eql (.t 56) (.c (.i .i64 2)), (some (54, true))⟩,
    ⟨(some 58), .pick (.t 54) (.t 57) (.c (.b false)), none⟩,
    ⟨(some 59), .mv (.t 58), none⟩,
    ⟨(some 60), .mv (.t 4), (some (59, true))⟩,
    ⟨(some 61), .ia 1 (.t 60) (.c (.i .i64 0)), (some (59, true))⟩,
    ⟨(some 62), .ld false 1 (.t 61), (some (59, true))⟩,
    ⟨(some 63), .ia 6 (.t 62) (.c (.i .i64 0)), (some (59, true))⟩,
    ⟨(some 64), .fa 4 (.t 63), (some (59, true))⟩,
    ⟨(some 65), .ld false 1 (.t 64), (some (59, true))⟩,
    ⟨(some 66), .bin .eql (.t 65) (.c (.i .i64 1)), (some (59, true))⟩,
    ⟨(some 67), .pick (.t 59) (.t 66) (.c (.b false)), none⟩,
    ⟨(some 68), .mv (.t 67), none⟩,
    ⟨(some 69), .mv (.t 4), (some (68, true))⟩,
    ⟨(some 70), .ia 1 (.t 69) (.c (.i .i64 1)), (some (68, true))⟩,
    ⟨(some 71), .ld false 1 (.t 70), (some (68, true))⟩,
    ⟨(some 72), .ia 6 (.t 71) (.c (.i .i64 0)), (some (68, true))⟩,
    ⟨(some 73), .fa 4 (.t 72), (some (68, true))⟩,
    ⟨(some 74), .ld false 1 (.t 73), (some (68, true))⟩,
    ⟨(some 75), .bin .eql (.t 74) (.c (.i .i64 2)), (some (68, true))⟩,
    ⟨(some 76), .pick (.t 68) (.t 75) (.c (.b false)), none⟩,
    ⟨(some 77), .mv (.t 76), none⟩,
    ⟨(some 78), .mv (.t 4), (some (77, true))⟩,
    ⟨(some 79), .ia 1 (.t 78) (.c (.i .i64 1)), (some (77, true))⟩,
    ⟨(some 80), .ld false 1 (.t 79), (some (77, true))⟩,
    ⟨(some 81), .ia 6 (.t 80) (.c (.i .i64 0)), (some (77, true))⟩,
    ⟨(some 82), .fa 5 (.t 81), (some (77, true))⟩,
    ⟨(some 83), .ld false 1 (.t 82), (some (77, true))⟩,
    ⟨(some 84), .bin .eql (.t 83) (.c (.i .i64 1)), (some (77, true))⟩,
    ⟨(some 85), .pick (.t 77) (.t 84) (.c (.b false)), none⟩,
    ⟨(some 86), .mv (.t 85), none⟩,
    ⟨(some 87), .mv (.t 7), (some (86, true))⟩,
    ⟨(some 88), .bin .eql (.t 87) (.c (.i .i64 0)), (some (86, true))⟩,
    ⟨(some 89), .pick (.t 86) (.t 88) (.c (.b false)), none⟩,
    ⟨(some 90), .mv (.t 89), none⟩,
    ⟨(some 91), .mv (.t 6), (some (90, true))⟩,
    ⟨(some 92), .len 1 (.t 91), (some (90, true))⟩,
    ⟨(some 93), .bin .eql (.t 92) (.c (.i .i64 2)), (some (90, true))⟩,
    ⟨(some 94), .pick (.t 90) (.t 93) (.c (.b false)), none⟩,
    ⟨(some 95), .mv (.t 94), none⟩,
    ⟨(some 96), .mv (.t 6), (some (95, true))⟩,
    ⟨(some 97), .ia 6 (.t 96) (.c (.i .i64 1)), (some (95, true))⟩,
    ⟨(some 98), .fa 1 (.t 97), (some (95, true))⟩,
    ⟨(some 99), .ld false 1 (.t 98), (some (95, true))⟩,
    ⟨(some 100), .bin .eql (.t 99) (.c (.i .u8 2)), (some (95, true))⟩,
    ⟨(some 101), .pick (.t 95) (.t 100) (.c (.b false)), none⟩,
    ⟨(some 102), .mv (.t 101), none⟩,
    ⟨(some 103), .mv (.t 6), (some (102, true))⟩,
    ⟨(some 104), .ia 6 (.t 103) (.c (.i .i64 0)), (some (102, true))⟩,
    ⟨(some 105), .fa 4 (.t 104), (some (102, true))⟩,
    ⟨(some 106), .ld false 1 (.t 105), (some (102, true))⟩,
    ⟨(some 107), .bin .eql (.t 106) (.c (.i .i64 1)), (some (102, true))⟩,
    ⟨(some 108), .pick (.t 102) (.t 107) (.c (.b false)), none⟩,
    ⟨(some 0), .mv (.t 108), none⟩]))
  .ret)))))) }
def c_fork_Ways : Fun := { cin := [(.sl 6 (.agg [.id, .id, (.sl 1 .id), (.sl 1 .id), .id, .id])), (.agg [.id, .id]), .id], cout := [(.sl 1 (.sl 6 (.agg [.id, .id, (.sl 1 .id), (.sl 1 .id), .id, .id]))), .id], ntmps := 39, keep := false, res := [(6, none), (7, none)], body :=
  (.seq (.reg [⟨(some 4), .box 30 2 (.t 1), none⟩,
    ⟨(some 6), .mv (.c .nsl), none⟩,
    ⟨(some 7), .mv (.c (.i .i64 0)), none⟩])
  (.seq (.reg [⟨(some 8), .mv (.c .nsl), none⟩])
  (.seq (.seq (.reg [⟨(some 13), .ld true 2 (.t 4), none⟩,
    ⟨(some 14), .mv (.t 2), none⟩,
    ⟨(some 15), .call f_fork_Split_calls [(.t 13), (.t 14)], none⟩,
    ⟨(some 16), .len 1 (.t 15), none⟩,
    ⟨(some 17), .mv (.c (.i .i64 0)), none⟩])
  (.blk 0 (.loop (.seq (.reg [⟨(some 18), .bin .lss (.t 17) (.t 16), none⟩])
    (.seq (.cond (.t 18)
     .skip
     (.exit 0))
    (.seq (.blk 1 (.seq (.reg [⟨(some 19), .ia 1 (.t 15) (.t 17), none⟩,
       ⟨(some 20), .ld false 1 (.t 19), none⟩,
       ⟨(some 10), .mv (.t 20), none⟩])
     (.seq (.reg [⟨(some 22), .mv (.t 10), none⟩,
       ⟨(some 23), .mv (.t 0), none⟩,
       ⟨(some 24), .callX (.t 22) [(.t 23)], none⟩,
       ⟨(some 21), .mv (.t 24), none⟩,
       ⟨(some 25), .ext (.t 21) 0, none⟩,
       ⟨(some 26), .ext (.t 21) 1, none⟩,
       ⟨(some 11), .mv (.t 25), none⟩,
       ⟨(some 12), .mv (.t 26), none⟩])
     (.seq (.reg [⟨(some 27), .mv (.t 12), none⟩])
     (.blk 2 (.seq (.reg [⟨(some 30), .bin .eql (.t 27) (.c (.i .i64 0)), none⟩,
        ⟨(some 29), .mv (.t 30), none⟩])
      (.cond (.t 29)
       (.reg [⟨(some 31), .mv (.t 8), none⟩,
         ⟨(some 32), .mv (.t 11), none⟩,
         ⟨(some 33), .bsl 1 [(.t 32)], none⟩,
         ⟨(some 34), .app 1 22 (.t 31) (.t 33), none⟩,
         ⟨(some 8), .mv (.t 34), none⟩])
       (.seq (.reg [⟨(some 36), .bin .eql (.t 27) (.c (.i .i64 67)), none⟩,
         ⟨(some 35), .mv (.t 36), none⟩])
       (.cond (.t 35)
        .skip
        (.seq (.reg [⟨(some 28), .mv (.t 12), none⟩,
          ⟨(some 6), .mv (.c .nsl), none⟩,
          ⟨(some 7), .mv (.t 28), none⟩])
        .ret))))))))))
    (.reg [⟨(some 37), .bin .add (.t 17) (.c (.i .i64 1)), none⟩,
      ⟨(some 17), .mv (.t 37), none⟩])))))))
  (.seq (.reg [⟨(some 38), .mv (.t 8), none⟩,
    ⟨(some 6), .mv (.t 38), none⟩,
    ⟨(some 7), .mv (.c (.i .i64 0)), none⟩])
  .ret)))) }
def c_touchstoneref24_Ways : Fun := { cin := [(.sl 6 (.agg [.id, .id, (.sl 1 .id), (.sl 1 .id), .id, .id])), (.agg [.id, .id]), .id], cout := [(.sl 1 (.sl 6 (.agg [.id, .id, (.sl 1 .id), (.sl 1 .id), .id, .id]))), .id], ntmps := 67, keep := false, res := [(6, none), (7, none)], body :=
  (.seq (.reg [⟨(some 4), .box 32 2 (.t 1), none⟩,
    ⟨(some 6), .mv (.c .nsl), none⟩,
    ⟨(some 7), .mv (.c (.i .i64 0)), none⟩])
  (.seq (.reg [⟨(some 8), .mv (.c .nsl), none⟩])
  (.seq (.seq (.reg [⟨(some 16), .fa 1 (.t 4), none⟩,
    ⟨(some 17), .ld false 1 (.t 16), none⟩])
  (.cond (.t 17)
   (.seq (.reg [⟨(some 19), .mv (.t 0), none⟩,
     ⟨(some 20), .fa 0 (.t 4), none⟩,
     ⟨(some 21), .ld false 1 (.t 20), none⟩,
     ⟨(some 22), .call f_touchstoneref22_More [(.t 19), (.t 21)], none⟩,
     ⟨(some 18), .mv (.t 22), none⟩,
     ⟨(some 23), .ext (.t 18) 0, none⟩,
     ⟨(some 24), .ext (.t 18) 1, none⟩,
     ⟨(some 9), .mv (.t 23), none⟩,
     ⟨(some 10), .mv (.t 24), none⟩])
   (.seq (.seq (.reg [⟨(some 25), .mv (.t 10), none⟩,
     ⟨(some 26), .bin .neq (.t 25) (.c (.i .i64 0)), none⟩])
   (.cond (.t 26)
    (.seq (.reg [⟨(some 27), .mv (.t 10), none⟩,
      ⟨(some 6), .mv (.c .nsl), none⟩,
      ⟨(some 7), .mv (.t 27), none⟩])
    .ret)
    .skip))
   (.seq (.reg [⟨(some 29), .mv (.t 0), none⟩,
     ⟨(some 30), .fa 0 (.t 4), none⟩,
     ⟨(some 31), .ld false 1 (.t 30), none⟩,
     ⟨(some 32), .call f_touchstoneref22_Whole [(.t 29), (.t 31)], none⟩,
     ⟨(some 28), .mv (.t 32), none⟩,
     ⟨(some 33), .ext (.t 28) 0, none⟩,
     ⟨(some 34), .ext (.t 28) 1, none⟩,
     ⟨(some 11), .mv (.t 33), none⟩,
     ⟨(some 10), .mv (.t 34), none⟩])
   (.seq (.seq (.reg [⟨(some 35), .mv (.t 10), none⟩,
     ⟨(some 36), .bin .eql (.t 35) (.c (.i .i64 0)), none⟩])
   (.cond (.t 36)
    (.reg [⟨(some 37), .mv (.t 8), none⟩,
      ⟨(some 38), .mv (.t 11), none⟩,
      ⟨(some 39), .bsl 1 [(.t 38)], none⟩,
      ⟨(some 40), .app 1 22 (.t 37) (.t 39), none⟩,
      ⟨(some 8), .mv (.t 40), none⟩])
    .skip))
   (.seq (.reg [⟨(some 41), .mv (.t 8), none⟩,
     ⟨(some 42), .mv (.t 9), none⟩,
     ⟨(some 43), .bsl 1 [(.t 42)], none⟩,
     ⟨(some 44), .app 1 22 (.t 41) (.t 43), none⟩,
     ⟨(some 6), .mv (.t 44), none⟩,
     ⟨(some 7), .mv (.c (.i .i64 0)), none⟩])
   .ret)))))
   .skip))
  (.seq (.reg [⟨(some 12), .mv (.c (.i .u8 2)), none⟩])
  (.seq (.seq (.reg [⟨(some 45), .mv (.t 2), none⟩])
  (.cond (.t 45)
   (.reg [⟨(some 12), .mv (.c (.i .u8 3)), none⟩])
   .skip))
  (.seq (.seq (.reg [⟨(some 13), .mv (.c (.i .u8 0)), none⟩])
  (.blk 0 (.loop (.seq (.seq (.reg [⟨(some 46), .mv (.t 13), none⟩,
      ⟨(some 47), .mv (.t 12), none⟩,
      ⟨(some 48), .bin .leq (.t 46) (.t 47), none⟩])
    (.cond (.t 48)
     .skip
     (.exit 0)))
    (.seq (.blk 1 (.seq (.reg [⟨(some 52), .mv (.t 0), none⟩,
       ⟨(some 53), .fa 0 (.t 4), none⟩,
       ⟨(some 54), .ld false 1 (.t 53), none⟩,
       ⟨(some 55), .mv (.t 13), none⟩,
       ⟨(some 56), .call f_touchstoneref22_Know [(.t 52), (.t 54), (.t 55)], none⟩,
       ⟨(some 51), .mv (.t 56), none⟩,
       ⟨(some 57), .ext (.t 51) 0, none⟩,
       ⟨(some 58), .ext (.t 51) 1, none⟩,
       ⟨(some 14), .mv (.t 57), none⟩,
       ⟨(some 15), .mv (.t 58), none⟩])
     (.seq (.seq (.reg [⟨(some 59), .mv (.t 15), none⟩,
       ⟨(some 60), .bin .neq (.t 59) (.c (.i .i64 0)), none⟩])
     (.cond (.t 60)
      (.seq (.reg [⟨(some 61), .mv (.t 15), none⟩,
        ⟨(some 6), .mv (.c .nsl), none⟩,
        ⟨(some 7), .mv (.t 61), none⟩])
      .ret)
      .skip))
     (.reg [⟨(some 62), .mv (.t 8), none⟩,
       ⟨(some 63), .mv (.t 14), none⟩,
       ⟨(some 64), .bsl 1 [(.t 63)], none⟩,
       ⟨(some 65), .app 1 22 (.t 62) (.t 64), none⟩,
       ⟨(some 8), .mv (.t 65), none⟩]))))
    (.reg [⟨(some 49), .mv (.t 13), none⟩,
      ⟨(some 50), .bin .add (.t 49) (.c (.i .u8 1)), none⟩,
      ⟨(some 13), .mv (.t 50), none⟩]))))))
  (.seq (.reg [⟨(some 66), .mv (.t 8), none⟩,
    ⟨(some 6), .mv (.t 66), none⟩,
    ⟨(some 7), .mv (.c (.i .i64 0)), none⟩])
  .ret))))))) }
def c_touchstoneref20_Same : Fun := { cin := [(.sl 6 (.agg [.id, .id, (.sl 1 .id), (.sl 1 .id), .id, .id])), (.sl 6 (.agg [.id, .id, (.sl 1 .id), (.sl 1 .id), .id, .id]))], cout := [.id], ntmps := 89, keep := false, res := [(4, none)], body :=
  (.seq (.reg [⟨(some 4), .mv (.c (.b false)), none⟩])
  (.seq (.seq (.reg [⟨(some 9), .mv (.t 0), none⟩,
    ⟨(some 10), .len 1 (.t 9), none⟩,
    ⟨(some 11), .mv (.t 1), none⟩,
    ⟨(some 12), .len 1 (.t 11), none⟩,
    ⟨(some 13), .bin .neq (.t 10) (.t 12), none⟩])
  (.cond (.t 13)
   (.seq (.reg [⟨(some 4), .mv (.c (.b false)), none⟩])
   .ret)
   .skip))
  (.seq (.seq (.reg [⟨(some 5), .mv (.c (.i .i64 0)), none⟩])
  (.blk 0 (.loop (.seq (.seq (.reg [⟨(some 14), .mv (.t 5), none⟩,
      ⟨(some 15), .mv (.t 0), none⟩,
      ⟨(some 16), .len 1 (.t 15), none⟩,
      ⟨(some 17), .bin .lss (.t 14) (.t 16), none⟩])
    (.cond (.t 17)
     .skip
     (.exit 0)))
    (.seq (.blk 1 (.seq (.regD [⟨(some 20), .mv (.t 0), none⟩,
       ⟨(some 21), .mv (.t 5), none⟩,
       ⟨(some 22), .ia 6 (.t 20) (.t 21), none⟩,
       ⟨(some 23), .ld true 6 (.t 22), none⟩,
       ⟨(some 24), .mv (.t 1), none⟩,
       ⟨(some 25), .mv (.t 5), none⟩,
       ⟨(some 26), .ia 6 (.t 24) (.t 25), none⟩,
       ⟨(some 27), .ld true 6 (.t 26), none⟩,
       ⟨none, .mv (.c (.tup [])), none⟩,
       ⟨(some 7), .alloc 60 [(.b false), (.i .u8 0), .nsl, .nsl, (.i .i64 0), (.i .i64 0)], none⟩,
       ⟨(some 6), .adp 60 [(.b false), (.i .u8 0), .nsl, .nsl, (.i .i64 0), (.i .i64 0)] 6 (.t 23), none⟩,
       ⟨none, .st 6 (.t 7) (.t 27), none⟩] [(3, (3, 10)), (7, (7, 11))])
     (.seq (.seq (.reg [⟨(some 28), .fa 0 (.t 6), none⟩,
       ⟨(some 29), .ld false 1 (.t 28), none⟩,
       ⟨(some 30), .fa 0 (.t 7), none⟩,
       ⟨(some 31), .ld false 1 (.t 30), none⟩,
       ⟨(some 32), .eq .bool true (.t 29) (.t 31), none⟩,
       ⟨(some 33), .mv (.t 32), none⟩,
       ⟨(some 34), .fa 1 (.t 6), (some (33, false))⟩,
       ⟨(some 35), .ld false 1 (.t 34), (some (33, false))⟩,
       ⟨(some 36), .fa 1 (.t 7), (some (33, false))⟩,
       ⟨(some 37), .ld false 1 (.t 36), (some (33, false))⟩,
       ⟨(some 38), .bin .neq (.t 35) (.t 37), (some (33, false))⟩,
       ⟨(some 39), .pick (.t 33) (.c (.b true)) (.t 38), none⟩,
       ⟨(some 40), .mv (.t 39), none⟩,
       ⟨(some 41), .fa 4 (.t 6), (some (40, false))⟩,
       ⟨(some 42), .ld false 1 (.t 41), (some (40, false))⟩,
       ⟨(some 43), .fa 4 (.t 7), (some (40, false))⟩,
       ⟨(some 44), .ld false 1 (.t 43), (some (40, false))⟩,
       ⟨(some 45), .bin .neq (.t 42) (.t 44), (some (40, false))⟩,
       ⟨(some 46), .pick (.t 40) (.c (.b true)) (.t 45), none⟩,
       ⟨(some 47), .mv (.t 46), none⟩,
       ⟨(some 48), .fa 5 (.t 6), (some (47, false))⟩,
       ⟨(some 49), .ld false 1 (.t 48), (some (47, false))⟩,
       ⟨(some 50), .fa 5 (.t 7), (some (47, false))⟩,
       ⟨(some 51), .ld false 1 (.t 50), (some (47, false))⟩,
       ⟨(some 52), .bin .neq (.t 49) (.t 51), (some (47, false))⟩,
       ⟨(some 53), .pick (.t 47) (.c (.b true)) (.t 52), none⟩,
       ⟨(some 54), .mv (.t 53), none⟩,
       ⟨(some 55), .fa 2 (.t 6), (some (54, false))⟩,
       ⟨(some 56), .ld false 1 (.t 55), (some (54, false))⟩,
       ⟨(some 57), .fa 2 (.t 7), (some (54, false))⟩,
       ⟨(some 58), .ld false 1 (.t 57), (some (54, false))⟩,
       ⟨(some 59), .call f_touchstoneref06_Same [(.t 56), (.t 58)], (some (54, false))⟩,
       ⟨(some 60), .un .not (.t 59), (some (54, false))⟩,
       ⟨(some 61), .pick (.t 54) (.c (.b true)) (.t 60), none⟩,
       ⟨(some 62), .mv (.t 61), none⟩,
       ⟨(some 63), .fa 3 (.t 6), (some (62, false))⟩,
       ⟨(some 64), .ld false 1 (.t 63), (some (62, false))⟩,
       ⟨(some 65), .len 1 (.t 64), (some (62, false))⟩,
       ⟨(some 66), .fa 3 (.t 7), (some (62, false))⟩,
       ⟨(some 67), .ld false 1 (.t 66), (some (62, false))⟩,
       ⟨(some 68), .len 1 (.t 67), (some (62, false))⟩,
       ⟨(some 69), .bin .neq (.t 65) (.t 68), (some (62, false))⟩,
       ⟨(some 70), .pick (.t 62) (.c (.b true)) (.t 69), none⟩])
     (.cond (.t 70)
      (.seq (.reg [⟨(some 4), .mv (.c (.b false)), none⟩])
      .ret)
      .skip))
     (.seq (.reg [⟨(some 8), .mv (.c (.i .i64 0)), none⟩])
     (.blk 2 (.loop (.seq (.seq (.reg [⟨(some 71), .mv (.t 8), none⟩,
         ⟨(some 72), .fa 3 (.t 6), none⟩,
         ⟨(some 73), .ld false 1 (.t 72), none⟩,
         ⟨(some 74), .len 1 (.t 73), none⟩,
         ⟨(some 75), .bin .lss (.t 71) (.t 74), none⟩])
       (.cond (.t 75)
        .skip
        (.exit 2)))
       (.seq (.blk 3 (.seq (.regD [⟨(some 78), .fa 3 (.t 6), none⟩,
          ⟨(some 79), .ld false 1 (.t 78), none⟩,
          ⟨(some 80), .mv (.t 8), none⟩,
          ⟨(some 81), .ia 1 (.t 79) (.t 80), none⟩,
          ⟨(some 82), .ld false 1 (.t 81), none⟩,
          ⟨(some 83), .fa 3 (.t 7), none⟩,
          ⟨(some 84), .ld false 1 (.t 83), none⟩,
          ⟨(some 85), .mv (.t 8), none⟩,
          ⟨(some 86), .ia 1 (.t 84) (.t 85), none⟩,
          ⟨(some 87), .ld false 1 (.t 86), none⟩,
          ⟨(some 88), .bin .neq (.t 82) (.t 87), none⟩] [])
        (.cond (.t 88)
         (.seq (.reg [⟨(some 4), .mv (.c (.b false)), none⟩])
         .ret)
         .skip)))
       (.reg [⟨(some 76), .mv (.t 8), none⟩,
         ⟨(some 77), .bin .add (.t 76) (.c (.i .i64 1)), none⟩,
         ⟨(some 8), .mv (.t 77), none⟩])))))))))
    (.reg [⟨(some 18), .mv (.t 5), none⟩,
      ⟨(some 19), .bin .add (.t 18) (.c (.i .i64 1)), none⟩,
      ⟨(some 5), .mv (.t 19), none⟩]))))))
  (.seq (.reg [⟨(some 4), .mv (.c (.b true)), none⟩])
  .ret)))) }
def c_fork_Follow : Fun := { cin := [(.sl 6 (.agg [.id, .id, (.sl 1 .id), (.sl 1 .id), .id, .id])), (.sl 2 (.agg [.id, .id])), (.sl 1 .id), .id], cout := [(.sl 6 (.agg [.id, .id, (.sl 1 .id), (.sl 1 .id), .id, .id])), .id], ntmps := 70, keep := false, res := [(8, none), (9, none)], body :=
  (.seq (.reg [⟨(some 8), .mv (.c .nsl), none⟩,
    ⟨(some 9), .mv (.c (.i .i64 0)), none⟩])
  (.seq (.reg [⟨(some 15), .mv (.t 0), none⟩,
    ⟨(some 16), .call f_slices_Clone_api_Fact_api_Fact [(.t 15)], none⟩,
    ⟨(some 10), .mv (.t 16), none⟩])
  (.seq (.seq (.reg [⟨(some 17), .mv (.t 1), none⟩,
    ⟨(some 18), .len 1 (.t 17), none⟩,
    ⟨(some 19), .mv (.c (.i .i64 0)), none⟩])
  (.blk 0 (.loop (.seq (.reg [⟨(some 20), .bin .lss (.t 19) (.t 18), none⟩])
    (.seq (.cond (.t 20)
     .skip
     (.exit 0))
    (.seq (.blk 1 (.seq (.reg [⟨(some 21), .mv (.t 19), none⟩,
       ⟨(some 22), .ia 2 (.t 17) (.t 19), none⟩,
       ⟨(some 23), .ld true 2 (.t 22), none⟩,
       ⟨(some 12), .alloc 30 [(.i .i64 0), (.b false)], none⟩,
       ⟨(some 11), .mv (.t 21), none⟩,
       ⟨none, .st 2 (.t 12) (.t 23), none⟩])
     (.seq (.reg [⟨(some 25), .mv (.t 10), none⟩,
       ⟨(some 26), .ld true 2 (.t 12), none⟩,
       ⟨(some 27), .mv (.t 3), none⟩,
       ⟨(some 28), .call f_fork_Ways [(.t 25), (.t 26), (.t 27)], none⟩,
       ⟨(some 24), .mv (.t 28), none⟩,
       ⟨(some 29), .ext (.t 24) 0, none⟩,
       ⟨(some 30), .ext (.t 24) 1, none⟩,
       ⟨(some 13), .mv (.t 29), none⟩,
       ⟨(some 14), .mv (.t 30), none⟩])
     (.seq (.blk 2 (.seq (.reg [⟨(some 32), .mv (.t 14), none⟩,
        ⟨(some 33), .bin .neq (.t 32) (.c (.i .i64 0)), none⟩,
        ⟨(some 31), .mv (.t 33), none⟩])
      (.cond (.t 31)
       (.seq (.reg [⟨(some 34), .mv (.t 14), none⟩,
         ⟨(some 8), .mv (.c .nsl), none⟩,
         ⟨(some 9), .mv (.t 34), none⟩])
       .ret)
       (.seq (.reg [⟨(some 36), .mv (.t 11), none⟩,
         ⟨(some 37), .mv (.t 2), none⟩,
         ⟨(some 38), .len 1 (.t 37), none⟩,
         ⟨(some 39), .bin .geq (.t 36) (.t 38), none⟩,
         ⟨(some 40), .mv (.t 39), none⟩,
         ⟨(some 41), .mv (.t 2), (some (40, false))⟩,
         ⟨(some 42), .mv (.t 11), (some (40, false))⟩,
         ⟨(some 43), .ia 1 (.t 41) (.t 42), (some (40, false))⟩,
         ⟨(some 44), .ld false 1 (.t 43), (some (40, false))⟩,
         ⟨(some 45), .bin .lss (.t 44) (.c (.i .i64 0)), (some (40, false))⟩,
         ⟨(some 46), .pick (.t 40) (.c (.b true)) (.t 45), none⟩,
         ⟨(some 47), .mv (.t 46), none⟩,
         ⟨(some 48), .mv (.t 2), (some (47, false))⟩,
         ⟨(some 49), .mv (.t 11), (some (47, false))⟩,
         ⟨(some 50), .ia 1 (.t 48) (.t 49), (some (47, false))⟩,
         ⟨(some 51), .ld false 1 (.t 50), (some (47, false))⟩,
         ⟨(some 52), .mv (.t 13), (some (47, false))⟩,
         ⟨(some 53), .len 1 (.t 52), (some (47, false))⟩,
         ⟨(some 54), .bin .geq (.t 51) (.t 53), (some (47, false))⟩,
         ⟨(some 55), .pick (.t 47) (.c (.b true)) (.t 54), none⟩,
         ⟨(some 35), .mv (.t 55), none⟩])
       (.cond (.t 35)
        (.seq (.reg [⟨(some 8), .mv (.c .nsl), none⟩,
          ⟨(some 9), .mv (.c (.i .i64 1)), none⟩])
        .ret)
        .skip)))))
     (.reg [⟨(some 56), .mv (.t 13), none⟩,
       ⟨(some 57), .mv (.t 2), none⟩,
       ⟨(some 58), .mv (.t 11), none⟩,
       ⟨(some 59), .ia 1 (.t 57) (.t 58), none⟩,
       ⟨(some 60), .ld false 1 (.t 59), none⟩,
       ⟨(some 61), .ia 1 (.t 56) (.t 60), none⟩,
       ⟨(some 62), .ld false 1 (.t 61), none⟩,
       ⟨(some 10), .mv (.t 62), none⟩])))))
    (.reg [⟨(some 63), .bin .add (.t 19) (.c (.i .i64 1)), none⟩,
      ⟨(some 19), .mv (.t 63), none⟩])))))))
  (.seq (.seq (.reg [⟨(some 64), .mv (.t 2), none⟩,
    ⟨(some 65), .len 1 (.t 64), none⟩,
    ⟨(some 66), .mv (.t 1), none⟩,
    ⟨(some 67), .len 1 (.t 66), none⟩,
    ⟨(some 68), .bin .gtr (.t 65) (.t 67), none⟩])
  (.cond (.t 68)
   (.seq (.reg [⟨(some 8), .mv (.c .nsl), none⟩,
     ⟨(some 9), .mv (.c (.i .i64 1)), none⟩])
   .ret)
   .skip))
  (.seq (.reg [⟨(some 69), .mv (.t 10), none⟩,
    ⟨(some 8), .mv (.t 69), none⟩,
    ⟨(some 9), .mv (.c (.i .i64 0)), none⟩])
  .ret))))) }
def c_touchstonelaw24_given : Fun := { cin := [(.sl 2 (.agg [.id, .id]))], cout := [(.sl 2 (.agg [.id, .id]))], ntmps := 26, keep := false, res := [(2, none)], body :=
  (.seq (.reg [⟨(some 2), .mv (.c .nsl), none⟩])
  (.seq (.reg [⟨(some 3), .mv (.c .nsl), none⟩])
  (.seq (.seq (.reg [⟨(some 4), .mv (.c (.i .i64 0)), none⟩])
  (.blk 0 (.loop (.seq (.seq (.reg [⟨(some 5), .mv (.t 4), none⟩,
      ⟨(some 6), .mv (.t 0), none⟩,
      ⟨(some 7), .len 1 (.t 6), none⟩,
      ⟨(some 8), .bin .lss (.t 5) (.t 7), none⟩])
    (.cond (.t 8)
     .skip
     (.exit 0)))
    (.seq (.blk 1 (.seq (.thw 0)
     (.regD [⟨(some 11), .mv (.t 3), none⟩,
       ⟨(some 12), .mv (.t 0), none⟩,
       ⟨(some 13), .mv (.t 4), none⟩,
       ⟨(some 14), .ia 2 (.t 12) (.t 13), none⟩,
       ⟨(some 15), .fa 0 (.t 14), none⟩,
       ⟨(some 16), .ld false 1 (.t 15), none⟩,
       ⟨(some 17), .mv (.t 0), none⟩,
       ⟨(some 18), .mv (.t 4), none⟩,
       ⟨(some 19), .ia 2 (.t 17) (.t 18), none⟩,
       ⟨(some 20), .fa 1 (.t 19), none⟩,
       ⟨(some 21), .ld false 1 (.t 20), none⟩,
       ⟨(some 22), .build [(.i .i64 0), (.b false)] [(0, 1, (.t 16)), (1, 1, (.t 21))], none⟩,
       ⟨(some 23), .bsl 2 [(.t 22)], none⟩,
       ⟨(some 24), .app 2 30 (.t 11) (.t 23), none⟩,
       ⟨(some 3), .mv (.t 24), none⟩] [])))
    (.reg [⟨(some 9), .mv (.t 4), none⟩,
      ⟨(some 10), .bin .add (.t 9) (.c (.i .i64 1)), none⟩,
      ⟨(some 4), .mv (.t 10), none⟩]))))))
  (.seq (.reg [⟨(some 25), .mv (.t 3), none⟩,
    ⟨(some 2), .mv (.t 25), none⟩])
  .ret)))) }
def c_touchstoneref24_Follow : Fun := { cin := [(.sl 6 (.agg [.id, .id, (.sl 1 .id), (.sl 1 .id), .id, .id])), (.sl 2 (.agg [.id, .id])), (.sl 1 .id), .id], cout := [(.sl 6 (.agg [.id, .id, (.sl 1 .id), (.sl 1 .id), .id, .id])), .id], ntmps := 69, keep := false, res := [(8, none), (9, none)], body :=
  (.seq (.reg [⟨(some 8), .mv (.c .nsl), none⟩,
    ⟨(some 9), .mv (.c (.i .i64 0)), none⟩])
  (.seq (.reg [⟨(some 14), .bsl 6 [], none⟩,
    ⟨(some 15), .mv (.t 0), none⟩,
    ⟨(some 16), .app 6 60 (.t 14) (.t 15), none⟩,
    ⟨(some 10), .mv (.t 16), none⟩])
  (.seq (.seq (.reg [⟨(some 11), .mv (.c (.i .i64 0)), none⟩])
  (.blk 0 (.loop (.seq (.seq (.reg [⟨(some 17), .mv (.t 11), none⟩,
      ⟨(some 18), .mv (.t 1), none⟩,
      ⟨(some 19), .len 1 (.t 18), none⟩,
      ⟨(some 20), .bin .lss (.t 17) (.t 19), none⟩])
    (.cond (.t 20)
     .skip
     (.exit 0)))
    (.seq (.blk 1 (.seq (.reg [⟨(some 24), .mv (.t 10), none⟩,
       ⟨(some 25), .mv (.t 1), none⟩,
       ⟨(some 26), .mv (.t 11), none⟩,
       ⟨(some 27), .ia 2 (.t 25) (.t 26), none⟩,
       ⟨(some 28), .ld true 2 (.t 27), none⟩,
       ⟨(some 29), .mv (.t 3), none⟩,
       ⟨(some 30), .call f_touchstoneref24_Ways [(.t 24), (.t 28), (.t 29)], none⟩,
       ⟨(some 23), .mv (.t 30), none⟩,
       ⟨(some 31), .ext (.t 23) 0, none⟩,
       ⟨(some 32), .ext (.t 23) 1, none⟩,
       ⟨(some 12), .mv (.t 31), none⟩,
       ⟨(some 13), .mv (.t 32), none⟩])
     (.seq (.seq (.reg [⟨(some 33), .mv (.t 13), none⟩,
       ⟨(some 34), .bin .neq (.t 33) (.c (.i .i64 0)), none⟩])
     (.cond (.t 34)
      (.seq (.reg [⟨(some 35), .mv (.t 13), none⟩,
        ⟨(some 8), .mv (.c .nsl), none⟩,
        ⟨(some 9), .mv (.t 35), none⟩])
      .ret)
      .skip))
     (.seq (.seq (.reg [⟨(some 36), .mv (.t 11), none⟩,
       ⟨(some 37), .mv (.t 2), none⟩,
       ⟨(some 38), .len 1 (.t 37), none⟩,
       ⟨(some 39), .bin .geq (.t 36) (.t 38), none⟩,
       ⟨(some 40), .mv (.t 39), none⟩,
       ⟨(some 41), .mv (.t 2), (some (40, false))⟩,
       ⟨(some 42), .mv (.t 11), (some (40, false))⟩,
       ⟨(some 43), .ia 1 (.t 41) (.t 42), (some (40, false))⟩,
       ⟨(some 44), .ld false 1 (.t 43), (some (40, false))⟩,
       ⟨(some 45), .bin .lss (.t 44) (.c (.i .i64 0)), (some (40, false))⟩,
       ⟨(some 46), .pick (.t 40) (.c (.b true)) (.t 45), none⟩,
       ⟨(some 47), .mv (.t 46), none⟩,
       ⟨(some 48), .mv (.t 2), (some (47, false))⟩,
       ⟨(some 49), .mv (.t 11), (some (47, false))⟩,
       ⟨(some 50), .ia 1 (.t 48) (.t 49), (some (47, false))⟩,
       ⟨(some 51), .ld false 1 (.t 50), (some (47, false))⟩,
       ⟨(some 52), .mv (.t 12), (some (47, false))⟩,
       ⟨(some 53), .len 1 (.t 52), (some (47, false))⟩,
       ⟨(some 54), .bin .geq (.t 51) (.t 53), (some (47, false))⟩,
       ⟨(some 55), .pick (.t 47) (.c (.b true)) (.t 54), none⟩])
     (.cond (.t 55)
      (.seq (.reg [⟨(some 8), .mv (.c .nsl), none⟩,
        ⟨(some 9), .mv (.c (.i .i64 1)), none⟩])
      .ret)
      .skip))
     (.reg [⟨(some 56), .mv (.t 12), none⟩,
       ⟨(some 57), .mv (.t 2), none⟩,
       ⟨(some 58), .mv (.t 11), none⟩,
       ⟨(some 59), .ia 1 (.t 57) (.t 58), none⟩,
       ⟨(some 60), .ld false 1 (.t 59), none⟩,
       ⟨(some 61), .ia 1 (.t 56) (.t 60), none⟩,
       ⟨(some 62), .ld false 1 (.t 61), none⟩,
       ⟨(some 10), .mv (.t 62), none⟩])))))
    (.reg [⟨(some 21), .mv (.t 11), none⟩,
      ⟨(some 22), .bin .add (.t 21) (.c (.i .i64 1)), none⟩,
      ⟨(some 11), .mv (.t 22), none⟩]))))))
  (.seq (.seq (.reg [⟨(some 63), .mv (.t 2), none⟩,
    ⟨(some 64), .len 1 (.t 63), none⟩,
    ⟨(some 65), .mv (.t 1), none⟩,
    ⟨(some 66), .len 1 (.t 65), none⟩,
    ⟨(some 67), .bin .gtr (.t 64) (.t 66), none⟩])
  (.cond (.t 67)
   (.seq (.reg [⟨(some 8), .mv (.c .nsl), none⟩,
     ⟨(some 9), .mv (.c (.i .i64 1)), none⟩])
   .ret)
   .skip))
  (.seq (.reg [⟨(some 68), .mv (.t 10), none⟩,
    ⟨(some 8), .mv (.t 68), none⟩,
    ⟨(some 9), .mv (.c (.i .i64 0)), none⟩])
  .ret))))) }
def c_pat_May : Fun := { cin := [(.sl 6 (.agg [.id, .id, (.sl 1 .id), (.sl 1 .id), .id, .id]))], cout := [.id], ntmps := 59, keep := false, res := [(2, none)], body :=
  (.seq (.reg [⟨(some 2), .mv (.c (.b false)), none⟩])
  (.seq (.seq (.reg [⟨(some 8), .mv (.t 0), none⟩,
    ⟨(some 9), .len 1 (.t 8), none⟩,
    ⟨(some 10), .bin .eql (.t 9) (.c (.i .i64 0)), none⟩,
    ⟨(some 11), .mv (.t 10), none⟩,
    ⟨(some 12), .mv (.t 0), (some (11, false))⟩,
    ⟨(some 13), .ia 6 (.t 12) (.c (.i .i64 0)), (some (11, false))⟩,
    ⟨(some 14), .ld true 6 (.t 13), (some (11, false))⟩,
    ⟨(some 15), .call f_pat_dir [(.t 14)], (some (11, false))⟩,
    ⟨(some 16), .un .not (.t 15), (some (11, false))⟩,
    ⟨(some 17), .pick (.t 11) (.c (.b true)) (.t 16), none⟩])
  (.cond (.t 17)
   (.seq (.reg [⟨(some 2), .mv (.c (.b false)), none⟩])
   .ret)
   .skip))
  (.seq (.reg [⟨(some 18), .mv (.t 0), none⟩,
    ⟨(some 19), .len 1 (.t 18), none⟩,
    ⟨(some 20), .mks 3 1 [(.i .i64 0)] (.t 19) (.t 19), none⟩,
    ⟨(some 3), .mv (.t 20), none⟩])
  (.seq (.seq (.reg [⟨(some 21), .mv (.t 0), none⟩,
    ⟨(some 22), .len 1 (.t 21), none⟩,
    ⟨(some 23), .mv (.c (.i .i64 0)), none⟩])
  (.blk 0 (.loop (.seq (.reg [⟨(some 24), .bin .lss (.t 23) (.t 22), none⟩])
    (.seq (.cond (.t 24)
     .skip
     (.exit 0))
    (.seq (.blk 1 (.seq (.reg [⟨(some 25), .mv (.t 23), none⟩,
       ⟨(some 26), .ia 6 (.t 21) (.t 23), none⟩,
       ⟨(some 27), .ld true 6 (.t 26), none⟩,
       ⟨(some 5), .alloc 60 [(.b false), (.i .u8 0), .nsl, .nsl, (.i .i64 0), (.i .i64 0)], none⟩,
       ⟨(some 4), .mv (.t 25), none⟩,
       ⟨none, .st 6 (.t 5) (.t 27), none⟩])
     (.seq (.seq (.reg [⟨(some 28), .ld true 6 (.t 5), none⟩,
       ⟨(some 29), .call f_pat_one [(.t 28)], none⟩,
       ⟨(some 30), .un .not (.t 29), none⟩])
     (.cond (.t 30)
      (.seq (.reg [⟨(some 2), .mv (.c (.b false)), none⟩])
      .ret)
      .skip))
     (.seq (.reg [⟨(some 31), .fa 3 (.t 5), none⟩,
       ⟨(some 32), .ld false 1 (.t 31), none⟩,
       ⟨(some 33), .len 1 (.t 32), none⟩,
       ⟨(some 34), .mv (.c (.i .i64 0)), none⟩])
     (.blk 2 (.loop (.seq (.reg [⟨(some 35), .bin .lss (.t 34) (.t 33), none⟩])
       (.seq (.cond (.t 35)
        .skip
        (.exit 2))
       (.seq (.blk 3 (.seq (.reg [⟨(some 36), .ia 1 (.t 32) (.t 34), none⟩,
          ⟨(some 37), .ld false 1 (.t 36), none⟩,
          ⟨(some 7), .mv (.t 37), none⟩])
        (.seq (.seq (.reg [⟨(some 38), .mv (.t 7), none⟩,
          ⟨(some 39), .mv (.t 4), none⟩,
          ⟨(some 40), .bin .leq (.t 38) (.t 39), none⟩,
          ⟨(some 41), .mv (.t 40), none⟩,
          ⟨(some 42), .mv (.t 7), (some (41, false))⟩,
          ⟨(some 43), .mv (.t 0), (some (41, false))⟩,
          ⟨(some 44), .len 1 (.t 43), (some (41, false))⟩,
          ⟨(some 45), .bin .geq (.t 42) (.t 44), (some (41, false))⟩,
          ⟨(some 46), .pick (.t 41) (.c (.b true)) (.t 45), none⟩])
        (.cond (.t 46)
         (.seq (.reg [⟨(some 2), .mv (.c (.b false)), none⟩])
         .ret)
         .skip))
        (.seq (.thw 3)
        (.reg [⟨(some 47), .mv (.t 3), none⟩,
          ⟨(some 48), .mv (.t 7), none⟩,
          ⟨(some 49), .ia 1 (.t 47) (.t 48), none⟩,
          ⟨(some 50), .ld false 1 (.t 49), none⟩,
          ⟨(some 51), .bin .add (.t 50) (.c (.i .i64 1)), none⟩,
          ⟨(some 52), .ia 1 (.t 47) (.t 48), none⟩,
          ⟨none, .st 1 (.t 52) (.t 51), none⟩])))))
       (.reg [⟨(some 53), .bin .add (.t 34) (.c (.i .i64 1)), none⟩,
         ⟨(some 34), .mv (.t 53), none⟩]))))))))))
    (.reg [⟨(some 54), .bin .add (.t 23) (.c (.i .i64 1)), none⟩,
      ⟨(some 23), .mv (.t 54), none⟩])))))))
  (.seq (.reg [⟨(some 55), .mv (.t 3), none⟩,
    ⟨(some 56), .slc false 1 (.t 55) (some (.c (.i .i64 1))) none none, none⟩,
    ⟨(some 57), .call f_slices_ContainsFunc_int_int [(.t 56), (.c (.fn f_pat_May_1 []))], none⟩,
    ⟨(some 58), .un .not (.t 57), none⟩,
    ⟨(some 2), .mv (.t 58), none⟩])
  .ret))))) }
def c_fork_Split_calls : Fun := { cin := [(.agg [.id, .id]), .id], cout := [(.sl 1 .id)], ntmps := 20, keep := false, res := [(4, none)], body :=
  (.seq (.reg [⟨(some 2), .box 30 2 (.t 0), none⟩,
    ⟨(some 4), .mv (.c .nsl), none⟩])
  (.seq (.seq (.reg [⟨(some 7), .fa 1 (.t 2), none⟩,
    ⟨(some 8), .ld false 1 (.t 7), none⟩])
  (.cond (.t 8)
   (.seq (.reg [⟨(some 9), .mkf f_fork_Split_calls_1 [(.t 2)], none⟩,
     ⟨(some 10), .mkf f_fork_Split_calls_2 [(.t 2)], none⟩,
     ⟨(some 11), .bsl 1 [(.t 9), (.t 10)], none⟩,
     ⟨(some 4), .mv (.t 11), none⟩])
   .ret)
   .skip))
  (.seq (.reg [⟨(some 5), .alloc 62 [.nsl], none⟩])
  (.seq (.seq (.reg [⟨(some 12), .mv (.t 1), none⟩,
    ⟨(some 13), .call f_fork_kinds [(.t 12)], none⟩])
  (.blk 0 (.rf (.t 13) [14] (.reg [⟨(some 6), .alloc 5 [(.i .u8 0)], none⟩,
      ⟨none, .st 1 (.t 6) (.t 14), none⟩])
   (.blk 1 (.reg [⟨(some 15), .ld false 1 (.t 5), none⟩,
       ⟨(some 16), .mkf f_fork_Split_calls_3 [(.t 2), (.t 6)], none⟩,
       ⟨(some 17), .bsl 1 [(.t 16)], none⟩,
       ⟨(some 18), .app 1 64 (.t 15) (.t 17), none⟩,
       ⟨none, .st 1 (.t 5) (.t 18), none⟩])))))
  (.seq (.reg [⟨(some 19), .ld false 1 (.t 5), none⟩,
    ⟨(some 4), .mv (.t 19), none⟩])
  .ret))))) }
def c_touchstoneref22_More : Fun := { cin := [(.sl 6 (.agg [.id, .id, (.sl 1 .id), (.sl 1 .id), .id, .id])), .id], cout := [(.sl 6 (.agg [.id, .id, (.sl 1 .id), (.sl 1 .id), .id, .id])), .id], ntmps := 30, keep := false, res := [(4, none), (5, none)], body :=
  (.seq (.reg [⟨(some 4), .mv (.c .nsl), none⟩,
    ⟨(some 5), .mv (.c (.i .i64 0)), none⟩])
  (.seq (.reg [⟨(some 8), .mv (.t 0), none⟩,
    ⟨(some 9), .mv (.t 1), none⟩,
    ⟨(some 10), .call f_touchstoneref22_dir [(.t 8), (.t 9)], none⟩,
    ⟨(some 6), .mv (.t 10), none⟩])
  (.seq (.seq (.reg [⟨(some 11), .mv (.t 6), none⟩,
    ⟨(some 12), .bin .neq (.t 11) (.c (.i .i64 0)), none⟩])
  (.cond (.t 12)
   (.seq (.reg [⟨(some 13), .mv (.t 6), none⟩,
     ⟨(some 4), .mv (.c .nsl), none⟩,
     ⟨(some 5), .mv (.t 13), none⟩])
   .ret)
   .skip))
  (.seq (.reg [⟨(some 14), .mv (.t 0), none⟩,
    ⟨(some 15), .mv (.t 1), none⟩,
    ⟨(some 16), .ia 6 (.t 14) (.t 15), none⟩,
    ⟨(some 17), .ld true 6 (.t 16), none⟩,
    ⟨(some 7), .alloc 60 [(.b false), (.i .u8 0), .nsl, .nsl, (.i .i64 0), (.i .i64 0)], none⟩,
    ⟨none, .st 6 (.t 7) (.t 17), none⟩])
  (.seq (.seq (.reg [⟨(some 18), .fa 4 (.t 7), none⟩,
    ⟨(some 19), .ld false 1 (.t 18), none⟩,
    ⟨(some 20), .bin .eql (.t 19) (.c (.i .i64 1)), none⟩])
  (.cond (.t 20)
   (.seq (.reg [⟨(some 4), .mv (.c .nsl), none⟩,
     ⟨(some 5), .mv (.c (.i .i64 6)), none⟩])
   .ret)
   .skip))
  (.seq (.reg [⟨(some 21), .fa 4 (.t 7), none⟩,
    ⟨none, .st 1 (.t 21) (.c (.i .i64 2)), none⟩])
  (.seq (.reg [⟨(some 22), .fa 2 (.t 7), none⟩,
    ⟨(some 23), .ld false 1 (.t 22), none⟩,
    ⟨(some 24), .len 1 (.t 23), none⟩,
    ⟨(some 25), .fa 5 (.t 7), none⟩,
    ⟨none, .st 1 (.t 25) (.t 24), none⟩])
  (.seq (.reg [⟨(some 26), .mv (.t 0), none⟩,
    ⟨(some 27), .mv (.t 1), none⟩,
    ⟨(some 28), .ld true 6 (.t 7), none⟩,
    ⟨(some 29), .call f_touchstoneref22_with [(.t 26), (.t 27), (.t 28)], none⟩,
    ⟨(some 4), .mv (.t 29), none⟩,
    ⟨(some 5), .mv (.c (.i .i64 0)), none⟩])
  .ret)))))))) }
def c_touchstoneref22_Whole : Fun := { cin := [(.sl 6 (.agg [.id, .id, (.sl 1 .id), (.sl 1 .id), .id, .id])), .id], cout := [(.sl 6 (.agg [.id, .id, (.sl 1 .id), (.sl 1 .id), .id, .id])), .id], ntmps := 65, keep := false, res := [(4, none), (5, none)], body :=
  (.seq (.reg [⟨(some 4), .mv (.c .nsl), none⟩,
    ⟨(some 5), .mv (.c (.i .i64 0)), none⟩])
  (.seq (.reg [⟨(some 11), .mv (.t 0), none⟩,
    ⟨(some 12), .mv (.t 1), none⟩,
    ⟨(some 13), .call f_touchstoneref22_dir [(.t 11), (.t 12)], none⟩,
    ⟨(some 6), .mv (.t 13), none⟩])
  (.seq (.seq (.reg [⟨(some 14), .mv (.t 6), none⟩,
    ⟨(some 15), .bin .neq (.t 14) (.c (.i .i64 0)), none⟩])
  (.cond (.t 15)
   (.seq (.reg [⟨(some 16), .mv (.t 6), none⟩,
     ⟨(some 4), .mv (.c .nsl), none⟩,
     ⟨(some 5), .mv (.t 16), none⟩])
   .ret)
   .skip))
  (.seq (.reg [⟨(some 17), .mv (.t 0), none⟩,
    ⟨(some 18), .mv (.t 1), none⟩,
    ⟨(some 19), .ia 6 (.t 17) (.t 18), none⟩,
    ⟨(some 20), .ld true 6 (.t 19), none⟩,
    ⟨(some 7), .alloc 60 [(.b false), (.i .u8 0), .nsl, .nsl, (.i .i64 0), (.i .i64 0)], none⟩,
    ⟨none, .st 6 (.t 7) (.t 20), none⟩])
  (.seq (.seq (.reg [⟨(some 21), .fa 4 (.t 7), none⟩,
    ⟨(some 22), .ld false 1 (.t 21), none⟩,
    ⟨(some 23), .bin .eql (.t 22) (.c (.i .i64 1)), none⟩])
  (.cond (.t 23)
   (.seq (.reg [⟨(some 4), .mv (.c .nsl), none⟩,
     ⟨(some 5), .mv (.c (.i .i64 6)), none⟩])
   .ret)
   .skip))
  (.seq (.seq (.reg [⟨(some 24), .fa 4 (.t 7), none⟩,
    ⟨(some 25), .ld false 1 (.t 24), none⟩,
    ⟨(some 26), .bin .eql (.t 25) (.c (.i .i64 2)), none⟩])
  (.cond (.t 26)
   (.seq (.reg [⟨(some 8), .mv (.c (.b false)), none⟩])
   (.seq (.reg [⟨(some 27), .ld true 6 (.t 7), none⟩,
     ⟨(some 28), .call f_touchstoneref22_Beside [(.t 27)], none⟩,
     ⟨(some 9), .mv (.t 28), none⟩])
   (.seq (.seq (.reg [⟨(some 10), .mv (.c (.i .i64 0)), none⟩])
   (.blk 0 (.loop (.seq (.seq (.reg [⟨(some 29), .mv (.t 10), none⟩,
       ⟨(some 30), .mv (.t 9), none⟩,
       ⟨(some 31), .len 1 (.t 30), none⟩,
       ⟨(some 32), .bin .lss (.t 29) (.t 31), none⟩])
     (.cond (.t 32)
      .skip
      (.exit 0)))
     (.seq (.blk 1 (.seq (.thw 0)
      (.reg [⟨(some 35), .mv (.t 8), none⟩,
        ⟨(some 36), .mv (.t 35), none⟩,
        ⟨(some 37), .mv (.t 0), (some (36, false))⟩,
        ⟨(some 38), .mv (.t 9), (some (36, false))⟩,
        ⟨(some 39), .mv (.t 10), (some (36, false))⟩,
        ⟨(some 40), .ia 1 (.t 38) (.t 39), (some (36, false))⟩,
        ⟨(some 41), .ld false 1 (.t 40), (some (36, false))⟩,
        ⟨(some 42), .ia 6 (.t 37) (.t 41), (some (36, false))⟩,
        ⟨(some 43), .fa 0 (.t 42), (some (36, false))⟩,
        ⟨(some 44), .ld false 1 (.t 43), (some (36, false))⟩,
        ⟨(some 45), .mv (.t 44), (some (36, false))⟩,
        ⟨(some 46), .mv (.t 0), (some (45, true))⟩,
        ⟨(some 47), .mv (.t 9), (some (45, true))⟩,
        ⟨(some 48), .mv (.t 10), (some (45, true))⟩,
        ⟨(some 49), .ia 1 (.t 47) (.t 48), (some (45, true))⟩,
        ⟨(some 50), .ld false 1 (.t 49), (some (45, true))⟩,
        ⟨(some 51), .ia 6 (.t 46) (.t 50), (some (45, true))⟩,
        ⟨(some 52), .fa 1 (.t 51), (some (45, true))⟩,
        ⟨(some 53), .ld false 1 (.t 52), (some (45, true))⟩,
        ⟨(some 54), .bin .neq (.t 53) (.c (.i .u8 0)), (some (45, true))⟩,
        ⟨(some 55), .pick (.t 45) (.t 54) (.c (.b false)), (some (36, false))⟩,
        ⟨(some 56), .pick (.t 36) (.c (.b true)) (.t 55), none⟩,
        ⟨(some 8), .mv (.t 56), none⟩])))
     (.reg [⟨(some 33), .mv (.t 10), none⟩,
       ⟨(some 34), .bin .add (.t 33) (.c (.i .i64 1)), none⟩,
       ⟨(some 10), .mv (.t 34), none⟩]))))))
   (.seq (.reg [⟨(some 57), .mv (.t 8), none⟩,
     ⟨(some 58), .un .not (.t 57), none⟩])
   (.cond (.t 58)
    (.seq (.reg [⟨(some 4), .mv (.c .nsl), none⟩,
      ⟨(some 5), .mv (.c (.i .i64 67)), none⟩])
    .ret)
    .skip)))))
   .skip))
  (.seq (.reg [⟨(some 59), .fa 4 (.t 7), none⟩,
    ⟨none, .st 1 (.t 59) (.c (.i .i64 1)), none⟩])
  (.seq (.reg [⟨(some 60), .fa 5 (.t 7), none⟩,
    ⟨none, .st 1 (.t 60) (.c (.i .i64 0)), none⟩])
  (.seq (.reg [⟨(some 61), .mv (.t 0), none⟩,
    ⟨(some 62), .mv (.t 1), none⟩,
    ⟨(some 63), .ld true 6 (.t 7), none⟩,
    ⟨(some 64), .call f_touchstoneref22_with [(.t 61), (.t 62), (.t 63)], none⟩,
    ⟨(some 4), .mv (.t 64), none⟩,
    ⟨(some 5), .mv (.c (.i .i64 0)), none⟩])
  .ret))))))))) }
def c_touchstoneref22_Know : Fun := { cin := [(.sl 6 (.agg [.id, .id, (.sl 1 .id), (.sl 1 .id), .id, .id])), .id, .id], cout := [(.sl 6 (.agg [.id, .id, (.sl 1 .id), (.sl 1 .id), .id, .id])), .id], ntmps := 27, keep := false, res := [(6, none), (7, none)], body :=
  (.seq (.reg [⟨(some 6), .mv (.c .nsl), none⟩,
    ⟨(some 7), .mv (.c (.i .i64 0)), none⟩])
  (.seq (.reg [⟨(some 9), .mv (.t 0), none⟩,
    ⟨(some 10), .mv (.t 1), none⟩,
    ⟨(some 11), .call f_touchstoneref22_wrong [(.t 9), (.t 10)], none⟩,
    ⟨(some 8), .mv (.t 11), none⟩])
  (.seq (.seq (.reg [⟨(some 12), .mv (.t 8), none⟩,
    ⟨(some 13), .bin .neq (.t 12) (.c (.i .i64 0)), none⟩])
  (.cond (.t 13)
   (.seq (.reg [⟨(some 14), .mv (.t 8), none⟩,
     ⟨(some 6), .mv (.c .nsl), none⟩,
     ⟨(some 7), .mv (.t 14), none⟩])
   .ret)
   .skip))
  (.seq (.seq (.seq (.thw 0)
  (.reg [⟨(some 15), .mv (.t 0), none⟩,
    ⟨(some 16), .mv (.t 1), none⟩,
    ⟨(some 17), .ia 6 (.t 15) (.t 16), none⟩,
    ⟨(some 18), .fa 0 (.t 17), none⟩,
    ⟨(some 19), .ld false 1 (.t 18), none⟩]))
  (.cond (.t 19)
   (.seq (.reg [⟨(some 6), .mv (.c .nsl), none⟩,
     ⟨(some 7), .mv (.c (.i .i64 6)), none⟩])
   .ret)
   .skip))
  (.seq (.seq (.reg [⟨(some 20), .mv (.t 2), none⟩,
    ⟨(some 21), .bin .gtr (.t 20) (.c (.i .u8 3)), none⟩])
  (.cond (.t 21)
   (.seq (.reg [⟨(some 6), .mv (.c .nsl), none⟩,
     ⟨(some 7), .mv (.c (.i .i64 1)), none⟩])
   .ret)
   .skip))
  (.seq (.reg [⟨(some 22), .mv (.t 0), none⟩,
    ⟨(some 23), .mv (.t 1), none⟩,
    ⟨(some 24), .mv (.t 2), none⟩,
    ⟨(some 25), .build [(.b false), (.i .u8 0), .nsl, .nsl, (.i .i64 0), (.i .i64 0)] [(0, 1, (.c (.b true))), (1, 1, (.t 24))], none⟩,
    ⟨(some 26), .call f_touchstoneref22_with [(.t 22), (.t 23), (.t 25)], none⟩,
    ⟨(some 6), .mv (.t 26), none⟩,
    ⟨(some 7), .mv (.c (.i .i64 0)), none⟩])
  .ret)))))) }
def c_touchstoneref06_Same : Fun := { cin := [(.sl 1 .id), (.sl 1 .id)], cout := [.id], ntmps := 15, keep := false, res := [(4, none)], body :=
  (.seq (.reg [⟨(some 4), .mv (.c (.b false)), none⟩])
  (.seq (.reg [⟨(some 5), .mv (.t 0), none⟩,
    ⟨(some 6), .len 1 (.t 5), none⟩,
    ⟨(some 7), .mv (.t 1), none⟩,
    ⟨(some 8), .len 1 (.t 7), none⟩,
    ⟨(some 9), .bin .eql (.t 6) (.t 8), none⟩,
    ⟨(some 10), .mv (.t 9), none⟩,
    ⟨(some 11), .mv (.t 0), (some (10, true))⟩,
    ⟨(some 12), .mv (.t 1), (some (10, true))⟩,
    ⟨(some 13), .call f_touchstoneref06_Under [(.t 11), (.t 12)], (some (10, true))⟩,
    ⟨(some 14), .pick (.t 10) (.t 13) (.c (.b false)), none⟩,
    ⟨(some 4), .mv (.t 14), none⟩])
  .ret)) }
def c_slices_Clone_api_Fact_api_Fact : Fun := { cin := [(.sl 6 (.agg [.id, .id, (.sl 1 .id), (.sl 1 .id), .id, .id]))], cout := [], ntmps := 8, keep := true, res := [(2, none)], body :=
  (.seq (.reg [⟨(some 2), .mv (.c .nsl), none⟩])
  (.seq (.seq (.reg [⟨(some 3), .mv (.t 0), none⟩,
    ⟨(some 4), .eq .sl false (.t 3) (.c .nsl), none⟩])
  (.cond (.t 4)
   (.seq (.reg [⟨(some 2), .mv (.c .nsl), none⟩])
   .ret)
   .skip))
  (.seq (.reg [⟨(some 5), .bsl 6 [], none⟩,
    ⟨(some 6), .mv (.t 0), none⟩,
    ⟨(some 7), .app 6 60 (.t 5) (.t 6), none⟩,
    ⟨(some 2), .mv (.t 7), none⟩])
  .ret))) }
def c_touchstoneref20_May : Fun := { cin := [(.sl 6 (.agg [.id, .id, (.sl 1 .id), (.sl 1 .id), .id, .id]))], cout := [.id], ntmps := 58, keep := false, res := [(2, none)], body :=
  (.seq (.reg [⟨(some 2), .mv (.c (.b false)), none⟩])
  (.seq (.seq (.reg [⟨(some 7), .mv (.t 0), none⟩,
    ⟨(some 8), .len 1 (.t 7), none⟩,
    ⟨(some 9), .bin .eql (.t 8) (.c (.i .i64 0)), none⟩,
    ⟨(some 10), .mv (.t 9), none⟩,
    ⟨(some 11), .mv (.t 0), (some (10, false))⟩,
    ⟨(some 12), .ia 6 (.t 11) (.c (.i .i64 0)), (some (10, false))⟩,
    ⟨(some 13), .ld true 6 (.t 12), (some (10, false))⟩,
    ⟨(some 14), .call f_touchstoneref20_dir [(.t 13)], (some (10, false))⟩,
    ⟨(some 15), .un .not (.t 14), (some (10, false))⟩,
    ⟨(some 16), .pick (.t 10) (.c (.b true)) (.t 15), none⟩])
  (.cond (.t 16)
   (.seq (.reg [⟨(some 2), .mv (.c (.b false)), none⟩])
   .ret)
   .skip))
  (.seq (.reg [⟨(some 3), .mv (.c (.i .i64 0)), none⟩])
  (.seq (.seq (.reg [⟨(some 4), .mv (.c (.i .i64 0)), none⟩])
  (.blk 0 (.loop (.seq (.seq (.reg [⟨(some 17), .mv (.t 4), none⟩,
      ⟨(some 18), .mv (.t 0), none⟩,
      ⟨(some 19), .len 1 (.t 18), none⟩,
      ⟨(some 20), .bin .lss (.t 17) (.t 19), none⟩])
    (.cond (.t 20)
     .skip
     (.exit 0)))
    (.seq (.blk 1 (.seq (.seq (.reg [⟨(some 23), .mv (.t 0), none⟩,
       ⟨(some 24), .mv (.t 4), none⟩,
       ⟨(some 25), .ia 6 (.t 23) (.t 24), none⟩,
       ⟨(some 26), .ld true 6 (.t 25), none⟩,
       ⟨(some 27), .call f_touchstoneref20_one [(.t 26)], none⟩,
       ⟨(some 28), .un .not (.t 27), none⟩])
     (.cond (.t 28)
      (.seq (.reg [⟨(some 2), .mv (.c (.b false)), none⟩])
      .ret)
      .skip))
     (.seq (.thw 0)
     (.reg [⟨(some 29), .mv (.t 3), none⟩,
       ⟨(some 30), .mv (.t 0), none⟩,
       ⟨(some 31), .mv (.t 4), none⟩,
       ⟨(some 32), .ia 6 (.t 30) (.t 31), none⟩,
       ⟨(some 33), .fa 3 (.t 32), none⟩,
       ⟨(some 34), .ld false 1 (.t 33), none⟩,
       ⟨(some 35), .len 1 (.t 34), none⟩,
       ⟨(some 36), .bin .add (.t 29) (.t 35), none⟩,
       ⟨(some 3), .mv (.t 36), none⟩]))))
    (.reg [⟨(some 21), .mv (.t 4), none⟩,
      ⟨(some 22), .bin .add (.t 21) (.c (.i .i64 1)), none⟩,
      ⟨(some 4), .mv (.t 22), none⟩]))))))
  (.seq (.seq (.reg [⟨(some 37), .mv (.t 3), none⟩,
    ⟨(some 38), .mv (.t 0), none⟩,
    ⟨(some 39), .len 1 (.t 38), none⟩,
    ⟨(some 40), .bin .sub (.t 39) (.c (.i .i64 1)), none⟩,
    ⟨(some 41), .bin .neq (.t 37) (.t 40), none⟩])
  (.cond (.t 41)
   (.seq (.reg [⟨(some 2), .mv (.c (.b false)), none⟩])
   .ret)
   .skip))
  (.seq (.seq (.reg [⟨(some 5), .mv (.c (.i .i64 1)), none⟩])
  (.blk 2 (.loop (.seq (.seq (.reg [⟨(some 42), .mv (.t 5), none⟩,
      ⟨(some 43), .mv (.t 0), none⟩,
      ⟨(some 44), .len 1 (.t 43), none⟩,
      ⟨(some 45), .bin .lss (.t 42) (.t 44), none⟩])
    (.cond (.t 45)
     .skip
     (.exit 2)))
    (.seq (.blk 3 (.seq (.reg [⟨(some 48), .mv (.t 0), none⟩,
       ⟨(some 49), .mv (.t 5), none⟩,
       ⟨(some 50), .call f_touchstoneref20_above [(.t 48), (.t 49)], none⟩,
       ⟨(some 6), .mv (.t 50), none⟩])
     (.seq (.reg [⟨(some 51), .mv (.t 6), none⟩,
       ⟨(some 52), .bin .lss (.t 51) (.c (.i .i64 0)), none⟩,
       ⟨(some 53), .mv (.t 52), none⟩,
       ⟨(some 54), .mv (.t 6), (some (53, false))⟩,
       ⟨(some 55), .mv (.t 5), (some (53, false))⟩,
       ⟨(some 56), .bin .geq (.t 54) (.t 55), (some (53, false))⟩,
       ⟨(some 57), .pick (.t 53) (.c (.b true)) (.t 56), none⟩])
     (.cond (.t 57)
      (.seq (.reg [⟨(some 2), .mv (.c (.b false)), none⟩])
      .ret)
      .skip))))
    (.reg [⟨(some 46), .mv (.t 5), none⟩,
      ⟨(some 47), .bin .add (.t 46) (.c (.i .i64 1)), none⟩,
      ⟨(some 5), .mv (.t 47), none⟩]))))))
  (.seq (.reg [⟨(some 2), .mv (.c (.b true)), none⟩])
  .ret))))))) }
def c_pat_dir : Fun := { cin := [(.agg [.id, .id, (.sl 1 .id), (.sl 1 .id), .id, .id])], cout := [.id], ntmps := 10, keep := false, res := [(2, none)], body :=
  (.seq (.reg [⟨(some 1), .box 60 6 (.t 0), none⟩,
    ⟨(some 2), .mv (.c (.b false)), none⟩])
  (.seq (.reg [⟨(some 3), .fa 0 (.t 1), none⟩,
    ⟨(some 4), .ld false 1 (.t 3), none⟩,
    ⟨(some 5), .mv (.t 4), none⟩,
    ⟨(some 6), .fa 1 (.t 1), (some (5, true))⟩,
    ⟨(some 7), .ld false 1 (.t 6), (some (5, true))⟩,
    ⟨(some 8), .bin .eql (.t 7) (.c (.i .u8 2)), (some (5, true))⟩,
    ⟨(some 9), .pick (.t 5) (.t 8) (.c (.b false)), none⟩,
    ⟨(some 2), .mv (.t 9), none⟩])
  .ret)) }
def c_pat_one : Fun := { cin := [(.agg [.id, .id, (.sl 1 .id), (.sl 1 .id), .id, .id])], cout := [.id], ntmps := 99, keep := false, res := [(2, none)], body :=
  (.seq (.reg [⟨(some 1), .box 60 6 (.t 0), none⟩,
    ⟨(some 2), .mv (.c (.b false)), none⟩])
  (.seq (.blk 0 (.seq (.reg [⟨(some 6), .fa 1 (.t 1), none⟩,
     ⟨(some 7), .ld false 1 (.t 6), none⟩,
     ⟨(some 8), .bin .gtr (.t 7) (.c (.i .u8 3)), none⟩,
     ⟨(some 9), .mv (.t 8), none⟩,
     ⟨(some 10), .fa 0 (.t 1), (some (9, false))⟩,
     ⟨(some 11), .ld false 1 (.t 10), (some (9, false))⟩,
     ⟨(some 12), .un .not (.t 11), (some (9, false))⟩,
     ⟨(some 13), .mv (.t 12), (some (9, false))⟩,
     ⟨(some 14), .fa 1 (.t 1), (some (13, true))⟩,
     ⟨(some 15), .ld false 1 (.t 14), (some (13, true))⟩,
     ⟨(some 16), .bin .neq (.t 15) (.c (.i .u8 0)), (some (13, true))⟩,
     ⟨(some 17), .pick (.t 13) (.t 16) (.c (.b false)), (some (9, false))⟩,
     ⟨(some 18), .pick (.t 9) (.c (.b true)) (.t 17), none⟩,
     ⟨(some 19), .mv (.t 18), none⟩,
     ⟨(some 20), .fa 2 (.t 1), (some (19, false))⟩,
     ⟨(some 21), .ld false 1 (.t 20), (some (19, false))⟩,
     ⟨(some 22), .len 1 (.t 21), (some (19, false))⟩,
     ⟨(some 23), .fa 3 (.t 1), (some (19, false))⟩,
     ⟨(some 24), .ld false 1 (.t 23), (some (19, false))⟩,
     ⟨(some 25), .len 1 (.t 24), (some (19, false))⟩,
     ⟨(some 26), .bin .neq (.t 22) (.t 25), (some (19, false))⟩,
     ⟨(some 27), .pick (.t 19) (.c (.b true)) (.t 26), none⟩,
     ⟨(some 5), .mv (.t 27), none⟩])
   (.cond (.t 5)
    (.seq (.reg [⟨(some 2), .mv (.c (.b false)), none⟩])
    .ret)
    (.seq (.reg [⟨(some 29), .ld true 6 (.t 1), none⟩,
      ⟨(some 30), .call f_pat_dir [(.t 29)], none⟩,
      ⟨(some 31), .un .not (.t 30), none⟩,
      ⟨(some 28), .mv (.t 31), none⟩])
    (.cond (.t 28)
     (.seq (.reg [⟨(some 32), .fa 2 (.t 1), none⟩,
       ⟨(some 33), .ld false 1 (.t 32), none⟩,
       ⟨(some 34), .len 1 (.t 33), none⟩,
       ⟨(some 35), .bin .eql (.t 34) (.c (.i .i64 0)), none⟩,
       ⟨(some 36), .mv (.t 35), none⟩,
       ⟨(some 37), .fa 4 (.t 1), (some (36, true))⟩,
       ⟨(some 38), .ld false 1 (.t 37), (some (36, true))⟩,
       ⟨(some 39), .bin .eql (.t 38) (.c (.i .i64 0)), (some (36, true))⟩,
       ⟨(some 40), .pick (.t 36) (.t 39) (.c (.b false)), none⟩,
       ⟨(some 41), .mv (.t 40), none⟩,
       ⟨(some 42), .fa 5 (.t 1), (some (41, true))⟩,
       ⟨(some 43), .ld false 1 (.t 42), (some (41, true))⟩,
       ⟨(some 44), .bin .eql (.t 43) (.c (.i .i64 0)), (some (41, true))⟩,
       ⟨(some 45), .pick (.t 41) (.t 44) (.c (.b false)), none⟩,
       ⟨(some 2), .mv (.t 45), none⟩])
     .ret)
     .skip)))))
  (.seq (.seq (.reg [⟨(some 46), .fa 2 (.t 1), none⟩,
    ⟨(some 47), .ld false 1 (.t 46), none⟩,
    ⟨(some 48), .len 1 (.t 47), none⟩,
    ⟨(some 49), .mv (.c (.i .i64 0)), none⟩])
  (.blk 1 (.loop (.seq (.reg [⟨(some 50), .bin .lss (.t 49) (.t 48), none⟩])
    (.seq (.cond (.t 50)
     .skip
     (.exit 1))
    (.seq (.blk 2 (.seq (.reg [⟨(some 51), .mv (.t 49), none⟩,
       ⟨(some 52), .ia 1 (.t 47) (.t 49), none⟩,
       ⟨(some 53), .ld false 1 (.t 52), none⟩,
       ⟨(some 3), .mv (.t 51), none⟩,
       ⟨(some 4), .mv (.t 53), none⟩])
     (.seq (.reg [⟨(some 54), .mv (.t 4), none⟩,
       ⟨(some 55), .call f_path_Name [(.t 54)], none⟩,
       ⟨(some 56), .un .not (.t 55), none⟩,
       ⟨(some 57), .mv (.t 56), none⟩,
       ⟨(some 58), .mv (.t 3), (some (57, false))⟩,
       ⟨(some 59), .bin .gtr (.t 58) (.c (.i .i64 0)), (some (57, false))⟩,
       ⟨(some 60), .mv (.t 59), (some (57, false))⟩,
       ⟨(some 61), .mv (.t 4), (some (60, true))⟩,
       ⟨(some 62), .fa 2 (.t 1), (some (60, true))⟩,
       ⟨(some 63), .ld false 1 (.t 62), (some (60, true))⟩,
       ⟨(some 64), .mv (.t 3), (some (60, true))⟩,
       ⟨(some 65), .bin .sub (.t 64) (.c (.i .i64 1)), (some (60, true))⟩,
       ⟨(some 66), .ia 1 (.t 63) (.t 65), (some (60, true))⟩,
       ⟨(some 67), .ld false 1 (.t 66), (some (60, true))⟩,
       ⟨(some 68), .bin .leq (.t 61) (.t 67), (some (60, true))⟩,
       ⟨(some 69), .pick (.t 60) (.t 68) (.c (.b false)), (some (57, false))⟩,
       ⟨(some 70), .pick (.t 57) (.c (.b true)) (.t 69), none⟩])
     (.cond (.t 70)
      (.seq (.reg [⟨(some 2), .mv (.c (.b false)), none⟩])
      .ret)
      .skip))))
    (.reg [⟨(some 71), .bin .add (.t 49) (.c (.i .i64 1)), none⟩,
      ⟨(some 49), .mv (.t 71), none⟩])))))))
  (.seq (.seq (.reg [⟨(some 72), .fa 4 (.t 1), none⟩,
    ⟨(some 73), .ld false 1 (.t 72), none⟩,
    ⟨(some 74), .bin .eql (.t 73) (.c (.i .i64 2)), none⟩])
  (.cond (.t 74)
   (.seq (.reg [⟨(some 75), .fa 5 (.t 1), none⟩,
     ⟨(some 76), .ld false 1 (.t 75), none⟩,
     ⟨(some 77), .bin .geq (.t 76) (.c (.i .i64 0)), none⟩,
     ⟨(some 78), .mv (.t 77), none⟩,
     ⟨(some 79), .fa 5 (.t 1), (some (78, true))⟩,
     ⟨(some 80), .ld false 1 (.t 79), (some (78, true))⟩,
     ⟨(some 81), .fa 2 (.t 1), (some (78, true))⟩,
     ⟨(some 82), .ld false 1 (.t 81), (some (78, true))⟩,
     ⟨(some 83), .len 1 (.t 82), (some (78, true))⟩,
     ⟨(some 84), .bin .leq (.t 80) (.t 83), (some (78, true))⟩,
     ⟨(some 85), .pick (.t 78) (.t 84) (.c (.b false)), none⟩,
     ⟨(some 2), .mv (.t 85), none⟩])
   .ret)
   .skip))
  (.seq (.reg [⟨(some 86), .fa 4 (.t 1), none⟩,
    ⟨(some 87), .ld false 1 (.t 86), none⟩,
    ⟨(some 88), .bin .eql (.t 87) (.c (.i .i64 0)), none⟩,
    ⟨(some 89), .mv (.t 88), none⟩,
    ⟨(some 90), .fa 4 (.t 1), (some (89, false))⟩,
    ⟨(some 91), .ld false 1 (.t 90), (some (89, false))⟩,
    ⟨(some 92), .bin .eql (.t 91) (.c (.i .i64 1)), (some (89, false))⟩,
    ⟨(some 93), .pick (.t 89) (.c (.b true)) (.t 92), none⟩,
    ⟨(some 94), .mv (.t 93), none⟩,
    ⟨(some 95), .fa 5 (.t 1), (some (94, true))⟩,
    ⟨(some 96), .ld false 1 (.t 95), (some (94, true))⟩,
    ⟨(some 97), .bin .eql (.t 96) (.c (.i .i64 0)), (some (94, true))⟩,
    ⟨(some 98), .pick (.t 94) (.t 97) (.c (.b false)), none⟩,
    ⟨(some 2), .mv (.t 98), none⟩])
  .ret))))) }
def c_slices_ContainsFunc_int_int : Fun := { cin := [(.sl 1 .id), .id], cout := [.id], ntmps := 9, keep := false, res := [(4, none)], body :=
  (.seq (.reg [⟨(some 4), .mv (.c (.b false)), none⟩])
  (.seq (.reg [⟨(some 5), .mv (.t 0), none⟩,
    ⟨(some 6), .mv (.t 1), none⟩,
    ⟨(some 7), .call f_slices_IndexFunc_int_int [(.t 5), (.t 6)], none⟩,
    ⟨(some 8), .bin .geq (.t 7) (.c (.i .i64 0)), none⟩,
    ⟨(some 4), .mv (.t 8), none⟩])
  .ret)) }
def c_pat_May_1 : Fun := { cin := [.id], cout := [.id], ntmps := 5, keep := false, res := [(2, none)], body :=
  (.seq (.reg [⟨(some 2), .mv (.c (.b false)), none⟩])
  (.seq (.reg [⟨(some 3), .mv (.t 0), none⟩,
    ⟨(some 4), .bin .neq (.t 3) (.c (.i .i64 1)), none⟩,
    ⟨(some 2), .mv (.t 4), none⟩])
  .ret)) }
def c_fork_Split_calls_1 : Fun := { cin := [(.sl 6 (.agg [.id, .id, (.sl 1 .id), (.sl 1 .id), .id, .id]))], cout := [(.sl 6 (.agg [.id, .id, (.sl 1 .id), (.sl 1 .id), .id, .id])), .id], ntmps := 11, keep := false, res := [(3, none), (4, none)], body :=
  (.seq (.reg [⟨(some 3), .mv (.c .nsl), none⟩,
    ⟨(some 4), .mv (.c (.i .i64 0)), none⟩])
  (.seq (.reg [⟨(some 5), .mv (.t 0), none⟩,
    ⟨(some 6), .fa 0 (.t 1), none⟩,
    ⟨(some 7), .ld false 1 (.t 6), none⟩,
    ⟨(some 8), .call f_store_Whole [(.t 5), (.t 7)], none⟩,
    ⟨(some 9), .ext (.t 8) 0, none⟩,
    ⟨(some 10), .ext (.t 8) 1, none⟩,
    ⟨(some 3), .mv (.t 9), none⟩,
    ⟨(some 4), .mv (.t 10), none⟩])
  .ret)) }
def c_store_Whole : Fun := { cin := [(.sl 6 (.agg [.id, .id, (.sl 1 .id), (.sl 1 .id), .id, .id])), .id], cout := [(.sl 6 (.agg [.id, .id, (.sl 1 .id), (.sl 1 .id), .id, .id])), .id], ntmps := 12, keep := false, res := [(4, none), (5, none)], body :=
  (.seq (.reg [⟨(some 2), .box 22 1 (.t 0), none⟩,
    ⟨(some 4), .mv (.c .nsl), none⟩,
    ⟨(some 5), .mv (.c (.i .i64 0)), none⟩])
  (.seq (.reg [⟨(some 6), .ld false 1 (.t 2), none⟩,
    ⟨(some 7), .mv (.t 1), none⟩,
    ⟨(some 8), .mkf f_store_Whole_1 [(.t 2)], none⟩,
    ⟨(some 9), .call f_store_change [(.t 6), (.t 7), (.t 8), (.c (.fn f_store_Whole_2 []))], none⟩,
    ⟨(some 10), .ext (.t 9) 0, none⟩,
    ⟨(some 11), .ext (.t 9) 1, none⟩,
    ⟨(some 4), .mv (.t 10), none⟩,
    ⟨(some 5), .mv (.t 11), none⟩])
  .ret)) }
def c_fork_Split_calls_2 : Fun := { cin := [(.sl 6 (.agg [.id, .id, (.sl 1 .id), (.sl 1 .id), .id, .id]))], cout := [(.sl 6 (.agg [.id, .id, (.sl 1 .id), (.sl 1 .id), .id, .id])), .id], ntmps := 11, keep := false, res := [(3, none), (4, none)], body :=
  (.seq (.reg [⟨(some 3), .mv (.c .nsl), none⟩,
    ⟨(some 4), .mv (.c (.i .i64 0)), none⟩])
  (.seq (.reg [⟨(some 5), .mv (.t 0), none⟩,
    ⟨(some 6), .fa 0 (.t 1), none⟩,
    ⟨(some 7), .ld false 1 (.t 6), none⟩,
    ⟨(some 8), .call f_store_More [(.t 5), (.t 7)], none⟩,
    ⟨(some 9), .ext (.t 8) 0, none⟩,
    ⟨(some 10), .ext (.t 8) 1, none⟩,
    ⟨(some 3), .mv (.t 9), none⟩,
    ⟨(some 4), .mv (.t 10), none⟩])
  .ret)) }
def c_store_More : Fun := { cin := [(.sl 6 (.agg [.id, .id, (.sl 1 .id), (.sl 1 .id), .id, .id])), .id], cout := [(.sl 6 (.agg [.id, .id, (.sl 1 .id), (.sl 1 .id), .id, .id])), .id], ntmps := 11, keep := false, res := [(4, none), (5, none)], body :=
  (.seq (.reg [⟨(some 4), .mv (.c .nsl), none⟩,
    ⟨(some 5), .mv (.c (.i .i64 0)), none⟩])
  (.seq (.reg [⟨(some 6), .mv (.t 0), none⟩,
    ⟨(some 7), .mv (.t 1), none⟩,
    ⟨(some 8), .call f_store_change [(.t 6), (.t 7), (.c (.fn f_store_More_1 [])), (.c (.fn f_store_More_2 []))], none⟩,
    ⟨(some 9), .ext (.t 8) 0, none⟩,
    ⟨(some 10), .ext (.t 8) 1, none⟩,
    ⟨(some 4), .mv (.t 9), none⟩,
    ⟨(some 5), .mv (.t 10), none⟩])
  .ret)) }
def c_fork_kinds : Fun := { cin := [.id], cout := [.id], ntmps := 4, keep := false, res := [(2, none)], body :=
  (.seq (.reg [⟨(some 1), .box 4 1 (.t 0), none⟩,
    ⟨(some 2), .mv (.c .nf), none⟩])
  (.seq (.reg [⟨(some 3), .mkf f_fork_kinds_1 [(.t 1)], none⟩,
    ⟨(some 2), .mv (.t 3), none⟩])
  .ret)) }
def c_fork_Split_calls_3 : Fun := { cin := [(.sl 6 (.agg [.id, .id, (.sl 1 .id), (.sl 1 .id), .id, .id]))], cout := [(.sl 6 (.agg [.id, .id, (.sl 1 .id), (.sl 1 .id), .id, .id])), .id], ntmps := 13, keep := false, res := [(4, none), (5, none)], body :=
  (.seq (.reg [⟨(some 4), .mv (.c .nsl), none⟩,
    ⟨(some 5), .mv (.c (.i .i64 0)), none⟩])
  (.seq (.reg [⟨(some 6), .mv (.t 0), none⟩,
    ⟨(some 7), .fa 0 (.t 1), none⟩,
    ⟨(some 8), .ld false 1 (.t 7), none⟩,
    ⟨(some 9), .ld false 1 (.t 2), none⟩,
    ⟨(some 10), .call f_store_Know [(.t 6), (.t 8), (.t 9)], none⟩,
    ⟨(some 11), .ext (.t 10) 0, none⟩,
    ⟨(some 12), .ext (.t 10) 1, none⟩,
    ⟨(some 4), .mv (.t 11), none⟩,
    ⟨(some 5), .mv (.t 12), none⟩])
  .ret)) }
def c_store_Know : Fun := { cin := [(.sl 6 (.agg [.id, .id, (.sl 1 .id), (.sl 1 .id), .id, .id])), .id, .id], cout := [(.sl 6 (.agg [.id, .id, (.sl 1 .id), (.sl 1 .id), .id, .id])), .id], ntmps := 15, keep := false, res := [(6, none), (7, none)], body :=
  (.seq (.reg [⟨(some 5), .box 5 1 (.t 2), none⟩,
    ⟨(some 6), .mv (.c .nsl), none⟩,
    ⟨(some 7), .mv (.c (.i .i64 0)), none⟩])
  (.seq (.reg [⟨(some 8), .mv (.t 0), none⟩,
    ⟨(some 9), .mv (.t 1), none⟩,
    ⟨(some 10), .mkf f_store_Know_1 [(.t 5)], none⟩,
    ⟨(some 11), .mkf f_store_Know_2 [(.t 5)], none⟩,
    ⟨(some 12), .call f_store_change [(.t 8), (.t 9), (.t 10), (.t 11)], none⟩,
    ⟨(some 13), .ext (.t 12) 0, none⟩,
    ⟨(some 14), .ext (.t 12) 1, none⟩,
    ⟨(some 6), .mv (.t 13), none⟩,
    ⟨(some 7), .mv (.t 14), none⟩])
  .ret)) }
def c_touchstoneref22_dir : Fun := { cin := [(.sl 6 (.agg [.id, .id, (.sl 1 .id), (.sl 1 .id), .id, .id])), .id], cout := [.id], ntmps := 28, keep := false, res := [(4, none)], body :=
  (.seq (.reg [⟨(some 4), .mv (.c (.i .i64 0)), none⟩])
  (.seq (.reg [⟨(some 6), .mv (.t 0), none⟩,
    ⟨(some 7), .mv (.t 1), none⟩,
    ⟨(some 8), .call f_touchstoneref22_wrong [(.t 6), (.t 7)], none⟩,
    ⟨(some 5), .mv (.t 8), none⟩])
  (.seq (.seq (.seq (.thw 0)
  (.reg [⟨(some 9), .mv (.t 5), none⟩,
    ⟨(some 10), .bin .eql (.t 9) (.c (.i .i64 0)), none⟩,
    ⟨(some 11), .mv (.t 10), none⟩,
    ⟨(some 12), .mv (.t 0), (some (11, true))⟩,
    ⟨(some 13), .mv (.t 1), (some (11, true))⟩,
    ⟨(some 14), .ia 6 (.t 12) (.t 13), (some (11, true))⟩,
    ⟨(some 15), .fa 0 (.t 14), (some (11, true))⟩,
    ⟨(some 16), .ld false 1 (.t 15), (some (11, true))⟩,
    ⟨(some 17), .un .not (.t 16), (some (11, true))⟩,
    ⟨(some 18), .mv (.t 17), (some (11, true))⟩,
    ⟨(some 19), .mv (.t 0), (some (18, false))⟩,
    ⟨(some 20), .mv (.t 1), (some (18, false))⟩,
    ⟨(some 21), .ia 6 (.t 19) (.t 20), (some (18, false))⟩,
    ⟨(some 22), .fa 1 (.t 21), (some (18, false))⟩,
    ⟨(some 23), .ld false 1 (.t 22), (some (18, false))⟩,
    ⟨(some 24), .bin .neq (.t 23) (.c (.i .u8 2)), (some (18, false))⟩,
    ⟨(some 25), .pick (.t 18) (.c (.b true)) (.t 24), (some (11, true))⟩,
    ⟨(some 26), .pick (.t 11) (.t 25) (.c (.b false)), none⟩]))
  (.cond (.t 26)
   (.seq (.reg [⟨(some 4), .mv (.c (.i .i64 1)), none⟩])
   .ret)
   .skip))
  (.seq (.reg [⟨(some 27), .mv (.t 5), none⟩,
    ⟨(some 4), .mv (.t 27), none⟩])
  .ret)))) }
def c_touchstoneref22_with : Fun := { cin := [(.sl 6 (.agg [.id, .id, (.sl 1 .id), (.sl 1 .id), .id, .id])), .id, (.agg [.id, .id, (.sl 1 .id), (.sl 1 .id), .id, .id])], cout := [(.sl 6 (.agg [.id, .id, (.sl 1 .id), (.sl 1 .id), .id, .id]))], ntmps := 16, keep := false, res := [(6, none)], body :=
  (.seq (.reg [⟨(some 5), .box 60 6 (.t 2), none⟩,
    ⟨(some 6), .mv (.c .nsl), none⟩])
  (.seq (.reg [⟨(some 8), .bsl 6 [], none⟩,
    ⟨(some 9), .mv (.t 0), none⟩,
    ⟨(some 10), .app 6 60 (.t 8) (.t 9), none⟩,
    ⟨(some 7), .mv (.t 10), none⟩])
  (.seq (.seq (.thw 7)
  (.reg [⟨(some 11), .mv (.t 7), none⟩,
    ⟨(some 12), .mv (.t 1), none⟩,
    ⟨(some 13), .ld true 6 (.t 5), none⟩,
    ⟨(some 14), .ia 6 (.t 11) (.t 12), none⟩,
    ⟨none, .st 6 (.t 14) (.t 13), none⟩]))
  (.seq (.reg [⟨(some 15), .mv (.t 7), none⟩,
    ⟨(some 6), .mv (.t 15), none⟩])
  .ret)))) }
def c_touchstoneref22_Beside : Fun := { cin := [(.agg [.id, .id, (.sl 1 .id), (.sl 1 .id), .id, .id])], cout := [(.sl 1 .id)], ntmps := 58, keep := false, res := [(2, none)], body :=
  (.seq (.reg [⟨(some 1), .box 60 6 (.t 0), none⟩,
    ⟨(some 2), .mv (.c .nsl), none⟩])
  (.seq (.reg [⟨(some 3), .mv (.c .nsl), none⟩])
  (.seq (.seq (.reg [⟨(some 4), .mv (.c (.i .i64 0)), none⟩])
  (.blk 0 (.loop (.seq (.seq (.reg [⟨(some 7), .mv (.t 4), none⟩,
      ⟨(some 8), .fa 3 (.t 1), none⟩,
      ⟨(some 9), .ld false 1 (.t 8), none⟩,
      ⟨(some 10), .len 1 (.t 9), none⟩,
      ⟨(some 11), .bin .lss (.t 7) (.t 10), none⟩])
    (.cond (.t 11)
     .skip
     (.exit 0)))
    (.seq (.blk 1 (.seq (.reg [⟨(some 14), .mv (.t 3), none⟩,
       ⟨(some 15), .len 1 (.t 14), none⟩,
       ⟨(some 5), .mv (.t 15), none⟩])
     (.seq (.blk 2 (.loop (.seq (.seq (.regD [⟨(some 16), .mv (.t 5), none⟩,
         ⟨(some 17), .bin .gtr (.t 16) (.c (.i .i64 0)), none⟩,
         ⟨(some 18), .mv (.t 17), none⟩,
         ⟨(some 19), .mv (.t 3), (some (18, true))⟩,
         ⟨(some 20), .mv (.t 5), (some (18, true))⟩,
         ⟨(some 21), .bin .sub (.t 20) (.c (.i .i64 1)), (some (18, true))⟩,
         ⟨(some 22), .ia 1 (.t 19) (.t 21), (some (18, true))⟩,
         ⟨(some 23), .ld false 1 (.t 22), (some (18, true))⟩,
         ⟨(some 24), .fa 3 (.t 1), (some (18, true))⟩,
         ⟨(some 25), .ld false 1 (.t 24), (some (18, true))⟩,
         ⟨(some 26), .mv (.t 4), (some (18, true))⟩,
         ⟨(some 27), .ia 1 (.t 25) (.t 26), (some (18, true))⟩,
         ⟨(some 28), .ld false 1 (.t 27), (some (18, true))⟩,
         ⟨(some 29), .bin .gtr (.t 23) (.t 28), (some (18, true))⟩,
         ⟨(some 30), .pick (.t 18) (.t 29) (.c (.b false)), none⟩] [])
       (.cond (.t 30)
        .skip
        (.exit 2)))
       (.blk 3 (.reg [⟨(some 31), .mv (.t 5), none⟩,
          ⟨(some 32), .bin .sub (.t 31) (.c (.i .i64 1)), none⟩,
          ⟨(some 5), .mv (.t 32), none⟩])))))
     (.seq (.reg [⟨(some 33), .bsl 1 [], none⟩,
       ⟨(some 34), .mv (.t 3), none⟩,
       ⟨(some 35), .mv (.t 5), none⟩,
       ⟨(some 36), .slc false 1 (.t 34) none (some (.t 35)) none, none⟩,
       ⟨(some 37), .app 1 3 (.t 33) (.t 36), none⟩,
       ⟨(some 6), .mv (.t 37), none⟩])
     (.seq (.reg [⟨(some 38), .mv (.t 6), none⟩,
       ⟨(some 39), .fa 3 (.t 1), none⟩,
       ⟨(some 40), .ld false 1 (.t 39), none⟩,
       ⟨(some 41), .mv (.t 4), none⟩,
       ⟨(some 42), .ia 1 (.t 40) (.t 41), none⟩,
       ⟨(some 43), .ld false 1 (.t 42), none⟩,
       ⟨(some 44), .bsl 1 [(.t 43)], none⟩,
       ⟨(some 45), .app 1 3 (.t 38) (.t 44), none⟩,
       ⟨(some 6), .mv (.t 45), none⟩])
     (.reg [⟨(some 46), .mv (.t 6), none⟩,
       ⟨(some 47), .mv (.t 3), none⟩,
       ⟨(some 48), .mv (.t 5), none⟩,
       ⟨(some 49), .slc false 1 (.t 47) (some (.t 48)) none none, none⟩,
       ⟨(some 50), .app 1 3 (.t 46) (.t 49), none⟩,
       ⟨(some 3), .mv (.t 50), none⟩]))))))
    (.reg [⟨(some 12), .mv (.t 4), none⟩,
      ⟨(some 13), .bin .add (.t 12) (.c (.i .i64 1)), none⟩,
      ⟨(some 4), .mv (.t 13), none⟩]))))))
  (.seq (.reg [⟨(some 51), .mv (.t 3), none⟩,
    ⟨(some 52), .fa 5 (.t 1), none⟩,
    ⟨(some 53), .ld false 1 (.t 52), none⟩,
    ⟨(some 54), .mv (.t 3), none⟩,
    ⟨(some 55), .len 1 (.t 54), none⟩,
    ⟨(some 56), .mm false (.t 53) (.t 55), none⟩,
    ⟨(some 57), .slc false 1 (.t 51) (some (.t 56)) none none, none⟩,
    ⟨(some 2), .mv (.t 57), none⟩])
  .ret)))) }
def c_touchstoneref22_wrong : Fun := { cin := [(.sl 6 (.agg [.id, .id, (.sl 1 .id), (.sl 1 .id), .id, .id])), .id], cout := [.id], ntmps := 16, keep := false, res := [(4, none)], body :=
  (.seq (.reg [⟨(some 4), .mv (.c (.i .i64 0)), none⟩])
  (.seq (.seq (.reg [⟨(some 5), .mv (.t 0), none⟩,
    ⟨(some 6), .call f_touchstoneref20_May [(.t 5)], none⟩,
    ⟨(some 7), .un .not (.t 6), none⟩])
  (.cond (.t 7)
   (.seq (.reg [⟨(some 4), .mv (.c (.i .i64 4)), none⟩])
   .ret)
   .skip))
  (.seq (.seq (.reg [⟨(some 8), .mv (.t 1), none⟩,
    ⟨(some 9), .bin .lss (.t 8) (.c (.i .i64 0)), none⟩,
    ⟨(some 10), .mv (.t 9), none⟩,
    ⟨(some 11), .mv (.t 1), (some (10, false))⟩,
    ⟨(some 12), .mv (.t 0), (some (10, false))⟩,
    ⟨(some 13), .len 1 (.t 12), (some (10, false))⟩,
    ⟨(some 14), .bin .geq (.t 11) (.t 13), (some (10, false))⟩,
    ⟨(some 15), .pick (.t 10) (.c (.b true)) (.t 14), none⟩])
  (.cond (.t 15)
   (.seq (.reg [⟨(some 4), .mv (.c (.i .i64 1)), none⟩])
   .ret)
   .skip))
  (.seq (.reg [⟨(some 4), .mv (.c (.i .i64 0)), none⟩])
  .ret)))) }
def c_touchstoneref06_Under : Fun := { cin := [(.sl 1 .id), (.sl 1 .id)], cout := [.id], ntmps := 26, keep := false, res := [(4, none)], body :=
  (.seq (.reg [⟨(some 4), .mv (.c (.b false)), none⟩])
  (.seq (.seq (.reg [⟨(some 6), .mv (.t 0), none⟩,
    ⟨(some 7), .len 1 (.t 6), none⟩,
    ⟨(some 8), .mv (.t 1), none⟩,
    ⟨(some 9), .len 1 (.t 8), none⟩,
    ⟨(some 10), .bin .gtr (.t 7) (.t 9), none⟩])
  (.cond (.t 10)
   (.seq (.reg [⟨(some 4), .mv (.c (.b false)), none⟩])
   .ret)
   .skip))
  (.seq (.seq (.reg [⟨(some 5), .mv (.c (.i .i64 0)), none⟩])
  (.blk 0 (.loop (.seq (.seq (.reg [⟨(some 11), .mv (.t 5), none⟩,
      ⟨(some 12), .mv (.t 0), none⟩,
      ⟨(some 13), .len 1 (.t 12), none⟩,
      ⟨(some 14), .bin .lss (.t 11) (.t 13), none⟩])
    (.cond (.t 14)
     .skip
     (.exit 0)))
    (.seq (.blk 1 (.seq (.regD [⟨(some 17), .mv (.t 0), none⟩,
       ⟨(some 18), .mv (.t 5), none⟩,
       ⟨(some 19), .ia 1 (.t 17) (.t 18), none⟩,
       ⟨(some 20), .ld false 1 (.t 19), none⟩,
       ⟨(some 21), .mv (.t 1), none⟩,
       ⟨(some 22), .mv (.t 5), none⟩,
       ⟨(some 23), .ia 1 (.t 21) (.t 22), none⟩,
       ⟨(some 24), .ld false 1 (.t 23), none⟩,
       ⟨(some 25), .bin .neq (.t 20) (.t 24), none⟩] [])
     (.cond (.t 25)
      (.seq (.reg [⟨(some 4), .mv (.c (.b false)), none⟩])
      .ret)
      .skip)))
    (.reg [⟨(some 15), .mv (.t 5), none⟩,
      ⟨(some 16), .bin .add (.t 15) (.c (.i .i64 1)), none⟩,
      ⟨(some 5), .mv (.t 16), none⟩]))))))
  (.seq (.reg [⟨(some 4), .mv (.c (.b true)), none⟩])
  .ret)))) }
def c_touchstoneref20_dir : Fun := { cin := [(.agg [.id, .id, (.sl 1 .id), (.sl 1 .id), .id, .id])], cout := [.id], ntmps := 10, keep := false, res := [(2, none)], body :=
  (.seq (.reg [⟨(some 1), .box 60 6 (.t 0), none⟩,
    ⟨(some 2), .mv (.c (.b false)), none⟩])
  (.seq (.reg [⟨(some 3), .fa 0 (.t 1), none⟩,
    ⟨(some 4), .ld false 1 (.t 3), none⟩,
    ⟨(some 5), .mv (.t 4), none⟩,
    ⟨(some 6), .fa 1 (.t 1), (some (5, true))⟩,
    ⟨(some 7), .ld false 1 (.t 6), (some (5, true))⟩,
    ⟨(some 8), .bin .eql (.t 7) (.c (.i .u8 2)), (some (5, true))⟩,
    ⟨(some 9), .pick (.t 5) (.t 8) (.c (.b false)), none⟩,
    ⟨(some 2), .mv (.t 9), none⟩])
  .ret)) }
def c_touchstoneref20_one : Fun := { cin := [(.agg [.id, .id, (.sl 1 .id), (.sl 1 .id), .id, .id])], cout := [.id], ntmps := 102, keep := false, res := [(2, none)], body :=
  (.seq (.reg [⟨(some 1), .box 60 6 (.t 0), none⟩,
    ⟨(some 2), .mv (.c (.b false)), none⟩])
  (.seq (.seq (.reg [⟨(some 4), .fa 1 (.t 1), none⟩,
    ⟨(some 5), .ld false 1 (.t 4), none⟩,
    ⟨(some 6), .bin .gtr (.t 5) (.c (.i .u8 3)), none⟩,
    ⟨(some 7), .mv (.t 6), none⟩,
    ⟨(some 8), .fa 0 (.t 1), (some (7, false))⟩,
    ⟨(some 9), .ld false 1 (.t 8), (some (7, false))⟩,
    ⟨(some 10), .un .not (.t 9), (some (7, false))⟩,
    ⟨(some 11), .mv (.t 10), (some (7, false))⟩,
    ⟨(some 12), .fa 1 (.t 1), (some (11, true))⟩,
    ⟨(some 13), .ld false 1 (.t 12), (some (11, true))⟩,
    ⟨(some 14), .bin .neq (.t 13) (.c (.i .u8 0)), (some (11, true))⟩,
    ⟨(some 15), .pick (.t 11) (.t 14) (.c (.b false)), (some (7, false))⟩,
    ⟨(some 16), .pick (.t 7) (.c (.b true)) (.t 15), none⟩,
    ⟨(some 17), .mv (.t 16), none⟩,
    ⟨(some 18), .fa 2 (.t 1), (some (17, false))⟩,
    ⟨(some 19), .ld false 1 (.t 18), (some (17, false))⟩,
    ⟨(some 20), .len 1 (.t 19), (some (17, false))⟩,
    ⟨(some 21), .fa 3 (.t 1), (some (17, false))⟩,
    ⟨(some 22), .ld false 1 (.t 21), (some (17, false))⟩,
    ⟨(some 23), .len 1 (.t 22), (some (17, false))⟩,
    ⟨(some 24), .bin .neq (.t 20) (.t 23), (some (17, false))⟩,
    ⟨(some 25), .pick (.t 17) (.c (.b true)) (.t 24), none⟩])
  (.cond (.t 25)
   (.seq (.reg [⟨(some 2), .mv (.c (.b false)), none⟩])
   .ret)
   .skip))
  (.seq (.seq (.reg [⟨(some 26), .ld true 6 (.t 1), none⟩,
    ⟨(some 27), .call f_touchstoneref20_dir [(.t 26)], none⟩,
    ⟨(some 28), .un .not (.t 27), none⟩])
  (.cond (.t 28)
   (.seq (.reg [⟨(some 29), .fa 2 (.t 1), none⟩,
     ⟨(some 30), .ld false 1 (.t 29), none⟩,
     ⟨(some 31), .len 1 (.t 30), none⟩,
     ⟨(some 32), .bin .eql (.t 31) (.c (.i .i64 0)), none⟩,
     ⟨(some 33), .mv (.t 32), none⟩,
     ⟨(some 34), .fa 4 (.t 1), (some (33, true))⟩,
     ⟨(some 35), .ld false 1 (.t 34), (some (33, true))⟩,
     ⟨(some 36), .bin .eql (.t 35) (.c (.i .i64 0)), (some (33, true))⟩,
     ⟨(some 37), .pick (.t 33) (.t 36) (.c (.b false)), none⟩,
     ⟨(some 38), .mv (.t 37), none⟩,
     ⟨(some 39), .fa 5 (.t 1), (some (38, true))⟩,
     ⟨(some 40), .ld false 1 (.t 39), (some (38, true))⟩,
     ⟨(some 41), .bin .eql (.t 40) (.c (.i .i64 0)), (some (38, true))⟩,
     ⟨(some 42), .pick (.t 38) (.t 41) (.c (.b false)), none⟩,
     ⟨(some 2), .mv (.t 42), none⟩])
   .ret)
   .skip))
  (.seq (.seq (.reg [⟨(some 3), .mv (.c (.i .i64 0)), none⟩])
  (.blk 0 (.loop (.seq (.seq (.reg [⟨(some 43), .mv (.t 3), none⟩,
      ⟨(some 44), .fa 2 (.t 1), none⟩,
      ⟨(some 45), .ld false 1 (.t 44), none⟩,
      ⟨(some 46), .len 1 (.t 45), none⟩,
      ⟨(some 47), .bin .lss (.t 43) (.t 46), none⟩])
    (.cond (.t 47)
     .skip
     (.exit 0)))
    (.seq (.blk 1 (.seq (.regD [⟨(some 50), .fa 2 (.t 1), none⟩,
       ⟨(some 51), .ld false 1 (.t 50), none⟩,
       ⟨(some 52), .mv (.t 3), none⟩,
       ⟨(some 53), .ia 1 (.t 51) (.t 52), none⟩,
       ⟨(some 54), .ld false 1 (.t 53), none⟩,
       ⟨(some 55), .call f_touchstoneref06_Name [(.t 54)], none⟩,
       ⟨(some 56), .un .not (.t 55), none⟩,
       ⟨(some 57), .mv (.t 56), none⟩,
       ⟨(some 58), .mv (.t 3), (some (57, false))⟩,
       ⟨(some 59), .bin .gtr (.t 58) (.c (.i .i64 0)), (some (57, false))⟩,
       ⟨(some 60), .mv (.t 59), (some (57, false))⟩,
       ⟨(some 61), .fa 2 (.t 1), (some (60, true))⟩,
       ⟨(some 62), .ld false 1 (.t 61), (some (60, true))⟩,
       ⟨(some 63), .mv (.t 3), (some (60, true))⟩,
       ⟨(some 64), .ia 1 (.t 62) (.t 63), (some (60, true))⟩,
       ⟨(some 65), .ld false 1 (.t 64), (some (60, true))⟩,
       ⟨(some 66), .fa 2 (.t 1), (some (60, true))⟩,
       ⟨(some 67), .ld false 1 (.t 66), (some (60, true))⟩,
       ⟨(some 68), .mv (.t 3), (some (60, true))⟩,
       ⟨(some 69), .bin .sub (.t 68) (.c (.i .i64 1)), (some (60, true))⟩,
       ⟨(some 70), .ia 1 (.t 67) (.t 69), (some (60, true))⟩,
       ⟨(some 71), .ld false 1 (.t 70), (some (60, true))⟩,
       ⟨(some 72), .bin .leq (.t 65) (.t 71), (some (60, true))⟩,
       ⟨(some 73), .pick (.t 60) (.t 72) (.c (.b false)), (some (57, false))⟩,
       ⟨(some 74), .pick (.t 57) (.c (.b true)) (.t 73), none⟩] [])
     (.cond (.t 74)
      (.seq (.reg [⟨(some 2), .mv (.c (.b false)), none⟩])
      .ret)
      .skip)))
    (.reg [⟨(some 48), .mv (.t 3), none⟩,
      ⟨(some 49), .bin .add (.t 48) (.c (.i .i64 1)), none⟩,
      ⟨(some 3), .mv (.t 49), none⟩]))))))
  (.seq (.seq (.reg [⟨(some 75), .fa 4 (.t 1), none⟩,
    ⟨(some 76), .ld false 1 (.t 75), none⟩,
    ⟨(some 77), .bin .eql (.t 76) (.c (.i .i64 2)), none⟩])
  (.cond (.t 77)
   (.seq (.reg [⟨(some 78), .fa 5 (.t 1), none⟩,
     ⟨(some 79), .ld false 1 (.t 78), none⟩,
     ⟨(some 80), .bin .geq (.t 79) (.c (.i .i64 0)), none⟩,
     ⟨(some 81), .mv (.t 80), none⟩,
     ⟨(some 82), .fa 5 (.t 1), (some (81, true))⟩,
     ⟨(some 83), .ld false 1 (.t 82), (some (81, true))⟩,
     ⟨(some 84), .fa 2 (.t 1), (some (81, true))⟩,
     ⟨(some 85), .ld false 1 (.t 84), (some (81, true))⟩,
     ⟨(some 86), .len 1 (.t 85), (some (81, true))⟩,
     ⟨(some 87), .bin .leq (.t 83) (.t 86), (some (81, true))⟩,
     ⟨(some 88), .pick (.t 81) (.t 87) (.c (.b false)), none⟩,
     ⟨(some 2), .mv (.t 88), none⟩])
   .ret)
   .skip))
  (.seq (.reg [⟨(some 89), .fa 4 (.t 1), none⟩,
    ⟨(some 90), .ld false 1 (.t 89), none⟩,
    ⟨(some 91), .bin .eql (.t 90) (.c (.i .i64 0)), none⟩,
    ⟨(some 92), .mv (.t 91), none⟩,
    ⟨(some 93), .fa 4 (.t 1), (some (92, false))⟩,
    ⟨(some 94), .ld false 1 (.t 93), (some (92, false))⟩,
    ⟨(some 95), .bin .eql (.t 94) (.c (.i .i64 1)), (some (92, false))⟩,
    ⟨(some 96), .pick (.t 92) (.c (.b true)) (.t 95), none⟩,
    ⟨(some 97), .mv (.t 96), none⟩,
    ⟨(some 98), .fa 5 (.t 1), (some (97, true))⟩,
    ⟨(some 99), .ld false 1 (.t 98), (some (97, true))⟩,
    ⟨(some 100), .bin .eql (.t 99) (.c (.i .i64 0)), (some (97, true))⟩,
    ⟨(some 101), .pick (.t 97) (.t 100) (.c (.b false)), none⟩,
    ⟨(some 2), .mv (.t 101), none⟩])
  .ret)))))) }
def c_touchstoneref20_above : Fun := { cin := [(.sl 6 (.agg [.id, .id, (.sl 1 .id), (.sl 1 .id), .id, .id])), .id], cout := [.id], ntmps := 38, keep := false, res := [(4, none)], body :=
  (.seq (.reg [⟨(some 4), .mv (.c (.i .i64 0)), none⟩])
  (.seq (.reg [⟨(some 5), .mv (.c (.i .i64 (-1))), none⟩])
  (.seq (.seq (.reg [⟨(some 6), .mv (.c (.i .i64 0)), none⟩])
  (.blk 0 (.loop (.seq (.seq (.reg [⟨(some 8), .mv (.t 6), none⟩,
      ⟨(some 9), .mv (.t 0), none⟩,
      ⟨(some 10), .len 1 (.t 9), none⟩,
      ⟨(some 11), .bin .lss (.t 8) (.t 10), none⟩])
    (.cond (.t 11)
     .skip
     (.exit 0)))
    (.seq (.blk 1 (.seq (.reg [⟨(some 7), .mv (.c (.i .i64 0)), none⟩])
     (.blk 2 (.loop (.seq (.seq (.seq (.thw 0)
       (.reg [⟨(some 14), .mv (.t 7), none⟩,
         ⟨(some 15), .mv (.t 0), none⟩,
         ⟨(some 16), .mv (.t 6), none⟩,
         ⟨(some 17), .ia 6 (.t 15) (.t 16), none⟩,
         ⟨(some 18), .fa 3 (.t 17), none⟩,
         ⟨(some 19), .ld false 1 (.t 18), none⟩,
         ⟨(some 20), .len 1 (.t 19), none⟩,
         ⟨(some 21), .bin .lss (.t 14) (.t 20), none⟩]))
       (.cond (.t 21)
        .skip
        (.exit 2)))
       (.seq (.blk 3 (.seq (.seq (.thw 0)
        (.reg [⟨(some 24), .mv (.t 0), none⟩,
          ⟨(some 25), .mv (.t 6), none⟩,
          ⟨(some 26), .ia 6 (.t 24) (.t 25), none⟩,
          ⟨(some 27), .fa 3 (.t 26), none⟩,
          ⟨(some 28), .ld false 1 (.t 27), none⟩,
          ⟨(some 29), .mv (.t 7), none⟩,
          ⟨(some 30), .ia 1 (.t 28) (.t 29), none⟩,
          ⟨(some 31), .ld false 1 (.t 30), none⟩,
          ⟨(some 32), .mv (.t 1), none⟩,
          ⟨(some 33), .bin .eql (.t 31) (.t 32), none⟩]))
        (.cond (.t 33)
         (.seq (.seq (.reg [⟨(some 34), .mv (.t 5), none⟩,
           ⟨(some 35), .bin .geq (.t 34) (.c (.i .i64 0)), none⟩])
         (.cond (.t 35)
          (.seq (.reg [⟨(some 4), .mv (.c (.i .i64 (-1))), none⟩])
          .ret)
          .skip))
         (.reg [⟨(some 36), .mv (.t 6), none⟩,
           ⟨(some 5), .mv (.t 36), none⟩]))
         .skip)))
       (.reg [⟨(some 22), .mv (.t 7), none⟩,
         ⟨(some 23), .bin .add (.t 22) (.c (.i .i64 1)), none⟩,
         ⟨(some 7), .mv (.t 23), none⟩])))))))
    (.reg [⟨(some 12), .mv (.t 6), none⟩,
      ⟨(some 13), .bin .add (.t 12) (.c (.i .i64 1)), none⟩,
      ⟨(some 6), .mv (.t 13), none⟩]))))))
  (.seq (.reg [⟨(some 37), .mv (.t 5), none⟩,
    ⟨(some 4), .mv (.t 37), none⟩])
  .ret)))) }
def c_slices_Clone_string_string : Fun := { cin := [(.sl 1 .id)], cout := [], ntmps := 8, keep := true, res := [(2, none)], body :=
  (.seq (.reg [⟨(some 2), .mv (.c .nsl), none⟩])
  (.seq (.seq (.reg [⟨(some 3), .mv (.t 0), none⟩,
    ⟨(some 4), .eq .sl false (.t 3) (.c .nsl), none⟩])
  (.cond (.t 4)
   (.seq (.reg [⟨(some 2), .mv (.c .nsl), none⟩])
   .ret)
   .skip))
  (.seq (.reg [⟨(some 5), .bsl 1 [], none⟩,
    ⟨(some 6), .mv (.t 0), none⟩,
    ⟨(some 7), .app 1 9 (.t 5) (.t 6), none⟩,
    ⟨(some 2), .mv (.t 7), none⟩])
  .ret))) }
def c_touchstoneref06_Name : Fun := { cin := [.id], cout := [.id], ntmps := 41, keep := false, res := [(2, none)], body :=
  (.seq (.reg [⟨(some 2), .mv (.c (.b false)), none⟩])
  (.seq (.seq (.reg [⟨(some 4), .mv (.t 0), none⟩,
    ⟨(some 5), .bin .eql (.t 4) (.c (.s [])), none⟩,
    ⟨(some 6), .mv (.t 5), none⟩,
    ⟨(some 7), .mv (.t 0), (some (6, false))⟩,
    ⟨(some 8), .len 0 (.t 7), (some (6, false))⟩,
    ⟨(some 9), .bin .gtr (.t 8) (.c (.i .i64 64)), (some (6, false))⟩,
    ⟨(some 10), .pick (.t 6) (.c (.b true)) (.t 9), none⟩,
    ⟨(some 11), .mv (.t 10), none⟩,
    ⟨(some 12), .mv (.t 0), (some (11, false))⟩,
    ⟨(some 13), .bin .eql (.t 12) (.c (.s [46])), (some (11, false))⟩,
    ⟨(some 14), .pick (.t 11) (.c (.b true)) (.t 13), none⟩,
    ⟨(some 15), .mv (.t 14), none⟩,
    ⟨(some 16), .mv (.t 0), (some (15, false))⟩,
    ⟨(some 17), .bin .eql (.t 16) (.c (.s [46, 46])), (some (15, false))⟩,
    ⟨(some 18), .pick (.t 15) (.c (.b true)) (.t 17), none⟩])
  (.cond (.t 18)
   (.seq (.reg [⟨(some 2), .mv (.c (.b false)), none⟩])
   .ret)
   .skip))
  (.seq (.seq (.reg [⟨(some 3), .mv (.c (.i .i64 0)), none⟩])
  (.blk 0 (.loop (.seq (.seq (.reg [⟨(some 19), .mv (.t 3), none⟩,
      ⟨(some 20), .mv (.t 0), none⟩,
      ⟨(some 21), .len 0 (.t 20), none⟩,
      ⟨(some 22), .bin .lss (.t 19) (.t 21), none⟩])
    (.cond (.t 22)
     .skip
     (.exit 0)))
    (.seq (.blk 1 (.seq (.reg [⟨(some 25), .mv (.t 0), none⟩,
       ⟨(some 26), .mv (.t 3), none⟩,
       ⟨(some 27), .ixS (.t 25) (.t 26), none⟩,
       ⟨(some 28), .bin .eql (.t 27) (.c (.i .u8 0)), none⟩,
       ⟨(some 29), .mv (.t 28), none⟩,
       ⟨(some 30), .mv (.t 0), (some (29, false))⟩,
       ⟨(some 31), .mv (.t 3), (some (29, false))⟩,
       ⟨(some 32), .ixS (.t 30) (.t 31), (some (29, false))⟩,
       ⟨(some 33), .bin .eql (.t 32) (.c (.i .u8 47)), (some (29, false))⟩,
       ⟨(some 34), .pick (.t 29) (.c (.b true)) (.t 33), none⟩,
       ⟨(some 35), .mv (.t 34), none⟩,
       ⟨(some 36), .mv (.t 0), (some (35, false))⟩,
       ⟨(some 37), .mv (.t 3), (some (35, false))⟩,
       ⟨(some 38), .ixS (.t 36) (.t 37), (some (35, false))⟩,
       ⟨(some 39), .bin .eql (.t 38) (.c (.i .u8 10)), (some (35, false))⟩,
       ⟨(some 40), .pick (.t 35) (.c (.b true)) (.t 39), none⟩])
     (.cond (.t 40)
      (.seq (.reg [⟨(some 2), .mv (.c (.b false)), none⟩])
      .ret)
      .skip)))
    (.reg [⟨(some 23), .mv (.t 3), none⟩,
      ⟨(some 24), .bin .add (.t 23) (.c (.i .i64 1)), none⟩,
      ⟨(some 3), .mv (.t 24), none⟩]))))))
  (.seq (.reg [⟨(some 2), .mv (.c (.b true)), none⟩])
  .ret)))) }
def c_path_Name : Fun := { cin := [.id], cout := [.id], ntmps := 23, keep := false, res := [(2, none)], body :=
  (.seq (.reg [⟨(some 2), .mv (.c (.b false)), none⟩])
  (.seq (.reg [⟨(some 3), .mv (.t 0), none⟩,
    ⟨(some 4), .bin .neq (.t 3) (.c (.s [])), none⟩,
    ⟨(some 5), .mv (.t 4), none⟩,
    ⟨(some 6), .mv (.t 0), (some (5, true))⟩,
    ⟨(some 7), .len 0 (.t 6), (some (5, true))⟩,
    ⟨(some 8), .bin .leq (.t 7) (.c (.i .i64 64)), (some (5, true))⟩,
    ⟨(some 9), .pick (.t 5) (.t 8) (.c (.b false)), none⟩,
    ⟨(some 10), .mv (.t 9), none⟩,
    ⟨(some 11), .mv (.t 0), (some (10, true))⟩,
    ⟨(some 12), .bin .neq (.t 11) (.c (.s [46])), (some (10, true))⟩,
    ⟨(some 13), .pick (.t 10) (.t 12) (.c (.b false)), none⟩,
    ⟨(some 14), .mv (.t 13), none⟩,
    ⟨(some 15), .mv (.t 0), (some (14, true))⟩,
    ⟨(some 16), .bin .neq (.t 15) (.c (.s [46, 46])), (some (14, true))⟩,
    ⟨(some 17), .pick (.t 14) (.t 16) (.c (.b false)), none⟩,
    ⟨(some 18), .mv (.t 17), none⟩,
    ⟨(some 19), .mv (.t 0), (some (18, true))⟩,
    ⟨(some 20), .call f_strings_ContainsAny [(.t 19), (.c (.s [47, 0, 10]))], (some (18, true))⟩,
    ⟨(some 21), .un .not (.t 20), (some (18, true))⟩,
    ⟨(some 22), .pick (.t 18) (.t 21) (.c (.b false)), none⟩,
    ⟨(some 2), .mv (.t 22), none⟩])
  .ret)) }
def c_slices_IndexFunc_int_int : Fun := { cin := [(.sl 1 .id), .id], cout := [.id], ntmps := 19, keep := false, res := [(4, none)], body :=
  (.seq (.reg [⟨(some 4), .mv (.c (.i .i64 0)), none⟩])
  (.seq (.seq (.reg [⟨(some 6), .mv (.t 0), none⟩,
    ⟨(some 7), .len 1 (.t 6), none⟩,
    ⟨(some 8), .mv (.c (.i .i64 0)), none⟩])
  (.blk 0 (.loop (.seq (.reg [⟨(some 9), .bin .lss (.t 8) (.t 7), none⟩])
    (.seq (.cond (.t 9)
     .skip
     (.exit 0))
    (.seq (.blk 1 (.seq (.reg [⟨(some 10), .mv (.t 8), none⟩,
       ⟨(some 5), .mv (.t 10), none⟩])
     (.seq (.reg [⟨(some 11), .mv (.t 1), none⟩,
       ⟨(some 12), .mv (.t 0), none⟩,
       ⟨(some 13), .mv (.t 5), none⟩,
       ⟨(some 14), .ia 1 (.t 12) (.t 13), none⟩,
       ⟨(some 15), .ld false 1 (.t 14), none⟩,
       ⟨(some 16), .callX (.t 11) [(.t 15)], none⟩])
     (.cond (.t 16)
      (.seq (.reg [⟨(some 17), .mv (.t 5), none⟩,
        ⟨(some 4), .mv (.t 17), none⟩])
      .ret)
      .skip))))
    (.reg [⟨(some 18), .bin .add (.t 8) (.c (.i .i64 1)), none⟩,
      ⟨(some 8), .mv (.t 18), none⟩])))))))
  (.seq (.reg [⟨(some 4), .mv (.c (.i .i64 (-1))), none⟩])
  .ret))) }
def c_store_change : Fun := { cin := [(.sl 6 (.agg [.id, .id, (.sl 1 .id), (.sl 1 .id), .id, .id])), .id, .id, .id], cout := [(.sl 6 (.agg [.id, .id, (.sl 1 .id), (.sl 1 .id), .id, .id])), .id], ntmps := 42, keep := false, res := [(8, none), (9, none)], body :=
  (.seq (.reg [⟨(some 8), .mv (.c .nsl), none⟩,
    ⟨(some 9), .mv (.c (.i .i64 0)), none⟩])
  (.seq (.blk 0 (.seq (.reg [⟨(some 13), .mv (.t 0), none⟩,
     ⟨(some 14), .call f_pat_May [(.t 13)], none⟩,
     ⟨(some 15), .un .not (.t 14), none⟩,
     ⟨(some 12), .mv (.t 15), none⟩])
   (.cond (.t 12)
    (.seq (.reg [⟨(some 8), .mv (.c .nsl), none⟩,
      ⟨(some 9), .mv (.c (.i .i64 4)), none⟩])
    .ret)
    (.seq (.reg [⟨(some 17), .mv (.t 1), none⟩,
      ⟨(some 18), .bin .lss (.t 17) (.c (.i .i64 0)), none⟩,
      ⟨(some 19), .mv (.t 18), none⟩,
      ⟨(some 20), .mv (.t 1), (some (19, false))⟩,
      ⟨(some 21), .mv (.t 0), (some (19, false))⟩,
      ⟨(some 22), .len 1 (.t 21), (some (19, false))⟩,
      ⟨(some 23), .bin .geq (.t 20) (.t 22), (some (19, false))⟩,
      ⟨(some 24), .pick (.t 19) (.c (.b true)) (.t 23), none⟩,
      ⟨(some 16), .mv (.t 24), none⟩])
    (.cond (.t 16)
     (.seq (.reg [⟨(some 8), .mv (.c .nsl), none⟩,
       ⟨(some 9), .mv (.c (.i .i64 1)), none⟩])
     .ret)
     .skip)))))
  (.seq (.seq (.reg [⟨(some 25), .mv (.t 2), none⟩,
    ⟨(some 26), .mv (.t 0), none⟩,
    ⟨(some 27), .mv (.t 1), none⟩,
    ⟨(some 28), .ia 6 (.t 26) (.t 27), none⟩,
    ⟨(some 29), .ld true 6 (.t 28), none⟩,
    ⟨(some 30), .callX (.t 25) [(.t 29)], none⟩,
    ⟨(some 10), .mv (.t 30), none⟩])
  (.seq (.reg [⟨(some 31), .mv (.t 10), none⟩,
    ⟨(some 32), .bin .neq (.t 31) (.c (.i .i64 0)), none⟩])
  (.cond (.t 32)
   (.seq (.reg [⟨(some 33), .mv (.t 10), none⟩,
     ⟨(some 8), .mv (.c .nsl), none⟩,
     ⟨(some 9), .mv (.t 33), none⟩])
   .ret)
   .skip)))
  (.seq (.reg [⟨(some 34), .mv (.t 0), none⟩,
    ⟨(some 35), .call f_store_own [(.t 34)], none⟩,
    ⟨(some 11), .mv (.t 35), none⟩])
  (.seq (.seq (.thw 11)
  (.reg [⟨(some 36), .mv (.t 3), none⟩,
    ⟨(some 37), .mv (.t 11), none⟩,
    ⟨(some 38), .mv (.t 1), none⟩,
    ⟨(some 39), .ia 6 (.t 37) (.t 38), none⟩,
    ⟨(some 40), .callX (.t 36) [(.t 39)], none⟩]))
  (.seq (.reg [⟨(some 41), .mv (.t 11), none⟩,
    ⟨(some 8), .mv (.t 41), none⟩,
    ⟨(some 9), .mv (.c (.i .i64 0)), none⟩])
  .ret)))))) }
def c_store_Whole_1 : Fun := { cin := [(.agg [.id, .id, (.sl 1 .id), (.sl 1 .id), .id, .id])], cout := [.id], ntmps := 22, keep := false, res := [(3, none)], body :=
  (.seq (.reg [⟨(some 2), .box 60 6 (.t 0), none⟩,
    ⟨(some 3), .mv (.c (.i .i64 0)), none⟩])
  (.seq (.blk 0 (.seq (.reg [⟨(some 5), .ld true 6 (.t 2), none⟩,
     ⟨(some 6), .call f_store_dir [(.t 5)], none⟩,
     ⟨(some 7), .un .not (.t 6), none⟩,
     ⟨(some 4), .mv (.t 7), none⟩])
   (.cond (.t 4)
    (.seq (.reg [⟨(some 3), .mv (.c (.i .i64 1)), none⟩])
    .ret)
    (.seq (.reg [⟨(some 9), .fa 4 (.t 2), none⟩,
      ⟨(some 10), .ld false 1 (.t 9), none⟩,
      ⟨(some 11), .bin .eql (.t 10) (.c (.i .i64 1)), none⟩,
      ⟨(some 8), .mv (.t 11), none⟩])
    (.cond (.t 8)
     (.seq (.reg [⟨(some 3), .mv (.c (.i .i64 6)), none⟩])
     .ret)
     (.seq (.reg [⟨(some 13), .fa 4 (.t 2), none⟩,
       ⟨(some 14), .ld false 1 (.t 13), none⟩,
       ⟨(some 15), .bin .eql (.t 14) (.c (.i .i64 2)), none⟩,
       ⟨(some 16), .mv (.t 15), none⟩,
       ⟨(some 17), .ld false 1 (.t 1), (some (16, true))⟩,
       ⟨(some 18), .ld true 6 (.t 2), (some (16, true))⟩,
       ⟨(some 19), .call f_store_there [(.t 17), (.t 18)], (some (16, true))⟩,
       ⟨(some 20), .un .not (.t 19), (some (16, true))⟩,
       ⟨(some 21), .pick (.t 16) (.t 20) (.c (.b false)), none⟩,
       ⟨(some 12), .mv (.t 21), none⟩])
     (.cond (.t 12)
      (.seq (.reg [⟨(some 3), .mv (.c (.i .i64 67)), none⟩])
      .ret)
      .skip)))))))
  (.seq (.reg [⟨(some 3), .mv (.c (.i .i64 0)), none⟩])
  .ret))) }
def c_store_dir : Fun := { cin := [(.agg [.id, .id, (.sl 1 .id), (.sl 1 .id), .id, .id])], cout := [.id], ntmps := 10, keep := false, res := [(2, none)], body :=
  (.seq (.reg [⟨(some 1), .box 60 6 (.t 0), none⟩,
    ⟨(some 2), .mv (.c (.b false)), none⟩])
  (.seq (.reg [⟨(some 3), .fa 0 (.t 1), none⟩,
    ⟨(some 4), .ld false 1 (.t 3), none⟩,
    ⟨(some 5), .mv (.t 4), none⟩,
    ⟨(some 6), .fa 1 (.t 1), (some (5, true))⟩,
    ⟨(some 7), .ld false 1 (.t 6), (some (5, true))⟩,
    ⟨(some 8), .bin .eql (.t 7) (.c (.i .u8 2)), (some (5, true))⟩,
    ⟨(some 9), .pick (.t 5) (.t 8) (.c (.b false)), none⟩,
    ⟨(some 2), .mv (.t 9), none⟩])
  .ret)) }
def c_store_there : Fun := { cin := [(.sl 6 (.agg [.id, .id, (.sl 1 .id), (.sl 1 .id), .id, .id])), (.agg [.id, .id, (.sl 1 .id), (.sl 1 .id), .id, .id])], cout := [.id], ntmps := 16, keep := false, res := [(4, none)], body :=
  (.seq (.reg [⟨(some 2), .box 22 1 (.t 0), none⟩,
    ⟨(some 3), .box 60 6 (.t 1), none⟩,
    ⟨(some 4), .mv (.c (.b false)), none⟩])
  (.seq (.reg [⟨(some 6), .fa 3 (.t 3), none⟩,
    ⟨(some 7), .ld false 1 (.t 6), none⟩,
    ⟨(some 8), .call f_slices_Values_int_int [(.t 7)], none⟩,
    ⟨(some 9), .call f_slices_Sorted_int [(.t 8)], none⟩,
    ⟨(some 5), .mv (.t 9), none⟩])
  (.seq (.reg [⟨(some 10), .mv (.t 5), none⟩,
    ⟨(some 11), .fa 5 (.t 3), none⟩,
    ⟨(some 12), .ld false 1 (.t 11), none⟩,
    ⟨(some 13), .slc false 1 (.t 10) (some (.t 12)) none none, none⟩,
    ⟨(some 14), .mkf f_store_there_1 [(.t 2)], none⟩,
    ⟨(some 15), .call f_slices_ContainsFunc_int_int [(.t 13), (.t 14)], none⟩,
    ⟨(some 4), .mv (.t 15), none⟩])
  .ret))) }
def c_store_Whole_2 : Fun := { cin := [.id], cout := [], ntmps := 8, keep := false, res := [], body :=
  (.reg [⟨(some 2), .mv (.t 0), none⟩,
    ⟨(some 3), .mv (.t 0), none⟩,
    ⟨(some 4), .nck (.t 2), none⟩,
    ⟨(some 5), .fa 4 (.t 4), none⟩,
    ⟨none, .st 1 (.t 5) (.c (.i .i64 1)), none⟩,
    ⟨(some 6), .nck (.t 3), none⟩,
    ⟨(some 7), .fa 5 (.t 6), none⟩,
    ⟨none, .st 1 (.t 7) (.c (.i .i64 0)), none⟩]) }
def c_store_More_1 : Fun := { cin := [(.agg [.id, .id, (.sl 1 .id), (.sl 1 .id), .id, .id])], cout := [.id], ntmps := 11, keep := false, res := [(2, none)], body :=
  (.seq (.reg [⟨(some 1), .box 60 6 (.t 0), none⟩,
    ⟨(some 2), .mv (.c (.i .i64 0)), none⟩])
  (.seq (.blk 0 (.seq (.reg [⟨(some 4), .ld true 6 (.t 1), none⟩,
     ⟨(some 5), .call f_store_dir [(.t 4)], none⟩,
     ⟨(some 6), .un .not (.t 5), none⟩,
     ⟨(some 3), .mv (.t 6), none⟩])
   (.cond (.t 3)
    (.seq (.reg [⟨(some 2), .mv (.c (.i .i64 1)), none⟩])
    .ret)
    (.seq (.reg [⟨(some 8), .fa 4 (.t 1), none⟩,
      ⟨(some 9), .ld false 1 (.t 8), none⟩,
      ⟨(some 10), .bin .eql (.t 9) (.c (.i .i64 1)), none⟩,
      ⟨(some 7), .mv (.t 10), none⟩])
    (.cond (.t 7)
     (.seq (.reg [⟨(some 2), .mv (.c (.i .i64 6)), none⟩])
     .ret)
     .skip)))))
  (.seq (.reg [⟨(some 2), .mv (.c (.i .i64 0)), none⟩])
  .ret))) }
def c_store_More_2 : Fun := { cin := [.id], cout := [], ntmps := 13, keep := false, res := [], body :=
  (.reg [⟨(some 2), .mv (.t 0), none⟩,
    ⟨(some 3), .mv (.t 0), none⟩,
    ⟨(some 4), .mv (.t 0), none⟩,
    ⟨(some 5), .nck (.t 4), none⟩,
    ⟨(some 6), .fa 2 (.t 5), none⟩,
    ⟨(some 7), .ld false 1 (.t 6), none⟩,
    ⟨(some 8), .len 1 (.t 7), none⟩,
    ⟨(some 9), .nck (.t 2), none⟩,
    ⟨(some 10), .fa 4 (.t 9), none⟩,
    ⟨none, .st 1 (.t 10) (.c (.i .i64 2)), none⟩,
    ⟨(some 11), .nck (.t 3), none⟩,
    ⟨(some 12), .fa 5 (.t 11), none⟩,
    ⟨none, .st 1 (.t 12) (.t 8), none⟩]) }
def c_fork_kinds_1 : Fun := { cin := [.id], cout := [], ntmps := 19, keep := false, res := [], body :=
  (.seq (.reg [⟨(some 4), .mv (.c (.i .u8 0)), none⟩])
  (.blk 0 (.loop (.seq (.reg [⟨(some 5), .bin .lss (.t 4) (.c (.i .u8 4)), none⟩])
    (.seq (.cond (.t 5)
     .skip
     (.exit 0))
    (.seq (.blk 1 (.seq (.reg [⟨(some 6), .mv (.t 4), none⟩,
       ⟨(some 3), .mv (.t 6), none⟩])
     (.seq (.reg [⟨(some 7), .mv (.t 3), none⟩,
       ⟨(some 8), .bin .neq (.t 7) (.c (.i .u8 3)), none⟩,
       ⟨(some 9), .mv (.t 8), none⟩,
       ⟨(some 10), .ld false 1 (.t 1), (some (9, false))⟩,
       ⟨(some 11), .pick (.t 9) (.c (.b true)) (.t 10), none⟩,
       ⟨(some 12), .mv (.t 11), none⟩,
       ⟨(some 13), .mv (.t 0), (some (12, true))⟩,
       ⟨(some 14), .mv (.t 3), (some (12, true))⟩,
       ⟨(some 15), .callX (.t 13) [(.t 14)], (some (12, true))⟩,
       ⟨(some 16), .un .not (.t 15), (some (12, true))⟩,
       ⟨(some 17), .pick (.t 12) (.t 16) (.c (.b false)), none⟩])
     (.cond (.t 17)
      .ret
      .skip))))
    (.reg [⟨(some 18), .bin .add (.t 4) (.c (.i .u8 1)), none⟩,
      ⟨(some 4), .mv (.t 18), none⟩]))))))) }
def c_store_Know_1 : Fun := { cin := [(.agg [.id, .id, (.sl 1 .id), (.sl 1 .id), .id, .id])], cout := [.id], ntmps := 10, keep := false, res := [(3, none)], body :=
  (.seq (.reg [⟨(some 2), .box 60 6 (.t 0), none⟩,
    ⟨(some 3), .mv (.c (.i .i64 0)), none⟩])
  (.seq (.blk 0 (.seq (.reg [⟨(some 5), .fa 0 (.t 2), none⟩,
     ⟨(some 6), .ld false 1 (.t 5), none⟩,
     ⟨(some 4), .mv (.t 6), none⟩])
   (.cond (.t 4)
    (.seq (.reg [⟨(some 3), .mv (.c (.i .i64 6)), none⟩])
    .ret)
    (.seq (.reg [⟨(some 8), .ld false 1 (.t 1), none⟩,
      ⟨(some 9), .bin .gtr (.t 8) (.c (.i .u8 3)), none⟩,
      ⟨(some 7), .mv (.t 9), none⟩])
    (.cond (.t 7)
     (.seq (.reg [⟨(some 3), .mv (.c (.i .i64 1)), none⟩])
     .ret)
     .skip)))))
  (.seq (.reg [⟨(some 3), .mv (.c (.i .i64 0)), none⟩])
  .ret))) }
def c_store_Know_2 : Fun := { cin := [.id], cout := [], ntmps := 10, keep := false, res := [], body :=
  (.regD [⟨(some 3), .mv (.t 0), none⟩,
    ⟨(some 4), .mv (.t 0), none⟩,
    ⟨(some 5), .ld false 1 (.t 1), none⟩,
    ⟨(some 6), .nck (.t 3), none⟩,
    ⟨(some 7), .fa 0 (.t 6), none⟩,
    ⟨none, .st 1 (.t 7) (.c (.b true)), none⟩,
    ⟨(some 8), .nck (.t 4), none⟩,
    ⟨(some 9), .fa 1 (.t 8), none⟩,
    ⟨none, .st 1 (.t 9) (.t 5), none⟩] [(2, (2, 6))]) }
def c_strings_IndexByte : Fun := { cin := [.id, .id], cout := [.id], ntmps := 8, keep := false, res := [(4, none)], body :=
  (.seq (.reg [⟨(some 4), .mv (.c (.i .i64 0)), none⟩])
  (.seq (.reg [⟨(some 5), .mv (.t 0), none⟩,
    ⟨(some 6), .mv (.t 1), none⟩,
    ⟨(some 7), .call f_internal_stringslite_IndexByte [(.t 5), (.t 6)], none⟩,
    ⟨(some 4), .mv (.t 7), none⟩])
  .ret)) }
def c_slices_Sorted_int : Fun := { cin := [.id], cout := [(.sl 1 .id)], ntmps := 9, keep := false, res := [(2, none)], body :=
  (.seq (.reg [⟨(some 2), .mv (.c .nsl), none⟩])
  (.seq (.reg [⟨(some 4), .mv (.t 0), none⟩,
    ⟨(some 5), .call f_slices_Collect_int [(.t 4)], none⟩,
    ⟨(some 3), .mv (.t 5), none⟩])
  (.seq (.seq (.thw 3)
  (.reg [⟨(some 6), .mv (.t 3), none⟩,
    ⟨(some 7), .call f_slices_Sort_int_int [(.t 6)], none⟩]))
  (.seq (.reg [⟨(some 8), .mv (.t 3), none⟩,
    ⟨(some 2), .mv (.t 8), none⟩])
  .ret)))) }
def c_slices_Values_int_int : Fun := { cin := [(.sl 1 .id)], cout := [.id], ntmps := 4, keep := false, res := [(2, none)], body :=
  (.seq (.reg [⟨(some 1), .box 37 1 (.t 0), none⟩,
    ⟨(some 2), .mv (.c .nf), none⟩])
  (.seq (.reg [⟨(some 3), .mkf f_slices_Values_int_int_1 [(.t 1)], none⟩,
    ⟨(some 2), .mv (.t 3), none⟩])
  .ret)) }
def c_strings_ContainsAny : Fun := { cin := [.id, .id], cout := [.id], ntmps := 9, keep := false, res := [(4, none)], body :=
  (.seq (.reg [⟨(some 4), .mv (.c (.b false)), none⟩])
  (.seq (.reg [⟨(some 5), .mv (.t 0), none⟩,
    ⟨(some 6), .mv (.t 1), none⟩,
    ⟨(some 7), .call f_strings_IndexAny [(.t 5), (.t 6)], none⟩,
    ⟨(some 8), .bin .geq (.t 7) (.c (.i .i64 0)), none⟩,
    ⟨(some 4), .mv (.t 8), none⟩])
  .ret)) }
def c_store_own : Fun := { cin := [(.sl 6 (.agg [.id, .id, (.sl 1 .id), (.sl 1 .id), .id, .id]))], cout := [], ntmps := 31, keep := true, res := [(2, none)], body :=
  (.seq (.reg [⟨(some 2), .mv (.c .nsl), none⟩])
  (.seq (.reg [⟨(some 6), .mv (.t 0), none⟩,
    ⟨(some 7), .call f_slices_Clone_api_Fact_api_Fact [(.t 6)], none⟩,
    ⟨(some 3), .mv (.t 7), none⟩])
  (.seq (.seq (.reg [⟨(some 8), .mv (.t 0), none⟩,
    ⟨(some 9), .len 1 (.t 8), none⟩,
    ⟨(some 10), .mv (.c (.i .i64 0)), none⟩])
  (.blk 0 (.loop (.seq (.reg [⟨(some 11), .bin .lss (.t 10) (.t 9), none⟩])
    (.seq (.cond (.t 11)
     .skip
     (.exit 0))
    (.seq (.blk 1 (.seq (.reg [⟨(some 12), .mv (.t 10), none⟩,
       ⟨(some 13), .ia 6 (.t 8) (.t 10), none⟩,
       ⟨(some 14), .ld true 6 (.t 13), none⟩,
       ⟨(some 5), .alloc 60 [(.b false), (.i .u8 0), .nsl, .nsl, (.i .i64 0), (.i .i64 0)], none⟩,
       ⟨(some 4), .mv (.t 12), none⟩,
       ⟨none, .st 6 (.t 5) (.t 14), none⟩])
     (.seq (.thw 3)
     (.regD [⟨(some 15), .mv (.t 3), none⟩,
       ⟨(some 16), .mv (.t 4), none⟩,
       ⟨(some 17), .mv (.t 3), none⟩,
       ⟨(some 18), .mv (.t 4), none⟩,
       ⟨(some 19), .fa 2 (.t 5), none⟩,
       ⟨(some 20), .ld false 1 (.t 19), none⟩,
       ⟨(some 21), .callQ false f_slices_Clone_string_string [(.t 20)], none⟩,
       ⟨(some 22), .fa 3 (.t 5), none⟩,
       ⟨(some 23), .ld false 1 (.t 22), none⟩,
       ⟨(some 24), .callQ false f_slices_Clone_int_int [(.t 23)], none⟩,
       ⟨(some 25), .ia 6 (.t 15) (.t 16), none⟩,
       ⟨(some 26), .fa 2 (.t 25), none⟩,
       ⟨none, .st 1 (.t 26) (.t 21), none⟩,
       ⟨(some 27), .ia 6 (.t 17) (.t 18), none⟩,
       ⟨(some 28), .fa 3 (.t 27), none⟩,
       ⟨none, .st 1 (.t 28) (.t 24), none⟩] [(8, (6, 8))]))))
    (.reg [⟨(some 29), .bin .add (.t 10) (.c (.i .i64 1)), none⟩,
      ⟨(some 10), .mv (.t 29), none⟩])))))))
  (.seq (.reg [⟨(some 30), .mv (.t 3), none⟩,
    ⟨(some 2), .mv (.t 30), none⟩])
  .ret)))) }
def c_store_there_1 : Fun := { cin := [.id], cout := [.id], ntmps := 17, keep := false, res := [(3, none)], body :=
  (.seq (.reg [⟨(some 3), .mv (.c (.b false)), none⟩])
  (.seq (.reg [⟨(some 4), .ld false 1 (.t 1), none⟩,
    ⟨(some 5), .mv (.t 0), none⟩,
    ⟨(some 6), .ia 6 (.t 4) (.t 5), none⟩,
    ⟨(some 7), .fa 0 (.t 6), none⟩,
    ⟨(some 8), .ld false 1 (.t 7), none⟩,
    ⟨(some 9), .mv (.t 8), none⟩,
    ⟨(some 10), .ld false 1 (.t 1), (some (9, true))⟩,
    ⟨(some 11), .mv (.t 0), (some (9, true))⟩,
    ⟨(some 12), .ia 6 (.t 10) (.t 11), (some (9, true))⟩,
    ⟨(some 13), .fa 1 (.t 12), (some (9, true))⟩,
    ⟨(some 14), .ld false 1 (.t 13), (some (9, true))⟩,
    ⟨(some 15), .bin .neq (.t 14) (.c (.i .u8 0)), (some (9, true))⟩,
    ⟨(some 16), .pick (.t 9) (.t 15) (.c (.b false)), none⟩,
    ⟨(some 3), .mv (.t 16), none⟩])
  .ret)) }
def c_internal_stringslite_IndexByte : Fun := { cin := [.id, .id], cout := [.id], ntmps := 8, keep := false, res := [(4, none)], body :=
  (.seq (.reg [⟨(some 4), .mv (.c (.i .i64 0)), none⟩])
  (.seq (.reg [⟨(some 5), .mv (.t 0), none⟩,
    ⟨(some 6), .mv (.t 1), none⟩,
    ⟨(some 7), .xtn 0 [(.t 5), (.t 6)], none⟩,
    ⟨(some 4), .mv (.t 7), none⟩])
  .ret)) }
def c_slices_Collect_int : Fun := { cin := [.id], cout := [], ntmps := 5, keep := true, res := [(2, none)], body :=
  (.seq (.reg [⟨(some 2), .mv (.c .nsl), none⟩])
  (.seq (.reg [⟨(some 3), .mv (.t 0), none⟩,
    ⟨(some 4), .call f_slices_AppendSeq_int_int [(.c .nsl), (.t 3)], none⟩,
    ⟨(some 2), .mv (.t 4), none⟩])
  .ret)) }
def c_slices_Sort_int_int : Fun := { cin := [], cout := [], ntmps := 0, keep := false, res := [], body := .bad, prim := some primSortI }
def c_slices_Values_int_int_1 : Fun := { cin := [.id], cout := [], ntmps := 16, keep := false, res := [], body :=
  (.seq (.reg [⟨(some 5), .ld false 1 (.t 1), none⟩,
    ⟨(some 6), .len 1 (.t 5), none⟩,
    ⟨(some 7), .mv (.c (.i .i64 0)), none⟩])
  (.blk 0 (.loop (.seq (.reg [⟨(some 8), .bin .lss (.t 7) (.t 6), none⟩])
    (.seq (.cond (.t 8)
     .skip
     (.exit 0))
    (.seq (.blk 1 (.seq (.reg [⟨(some 9), .ia 1 (.t 5) (.t 7), none⟩,
       ⟨(some 10), .ld false 1 (.t 9), none⟩,
       ⟨(some 4), .mv (.t 10), none⟩])
     (.seq (.reg [⟨(some 11), .mv (.t 0), none⟩,
       ⟨(some 12), .mv (.t 4), none⟩,
       ⟨(some 13), .callX (.t 11) [(.t 12)], none⟩,
       ⟨(some 14), .un .not (.t 13), none⟩])
     (.cond (.t 14)
      .ret
      .skip))))
    (.reg [⟨(some 15), .bin .add (.t 7) (.c (.i .i64 1)), none⟩,
      ⟨(some 7), .mv (.t 15), none⟩]))))))) }
def c_strings_IndexAny : Fun := { cin := [.id, .id], cout := [.id], ntmps := 55, keep := false, res := [(4, none)], body :=
  (.seq (.reg [⟨(some 4), .mv (.c (.i .i64 0)), none⟩])
  (.seq (.seq (.reg [⟨(some 11), .mv (.t 1), none⟩,
    ⟨(some 12), .bin .eql (.t 11) (.c (.s [])), none⟩])
  (.cond (.t 12)
   (.seq (.reg [⟨(some 4), .mv (.c (.i .i64 (-1))), none⟩])
   .ret)
   .skip))
  (.seq (.seq (.reg [⟨(some 13), .mv (.t 1), none⟩,
    ⟨(some 14), .len 0 (.t 13), none⟩,
    ⟨(some 15), .bin .eql (.t 14) (.c (.i .i64 1)), none⟩])
  (.cond (.t 15)
   (.seq (.reg [⟨(some 16), .mv (.t 1), none⟩,
     ⟨(some 17), .ixS (.t 16) (.c (.i .i64 0)), none⟩,
     ⟨(some 18), .cvI .i32 (.t 17), none⟩,
     ⟨(some 5), .mv (.t 18), none⟩])
   (.seq (.seq (.reg [⟨(some 19), .mv (.t 5), none⟩,
     ⟨(some 20), .bin .geq (.t 19) (.c (.i .i32 128)), none⟩])
   (.cond (.t 20)
    (.reg [⟨(some 5), .mv (.c (.i .i32 65533)), none⟩])
    .skip))
   (.seq (.reg [⟨(some 21), .mv (.t 0), none⟩,
     ⟨(some 22), .mv (.t 5), none⟩,
     ⟨(some 23), .call f_strings_IndexRune [(.t 21), (.t 22)], none⟩,
     ⟨(some 4), .mv (.t 23), none⟩])
   .ret)))
   .skip))
  (.seq (.seq (.reg [⟨(some 24), .mv (.t 0), none⟩,
    ⟨(some 25), .len 0 (.t 24), none⟩,
    ⟨(some 26), .call f_strings_shouldUseASCIISet [(.t 25)], none⟩])
  (.cond (.t 26)
   (.seq (.reg [⟨(some 28), .mv (.t 1), none⟩,
     ⟨(some 29), .call f_strings_makeASCIISet [(.t 28)], none⟩,
     ⟨(some 27), .mv (.t 29), none⟩,
     ⟨(some 30), .ext (.t 27) 0, none⟩,
     ⟨(some 31), .ext (.t 27) 1, none⟩,
     ⟨(some 6), .alloc 130 [(.b false), (.b false), (.b false), (.b false), (.b false), (.b false), (.b false), (.b false), (.b false), (.b false), (.b false), (.b false), (.b false), (.b false), (.b false), (.b false), (.b false), (.b false), (.b false), (.b false), (.b false), (.b false), (.b false), (.b false), (.b false), (.b false), (.b false), (.b false), (.b false), (.b false), (.b false), (.b false), (.b false), (.b false), (.b false), (.b false), (.b false), (.b false), (.b false), (.b false), (.b false), (.b false), (.b false), (.b false), (.b false), (.b false), (.b false), (.b false), (.b false), (.b false), (.b false), (.b false), (.b false), (.b false), (.b false), (.b false), (.b false), (.b false), (.b false), (.b false), (.b false), (.b false), (.b false), (.b false), (.b false), (.b false), (.b false), (.b false), (.b false), (.b false), (.b false), (.b false), (.b false), (.b false), (.b false), (.b false), (.b false), (.b false), (.b false), (.b false), (.b false), (.b false), (.b false), (.b false), (.b false), (.b false), (.b false), (.b false), (.b false), (.b false), (.b false), (.b false), (.b false), (.b false), (.b false), (.b false), (.b false), (.b false), (.b false), (.b false), (.b false), (.b false), (.b false), (.b false), (.b false), (.b false), (.b false), (.b false), (.b false), (.b false), (.b false), (.b false), (.b false), (.b false), (.b false), (.b false), (.b false), (.b false), (.b false), (.b false), (.b false), (.b false), (.b false), (.b false), (.b false), (.b false), (.b false), (.b false), (.b false), (.b false), (.b false), (.b false), (.b false), (.b false), (.b false), (.b false), (.b false), (.b false), (.b false), (.b false), (.b false), (.b false), (.b false), (.b false), (.b false), (.b false), (.b false), (.b false), (.b false), (.b false), (.b false), (.b false), (.b false), (.b false), (.b false), (.b false), (.b false), (.b false), (.b false), (.b false), (.b false), (.b false), (.b false), (.b false), (.b false), (.b false), (.b false), (.b false), (.b false), (.b false), (.b false), (.b false), (.b false), (.b false), (.b false), (.b false), (.b false), (.b false), (.b false), (.b false), (.b false), (.b false), (.b false), (.b false), (.b false), (.b false), (.b false), (.b false), (.b false), (.b false), (.b false), (.b false), (.b false), (.b false), (.b false), (.b false), (.b false), (.b false), (.b false), (.b false), (.b false), (.b false), (.b false), (.b false), (.b false), (.b false), (.b false), (.b false), (.b false), (.b false), (.b false), (.b false), (.b false), (.b false), (.b false), (.b false), (.b false), (.b false), (.b false), (.b false), (.b false), (.b false), (.b false), (.b false), (.b false), (.b false), (.b false), (.b false), (.b false), (.b false), (.b false), (.b false), (.b false), (.b false), (.b false), (.b false), (.b false), (.b false), (.b false), (.b false), (.b false), (.b false), (.b false), (.b false), (.b false), (.b false), (.b false), (.b false), (.b false), (.b false), (.b false), (.b false), (.b false), (.b false), (.b false), (.b false)], none⟩,
     ⟨none, .st 256 (.t 6) (.t 30), none⟩,
     ⟨(some 7), .mv (.t 31), none⟩])
   (.seq (.reg [⟨(some 32), .mv (.t 7), none⟩])
   (.cond (.t 32)
    (.seq (.seq (.reg [⟨(some 8), .mv (.c (.i .i64 0)), none⟩])
    (.blk 0 (.loop (.seq (.seq (.reg [⟨(some 33), .mv (.t 8), none⟩,
        ⟨(some 34), .mv (.t 0), none⟩,
        ⟨(some 35), .len 0 (.t 34), none⟩,
        ⟨(some 36), .bin .lss (.t 33) (.t 35), none⟩])
      (.cond (.t 36)
       .skip
       (.exit 0)))
      (.seq (.blk 1 (.seq (.reg [⟨(some 39), .mv (.t 0), none⟩,
         ⟨(some 40), .mv (.t 8), none⟩,
         ⟨(some 41), .ixS (.t 39) (.t 40), none⟩,
         ⟨(some 42), .call f_strings_asciiSet_contains [(.t 6), (.t 41)], none⟩])
       (.cond (.t 42)
        (.seq (.reg [⟨(some 43), .mv (.t 8), none⟩,
          ⟨(some 4), .mv (.t 43), none⟩])
        .ret)
        .skip)))
      (.reg [⟨(some 37), .mv (.t 8), none⟩,
        ⟨(some 38), .bin .add (.t 37) (.c (.i .i64 1)), none⟩,
        ⟨(some 8), .mv (.t 38), none⟩]))))))
    (.seq (.reg [⟨(some 4), .mv (.c (.i .i64 (-1))), none⟩])
    .ret))
    .skip)))
   .skip))
  (.seq (.seq (.reg [⟨(some 44), .mv (.t 0), none⟩,
    ⟨(some 45), .siter (.t 44), none⟩])
  (.blk 2 (.loop (.seq (.reg [⟨(some 46), .snext (.t 45), none⟩,
      ⟨(some 47), .ext (.t 46) 0, none⟩])
    (.seq (.cond (.t 47)
     .skip
     (.exit 2))
    (.blk 3 (.seq (.reg [⟨(some 48), .ext (.t 46) 1, none⟩,
       ⟨(some 49), .ext (.t 46) 2, none⟩,
       ⟨(some 9), .mv (.t 48), none⟩,
       ⟨(some 10), .mv (.t 49), none⟩])
     (.seq (.reg [⟨(some 50), .mv (.t 1), none⟩,
       ⟨(some 51), .mv (.t 10), none⟩,
       ⟨(some 52), .call f_strings_IndexRune [(.t 50), (.t 51)], none⟩,
       ⟨(some 53), .bin .geq (.t 52) (.c (.i .i64 0)), none⟩])
     (.cond (.t 53)
      (.seq (.reg [⟨(some 54), .mv (.t 9), none⟩,
        ⟨(some 4), .mv (.t 54), none⟩])
      .ret)
      .skip)))))))))
  (.seq (.reg [⟨(some 4), .mv (.c (.i .i64 (-1))), none⟩])
  .ret)))))) }
def c_slices_Clone_int_int : Fun := { cin := [(.sl 1 .id)], cout := [], ntmps := 8, keep := true, res := [(2, none)], body :=
  (.seq (.reg [⟨(some 2), .mv (.c .nsl), none⟩])
  (.seq (.seq (.reg [⟨(some 3), .mv (.t 0), none⟩,
    ⟨(some 4), .eq .sl false (.t 3) (.c .nsl), none⟩])
  (.cond (.t 4)
   (.seq (.reg [⟨(some 2), .mv (.c .nsl), none⟩])
   .ret)
   .skip))
  (.seq (.reg [⟨(some 5), .bsl 1 [], none⟩,
    ⟨(some 6), .mv (.t 0), none⟩,
    ⟨(some 7), .app 1 3 (.t 5) (.t 6), none⟩,
    ⟨(some 2), .mv (.t 7), none⟩])
  .ret))) }
def c_slices_AppendSeq_int_int : Fun := { cin := [], cout := [], ntmps := 13, keep := true, res := [(4, none)], body :=
  (.seq (.reg [⟨(some 2), .box 37 1 (.t 0), none⟩,
    ⟨(some 4), .mv (.c .nsl), none⟩])
  (.seq (.seq (.reg [⟨(some 6), .mv (.t 1), none⟩])
  (.blk 0 (.rf (.t 6) [7] (.reg [⟨(some 5), .mv (.t 7), none⟩])
   (.blk 1 (.reg [⟨(some 8), .ld false 1 (.t 2), none⟩,
       ⟨(some 9), .mv (.t 5), none⟩,
       ⟨(some 10), .bsl 1 [(.t 9)], none⟩,
       ⟨(some 11), .app 1 3 (.t 8) (.t 10), none⟩,
       ⟨none, .st 1 (.t 2) (.t 11), none⟩])))))
  (.seq (.reg [⟨(some 12), .ld false 1 (.t 2), none⟩,
    ⟨(some 4), .mv (.t 12), none⟩])
  .ret))) }
def c_strings_IndexRune : Fun := { cin := [.id, .id], cout := [.id], ntmps := 187, keep := false, res := [(4, none)], body :=
  (.seq (.reg [⟨(some 4), .mv (.c (.i .i64 0)), none⟩])
  (.blk 0 (.seq (.reg [⟨(some 161), .mv (.t 1), none⟩,
     ⟨(some 162), .bin .leq (.c (.i .i32 0)) (.t 161), none⟩,
     ⟨(some 163), .mv (.t 162), none⟩,
     ⟨(some 164), .mv (.t 1), (some (163, true))⟩,
     ⟨(some 165), .bin .lss (.t 164) (.c (.i .i32 128)), (some (163, true))⟩,
     ⟨(some 166), .pick (.t 163) (.t 165) (.c (.b false)), none⟩,
     ⟨(some 160), .mv (.t 166), none⟩])
   (.cond (.t 160)
    (.seq (.reg [⟨(some 167), .mv (.t 0), none⟩,
      ⟨(some 168), .mv (.t 1), none⟩,
      ⟨(some 169), .cvI .u8 (.t 168), none⟩,
      ⟨(some 170), .call f_strings_IndexByte [(.t 167), (.t 169)], none⟩,
      ⟨(some 4), .mv (.t 170), none⟩])
    .ret)
    (.seq (.reg [⟨(some 172), .mv (.t 1), none⟩,
      ⟨(some 173), .bin .eql (.t 172) (.c (.i .i32 65533)), none⟩,
      ⟨(some 171), .mv (.t 173), none⟩])
    (.cond (.t 171)
     (.seq (.seq (.reg [⟨(some 174), .mv (.t 0), none⟩,
       ⟨(some 175), .siter (.t 174), none⟩])
     (.blk 9 (.loop (.seq (.reg [⟨(some 176), .snext (.t 175), none⟩,
         ⟨(some 177), .ext (.t 176) 0, none⟩])
       (.seq (.cond (.t 177)
        .skip
        (.exit 9))
       (.blk 10 (.seq (.reg [⟨(some 178), .ext (.t 176) 1, none⟩,
          ⟨(some 179), .ext (.t 176) 2, none⟩,
          ⟨(some 5), .mv (.t 178), none⟩,
          ⟨(some 6), .mv (.t 179), none⟩])
        (.seq (.reg [⟨(some 180), .mv (.t 6), none⟩,
          ⟨(some 181), .bin .eql (.t 180) (.c (.i .i32 65533)), none⟩])
        (.cond (.t 181)
         (.seq (.reg [⟨(some 182), .mv (.t 5), none⟩,
           ⟨(some 4), .mv (.t 182), none⟩])
         .ret)
         .skip)))))))))
     (.seq (.reg [⟨(some 4), .mv (.c (.i .i64 (-1))), none⟩])
     .ret))
     (.seq (.reg [⟨(some 184), .mv (.t 1), none⟩,
       ⟨(some 185), .call f_unicode_utf8_ValidRune [(.t 184)], none⟩,
       ⟨(some 186), .un .not (.t 185), none⟩,
       ⟨(some 183), .mv (.t 186), none⟩])
     (.cond (.t 183)
      (.seq (.reg [⟨(some 4), .mv (.c (.i .i64 (-1))), none⟩])
      .ret)
      (.seq (.reg [⟨(some 17), .mv (.t 1), none⟩,
        ⟨(some 18), .cvRS (.t 17), none⟩,
        ⟨(some 7), .mv (.t 18), none⟩])
      (.seq (.reg [⟨(some 19), .mv (.t 7), none⟩,
        ⟨(some 20), .len 0 (.t 19), none⟩,
        ⟨(some 21), .bin .sub (.t 20) (.c (.i .i64 1)), none⟩,
        ⟨(some 8), .mv (.t 21), none⟩])
      (.seq (.reg [⟨(some 22), .mv (.t 8), none⟩,
        ⟨(some 9), .mv (.t 22), none⟩])
      (.seq (.reg [⟨(some 10), .mv (.c (.i .i64 0)), none⟩])
      (.seq (.blk 1 (.loop (.seq (.seq (.reg [⟨(some 23), .mv (.t 9), none⟩,
          ⟨(some 24), .mv (.t 0), none⟩,
          ⟨(some 25), .len 0 (.t 24), none⟩,
          ⟨(some 26), .bin .lss (.t 23) (.t 25), none⟩])
        (.cond (.t 26)
         .skip
         (.exit 1)))
        (.blk 2 (.seq (.seq (.regD [⟨(some 27), .mv (.t 0), none⟩,
           ⟨(some 28), .mv (.t 9), none⟩,
           ⟨(some 29), .ixS (.t 27) (.t 28), none⟩,
           ⟨(some 30), .mv (.t 7), none⟩,
           ⟨(some 31), .mv (.t 8), none⟩,
           ⟨(some 32), .ixS (.t 30) (.t 31), none⟩,
           ⟨(some 33), .bin .neq (.t 29) (.t 32), none⟩] [])
         (.cond (.t 33)
          (.seq (.regD [⟨(some 34), .mv (.t 0), none⟩,
            ⟨(some 35), .mv (.t 9), none⟩,
            ⟨(some 36), .bin .add (.t 35) (.c (.i .i64 1)), none⟩,
            ⟨(some 37), .slS (.t 34) (some (.t 36)) none, none⟩,
            ⟨(some 38), .mv (.t 7), none⟩,
            ⟨(some 39), .mv (.t 8), none⟩,
            ⟨(some 40), .ixS (.t 38) (.t 39), none⟩,
            ⟨(some 41), .call f_strings_IndexByte [(.t 37), (.t 40)], none⟩,
            ⟨(some 11), .mv (.t 41), none⟩] [])
          (.seq (.seq (.reg [⟨(some 42), .mv (.t 11), none⟩,
            ⟨(some 43), .bin .lss (.t 42) (.c (.i .i64 0)), none⟩])
          (.cond (.t 43)
           (.seq (.reg [⟨(some 4), .mv (.c (.i .i64 (-1))), none⟩])
           .ret)
           .skip))
          (.reg [⟨(some 44), .mv (.t 9), none⟩,
            ⟨(some 45), .mv (.t 11), none⟩,
            ⟨(some 46), .bin .add (.t 45) (.c (.i .i64 1)), none⟩,
            ⟨(some 47), .bin .add (.t 44) (.t 46), none⟩,
            ⟨(some 9), .mv (.t 47), none⟩])))
          .skip))
         (.seq (.seq (.reg [⟨(some 12), .mv (.c (.i .i64 1)), none⟩])
         (.blk 3 (.loop (.seq (.seq (.reg [⟨(some 48), .mv (.t 12), none⟩,
             ⟨(some 49), .mv (.t 7), none⟩,
             ⟨(some 50), .len 0 (.t 49), none⟩,
             ⟨(some 51), .bin .lss (.t 48) (.t 50), none⟩])
           (.cond (.t 51)
            .skip
            (.exit 3)))
           (.seq (.blk 4 (.seq (.regD [⟨(some 54), .mv (.t 0), none⟩,
              ⟨(some 55), .mv (.t 9), none⟩,
              ⟨(some 56), .mv (.t 12), none⟩,
              ⟨(some 57), .bin .sub (.t 55) (.t 56), none⟩,
              ⟨(some 58), .ixS (.t 54) (.t 57), none⟩,
              ⟨(some 59), .mv (.t 7), none⟩,
              ⟨(some 60), .mv (.t 8), none⟩,
              ⟨(some 61), .mv (.t 12), none⟩,
              ⟨(some 62), .bin .sub (.t 60) (.t 61), none⟩,
              ⟨(some 63), .ixS (.t 59) (.t 62), none⟩,
              ⟨(some 64), .bin .neq (.t 58) (.t 63), none⟩] [])
            (.cond (.t 64)
             .bad
             .skip)))
           (.reg [⟨(some 52), .mv (.t 12), none⟩,
             ⟨(some 53), .bin .add (.t 52) (.c (.i .i64 1)), none⟩,
             ⟨(some 12), .mv (.t 53), none⟩]))))))
         (.seq (.seq (.reg [⟨(some 65), .mv (.t 9), none⟩,
           ⟨(some 66), .mv (.t 8), none⟩,
           ⟨(some 67), .bin .sub (.t 65) (.t 66), none⟩,
           ⟨(some 4), .mv (.t 67), none⟩])
         .ret)
         (.seq .skip
         (.seq (.reg [⟨(some 68), .mv (.t 10), none⟩,
           ⟨(some 69), .bin .add (.t 68) (.c (.i .i64 1)), none⟩,
           ⟨(some 10), .mv (.t 69), none⟩])
         (.seq (.reg [⟨(some 70), .mv (.t 9), none⟩,
           ⟨(some 71), .bin .add (.t 70) (.c (.i .i64 1)), none⟩,
           ⟨(some 9), .mv (.t 71), none⟩])
         (.seq (.reg [⟨(some 72), .mv (.c (.b true)), none⟩,
           ⟨(some 73), .mv (.t 10), (some (72, true))⟩,
           ⟨(some 74), .mv (.t 9), (some (72, true))⟩,
           ⟨(some 75), .call f_internal_bytealg_Cutover [(.t 74)], (some (72, true))⟩,
           ⟨(some 76), .bin .gtr (.t 73) (.t 75), (some (72, true))⟩,
           ⟨(some 77), .pick (.t 72) (.t 76) (.c (.b false)), none⟩,
           ⟨(some 78), .mv (.t 77), none⟩,
           ⟨(some 79), .mv (.t 9), (some (78, true))⟩,
           ⟨(some 80), .mv (.t 0), (some (78, true))⟩,
           ⟨(some 81), .len 0 (.t 80), (some (78, true))⟩,
           ⟨(some 82), .bin .lss (.t 79) (.t 81), (some (78, true))⟩,
           ⟨(some 83), .pick (.t 78) (.t 82) (.c (.b false)), none⟩,
           ⟨(some 84), .mv (.t 83), none⟩,
           ⟨(some 85), .mv (.c (.b false)), (some (84, false))⟩,
           ⟨(some 86), .mv (.t 10), (some (85, true))⟩,
           ⟨(some 87), .mv (.t 9), (some (85, true))⟩,
           ⟨(some 88), .bin .shr (.t 87) (.c (.i .u64 4)), (some (85, true))⟩,
           ⟨(some 89), .bin .add (.c (.i .i64 4)) (.t 88), (some (85, true))⟩,
           ⟨(some 90), .bin .geq (.t 86) (.t 89), (some (85, true))⟩,
           ⟨(some 91), .pick (.t 85) (.t 90) (.c (.b false)), (some (84, false))⟩,
           ⟨(some 92), .mv (.t 91), (some (84, false))⟩,
           ⟨(some 93), .mv (.t 9), (some (92, true))⟩,
           ⟨(some 94), .mv (.t 0), (some (92, true))⟩,
           ⟨(some 95), .len 0 (.t 94), (some (92, true))⟩,
           ⟨(some 96), .bin .lss (.t 93) (.t 95), (some (92, true))⟩,
           ⟨(some 97), .pick (.t 92) (.t 96) (.c (.b false)), (some (84, false))⟩,
           ⟨(some 98), .pick (.t 84) (.c (.b true)) (.t 97), none⟩])
         (.cond (.t 98)
          .bad
          .skip))))))))))))
      (.seq (.seq (.reg [⟨(some 4), .mv (.c (.i .i64 (-1))), none⟩])
      .ret)
      (.seq .skip
      (.seq (.cond (.c (.b true))
       (.seq (.reg [⟨(some 99), .mv (.t 0), none⟩,
         ⟨(some 100), .mv (.t 9), none⟩,
         ⟨(some 101), .mv (.t 8), none⟩,
         ⟨(some 102), .bin .sub (.t 100) (.t 101), none⟩,
         ⟨(some 103), .slS (.t 99) (some (.t 102)) none, none⟩,
         ⟨(some 104), .mv (.t 1), none⟩,
         ⟨(some 105), .cvRS (.t 104), none⟩,
         ⟨(some 106), .bad, none⟩,
         ⟨(some 13), .mv (.t 106), none⟩])
       (.seq (.reg [⟨(some 107), .mv (.t 13), none⟩,
         ⟨(some 108), .bin .geq (.t 107) (.c (.i .i64 0)), none⟩])
       (.cond (.t 108)
        (.seq (.reg [⟨(some 109), .mv (.t 9), none⟩,
          ⟨(some 110), .mv (.t 13), none⟩,
          ⟨(some 111), .bin .add (.t 109) (.t 110), none⟩,
          ⟨(some 112), .mv (.t 8), none⟩,
          ⟨(some 113), .bin .sub (.t 111) (.t 112), none⟩,
          ⟨(some 4), .mv (.t 113), none⟩])
        .ret)
        .skip)))
       (.seq (.reg [⟨(some 114), .mv (.t 7), none⟩,
         ⟨(some 115), .mv (.t 8), none⟩,
         ⟨(some 116), .ixS (.t 114) (.t 115), none⟩,
         ⟨(some 14), .mv (.t 116), none⟩])
       (.seq (.reg [⟨(some 117), .mv (.t 7), none⟩,
         ⟨(some 118), .mv (.t 8), none⟩,
         ⟨(some 119), .bin .sub (.t 118) (.c (.i .i64 1)), none⟩,
         ⟨(some 120), .ixS (.t 117) (.t 119), none⟩,
         ⟨(some 15), .mv (.t 120), none⟩])
       (.seq .skip
       (.blk 5 (.loop (.seq (.seq (.reg [⟨(some 121), .mv (.t 9), none⟩,
           ⟨(some 122), .mv (.t 0), none⟩,
           ⟨(some 123), .len 0 (.t 122), none⟩,
           ⟨(some 124), .bin .lss (.t 121) (.t 123), none⟩])
         (.cond (.t 124)
          .skip
          (.exit 5)))
         (.seq (.blk 6 (.seq (.reg [⟨(some 127), .mv (.t 0), none⟩,
            ⟨(some 128), .mv (.t 9), none⟩,
            ⟨(some 129), .ixS (.t 127) (.t 128), none⟩,
            ⟨(some 130), .mv (.t 14), none⟩,
            ⟨(some 131), .bin .eql (.t 129) (.t 130), none⟩,
            ⟨(some 132), .mv (.t 131), none⟩,
            ⟨(some 133), .mv (.t 0), (some (132, true))⟩,
            ⟨(some 134), .mv (.t 9), (some (132, true))⟩,
            ⟨(some 135), .bin .sub (.t 134) (.c (.i .i64 1)), (some (132, true))⟩,
            ⟨(some 136), .ixS (.t 133) (.t 135), (some (132, true))⟩,
            ⟨(some 137), .mv (.t 15), (some (132, true))⟩,
            ⟨(some 138), .bin .eql (.t 136) (.t 137), (some (132, true))⟩,
            ⟨(some 139), .pick (.t 132) (.t 138) (.c (.b false)), none⟩])
          (.cond (.t 139)
           (.seq (.seq (.reg [⟨(some 16), .mv (.c (.i .i64 2)), none⟩])
           (.blk 7 (.loop (.seq (.seq (.reg [⟨(some 140), .mv (.t 16), none⟩,
               ⟨(some 141), .mv (.t 7), none⟩,
               ⟨(some 142), .len 0 (.t 141), none⟩,
               ⟨(some 143), .bin .lss (.t 140) (.t 142), none⟩])
             (.cond (.t 143)
              .skip
              (.exit 7)))
             (.seq (.blk 8 (.seq (.regD [⟨(some 146), .mv (.t 0), none⟩,
                ⟨(some 147), .mv (.t 9), none⟩,
                ⟨(some 148), .mv (.t 16), none⟩,
                ⟨(some 149), .bin .sub (.t 147) (.t 148), none⟩,
                ⟨(some 150), .ixS (.t 146) (.t 149), none⟩,
                ⟨(some 151), .mv (.t 7), none⟩,
                ⟨(some 152), .mv (.t 8), none⟩,
                ⟨(some 153), .mv (.t 16), none⟩,
                ⟨(some 154), .bin .sub (.t 152) (.t 153), none⟩,
                ⟨(some 155), .ixS (.t 151) (.t 154), none⟩,
                ⟨(some 156), .bin .neq (.t 150) (.t 155), none⟩] [])
              (.cond (.t 156)
               (.exit 6)
               .skip)))
             (.reg [⟨(some 144), .mv (.t 16), none⟩,
               ⟨(some 145), .bin .add (.t 144) (.c (.i .i64 1)), none⟩,
               ⟨(some 16), .mv (.t 145), none⟩]))))))
           (.seq (.reg [⟨(some 157), .mv (.t 9), none⟩,
             ⟨(some 158), .mv (.t 8), none⟩,
             ⟨(some 159), .bin .sub (.t 157) (.t 158), none⟩,
             ⟨(some 4), .mv (.t 159), none⟩])
           .ret))
           .skip)))
         (.reg [⟨(some 125), .mv (.t 9), none⟩,
           ⟨(some 126), .bin .add (.t 125) (.c (.i .i64 1)), none⟩,
           ⟨(some 9), .mv (.t 126), none⟩])))))))))
      (.seq (.reg [⟨(some 4), .mv (.c (.i .i64 (-1))), none⟩])
      .ret))))))))))))))))) }
def c_strings_shouldUseASCIISet : Fun := { cin := [.id], cout := [.id], ntmps := 5, keep := false, res := [(2, none)], body :=
  (.seq (.reg [⟨(some 2), .mv (.c (.b false)), none⟩])
  (.seq (.reg [⟨(some 3), .mv (.t 0), none⟩,
    ⟨(some 4), .bin .gtr (.t 3) (.c (.i .i64 8)), none⟩,
    ⟨(some 2), .mv (.t 4), none⟩])
  .ret)) }
def c_strings_makeASCIISet : Fun := { cin := [.id], cout := [(.agg [.id, .id, .id, .id, .id, .id, .id, .id, .id, .id, .id, .id, .id, .id, .id, .id, .id, .id, .id, .id, .id, .id, .id, .id, .id, .id, .id, .id, .id, .id, .id, .id, .id, .id, .id, .id, .id, .id, .id, .id, .id, .id, .id, .id, .id, .id, .id, .id, .id, .id, .id, .id, .id, .id, .id, .id, .id, .id, .id, .id, .id, .id, .id, .id, .id, .id, .id, .id, .id, .id, .id, .id, .id, .id, .id, .id, .id, .id, .id, .id, .id, .id, .id, .id, .id, .id, .id, .id, .id, .id, .id, .id, .id, .id, .id, .id, .id, .id, .id, .id, .id, .id, .id, .id, .id, .id, .id, .id, .id, .id, .id, .id, .id, .id, .id, .id, .id, .id, .id, .id, .id, .id, .id, .id, .id, .id, .id, .id, .id, .id, .id, .id, .id, .id, .id, .id, .id, .id, .id, .id, .id, .id, .id, .id, .id, .id, .id, .id, .id, .id, .id, .id, .id, .id, .id, .id, .id, .id, .id, .id, .id, .id, .id, .id, .id, .id, .id, .id, .id, .id, .id, .id, .id, .id, .id, .id, .id, .id, .id, .id, .id, .id, .id, .id, .id, .id, .id, .id, .id, .id, .id, .id, .id, .id, .id, .id, .id, .id, .id, .id, .id, .id, .id, .id, .id, .id, .id, .id, .id, .id, .id, .id, .id, .id, .id, .id, .id, .id, .id, .id, .id, .id, .id, .id, .id, .id, .id, .id, .id, .id, .id, .id, .id, .id, .id, .id, .id, .id, .id, .id, .id, .id, .id, .id, .id, .id, .id, .id, .id, .id, .id, .id, .id, .id, .id, .id]), .id], ntmps := 21, keep := false, res := [(2, some (true, 256)), (3, none)], body :=
  (.seq (.reg [⟨(some 2), .alloc 130 [(.b false), (.b false), (.b false), (.b false), (.b false), (.b false), (.b false), (.b false), (.b false), (.b false), (.b false), (.b false), (.b false), (.b false), (.b false), (.b false), (.b false), (.b false), (.b false), (.b false), (.b false), (.b false), (.b false), (.b false), (.b false), (.b false), (.b false), (.b false), (.b false), (.b false), (.b false), (.b false), (.b false), (.b false), (.b false), (.b false), (.b false), (.b false), (.b false), (.b false), (.b false), (.b false), (.b false), (.b false), (.b false), (.b false), (.b false), (.b false), (.b false), (.b false), (.b false), (.b false), (.b false), (.b false), (.b false), (.b false), (.b false), (.b false), (.b false), (.b false), (.b false), (.b false), (.b false), (.b false), (.b false), (.b false), (.b false), (.b false), (.b false), (.b false), (.b false), (.b false), (.b false), (.b false), (.b false), (.b false), (.b false), (.b false), (.b false), (.b false), (.b false), (.b false), (.b false), (.b false), (.b false), (.b false), (.b false), (.b false), (.b false), (.b false), (.b false), (.b false), (.b false), (.b false), (.b false), (.b false), (.b false), (.b false), (.b false), (.b false), (.b false), (.b false), (.b false), (.b false), (.b false), (.b false), (.b false), (.b false), (.b false), (.b false), (.b false), (.b false), (.b false), (.b false), (.b false), (.b false), (.b false), (.b false), (.b false), (.b false), (.b false), (.b false), (.b false), (.b false), (.b false), (.b false), (.b false), (.b false), (.b false), (.b false), (.b false), (.b false), (.b false), (.b false), (.b false), (.b false), (.b false), (.b false), (.b false), (.b false), (.b false), (.b false), (.b false), (.b false), (.b false), (.b false), (.b false), (.b false), (.b false), (.b false), (.b false), (.b false), (.b false), (.b false), (.b false), (.b false), (.b false), (.b false), (.b false), (.b false), (.b false), (.b false), (.b false), (.b false), (.b false), (.b false), (.b false), (.b false), (.b false), (.b false), (.b false), (.b false), (.b false), (.b false), (.b false), (.b false), (.b false), (.b false), (.b false), (.b false), (.b false), (.b false), (.b false), (.b false), (.b false), (.b false), (.b false), (.b false), (.b false), (.b false), (.b false), (.b false), (.b false), (.b false), (.b false), (.b false), (.b false), (.b false), (.b false), (.b false), (.b false), (.b false), (.b false), (.b false), (.b false), (.b false), (.b false), (.b false), (.b false), (.b false), (.b false), (.b false), (.b false), (.b false), (.b false), (.b false), (.b false), (.b false), (.b false), (.b false), (.b false), (.b false), (.b false), (.b false), (.b false), (.b false), (.b false), (.b false), (.b false), (.b false), (.b false), (.b false), (.b false), (.b false), (.b false), (.b false), (.b false), (.b false), (.b false), (.b false), (.b false), (.b false), (.b false), (.b false), (.b false), (.b false), (.b false), (.b false), (.b false), (.b false), (.b false), (.b false), (.b false), (.b false), (.b false), (.b false)], none⟩,
    ⟨(some 3), .mv (.c (.b false)), none⟩])
  (.seq (.seq (.reg [⟨(some 4), .mv (.c (.i .i64 0)), none⟩])
  (.blk 0 (.loop (.seq (.seq (.reg [⟨(some 6), .mv (.t 4), none⟩,
      ⟨(some 7), .mv (.t 0), none⟩,
      ⟨(some 8), .len 0 (.t 7), none⟩,
      ⟨(some 9), .bin .lss (.t 6) (.t 8), none⟩])
    (.cond (.t 9)
     .skip
     (.exit 0)))
    (.seq (.blk 1 (.seq (.reg [⟨(some 12), .mv (.t 0), none⟩,
       ⟨(some 13), .mv (.t 4), none⟩,
       ⟨(some 14), .ixS (.t 12) (.t 13), none⟩,
       ⟨(some 5), .mv (.t 14), none⟩])
     (.seq (.seq (.reg [⟨(some 15), .mv (.t 5), none⟩,
       ⟨(some 16), .bin .geq (.t 15) (.c (.i .u8 128)), none⟩])
     (.cond (.t 16)
      (.seq (.reg [⟨(some 17), .ld true 256 (.t 2), none⟩,
        ⟨none, .st 256 (.t 2) (.t 17), none⟩,
        ⟨(some 3), .mv (.c (.b false)), none⟩])
      .ret)
      .skip))
     (.reg [⟨(some 18), .mv (.t 5), none⟩,
       ⟨(some 19), .iaA 256 1 (.t 2) (.t 18), none⟩,
       ⟨none, .st 1 (.t 19) (.c (.b true)), none⟩]))))
    (.reg [⟨(some 10), .mv (.t 4), none⟩,
      ⟨(some 11), .bin .add (.t 10) (.c (.i .i64 1)), none⟩,
      ⟨(some 4), .mv (.t 11), none⟩]))))))
  (.seq (.reg [⟨(some 20), .ld true 256 (.t 2), none⟩,
    ⟨none, .st 256 (.t 2) (.t 20), none⟩,
    ⟨(some 3), .mv (.c (.b true)), none⟩])
  .ret))) }
def c_strings_asciiSet_contains : Fun := { cin := [.id, .id], cout := [.id], ntmps := 10, keep := false, res := [(4, none)], body :=
  (.seq (.reg [⟨(some 4), .mv (.c (.b false)), none⟩])
  (.seq (.reg [⟨(some 5), .mv (.t 0), none⟩,
    ⟨(some 6), .mv (.t 1), none⟩,
    ⟨(some 7), .nck (.t 5), none⟩,
    ⟨(some 8), .iaA 256 1 (.t 7) (.t 6), none⟩,
    ⟨(some 9), .ld false 1 (.t 8), none⟩,
    ⟨(some 4), .mv (.t 9), none⟩])
  .ret)) }
def c_unicode_utf8_ValidRune : Fun := { cin := [.id], cout := [.id], ntmps := 17, keep := false, res := [(2, none)], body :=
  (.seq (.reg [⟨(some 2), .mv (.c (.b false)), none⟩])
  (.seq (.blk 0 (.seq (.reg [⟨(some 4), .mv (.t 0), none⟩,
     ⟨(some 5), .bin .leq (.c (.i .i32 0)) (.t 4), none⟩,
     ⟨(some 6), .mv (.t 5), none⟩,
     ⟨(some 7), .mv (.t 0), (some (6, true))⟩,
     ⟨(some 8), .bin .lss (.t 7) (.c (.i .i32 55296)), (some (6, true))⟩,
     ⟨(some 9), .pick (.t 6) (.t 8) (.c (.b false)), none⟩,
     ⟨(some 3), .mv (.t 9), none⟩])
   (.cond (.t 3)
    (.seq (.reg [⟨(some 2), .mv (.c (.b true)), none⟩])
    .ret)
    (.seq (.reg [⟨(some 11), .mv (.t 0), none⟩,
      ⟨(some 12), .bin .lss (.c (.i .i32 57343)) (.t 11), none⟩,
      ⟨(some 13), .mv (.t 12), none⟩,
      ⟨(some 14), .mv (.t 0), (some (13, true))⟩,
      ⟨(some 15), .bin .leq (.t 14) (.c (.i .i32 1114111)), (some (13, true))⟩,
      ⟨(some 16), .pick (.t 13) (.t 15) (.c (.b false)), none⟩,
      ⟨(some 10), .mv (.t 16), none⟩])
    (.cond (.t 10)
     (.seq (.reg [⟨(some 2), .mv (.c (.b true)), none⟩])
     .ret)
     .skip)))))
  (.seq (.reg [⟨(some 2), .mv (.c (.b false)), none⟩])
  .ret))) }
def c_internal_bytealg_Cutover : Fun := { cin := [.id], cout := [.id], ntmps := 6, keep := false, res := [(2, none)], body :=
  (.seq (.reg [⟨(some 2), .mv (.c (.i .i64 0)), none⟩])
  (.seq (.reg [⟨(some 3), .mv (.t 0), none⟩,
    ⟨(some 4), .bin .add (.t 3) (.c (.i .i64 16)), none⟩,
    ⟨(some 5), .bin .quo (.t 4) (.c (.i .i64 8)), none⟩,
    ⟨(some 2), .mv (.t 5), none⟩])
  .ret)) }
def tab : PT := (.n 76 c_touchstoneref20_one (.n 50 c_pat_dir (.n 15 c_touchstoneref24_Follow (.n 10 c_touchstoneref24_Ways (.n 8 c_touchstonelaw24_awake (.n 7 c_touchstonelaw24_long (.n 4 c_touchstonelaw24_ForkFollows .e .e) .e) (.n 9 c_fork_Ways .e .e)) (.n 13 c_fork_Follow (.n 11 c_touchstoneref20_Same .e .e) (.n 14 c_touchstonelaw24_given .e .e))) (.n 33 c_touchstoneref22_Know (.n 31 c_touchstoneref22_More (.n 30 c_fork_Split_calls (.n 28 c_pat_May .e .e) .e) (.n 32 c_touchstoneref22_Whole .e .e)) (.n 35 c_slices_Clone_api_Fact_api_Fact (.n 34 c_touchstoneref06_Same .e .e) (.n 39 c_touchstoneref20_May .e .e)))) (.n 59 c_fork_Split_calls_3 (.n 55 c_store_Whole (.n 53 c_pat_May_1 (.n 52 c_slices_ContainsFunc_int_int (.n 51 c_pat_one .e .e) .e) (.n 54 c_fork_Split_calls_1 .e .e)) (.n 57 c_store_More (.n 56 c_fork_Split_calls_2 .e .e) (.n 58 c_fork_kinds .e .e))) (.n 63 c_touchstoneref22_Beside (.n 61 c_touchstoneref22_dir (.n 60 c_store_Know .e .e) (.n 62 c_touchstoneref22_with .e .e)) (.n 65 c_touchstoneref06_Under (.n 64 c_touchstoneref22_wrong .e .e) (.n 75 c_touchstoneref20_dir .e .e))))) (.n 101 c_slices_Values_int_int (.n 89 c_store_there (.n 85 c_slices_IndexFunc_int_int (.n 83 c_touchstoneref06_Name (.n 81 c_slices_Clone_string_string (.n 77 c_touchstoneref20_above .e .e) .e) (.n 84 c_path_Name .e .e)) (.n 87 c_store_Whole_1 (.n 86 c_store_change .e .e) (.n 88 c_store_dir .e .e))) (.n 94 c_store_Know_1 (.n 92 c_store_More_2 (.n 91 c_store_More_1 (.n 90 c_store_Whole_2 .e .e) .e) (.n 93 c_fork_kinds_1 .e .e)) (.n 96 c_strings_IndexByte (.n 95 c_store_Know_2 .e .e) (.n 100 c_slices_Sorted_int .e .e)))) (.n 120 c_slices_Clone_int_int (.n 113 c_slices_Collect_int (.n 110 c_store_there_1 (.n 109 c_store_own (.n 108 c_strings_ContainsAny .e .e) .e) (.n 111 c_internal_stringslite_IndexByte .e .e)) (.n 115 c_slices_Values_int_int_1 (.n 114 c_slices_Sort_int_int .e .e) (.n 119 c_strings_IndexAny .e .e))) (.n 128 c_strings_makeASCIISet (.n 126 c_strings_IndexRune (.n 122 c_slices_AppendSeq_int_int .e .e) (.n 127 c_strings_shouldUseASCIISet .e .e)) (.n 141 c_unicode_utf8_ValidRune (.n 129 c_strings_asciiSet_contains .e .e) (.n 142 c_internal_bytealg_Cutover .e .e))))))
def prog (n : Nat) : Option Fun := tab.get n
def tabC : PT := (.n 90 c_store_Whole_2 (.n 56 c_fork_Split_calls_2 (.n 50 c_pat_dir (.n 28 c_pat_May (.n 9 c_fork_Ways (.n 8 cR_touchstonelaw24_awake .e .e) (.n 13 c_fork_Follow .e .e)) (.n 35 c_slices_Clone_api_Fact_api_Fact (.n 30 c_fork_Split_calls .e .e) .e)) (.n 53 c_pat_May_1 (.n 52 c_slices_ContainsFunc_int_int (.n 51 c_pat_one .e .e) .e) (.n 55 c_store_Whole (.n 54 c_fork_Split_calls_1 .e .e) .e))) (.n 84 c_path_Name (.n 59 c_fork_Split_calls_3 (.n 58 c_fork_kinds (.n 57 c_store_More .e .e) .e) (.n 81 c_slices_Clone_string_string (.n 60 c_store_Know .e .e) .e)) (.n 87 c_store_Whole_1 (.n 86 c_store_change (.n 85 c_slices_IndexFunc_int_int .e .e) .e) (.n 89 c_store_there (.n 88 c_store_dir .e .e) .e)))) (.n 113 c_slices_Collect_int (.n 100 c_slices_Sorted_int (.n 94 c_store_Know_1 (.n 92 c_store_More_2 (.n 91 c_store_More_1 .e .e) (.n 93 c_fork_kinds_1 .e .e)) (.n 96 c_strings_IndexByte (.n 95 c_store_Know_2 .e .e) .e)) (.n 109 c_store_own (.n 108 c_strings_ContainsAny (.n 101 c_slices_Values_int_int .e .e) .e) (.n 111 c_internal_stringslite_IndexByte (.n 110 c_store_there_1 .e .e) .e))) (.n 126 c_strings_IndexRune (.n 119 c_strings_IndexAny (.n 115 c_slices_Values_int_int_1 (.n 114 c_slices_Sort_int_int .e .e) .e) (.n 122 c_slices_AppendSeq_int_int (.n 120 c_slices_Clone_int_int .e .e) .e)) (.n 129 c_strings_asciiSet_contains (.n 128 c_strings_makeASCIISet (.n 127 c_strings_shouldUseASCIISet .e .e) .e) (.n 142 c_internal_bytealg_Cutover (.n 141 c_unicode_utf8_ValidRune .e .e) .e)))))
def progC (n : Nat) : Option Fun := tabC.get n
theorem p_touchstonelaw24_ForkFollows : prog f_touchstonelaw24_ForkFollows = some c_touchstonelaw24_ForkFollows := rfl
theorem p_touchstonelaw24_long : prog f_touchstonelaw24_long = some c_touchstonelaw24_long := rfl
theorem p_touchstonelaw24_awake : prog f_touchstonelaw24_awake = some c_touchstonelaw24_awake := rfl
theorem p_fork_Ways : prog f_fork_Ways = some c_fork_Ways := rfl
theorem p_touchstoneref24_Ways : prog f_touchstoneref24_Ways = some c_touchstoneref24_Ways := rfl
theorem p_touchstoneref20_Same : prog f_touchstoneref20_Same = some c_touchstoneref20_Same := rfl
theorem p_fork_Follow : prog f_fork_Follow = some c_fork_Follow := rfl
theorem p_touchstonelaw24_given : prog f_touchstonelaw24_given = some c_touchstonelaw24_given := rfl
theorem p_touchstoneref24_Follow : prog f_touchstoneref24_Follow = some c_touchstoneref24_Follow := rfl
theorem p_pat_May : prog f_pat_May = some c_pat_May := rfl
theorem p_fork_Split_calls : prog f_fork_Split_calls = some c_fork_Split_calls := rfl
theorem p_touchstoneref22_More : prog f_touchstoneref22_More = some c_touchstoneref22_More := rfl
theorem p_touchstoneref22_Whole : prog f_touchstoneref22_Whole = some c_touchstoneref22_Whole := rfl
theorem p_touchstoneref22_Know : prog f_touchstoneref22_Know = some c_touchstoneref22_Know := rfl
theorem p_touchstoneref06_Same : prog f_touchstoneref06_Same = some c_touchstoneref06_Same := rfl
theorem p_slices_Clone_api_Fact_api_Fact : prog f_slices_Clone_api_Fact_api_Fact = some c_slices_Clone_api_Fact_api_Fact := rfl
theorem p_touchstoneref20_May : prog f_touchstoneref20_May = some c_touchstoneref20_May := rfl
theorem p_pat_dir : prog f_pat_dir = some c_pat_dir := rfl
theorem p_pat_one : prog f_pat_one = some c_pat_one := rfl
theorem p_slices_ContainsFunc_int_int : prog f_slices_ContainsFunc_int_int = some c_slices_ContainsFunc_int_int := rfl
theorem p_pat_May_1 : prog f_pat_May_1 = some c_pat_May_1 := rfl
theorem p_fork_Split_calls_1 : prog f_fork_Split_calls_1 = some c_fork_Split_calls_1 := rfl
theorem p_store_Whole : prog f_store_Whole = some c_store_Whole := rfl
theorem p_fork_Split_calls_2 : prog f_fork_Split_calls_2 = some c_fork_Split_calls_2 := rfl
theorem p_store_More : prog f_store_More = some c_store_More := rfl
theorem p_fork_kinds : prog f_fork_kinds = some c_fork_kinds := rfl
theorem p_fork_Split_calls_3 : prog f_fork_Split_calls_3 = some c_fork_Split_calls_3 := rfl
theorem p_store_Know : prog f_store_Know = some c_store_Know := rfl
theorem p_touchstoneref22_dir : prog f_touchstoneref22_dir = some c_touchstoneref22_dir := rfl
theorem p_touchstoneref22_with : prog f_touchstoneref22_with = some c_touchstoneref22_with := rfl
theorem p_touchstoneref22_Beside : prog f_touchstoneref22_Beside = some c_touchstoneref22_Beside := rfl
theorem p_touchstoneref22_wrong : prog f_touchstoneref22_wrong = some c_touchstoneref22_wrong := rfl
theorem p_touchstoneref06_Under : prog f_touchstoneref06_Under = some c_touchstoneref06_Under := rfl
theorem p_touchstoneref20_dir : prog f_touchstoneref20_dir = some c_touchstoneref20_dir := rfl
theorem p_touchstoneref20_one : prog f_touchstoneref20_one = some c_touchstoneref20_one := rfl
theorem p_touchstoneref20_above : prog f_touchstoneref20_above = some c_touchstoneref20_above := rfl
theorem p_slices_Clone_string_string : prog f_slices_Clone_string_string = some c_slices_Clone_string_string := rfl
theorem p_touchstoneref06_Name : prog f_touchstoneref06_Name = some c_touchstoneref06_Name := rfl
theorem p_path_Name : prog f_path_Name = some c_path_Name := rfl
theorem p_slices_IndexFunc_int_int : prog f_slices_IndexFunc_int_int = some c_slices_IndexFunc_int_int := rfl
theorem p_store_change : prog f_store_change = some c_store_change := rfl
theorem p_store_Whole_1 : prog f_store_Whole_1 = some c_store_Whole_1 := rfl
theorem p_store_dir : prog f_store_dir = some c_store_dir := rfl
theorem p_store_there : prog f_store_there = some c_store_there := rfl
theorem p_store_Whole_2 : prog f_store_Whole_2 = some c_store_Whole_2 := rfl
theorem p_store_More_1 : prog f_store_More_1 = some c_store_More_1 := rfl
theorem p_store_More_2 : prog f_store_More_2 = some c_store_More_2 := rfl
theorem p_fork_kinds_1 : prog f_fork_kinds_1 = some c_fork_kinds_1 := rfl
theorem p_store_Know_1 : prog f_store_Know_1 = some c_store_Know_1 := rfl
theorem p_store_Know_2 : prog f_store_Know_2 = some c_store_Know_2 := rfl
theorem p_strings_IndexByte : prog f_strings_IndexByte = some c_strings_IndexByte := rfl
theorem p_slices_Sorted_int : prog f_slices_Sorted_int = some c_slices_Sorted_int := rfl
theorem p_slices_Values_int_int : prog f_slices_Values_int_int = some c_slices_Values_int_int := rfl
theorem p_strings_ContainsAny : prog f_strings_ContainsAny = some c_strings_ContainsAny := rfl
theorem p_store_own : prog f_store_own = some c_store_own := rfl
theorem p_store_there_1 : prog f_store_there_1 = some c_store_there_1 := rfl
theorem p_internal_stringslite_IndexByte : prog f_internal_stringslite_IndexByte = some c_internal_stringslite_IndexByte := rfl
theorem p_slices_Collect_int : prog f_slices_Collect_int = some c_slices_Collect_int := rfl
theorem p_slices_Sort_int_int : prog f_slices_Sort_int_int = some c_slices_Sort_int_int := rfl
theorem p_slices_Values_int_int_1 : prog f_slices_Values_int_int_1 = some c_slices_Values_int_int_1 := rfl
theorem p_strings_IndexAny : prog f_strings_IndexAny = some c_strings_IndexAny := rfl
theorem p_slices_Clone_int_int : prog f_slices_Clone_int_int = some c_slices_Clone_int_int := rfl
theorem p_slices_AppendSeq_int_int : prog f_slices_AppendSeq_int_int = some c_slices_AppendSeq_int_int := rfl
theorem p_strings_IndexRune : prog f_strings_IndexRune = some c_strings_IndexRune := rfl
theorem p_strings_shouldUseASCIISet : prog f_strings_shouldUseASCIISet = some c_strings_shouldUseASCIISet := rfl
theorem p_strings_makeASCIISet : prog f_strings_makeASCIISet = some c_strings_makeASCIISet := rfl
theorem p_strings_asciiSet_contains : prog f_strings_asciiSet_contains = some c_strings_asciiSet_contains := rfl
theorem p_unicode_utf8_ValidRune : prog f_unicode_utf8_ValidRune = some c_unicode_utf8_ValidRune := rfl
theorem p_internal_bytealg_Cutover : prog f_internal_bytealg_Cutover = some c_internal_bytealg_Cutover := rfl
end Go.Proofs.Ytgloinighjdhlaa
