/-
  The functions, as the abstract machine's: numbers and texts. By program.
-/
import Derived.Test.YtfpoihibfajhlaaDoorAmRows
import Derived.Test.YtfpoihibfajhlaaDoorAmTyped
set_option linter.all false
set_option linter.unusedVariables false
set_option linter.unusedSimpArgs false
set_option linter.unusedSectionVars false
set_option maxRecDepth 100000
namespace Go.Proofs.YtfpoihibfajhlaaDoor
open Go.Proofs.YtfpoihibfajhlaaDoor.Am
def f_touchstonelaw05_ExpandSplits : Nat := 3
def f_touchstonelaw05_ExpandKeeps : Nat := 5
def f_touchstonelaw05_works : Nat := 6
def f_touchstonelaw05_large : Nat := 7
def f_touchstonelaw05_given : Nat := 8
def f_touchstonelaw05_blank : Nat := 9
def f_expand_Fields : Nat := 10
def f_expand_Text : Nat := 11
def f_touchstonelaw05_same : Nat := 12
def f_touchstonelaw05_par : Nat := 13
def f_expand_Value : Nat := 18
def f_expand_Set : Nat := 22
def f_touchstonelaw05_vars : Nat := 23
def f_touchstonelaw05_fields : Nat := 24
def f_touchstonelaw05_qpar : Nat := 25
def f_touchstonelaw05_lit : Nat := 26
def f_touchstonelaw05_quo : Nat := 27
def f_touchstonelaw05_texts : Nat := 28
def f_expand_values : Nat := 29
def f_expand_builder_split : Nat := 30
def f_expand_builder_add : Nat := 31
def f_expand_builder_end : Nat := 32
def f_strings_Builder_WriteString : Nat := 33
def f_strings_Builder_String : Nat := 34
def f_strconv_Itoa : Nat := 36
def f_slices_Index_string_string : Nat := 37
def f_expand_isName : Nat := 40
def f_slices_Clone_string_string : Nat := 41
def f_slices_Sort_string_string : Nat := 42
def f_slices_Compact_string_string : Nat := 43
def f_expand_values_1 : Nat := 44
def f_strings_Builder_copyCheck : Nat := 45
def f_word_Param : Nat := 47
def f_internal_abi_NoEscape : Nat := 50
def f_strings_Contains : Nat := 52
def f_word_lead : Nat := 53
def f_strings_Index : Nat := 69
def f_word_letter : Nat := 70
def f_word_digit : Nat := 71
def f_internal_stringslite_Index : Nat := 82
def f_internal_stringslite_IndexByte : Nat := 86
def f_internal_bytealg_IndexString : Nat := 87
def f_internal_bytealg_Cutover : Nat := 88
def f_internal_bytealg_IndexRabinKarp_string : Nat := 89
def f_internal_bytealg_IndexByteString : Nat := 90
def f_internal_bytealg_hashStr_string : Nat := 91
def c_touchstonelaw05_ExpandSplits : Fun := { cin := [(.agg [(.sl 1 .id), (.sl 1 .id), (.sl 1 .id), .id]), (.sl 3 (.agg [.id, .id, .id]))], cout := [.id], ntmps := 185, keep := false, res := [(4, none)], body :=
  (.seq (.reg [⟨(some 2), .box 24 4 (.t 0), none⟩,
    ⟨(some 4), .mv (.c (.b false)), none⟩])
  (.seq (.seq (.reg [⟨(some 21), .call f_touchstonelaw05_works [], none⟩,
    ⟨(some 22), .un .not (.t 21), none⟩,
    ⟨(some 23), .mv (.t 22), none⟩,
    ⟨(some 24), .ld true 4 (.t 2), (some (23, false))⟩,
    ⟨(some 25), .mv (.t 1), (some (23, false))⟩,
    ⟨(some 26), .call f_touchstonelaw05_large [(.t 24), (.t 25)], (some (23, false))⟩,
    ⟨(some 27), .pick (.t 23) (.c (.b true)) (.t 26), none⟩])
  (.cond (.t 27)
   (.seq (.reg [⟨(some 28), .call f_touchstonelaw05_works [], none⟩,
     ⟨(some 4), .mv (.t 28), none⟩])
   .ret)
   .skip))
  (.seq (.reg [⟨(some 29), .ld true 4 (.t 2), none⟩,
    ⟨(some 30), .call f_touchstonelaw05_given [(.t 29)], none⟩,
    ⟨(some 5), .alloc 28 [.nsl, .nsl, .nsl, (.i .i64 0)], none⟩,
    ⟨none, .st 4 (.t 5) (.t 30), none⟩])
  (.seq (.reg [⟨(some 6), .mv (.c .nsl), none⟩])
  (.seq (.reg [⟨(some 7), .mv (.c .nsl), none⟩])
  (.seq (.seq (.reg [⟨(some 8), .mv (.c (.i .i64 0)), none⟩])
  (.blk 0 (.loop (.seq (.seq (.reg [⟨(some 31), .mv (.t 8), none⟩,
      ⟨(some 32), .mv (.t 1), none⟩,
      ⟨(some 33), .len 1 (.t 32), none⟩,
      ⟨(some 34), .bin .lss (.t 31) (.t 33), none⟩])
    (.cond (.t 34)
     .skip
     (.exit 0)))
    (.seq (.blk 1 (.seq (.reg [⟨(some 37), .mv (.t 1), none⟩,
       ⟨(some 38), .mv (.t 8), none⟩,
       ⟨(some 39), .ia 3 (.t 37) (.t 38), none⟩,
       ⟨(some 40), .ld true 3 (.t 39), none⟩,
       ⟨(some 9), .alloc 31 [(.b false), (.s []), (.b false)], none⟩,
       ⟨none, .st 3 (.t 9) (.t 40), none⟩])
     (.seq (.reg [⟨(some 41), .fa 2 (.t 9), none⟩,
       ⟨none, .st 1 (.t 41) (.c (.b true)), none⟩])
     (.seq (.reg [⟨(some 42), .mv (.t 6), none⟩,
       ⟨(some 43), .ld true 3 (.t 9), none⟩,
       ⟨(some 44), .bsl 3 [(.t 43)], none⟩,
       ⟨(some 45), .app 3 31 (.t 42) (.t 44), none⟩,
       ⟨(some 6), .mv (.t 45), none⟩])
     (.seq (.reg [⟨(some 46), .fa 2 (.t 9), none⟩,
       ⟨none, .st 1 (.t 46) (.c (.b false)), none⟩])
     (.seq (.seq (.reg [⟨(some 47), .fa 0 (.t 9), none⟩,
       ⟨(some 48), .ld false 1 (.t 47), none⟩,
       ⟨(some 49), .un .not (.t 48), none⟩])
     (.cond (.t 49)
      (.seq (.reg [⟨(some 10), .mv (.c (.s [])), none⟩])
      (.seq (.seq (.reg [⟨(some 11), .mv (.c (.i .i64 0)), none⟩])
      (.blk 2 (.loop (.seq (.seq (.reg [⟨(some 50), .mv (.t 11), none⟩,
          ⟨(some 51), .fa 1 (.t 9), none⟩,
          ⟨(some 52), .ld false 1 (.t 51), none⟩,
          ⟨(some 53), .len 0 (.t 52), none⟩,
          ⟨(some 54), .bin .lss (.t 50) (.t 53), none⟩])
        (.cond (.t 54)
         .skip
         (.exit 2)))
        (.seq (.blk 3 (.seq (.reg [⟨(some 57), .fa 1 (.t 9), none⟩,
           ⟨(some 58), .ld false 1 (.t 57), none⟩,
           ⟨(some 59), .mv (.t 11), none⟩,
           ⟨(some 60), .ixS (.t 58) (.t 59), none⟩,
           ⟨(some 61), .call f_touchstonelaw05_blank [(.t 60)], none⟩,
           ⟨(some 62), .un .not (.t 61), none⟩])
         (.cond (.t 62)
          (.reg [⟨(some 63), .mv (.t 10), none⟩,
            ⟨(some 64), .fa 1 (.t 9), none⟩,
            ⟨(some 65), .ld false 1 (.t 64), none⟩,
            ⟨(some 66), .mv (.t 11), none⟩,
            ⟨(some 67), .mv (.t 11), none⟩,
            ⟨(some 68), .bin .add (.t 67) (.c (.i .i64 1)), none⟩,
            ⟨(some 69), .slS (.t 65) (some (.t 66)) (some (.t 68)), none⟩,
            ⟨(some 70), .bin .add (.t 63) (.t 69), none⟩,
            ⟨(some 10), .mv (.t 70), none⟩])
          .skip)))
        (.reg [⟨(some 55), .mv (.t 11), none⟩,
          ⟨(some 56), .bin .add (.t 55) (.c (.i .i64 1)), none⟩,
          ⟨(some 11), .mv (.t 56), none⟩]))))))
      (.reg [⟨(some 71), .mv (.t 10), none⟩,
        ⟨(some 72), .fa 1 (.t 9), none⟩,
        ⟨none, .st 1 (.t 72) (.t 71), none⟩])))
      .skip))
     (.reg [⟨(some 73), .mv (.t 7), none⟩,
       ⟨(some 74), .ld true 3 (.t 9), none⟩,
       ⟨(some 75), .bsl 3 [(.t 74)], none⟩,
       ⟨(some 76), .app 3 31 (.t 73) (.t 75), none⟩,
       ⟨(some 7), .mv (.t 76), none⟩])))))))
    (.reg [⟨(some 35), .mv (.t 8), none⟩,
      ⟨(some 36), .bin .add (.t 35) (.c (.i .i64 1)), none⟩,
      ⟨(some 8), .mv (.t 36), none⟩]))))))
  (.seq (.reg [⟨(some 77), .ld true 4 (.t 5), none⟩,
    ⟨(some 78), .mv (.t 6), none⟩,
    ⟨(some 79), .call f_expand_Fields [(.t 77), (.t 78)], none⟩,
    ⟨(some 12), .mv (.t 79), none⟩])
  (.seq (.seq (.regD [⟨(some 80), .mv (.t 1), none⟩,
    ⟨(some 81), .len 1 (.t 80), none⟩,
    ⟨(some 82), .bin .eql (.t 81) (.c (.i .i64 0)), none⟩,
    ⟨(some 83), .mv (.t 82), none⟩,
    ⟨(some 84), .mv (.t 12), (some (83, true))⟩,
    ⟨(some 85), .len 1 (.t 84), (some (83, true))⟩,
    ⟨(some 86), .bin .neq (.t 85) (.c (.i .i64 0)), (some (83, true))⟩,
    ⟨(some 87), .pick (.t 83) (.t 86) (.c (.b false)), none⟩,
    ⟨(some 88), .mv (.t 87), none⟩,
    ⟨(some 89), .mv (.t 1), (some (88, false))⟩,
    ⟨(some 90), .len 1 (.t 89), (some (88, false))⟩,
    ⟨(some 91), .bin .gtr (.t 90) (.c (.i .i64 0)), (some (88, false))⟩,
    ⟨(some 92), .mv (.t 91), (some (88, false))⟩,
    ⟨(some 93), .mv (.t 12), (some (92, true))⟩,
    ⟨(some 94), .len 1 (.t 93), (some (92, true))⟩,
    ⟨(some 95), .bin .neq (.t 94) (.c (.i .i64 1)), (some (92, true))⟩,
    ⟨(some 96), .mv (.t 95), (some (92, true))⟩,
    ⟨(some 97), .mv (.t 12), (some (96, false))⟩,
    ⟨(some 98), .ia 1 (.t 97) (.c (.i .i64 0)), (some (96, false))⟩,
    ⟨(some 99), .ld false 1 (.t 98), (some (96, false))⟩,
    ⟨(some 100), .ld true 4 (.t 5), (some (96, false))⟩,
    ⟨(some 101), .mv (.t 1), (some (96, false))⟩,
    ⟨(some 102), .call f_expand_Text [(.t 100), (.t 101)], (some (96, false))⟩,
    ⟨(some 103), .bin .neq (.t 99) (.t 102), (some (96, false))⟩,
    ⟨(some 104), .pick (.t 96) (.c (.b true)) (.t 103), (some (92, true))⟩,
    ⟨(some 105), .pick (.t 92) (.t 104) (.c (.b false)), (some (88, false))⟩,
    ⟨(some 106), .pick (.t 88) (.c (.b true)) (.t 105), none⟩] [(19, (19, 23))])
  (.cond (.t 106)
   (.seq (.reg [⟨(some 4), .mv (.c (.b false)), none⟩])
   .ret)
   .skip))
  (.seq (.reg [⟨(some 107), .ld true 4 (.t 5), none⟩,
    ⟨(some 108), .mv (.t 7), none⟩,
    ⟨(some 109), .call f_expand_Fields [(.t 107), (.t 108)], none⟩,
    ⟨(some 13), .mv (.t 109), none⟩])
  (.seq (.reg [⟨(some 14), .mv (.c (.s [])), none⟩])
  (.seq (.reg [⟨(some 15), .mv (.c (.s [])), none⟩])
  (.seq (.seq (.reg [⟨(some 16), .mv (.c (.i .i64 0)), none⟩])
  (.blk 4 (.loop (.seq (.seq (.reg [⟨(some 110), .mv (.t 16), none⟩,
      ⟨(some 111), .mv (.t 13), none⟩,
      ⟨(some 112), .len 1 (.t 111), none⟩,
      ⟨(some 113), .bin .lss (.t 110) (.t 112), none⟩])
    (.cond (.t 113)
     .skip
     (.exit 4)))
    (.seq (.blk 5 (.seq (.seq (.reg [⟨(some 116), .mv (.t 13), none⟩,
       ⟨(some 117), .mv (.t 16), none⟩,
       ⟨(some 118), .ia 1 (.t 116) (.t 117), none⟩,
       ⟨(some 119), .ld false 1 (.t 118), none⟩,
       ⟨(some 120), .bin .eql (.t 119) (.c (.s [])), none⟩])
     (.cond (.t 120)
      (.seq (.reg [⟨(some 4), .mv (.c (.b false)), none⟩])
      .ret)
      .skip))
     (.seq (.seq (.reg [⟨(some 17), .mv (.c (.i .i64 0)), none⟩])
     (.blk 6 (.loop (.seq (.seq (.reg [⟨(some 121), .mv (.t 17), none⟩,
         ⟨(some 122), .mv (.t 13), none⟩,
         ⟨(some 123), .mv (.t 16), none⟩,
         ⟨(some 124), .ia 1 (.t 122) (.t 123), none⟩,
         ⟨(some 125), .ld false 1 (.t 124), none⟩,
         ⟨(some 126), .len 0 (.t 125), none⟩,
         ⟨(some 127), .bin .lss (.t 121) (.t 126), none⟩])
       (.cond (.t 127)
        .skip
        (.exit 6)))
       (.seq (.blk 7 (.seq (.reg [⟨(some 130), .mv (.t 13), none⟩,
          ⟨(some 131), .mv (.t 16), none⟩,
          ⟨(some 132), .ia 1 (.t 130) (.t 131), none⟩,
          ⟨(some 133), .ld false 1 (.t 132), none⟩,
          ⟨(some 134), .mv (.t 17), none⟩,
          ⟨(some 135), .ixS (.t 133) (.t 134), none⟩,
          ⟨(some 136), .call f_touchstonelaw05_blank [(.t 135)], none⟩])
        (.cond (.t 136)
         (.seq (.reg [⟨(some 4), .mv (.c (.b false)), none⟩])
         .ret)
         .skip)))
       (.reg [⟨(some 128), .mv (.t 17), none⟩,
         ⟨(some 129), .bin .add (.t 128) (.c (.i .i64 1)), none⟩,
         ⟨(some 17), .mv (.t 129), none⟩]))))))
     (.seq (.reg [⟨(some 137), .mv (.t 14), none⟩,
       ⟨(some 138), .mv (.t 13), none⟩,
       ⟨(some 139), .mv (.t 16), none⟩,
       ⟨(some 140), .ia 1 (.t 138) (.t 139), none⟩,
       ⟨(some 141), .ld false 1 (.t 140), none⟩,
       ⟨(some 142), .bin .add (.t 137) (.t 141), none⟩,
       ⟨(some 14), .mv (.t 142), none⟩])
     (.reg [⟨(some 143), .mv (.t 15), none⟩,
       ⟨(some 144), .bin .add (.t 143) (.c (.s [32])), none⟩,
       ⟨(some 145), .mv (.t 13), none⟩,
       ⟨(some 146), .mv (.t 16), none⟩,
       ⟨(some 147), .ia 1 (.t 145) (.t 146), none⟩,
       ⟨(some 148), .ld false 1 (.t 147), none⟩,
       ⟨(some 149), .bin .add (.t 144) (.t 148), none⟩,
       ⟨(some 15), .mv (.t 149), none⟩])))))
    (.reg [⟨(some 114), .mv (.t 16), none⟩,
      ⟨(some 115), .bin .add (.t 114) (.c (.i .i64 1)), none⟩,
      ⟨(some 16), .mv (.t 115), none⟩]))))))
  (.seq (.reg [⟨(some 150), .ld true 4 (.t 5), none⟩,
    ⟨(some 151), .mv (.t 7), none⟩,
    ⟨(some 152), .call f_expand_Text [(.t 150), (.t 151)], none⟩,
    ⟨(some 18), .mv (.t 152), none⟩])
  (.seq (.reg [⟨(some 19), .mv (.c (.s [])), none⟩])
  (.seq (.seq (.reg [⟨(some 20), .mv (.c (.i .i64 0)), none⟩])
  (.blk 8 (.loop (.seq (.seq (.reg [⟨(some 153), .mv (.t 20), none⟩,
      ⟨(some 154), .mv (.t 18), none⟩,
      ⟨(some 155), .len 0 (.t 154), none⟩,
      ⟨(some 156), .bin .lss (.t 153) (.t 155), none⟩])
    (.cond (.t 156)
     .skip
     (.exit 8)))
    (.seq (.blk 9 (.seq (.reg [⟨(some 159), .mv (.t 18), none⟩,
       ⟨(some 160), .mv (.t 20), none⟩,
       ⟨(some 161), .ixS (.t 159) (.t 160), none⟩,
       ⟨(some 162), .call f_touchstonelaw05_blank [(.t 161)], none⟩,
       ⟨(some 163), .un .not (.t 162), none⟩])
     (.cond (.t 163)
      (.reg [⟨(some 164), .mv (.t 19), none⟩,
        ⟨(some 165), .mv (.t 18), none⟩,
        ⟨(some 166), .mv (.t 20), none⟩,
        ⟨(some 167), .mv (.t 20), none⟩,
        ⟨(some 168), .bin .add (.t 167) (.c (.i .i64 1)), none⟩,
        ⟨(some 169), .slS (.t 165) (some (.t 166)) (some (.t 168)), none⟩,
        ⟨(some 170), .bin .add (.t 164) (.t 169), none⟩,
        ⟨(some 19), .mv (.t 170), none⟩])
      .skip)))
    (.reg [⟨(some 157), .mv (.t 20), none⟩,
      ⟨(some 158), .bin .add (.t 157) (.c (.i .i64 1)), none⟩,
      ⟨(some 20), .mv (.t 158), none⟩]))))))
  (.seq (.reg [⟨(some 171), .mv (.t 14), none⟩,
    ⟨(some 172), .mv (.t 19), none⟩,
    ⟨(some 173), .bin .eql (.t 171) (.t 172), none⟩,
    ⟨(some 174), .mv (.t 173), none⟩,
    ⟨(some 175), .bsl 1 [(.c (.s [120]))], (some (174, true))⟩,
    ⟨(some 176), .mv (.t 15), (some (174, true))⟩,
    ⟨(some 177), .bsl 1 [(.t 176)], (some (174, true))⟩,
    ⟨(some 178), .build [.nsl, .nsl, .nsl, (.i .i64 0)] [(0, 1, (.t 175)), (1, 1, (.t 177))], (some (174, true))⟩,
    ⟨(some 179), .call f_touchstonelaw05_par [(.c (.s [120]))], (some (174, true))⟩,
    ⟨(some 180), .bsl 3 [(.t 179)], (some (174, true))⟩,
    ⟨(some 181), .call f_expand_Fields [(.t 178), (.t 180)], (some (174, true))⟩,
    ⟨(some 182), .mv (.t 13), (some (174, true))⟩,
    ⟨(some 183), .call f_touchstonelaw05_same [(.t 181), (.t 182)], (some (174, true))⟩,
    ⟨(some 184), .pick (.t 174) (.t 183) (.c (.b false)), none⟩,
    ⟨(some 4), .mv (.t 184), none⟩])
  .ret)))))))))))))))) }
def c_touchstonelaw05_ExpandKeeps : Fun := { cin := [(.agg [(.sl 1 .id), (.sl 1 .id), (.sl 1 .id), .id]), .id, .id, .id], cout := [.id], ntmps := 97, keep := false, res := [(8, none)], body :=
  (.seq (.reg [⟨(some 4), .box 24 4 (.t 0), none⟩,
    ⟨(some 8), .mv (.c (.b false)), none⟩])
  (.seq (.seq (.reg [⟨(some 13), .call f_touchstonelaw05_works [], none⟩,
    ⟨(some 14), .un .not (.t 13), none⟩,
    ⟨(some 15), .mv (.t 14), none⟩,
    ⟨(some 16), .ld true 4 (.t 4), (some (15, false))⟩,
    ⟨(some 17), .call f_touchstonelaw05_large [(.t 16), (.c .nsl)], (some (15, false))⟩,
    ⟨(some 18), .pick (.t 15) (.c (.b true)) (.t 17), none⟩,
    ⟨(some 19), .mv (.t 18), none⟩,
    ⟨(some 20), .mv (.t 1), (some (19, false))⟩,
    ⟨(some 21), .len 0 (.t 20), (some (19, false))⟩,
    ⟨(some 22), .bin .gtr (.t 21) (.c (.i .i64 1000)), (some (19, false))⟩,
    ⟨(some 23), .pick (.t 19) (.c (.b true)) (.t 22), none⟩,
    ⟨(some 24), .mv (.t 23), none⟩,
    ⟨(some 25), .mv (.t 2), (some (24, false))⟩,
    ⟨(some 26), .len 0 (.t 25), (some (24, false))⟩,
    ⟨(some 27), .bin .gtr (.t 26) (.c (.i .i64 5000)), (some (24, false))⟩,
    ⟨(some 28), .pick (.t 24) (.c (.b true)) (.t 27), none⟩,
    ⟨(some 29), .mv (.t 28), none⟩,
    ⟨(some 30), .mv (.t 3), (some (29, false))⟩,
    ⟨(some 31), .len 0 (.t 30), (some (29, false))⟩,
    ⟨(some 32), .bin .gtr (.t 31) (.c (.i .i64 1000)), (some (29, false))⟩,
    ⟨(some 33), .pick (.t 29) (.c (.b true)) (.t 32), none⟩])
  (.cond (.t 33)
   (.seq (.reg [⟨(some 34), .call f_touchstonelaw05_works [], none⟩,
     ⟨(some 8), .mv (.t 34), none⟩])
   .ret)
   .skip))
  (.seq (.reg [⟨(some 35), .ld true 4 (.t 4), none⟩,
    ⟨(some 36), .call f_touchstonelaw05_given [(.t 35)], none⟩,
    ⟨(some 9), .alloc 28 [.nsl, .nsl, .nsl, (.i .i64 0)], none⟩,
    ⟨none, .st 4 (.t 9) (.t 36), none⟩])
  (.seq (.reg [⟨(some 38), .ld true 4 (.t 9), none⟩,
    ⟨(some 39), .mv (.t 1), none⟩,
    ⟨(some 40), .mv (.t 2), none⟩,
    ⟨(some 41), .call f_expand_Set [(.t 38), (.t 39), (.t 40)], none⟩,
    ⟨(some 37), .mv (.t 41), none⟩,
    ⟨(some 42), .ext (.t 37) 0, none⟩,
    ⟨(some 43), .ext (.t 37) 1, none⟩,
    ⟨(some 10), .alloc 28 [.nsl, .nsl, .nsl, (.i .i64 0)], none⟩,
    ⟨none, .st 4 (.t 10) (.t 42), none⟩,
    ⟨(some 11), .mv (.t 43), none⟩])
  (.seq (.seq (.reg [⟨(some 44), .mv (.t 11), none⟩,
    ⟨(some 45), .bin .neq (.t 44) (.c (.i .i64 0)), none⟩])
  (.cond (.t 45)
   (.seq (.reg [⟨(some 46), .fa 0 (.t 10), none⟩,
     ⟨(some 47), .ld false 1 (.t 46), none⟩,
     ⟨(some 48), .len 1 (.t 47), none⟩,
     ⟨(some 49), .bin .eql (.t 48) (.c (.i .i64 0)), none⟩,
     ⟨(some 8), .mv (.t 49), none⟩])
   .ret)
   .skip))
  (.seq (.seq (.regD [⟨(some 50), .ld true 4 (.t 10), none⟩,
    ⟨(some 51), .mv (.t 1), none⟩,
    ⟨(some 52), .call f_expand_Value [(.t 50), (.t 51)], none⟩,
    ⟨(some 53), .mv (.t 2), none⟩,
    ⟨(some 54), .bin .neq (.t 52) (.t 53), none⟩,
    ⟨(some 55), .mv (.t 54), none⟩,
    ⟨(some 56), .mv (.t 3), (some (55, false))⟩,
    ⟨(some 57), .mv (.t 1), (some (55, false))⟩,
    ⟨(some 58), .bin .neq (.t 56) (.t 57), (some (55, false))⟩,
    ⟨(some 59), .mv (.t 58), (some (55, false))⟩,
    ⟨(some 60), .ld true 4 (.t 10), (some (59, true))⟩,
    ⟨(some 61), .mv (.t 3), (some (59, true))⟩,
    ⟨(some 62), .call f_expand_Value [(.t 60), (.t 61)], (some (59, true))⟩,
    ⟨(some 63), .ld true 4 (.t 9), (some (59, true))⟩,
    ⟨(some 64), .mv (.t 3), (some (59, true))⟩,
    ⟨(some 65), .call f_expand_Value [(.t 63), (.t 64)], (some (59, true))⟩,
    ⟨(some 66), .bin .neq (.t 62) (.t 65), (some (59, true))⟩,
    ⟨(some 67), .pick (.t 59) (.t 66) (.c (.b false)), (some (55, false))⟩,
    ⟨(some 68), .pick (.t 55) (.c (.b true)) (.t 67), none⟩,
    ⟨(some 69), .mv (.t 68), none⟩,
    ⟨(some 70), .fa 0 (.t 10), (some (69, false))⟩,
    ⟨(some 71), .ld false 1 (.t 70), (some (69, false))⟩,
    ⟨(some 72), .len 1 (.t 71), (some (69, false))⟩,
    ⟨(some 73), .fa 1 (.t 10), (some (69, false))⟩,
    ⟨(some 74), .ld false 1 (.t 73), (some (69, false))⟩,
    ⟨(some 75), .len 1 (.t 74), (some (69, false))⟩,
    ⟨(some 76), .bin .neq (.t 72) (.t 75), (some (69, false))⟩,
    ⟨(some 77), .pick (.t 69) (.c (.b true)) (.t 76), none⟩] [(13, (12, 13))])
  (.cond (.t 77)
   (.seq (.reg [⟨(some 8), .mv (.c (.b false)), none⟩])
   .ret)
   .skip))
  (.seq (.seq (.reg [⟨(some 12), .mv (.c (.i .i64 1)), none⟩])
  (.blk 0 (.loop (.seq (.seq (.reg [⟨(some 78), .mv (.t 12), none⟩,
      ⟨(some 79), .fa 0 (.t 10), none⟩,
      ⟨(some 80), .ld false 1 (.t 79), none⟩,
      ⟨(some 81), .len 1 (.t 80), none⟩,
      ⟨(some 82), .bin .lss (.t 78) (.t 81), none⟩])
    (.cond (.t 82)
     .skip
     (.exit 0)))
    (.seq (.blk 1 (.seq (.regD [⟨(some 85), .fa 0 (.t 10), none⟩,
       ⟨(some 86), .ld false 1 (.t 85), none⟩,
       ⟨(some 87), .mv (.t 12), none⟩,
       ⟨(some 88), .ia 1 (.t 86) (.t 87), none⟩,
       ⟨(some 89), .ld false 1 (.t 88), none⟩,
       ⟨(some 90), .fa 0 (.t 10), none⟩,
       ⟨(some 91), .ld false 1 (.t 90), none⟩,
       ⟨(some 92), .mv (.t 12), none⟩,
       ⟨(some 93), .bin .sub (.t 92) (.c (.i .i64 1)), none⟩,
       ⟨(some 94), .ia 1 (.t 91) (.t 93), none⟩,
       ⟨(some 95), .ld false 1 (.t 94), none⟩,
       ⟨(some 96), .bin .leq (.t 89) (.t 95), none⟩] [])
     (.cond (.t 96)
      (.seq (.reg [⟨(some 8), .mv (.c (.b false)), none⟩])
      .ret)
      .skip)))
    (.reg [⟨(some 83), .mv (.t 12), none⟩,
      ⟨(some 84), .bin .add (.t 83) (.c (.i .i64 1)), none⟩,
      ⟨(some 12), .mv (.t 84), none⟩]))))))
  (.seq (.reg [⟨(some 8), .mv (.c (.b true)), none⟩])
  .ret)))))))) }
def c_touchstonelaw05_works : Fun := { cin := [], cout := [.id], ntmps := 63, keep := false, res := [(0, none)], body :=
  (.seq (.reg [⟨(some 0), .mv (.c (.b false)), none⟩])
  (.seq (.reg [⟨(some 2), .call f_touchstonelaw05_vars [(.c (.s [97, 32, 32, 98, 32]))], none⟩,
    ⟨(some 1), .alloc 28 [.nsl, .nsl, .nsl, (.i .i64 0)], none⟩,
    ⟨none, .st 4 (.t 1) (.t 2), none⟩])
  (.seq (.regD [⟨(some 3), .ld true 4 (.t 1), none⟩,
    ⟨(some 4), .callQ false f_touchstonelaw05_par [(.c (.s [120]))], none⟩,
    ⟨(some 5), .bsl 3 [(.t 4)], none⟩,
    ⟨(some 6), .bsl 1 [(.c (.s [97])), (.c (.s [98]))], none⟩,
    ⟨(some 7), .callQ false f_touchstonelaw05_fields [(.t 3), (.t 5), (.t 6)], none⟩,
    ⟨(some 8), .mv (.t 7), none⟩,
    ⟨(some 9), .ld true 4 (.t 1), (some (8, true))⟩,
    ⟨(some 10), .callQ false f_touchstonelaw05_qpar [(.c (.s [120]))], (some (8, true))⟩,
    ⟨(some 11), .bsl 3 [(.t 10)], (some (8, true))⟩,
    ⟨(some 12), .bsl 1 [(.c (.s [97, 32, 32, 98, 32]))], (some (8, true))⟩,
    ⟨(some 13), .callQ false f_touchstonelaw05_fields [(.t 9), (.t 11), (.t 12)], (some (8, true))⟩,
    ⟨(some 14), .pick (.t 8) (.t 13) (.c (.b false)), none⟩,
    ⟨(some 15), .mv (.t 14), none⟩,
    ⟨(some 16), .ld true 4 (.t 1), (some (15, true))⟩,
    ⟨(some 17), .callQ false f_touchstonelaw05_lit [(.c (.s [99]))], (some (15, true))⟩,
    ⟨(some 18), .callQ false f_touchstonelaw05_par [(.c (.s [120]))], (some (15, true))⟩,
    ⟨(some 19), .callQ false f_touchstonelaw05_quo [(.c (.s [100]))], (some (15, true))⟩,
    ⟨(some 20), .bsl 3 [(.t 17), (.t 18), (.t 19)], (some (15, true))⟩,
    ⟨(some 21), .bsl 1 [(.c (.s [99, 97])), (.c (.s [98])), (.c (.s [100]))], (some (15, true))⟩,
    ⟨(some 22), .callQ false f_touchstonelaw05_fields [(.t 16), (.t 20), (.t 21)], (some (15, true))⟩,
    ⟨(some 23), .pick (.t 15) (.t 22) (.c (.b false)), none⟩,
    ⟨(some 24), .mv (.t 23), none⟩,
    ⟨(some 25), .ld true 4 (.t 1), (some (24, true))⟩,
    ⟨(some 26), .callQ false f_touchstonelaw05_par [(.c (.s [121]))], (some (24, true))⟩,
    ⟨(some 27), .bsl 3 [(.t 26)], (some (24, true))⟩,
    ⟨(some 28), .callQ false f_touchstonelaw05_fields [(.t 25), (.t 27), (.c .nsl)], (some (24, true))⟩,
    ⟨(some 29), .pick (.t 24) (.t 28) (.c (.b false)), none⟩,
    ⟨(some 30), .mv (.t 29), none⟩,
    ⟨(some 31), .ld true 4 (.t 1), (some (30, true))⟩,
    ⟨(some 32), .callQ false f_touchstonelaw05_quo [(.c (.s []))], (some (30, true))⟩,
    ⟨(some 33), .bsl 3 [(.t 32)], (some (30, true))⟩,
    ⟨(some 34), .bsl 1 [(.c (.s []))], (some (30, true))⟩,
    ⟨(some 35), .callQ false f_touchstonelaw05_fields [(.t 31), (.t 33), (.t 34)], (some (30, true))⟩,
    ⟨(some 36), .pick (.t 30) (.t 35) (.c (.b false)), none⟩,
    ⟨(some 37), .mv (.t 36), none⟩,
    ⟨(some 38), .ld true 4 (.t 1), (some (37, true))⟩,
    ⟨(some 39), .callQ false f_touchstonelaw05_lit [(.c (.s [99]))], (some (37, true))⟩,
    ⟨(some 40), .callQ false f_touchstonelaw05_par [(.c (.s [121]))], (some (37, true))⟩,
    ⟨(some 41), .bsl 3 [(.t 39), (.t 40)], (some (37, true))⟩,
    ⟨(some 42), .bsl 1 [(.c (.s [99]))], (some (37, true))⟩,
    ⟨(some 43), .callQ false f_touchstonelaw05_fields [(.t 38), (.t 41), (.t 42)], (some (37, true))⟩,
    ⟨(some 44), .pick (.t 37) (.t 43) (.c (.b false)), none⟩,
    ⟨(some 45), .mv (.t 44), none⟩,
    ⟨(some 46), .ld true 4 (.t 1), (some (45, true))⟩,
    ⟨(some 47), .callQ false f_touchstonelaw05_lit [(.c (.s [99]))], (some (45, true))⟩,
    ⟨(some 48), .callQ false f_touchstonelaw05_par [(.c (.s [120]))], (some (45, true))⟩,
    ⟨(some 49), .bsl 3 [(.t 47), (.t 48)], (some (45, true))⟩,
    ⟨(some 50), .callQ false f_expand_Text [(.t 46), (.t 49)], (some (45, true))⟩,
    ⟨(some 51), .bin .eql (.t 50) (.c (.s [99, 97, 32, 32, 98, 32])), (some (45, true))⟩,
    ⟨(some 52), .pick (.t 45) (.t 51) (.c (.b false)), none⟩,
    ⟨(some 53), .mv (.t 52), none⟩,
    ⟨(some 54), .ld true 4 (.t 1), (some (53, true))⟩,
    ⟨(some 55), .callQ false f_expand_Value [(.t 54), (.c (.s [35]))], (some (53, true))⟩,
    ⟨(some 56), .bin .eql (.t 55) (.c (.s [50])), (some (53, true))⟩,
    ⟨(some 57), .pick (.t 53) (.t 56) (.c (.b false)), none⟩,
    ⟨(some 58), .mv (.t 57), none⟩,
    ⟨(some 59), .ld true 4 (.t 1), (some (58, true))⟩,
    ⟨(some 60), .callQ false f_expand_Value [(.t 59), (.c (.s [51]))], (some (58, true))⟩,
    ⟨(some 61), .bin .eql (.t 60) (.c (.s [])), (some (58, true))⟩,
    ⟨(some 62), .pick (.t 58) (.t 61) (.c (.b false)), none⟩,
    ⟨(some 0), .mv (.t 62), none⟩] [(0, (0, 2)), (6, (6, 8)), (13, (13, 17)), (22, (22, 24)), (28, (28, 30)), (35, (35, 38)), (43, (43, 46))])
  .ret))) }
def c_touchstonelaw05_large : Fun := { cin := [(.agg [(.sl 1 .id), (.sl 1 .id), (.sl 1 .id), .id]), (.sl 3 (.agg [.id, .id, .id]))], cout := [.id], ntmps := 47, keep := false, res := [(4, none)], body :=
  (.seq (.reg [⟨(some 2), .box 24 4 (.t 0), none⟩,
    ⟨(some 4), .mv (.c (.b false)), none⟩])
  (.seq (.reg [⟨(some 7), .fa 0 (.t 2), none⟩,
    ⟨(some 8), .ld false 1 (.t 7), none⟩,
    ⟨(some 9), .call f_touchstonelaw05_texts [(.t 8)], none⟩,
    ⟨(some 5), .mv (.t 9), none⟩])
  (.seq (.reg [⟨(some 10), .mv (.t 5), none⟩,
    ⟨(some 11), .fa 1 (.t 2), none⟩,
    ⟨(some 12), .ld false 1 (.t 11), none⟩,
    ⟨(some 13), .call f_touchstonelaw05_texts [(.t 12)], none⟩,
    ⟨(some 14), .bin .add (.t 10) (.t 13), none⟩,
    ⟨(some 5), .mv (.t 14), none⟩])
  (.seq (.reg [⟨(some 15), .mv (.t 5), none⟩,
    ⟨(some 16), .fa 2 (.t 2), none⟩,
    ⟨(some 17), .ld false 1 (.t 16), none⟩,
    ⟨(some 18), .call f_touchstonelaw05_texts [(.t 17)], none⟩,
    ⟨(some 19), .bin .add (.t 15) (.t 18), none⟩,
    ⟨(some 5), .mv (.t 19), none⟩])
  (.seq (.seq (.reg [⟨(some 6), .mv (.c (.i .i64 0)), none⟩])
  (.blk 0 (.loop (.seq (.seq (.reg [⟨(some 20), .mv (.t 6), none⟩,
      ⟨(some 21), .mv (.t 1), none⟩,
      ⟨(some 22), .len 1 (.t 21), none⟩,
      ⟨(some 23), .bin .lss (.t 20) (.t 22), none⟩,
      ⟨(some 24), .mv (.t 23), none⟩,
      ⟨(some 25), .mv (.t 5), (some (24, true))⟩,
      ⟨(some 26), .bin .lss (.t 25) (.c (.i .i64 20000)), (some (24, true))⟩,
      ⟨(some 27), .pick (.t 24) (.t 26) (.c (.b false)), none⟩])
    (.cond (.t 27)
     .skip
     (.exit 0)))
    (.seq (.blk 1 (.seq (.thw 1)
     (.reg [⟨(some 30), .mv (.t 5), none⟩,
       ⟨(some 31), .bin .add (.t 30) (.c (.i .i64 1)), none⟩,
       ⟨(some 32), .mv (.t 1), none⟩,
       ⟨(some 33), .mv (.t 6), none⟩,
       ⟨(some 34), .ia 3 (.t 32) (.t 33), none⟩,
       ⟨(some 35), .fa 1 (.t 34), none⟩,
       ⟨(some 36), .ld false 1 (.t 35), none⟩,
       ⟨(some 37), .len 0 (.t 36), none⟩,
       ⟨(some 38), .mm false (.t 37) (.c (.i .i64 20000)), none⟩,
       ⟨(some 39), .bin .add (.t 31) (.t 38), none⟩,
       ⟨(some 5), .mv (.t 39), none⟩])))
    (.reg [⟨(some 28), .mv (.t 6), none⟩,
      ⟨(some 29), .bin .add (.t 28) (.c (.i .i64 1)), none⟩,
      ⟨(some 6), .mv (.t 29), none⟩]))))))
  (.seq (.reg [⟨(some 40), .mv (.t 5), none⟩,
    ⟨(some 41), .bin .geq (.t 40) (.c (.i .i64 20000)), none⟩,
    ⟨(some 42), .mv (.t 41), none⟩,
    ⟨(some 43), .mv (.t 1), (some (42, false))⟩,
    ⟨(some 44), .len 1 (.t 43), (some (42, false))⟩,
    ⟨(some 45), .bin .gtr (.t 44) (.c (.i .i64 200)), (some (42, false))⟩,
    ⟨(some 46), .pick (.t 42) (.c (.b true)) (.t 45), none⟩,
    ⟨(some 4), .mv (.t 46), none⟩])
  .ret)))))) }
def c_touchstonelaw05_given : Fun := { cin := [(.agg [(.sl 1 .id), (.sl 1 .id), (.sl 1 .id), .id])], cout := [(.agg [(.sl 1 .id), (.sl 1 .id), (.sl 1 .id), .id])], ntmps := 18, keep := false, res := [(2, some (true, 4))], body :=
  (.seq (.reg [⟨(some 1), .box 24 4 (.t 0), none⟩,
    ⟨(some 2), .alloc 28 [.nsl, .nsl, .nsl, (.i .i64 0)], none⟩])
  (.seq (.regD [⟨(some 3), .bsl 1 [], none⟩,
    ⟨(some 4), .fa 0 (.t 1), none⟩,
    ⟨(some 5), .ld false 1 (.t 4), none⟩,
    ⟨(some 6), .appQ 1 9 (.t 3) (.t 5), none⟩,
    ⟨(some 7), .bsl 1 [], none⟩,
    ⟨(some 8), .fa 1 (.t 1), none⟩,
    ⟨(some 9), .ld false 1 (.t 8), none⟩,
    ⟨(some 10), .appQ 1 9 (.t 7) (.t 9), none⟩,
    ⟨(some 11), .bsl 1 [], none⟩,
    ⟨(some 12), .fa 2 (.t 1), none⟩,
    ⟨(some 13), .ld false 1 (.t 12), none⟩,
    ⟨(some 14), .appQ 1 9 (.t 11) (.t 13), none⟩,
    ⟨(some 15), .fa 3 (.t 1), none⟩,
    ⟨(some 16), .ld false 1 (.t 15), none⟩,
    ⟨(some 17), .build [.nsl, .nsl, .nsl, (.i .i64 0)] [(0, 1, (.t 6)), (1, 1, (.t 10)), (2, 1, (.t 14)), (3, 1, (.t 16))], none⟩,
    ⟨none, .st 4 (.t 2) (.t 17), none⟩] [(6, (3, 6)), (10, (3, 10)), (13, (3, 13))])
  .ret)) }
def c_touchstonelaw05_blank : Fun := { cin := [.id], cout := [.id], ntmps := 13, keep := false, res := [(2, none)], body :=
  (.seq (.reg [⟨(some 2), .mv (.c (.b false)), none⟩])
  (.seq (.reg [⟨(some 3), .mv (.t 0), none⟩,
    ⟨(some 4), .bin .eql (.t 3) (.c (.i .u8 32)), none⟩,
    ⟨(some 5), .mv (.t 4), none⟩,
    ⟨(some 6), .mv (.t 0), (some (5, false))⟩,
    ⟨(some 7), .bin .eql (.t 6) (.c (.i .u8 9)), (some (5, false))⟩,
    ⟨(some 8), .pick (.t 5) (.c (.b true)) (.t 7), none⟩,
    ⟨(some 9), .mv (.t 8), none⟩,
    ⟨(some 10), .mv (.t 0), (some (9, false))⟩,
    ⟨(some 11), .bin .eql (.t 10) (.c (.i .u8 10)), (some (9, false))⟩,
    ⟨(some 12), .pick (.t 9) (.c (.b true)) (.t 11), none⟩,
    ⟨(some 2), .mv (.t 12), none⟩])
  .ret)) }
def c_expand_Fields : Fun := { cin := [(.agg [(.sl 1 .id), (.sl 1 .id), (.sl 1 .id), .id]), (.sl 3 (.agg [.id, .id, .id]))], cout := [(.sl 1 .id)], ntmps := 51, keep := false, res := [(4, none)], body :=
  (.seq (.reg [⟨(some 2), .box 28 4 (.t 0), none⟩,
    ⟨(some 4), .mv (.c .nsl), none⟩])
  (.seq (.reg [⟨(some 10), .ld true 4 (.t 2), none⟩,
    ⟨(some 11), .call f_expand_values [(.t 10)], none⟩,
    ⟨(some 5), .mv (.t 11), none⟩])
  (.seq (.reg [⟨(some 12), .build [.nsl, .nsl, (.b false)] [], none⟩,
    ⟨(some 13), .box 61 3 (.t 12), none⟩,
    ⟨(some 6), .mv (.t 13), none⟩])
  (.seq (.seq (.reg [⟨(some 14), .mv (.t 1), none⟩,
    ⟨(some 15), .len 1 (.t 14), none⟩,
    ⟨(some 16), .mv (.c (.i .i64 0)), none⟩])
  (.blk 0 (.loop (.seq (.reg [⟨(some 17), .bin .lss (.t 16) (.t 15), none⟩])
    (.seq (.cond (.t 17)
     .skip
     (.exit 0))
    (.seq (.blk 1 (.seq (.reg [⟨(some 18), .ia 3 (.t 14) (.t 16), none⟩,
       ⟨(some 19), .ld true 3 (.t 18), none⟩,
       ⟨(some 8), .alloc 31 [(.b false), (.s []), (.b false)], none⟩,
       ⟨none, .st 3 (.t 8) (.t 19), none⟩])
     (.seq (.reg [⟨(some 20), .mv (.t 5), none⟩,
       ⟨(some 21), .ld true 3 (.t 8), none⟩,
       ⟨(some 22), .callX (.t 20) [(.t 21)], none⟩,
       ⟨(some 9), .mv (.t 22), none⟩])
     (.blk 2 (.seq (.reg [⟨(some 24), .fa 0 (.t 8), none⟩,
        ⟨(some 25), .ld false 1 (.t 24), none⟩,
        ⟨(some 26), .mv (.t 25), none⟩,
        ⟨(some 27), .fa 2 (.t 8), (some (26, true))⟩,
        ⟨(some 28), .ld false 1 (.t 27), (some (26, true))⟩,
        ⟨(some 29), .un .not (.t 28), (some (26, true))⟩,
        ⟨(some 30), .pick (.t 26) (.t 29) (.c (.b false)), none⟩,
        ⟨(some 23), .mv (.t 30), none⟩])
      (.cond (.t 23)
       (.reg [⟨(some 31), .mv (.t 6), none⟩,
         ⟨(some 32), .mv (.t 9), none⟩,
         ⟨(some 33), .call f_expand_builder_split [(.t 31), (.t 32)], none⟩])
       (.seq (.reg [⟨(some 35), .fa 2 (.t 8), none⟩,
         ⟨(some 36), .ld false 1 (.t 35), none⟩,
         ⟨(some 37), .mv (.t 36), none⟩,
         ⟨(some 38), .mv (.t 9), (some (37, false))⟩,
         ⟨(some 39), .bin .neq (.t 38) (.c (.s [])), (some (37, false))⟩,
         ⟨(some 40), .pick (.t 37) (.c (.b true)) (.t 39), none⟩,
         ⟨(some 34), .mv (.t 40), none⟩])
       (.cond (.t 34)
        (.reg [⟨(some 41), .mv (.t 6), none⟩,
          ⟨(some 42), .mv (.t 9), none⟩,
          ⟨(some 43), .call f_expand_builder_add [(.t 41), (.t 42)], none⟩])
        .skip))))))))
    (.reg [⟨(some 44), .bin .add (.t 16) (.c (.i .i64 1)), none⟩,
      ⟨(some 16), .mv (.t 44), none⟩])))))))
  (.seq (.reg [⟨(some 45), .mv (.t 6), none⟩,
    ⟨(some 46), .call f_expand_builder_end [(.t 45)], none⟩])
  (.seq (.reg [⟨(some 47), .mv (.t 6), none⟩,
    ⟨(some 48), .nck (.t 47), none⟩,
    ⟨(some 49), .fa 0 (.t 48), none⟩,
    ⟨(some 50), .ld false 1 (.t 49), none⟩,
    ⟨(some 4), .mv (.t 50), none⟩])
  .ret)))))) }
def c_expand_Text : Fun := { cin := [(.agg [(.sl 1 .id), (.sl 1 .id), (.sl 1 .id), .id]), (.sl 3 (.agg [.id, .id, .id]))], cout := [.id], ntmps := 23, keep := false, res := [(4, none)], body :=
  (.seq (.reg [⟨(some 2), .box 28 4 (.t 0), none⟩,
    ⟨(some 4), .mv (.c (.s [])), none⟩])
  (.seq (.reg [⟨(some 9), .ld true 4 (.t 2), none⟩,
    ⟨(some 10), .call f_expand_values [(.t 9)], none⟩,
    ⟨(some 5), .mv (.t 10), none⟩])
  (.seq (.reg [⟨(some 6), .alloc 65 [.np, .nsl], none⟩])
  (.seq (.seq (.reg [⟨(some 11), .mv (.t 1), none⟩,
    ⟨(some 12), .len 1 (.t 11), none⟩,
    ⟨(some 13), .mv (.c (.i .i64 0)), none⟩])
  (.blk 0 (.loop (.seq (.reg [⟨(some 14), .bin .lss (.t 13) (.t 12), none⟩])
    (.seq (.cond (.t 14)
     .skip
     (.exit 0))
    (.seq (.blk 1 (.seq (.reg [⟨(some 15), .ia 3 (.t 11) (.t 13), none⟩,
       ⟨(some 16), .ld true 3 (.t 15), none⟩,
       ⟨(some 8), .alloc 31 [(.b false), (.s []), (.b false)], none⟩,
       ⟨none, .st 3 (.t 8) (.t 16), none⟩])
     (.reg [⟨(some 17), .mv (.t 5), none⟩,
       ⟨(some 18), .ld true 3 (.t 8), none⟩,
       ⟨(some 19), .callX (.t 17) [(.t 18)], none⟩,
       ⟨(some 20), .call f_strings_Builder_WriteString [(.t 6), (.t 19)], none⟩])))
    (.reg [⟨(some 21), .bin .add (.t 13) (.c (.i .i64 1)), none⟩,
      ⟨(some 13), .mv (.t 21), none⟩])))))))
  (.seq (.reg [⟨(some 22), .call f_strings_Builder_String [(.t 6)], none⟩,
    ⟨(some 4), .mv (.t 22), none⟩])
  .ret))))) }
def c_touchstonelaw05_same : Fun := { cin := [(.sl 1 .id), (.sl 1 .id)], cout := [.id], ntmps := 26, keep := false, res := [(4, none)], body :=
  (.seq (.reg [⟨(some 4), .mv (.c (.b false)), none⟩])
  (.seq (.seq (.reg [⟨(some 6), .mv (.t 0), none⟩,
    ⟨(some 7), .len 1 (.t 6), none⟩,
    ⟨(some 8), .mv (.t 1), none⟩,
    ⟨(some 9), .len 1 (.t 8), none⟩,
    ⟨(some 10), .bin .neq (.t 7) (.t 9), none⟩])
  (.cond (.t 10)
   (.seq (.reg [⟨(some 4), .mv (.c (.b false)), none⟩])
   .ret)
   .skip))
  (.seq (.seq (.reg [⟨(some 5), .mv (.c (.i .i64 0)), none⟩])
  (.blk 0 (.loop (.seq (.seq (.reg [⟨(some 11), .mv (.t 5), none⟩,
      ⟨(some 12), .mv (.t 0), none⟩,
      ⟨(some 13), .len 1 (.t 12), none⟩,
      ⟨(some 14), .bin .lss (.t 11) (.t 13), none⟩])
    (.cond (.t 14)
     .skip
     (.exit 0)))
    (.seq (.blk 1 (.seq (.regD [⟨(some 17), .mv (.t 0), none⟩,
       ⟨(some 18), .mv (.t 5), none⟩,
       ⟨(some 19), .ia 1 (.t 17) (.t 18), none⟩,
       ⟨(some 20), .ld false 1 (.t 19), none⟩,
       ⟨(some 21), .mv (.t 1), none⟩,
       ⟨(some 22), .mv (.t 5), none⟩,
       ⟨(some 23), .ia 1 (.t 21) (.t 22), none⟩,
       ⟨(some 24), .ld false 1 (.t 23), none⟩,
       ⟨(some 25), .bin .neq (.t 20) (.t 24), none⟩] [])
     (.cond (.t 25)
      (.seq (.reg [⟨(some 4), .mv (.c (.b false)), none⟩])
      .ret)
      .skip)))
    (.reg [⟨(some 15), .mv (.t 5), none⟩,
      ⟨(some 16), .bin .add (.t 15) (.c (.i .i64 1)), none⟩,
      ⟨(some 5), .mv (.t 16), none⟩]))))))
  (.seq (.reg [⟨(some 4), .mv (.c (.b true)), none⟩])
  .ret)))) }
def c_touchstonelaw05_par : Fun := { cin := [.id], cout := [(.agg [.id, .id, .id])], ntmps := 5, keep := false, res := [(2, some (true, 3))], body :=
  (.seq (.reg [⟨(some 2), .alloc 31 [(.b false), (.s []), (.b false)], none⟩])
  (.seq (.reg [⟨(some 3), .mv (.t 0), none⟩,
    ⟨(some 4), .build [(.b false), (.s []), (.b false)] [(0, 1, (.c (.b true))), (1, 1, (.t 3))], none⟩,
    ⟨none, .st 3 (.t 2) (.t 4), none⟩])
  .ret)) }
def c_expand_Value : Fun := { cin := [(.agg [(.sl 1 .id), (.sl 1 .id), (.sl 1 .id), .id]), .id], cout := [.id], ntmps := 66, keep := false, res := [(4, none)], body :=
  (.seq (.reg [⟨(some 2), .box 28 4 (.t 0), none⟩,
    ⟨(some 4), .mv (.c (.s [])), none⟩])
  (.seq (.blk 0 (.seq (.reg [⟨(some 8), .mv (.t 1), none⟩,
     ⟨(some 9), .bin .eql (.t 8) (.c (.s [35])), none⟩,
     ⟨(some 7), .mv (.t 9), none⟩])
   (.cond (.t 7)
    (.seq (.reg [⟨(some 10), .fa 2 (.t 2), none⟩,
      ⟨(some 11), .ld false 1 (.t 10), none⟩,
      ⟨(some 12), .len 1 (.t 11), none⟩,
      ⟨(some 13), .call f_strconv_Itoa [(.t 12)], none⟩,
      ⟨(some 4), .mv (.t 13), none⟩])
    .ret)
    (.seq (.reg [⟨(some 15), .mv (.t 1), none⟩,
      ⟨(some 16), .bin .eql (.t 15) (.c (.s [63])), none⟩,
      ⟨(some 14), .mv (.t 16), none⟩])
    (.cond (.t 14)
     (.seq (.reg [⟨(some 17), .fa 3 (.t 2), none⟩,
       ⟨(some 18), .ld false 1 (.t 17), none⟩,
       ⟨(some 19), .call f_strconv_Itoa [(.t 18)], none⟩,
       ⟨(some 4), .mv (.t 19), none⟩])
     .ret)
     (.seq (.reg [⟨(some 21), .mv (.t 1), none⟩,
       ⟨(some 22), .len 0 (.t 21), none⟩,
       ⟨(some 23), .bin .eql (.t 22) (.c (.i .i64 1)), none⟩,
       ⟨(some 24), .mv (.t 23), none⟩,
       ⟨(some 25), .mv (.t 1), (some (24, true))⟩,
       ⟨(some 26), .ixS (.t 25) (.c (.i .i64 0)), (some (24, true))⟩,
       ⟨(some 27), .bin .geq (.t 26) (.c (.i .u8 49)), (some (24, true))⟩,
       ⟨(some 28), .pick (.t 24) (.t 27) (.c (.b false)), none⟩,
       ⟨(some 29), .mv (.t 28), none⟩,
       ⟨(some 30), .mv (.t 1), (some (29, true))⟩,
       ⟨(some 31), .ixS (.t 30) (.c (.i .i64 0)), (some (29, true))⟩,
       ⟨(some 32), .bin .leq (.t 31) (.c (.i .u8 57)), (some (29, true))⟩,
       ⟨(some 33), .pick (.t 29) (.t 32) (.c (.b false)), none⟩,
       ⟨(some 20), .mv (.t 33), none⟩])
     (.cond (.t 20)
      (.seq (.seq (.reg [⟨(some 34), .mv (.t 1), none⟩,
        ⟨(some 35), .ixS (.t 34) (.c (.i .i64 0)), none⟩,
        ⟨(some 36), .bin .sub (.t 35) (.c (.i .u8 49)), none⟩,
        ⟨(some 37), .cvI .i64 (.t 36), none⟩,
        ⟨(some 5), .mv (.t 37), none⟩])
      (.seq (.reg [⟨(some 38), .mv (.t 5), none⟩,
        ⟨(some 39), .fa 2 (.t 2), none⟩,
        ⟨(some 40), .ld false 1 (.t 39), none⟩,
        ⟨(some 41), .len 1 (.t 40), none⟩,
        ⟨(some 42), .bin .lss (.t 38) (.t 41), none⟩])
      (.cond (.t 42)
       (.seq (.reg [⟨(some 43), .fa 2 (.t 2), none⟩,
         ⟨(some 44), .ld false 1 (.t 43), none⟩,
         ⟨(some 45), .mv (.t 5), none⟩,
         ⟨(some 46), .ia 1 (.t 44) (.t 45), none⟩,
         ⟨(some 47), .ld false 1 (.t 46), none⟩,
         ⟨(some 4), .mv (.t 47), none⟩])
       .ret)
       .skip)))
      (.seq (.reg [⟨(some 4), .mv (.c (.s [])), none⟩])
      .ret))
      .skip)))))))
  (.seq (.seq (.reg [⟨(some 48), .fa 0 (.t 2), none⟩,
    ⟨(some 49), .ld false 1 (.t 48), none⟩,
    ⟨(some 50), .mv (.t 1), none⟩,
    ⟨(some 51), .call f_slices_Index_string_string [(.t 49), (.t 50)], none⟩,
    ⟨(some 6), .mv (.t 51), none⟩])
  (.seq (.reg [⟨(some 52), .mv (.t 6), none⟩,
    ⟨(some 53), .bin .geq (.t 52) (.c (.i .i64 0)), none⟩,
    ⟨(some 54), .mv (.t 53), none⟩,
    ⟨(some 55), .mv (.t 6), (some (54, true))⟩,
    ⟨(some 56), .fa 1 (.t 2), (some (54, true))⟩,
    ⟨(some 57), .ld false 1 (.t 56), (some (54, true))⟩,
    ⟨(some 58), .len 1 (.t 57), (some (54, true))⟩,
    ⟨(some 59), .bin .lss (.t 55) (.t 58), (some (54, true))⟩,
    ⟨(some 60), .pick (.t 54) (.t 59) (.c (.b false)), none⟩])
  (.cond (.t 60)
   (.seq (.reg [⟨(some 61), .fa 1 (.t 2), none⟩,
     ⟨(some 62), .ld false 1 (.t 61), none⟩,
     ⟨(some 63), .mv (.t 6), none⟩,
     ⟨(some 64), .ia 1 (.t 62) (.t 63), none⟩,
     ⟨(some 65), .ld false 1 (.t 64), none⟩,
     ⟨(some 4), .mv (.t 65), none⟩])
   .ret)
   .skip)))
  (.seq (.reg [⟨(some 4), .mv (.c (.s [])), none⟩])
  .ret)))) }
def c_expand_Set : Fun := { cin := [(.agg [(.sl 1 .id), (.sl 1 .id), (.sl 1 .id), .id]), .id, .id], cout := [(.agg [(.sl 1 .id), (.sl 1 .id), (.sl 1 .id), .id]), .id], ntmps := 77, keep := false, res := [(6, some (true, 4)), (7, none)], body :=
  (.seq (.reg [⟨(some 3), .box 28 4 (.t 0), none⟩,
    ⟨(some 6), .alloc 28 [.nsl, .nsl, .nsl, (.i .i64 0)], none⟩,
    ⟨(some 7), .mv (.c (.i .i64 0)), none⟩])
  (.seq (.blk 0 (.seq (.reg [⟨(some 15), .mv (.t 1), none⟩,
     ⟨(some 16), .call f_expand_isName [(.t 15)], none⟩,
     ⟨(some 17), .un .not (.t 16), none⟩,
     ⟨(some 14), .mv (.t 17), none⟩])
   (.cond (.t 14)
    (.seq (.reg [⟨(some 18), .build [.nsl, .nsl, .nsl, (.i .i64 0)] [], none⟩,
      ⟨none, .st 4 (.t 6) (.t 18), none⟩,
      ⟨(some 7), .mv (.c (.i .i64 1)), none⟩])
    .ret)
    (.seq (.reg [⟨(some 20), .mv (.t 2), none⟩,
      ⟨(some 21), .len 0 (.t 20), none⟩,
      ⟨(some 22), .bin .gtr (.t 21) (.c (.i .i64 1024)), none⟩,
      ⟨(some 19), .mv (.t 22), none⟩])
    (.cond (.t 19)
     (.seq (.reg [⟨(some 23), .build [.nsl, .nsl, .nsl, (.i .i64 0)] [], none⟩,
       ⟨none, .st 4 (.t 6) (.t 23), none⟩,
       ⟨(some 7), .mv (.c (.i .i64 40)), none⟩])
     .ret)
     .skip)))))
  (.seq (.regD [⟨(some 24), .fa 2 (.t 3), none⟩,
    ⟨(some 25), .ld false 1 (.t 24), none⟩,
    ⟨(some 26), .callQ false f_slices_Clone_string_string [(.t 25)], none⟩,
    ⟨(some 27), .fa 3 (.t 3), none⟩,
    ⟨(some 28), .ld false 1 (.t 27), none⟩,
    ⟨(some 29), .build [.nsl, .nsl, .nsl, (.i .i64 0)] [(2, 1, (.t 26)), (3, 1, (.t 28))], none⟩,
    ⟨none, .mv (.c (.tup [])), none⟩,
    ⟨(some 8), .adp 28 [.nsl, .nsl, .nsl, (.i .i64 0)] 4 (.t 29), none⟩] [(4, (2, 4))])
  (.seq (.reg [⟨(some 30), .fa 0 (.t 3), none⟩,
    ⟨(some 31), .ld false 1 (.t 30), none⟩,
    ⟨(some 32), .call f_slices_Clone_string_string [(.t 31)], none⟩,
    ⟨(some 33), .mv (.t 1), none⟩,
    ⟨(some 34), .bsl 1 [(.t 33)], none⟩,
    ⟨(some 35), .app 1 9 (.t 32) (.t 34), none⟩,
    ⟨(some 9), .mv (.t 35), none⟩])
  (.seq (.seq (.thw 9)
  (.reg [⟨(some 36), .mv (.t 9), none⟩,
    ⟨(some 37), .call f_slices_Sort_string_string [(.t 36)], none⟩]))
  (.seq (.seq (.seq (.thw 9)
  (.reg [⟨(some 38), .mv (.t 9), none⟩,
    ⟨(some 39), .call f_slices_Compact_string_string [(.t 38)], none⟩,
    ⟨(some 40), .len 1 (.t 39), none⟩,
    ⟨(some 41), .mv (.c (.i .i64 0)), none⟩]))
  (.blk 1 (.loop (.seq (.reg [⟨(some 42), .bin .lss (.t 41) (.t 40), none⟩])
    (.seq (.cond (.t 42)
     .skip
     (.exit 1))
    (.seq (.blk 2 (.seq (.reg [⟨(some 43), .ia 1 (.t 39) (.t 41), none⟩,
       ⟨(some 44), .ld false 1 (.t 43), none⟩,
       ⟨(some 11), .mv (.t 44), none⟩])
     (.seq (.reg [⟨(some 45), .mv (.t 2), none⟩,
       ⟨(some 12), .mv (.t 45), none⟩])
     (.seq (.seq (.reg [⟨(some 46), .mv (.t 11), none⟩,
       ⟨(some 47), .mv (.t 1), none⟩,
       ⟨(some 48), .bin .neq (.t 46) (.t 47), none⟩])
     (.cond (.t 48)
      (.seq (.reg [⟨(some 12), .mv (.c (.s [])), none⟩])
      (.seq (.reg [⟨(some 49), .fa 0 (.t 3), none⟩,
        ⟨(some 50), .ld false 1 (.t 49), none⟩,
        ⟨(some 51), .mv (.t 11), none⟩,
        ⟨(some 52), .call f_slices_Index_string_string [(.t 50), (.t 51)], none⟩,
        ⟨(some 13), .mv (.t 52), none⟩])
      (.seq (.reg [⟨(some 53), .mv (.t 13), none⟩,
        ⟨(some 54), .fa 1 (.t 3), none⟩,
        ⟨(some 55), .ld false 1 (.t 54), none⟩,
        ⟨(some 56), .len 1 (.t 55), none⟩,
        ⟨(some 57), .bin .lss (.t 53) (.t 56), none⟩])
      (.cond (.t 57)
       (.reg [⟨(some 58), .fa 1 (.t 3), none⟩,
         ⟨(some 59), .ld false 1 (.t 58), none⟩,
         ⟨(some 60), .mv (.t 13), none⟩,
         ⟨(some 61), .ia 1 (.t 59) (.t 60), none⟩,
         ⟨(some 62), .ld false 1 (.t 61), none⟩,
         ⟨(some 12), .mv (.t 62), none⟩])
       .skip))))
      .skip))
     (.regD [⟨(some 63), .fa 0 (.t 8), none⟩,
       ⟨(some 64), .ld false 1 (.t 63), none⟩,
       ⟨(some 65), .mv (.t 11), none⟩,
       ⟨(some 66), .bsl 1 [(.t 65)], none⟩,
       ⟨(some 67), .app 1 9 (.t 64) (.t 66), none⟩,
       ⟨(some 68), .fa 1 (.t 8), none⟩,
       ⟨(some 69), .ld false 1 (.t 68), none⟩,
       ⟨(some 70), .mv (.t 12), none⟩,
       ⟨(some 71), .bsl 1 [(.t 70)], none⟩,
       ⟨(some 72), .app 1 9 (.t 69) (.t 71), none⟩,
       ⟨(some 73), .fa 0 (.t 8), none⟩,
       ⟨none, .st 1 (.t 73) (.t 67), none⟩,
       ⟨(some 74), .fa 1 (.t 8), none⟩,
       ⟨none, .st 1 (.t 74) (.t 72), none⟩] [(6, (4, 6))])))))
    (.reg [⟨(some 75), .bin .add (.t 41) (.c (.i .i64 1)), none⟩,
      ⟨(some 41), .mv (.t 75), none⟩])))))))
  (.seq (.reg [⟨(some 76), .ld true 4 (.t 8), none⟩,
    ⟨none, .st 4 (.t 6) (.t 76), none⟩,
    ⟨(some 7), .mv (.c (.i .i64 0)), none⟩])
  .ret))))))) }
def c_touchstonelaw05_vars : Fun := { cin := [.id], cout := [(.agg [(.sl 1 .id), (.sl 1 .id), (.sl 1 .id), .id])], ntmps := 8, keep := false, res := [(2, some (true, 4))], body :=
  (.seq (.reg [⟨(some 2), .alloc 28 [.nsl, .nsl, .nsl, (.i .i64 0)], none⟩])
  (.seq (.reg [⟨(some 3), .bsl 1 [(.c (.s [120]))], none⟩,
    ⟨(some 4), .mv (.t 0), none⟩,
    ⟨(some 5), .bsl 1 [(.t 4)], none⟩,
    ⟨(some 6), .bsl 1 [(.c (.s [111, 110, 101])), (.c (.s [116, 119, 111]))], none⟩,
    ⟨(some 7), .build [.nsl, .nsl, .nsl, (.i .i64 0)] [(0, 1, (.t 3)), (1, 1, (.t 5)), (2, 1, (.t 6))], none⟩,
    ⟨none, .st 4 (.t 2) (.t 7), none⟩])
  .ret)) }
def c_touchstonelaw05_fields : Fun := { cin := [(.agg [(.sl 1 .id), (.sl 1 .id), (.sl 1 .id), .id]), (.sl 3 (.agg [.id, .id, .id])), (.sl 1 .id)], cout := [.id], ntmps := 12, keep := false, res := [(6, none)], body :=
  (.seq (.reg [⟨(some 3), .box 28 4 (.t 0), none⟩,
    ⟨(some 6), .mv (.c (.b false)), none⟩])
  (.seq (.reg [⟨(some 7), .ld true 4 (.t 3), none⟩,
    ⟨(some 8), .mv (.t 1), none⟩,
    ⟨(some 9), .call f_expand_Fields [(.t 7), (.t 8)], none⟩,
    ⟨(some 10), .mv (.t 2), none⟩,
    ⟨(some 11), .call f_touchstonelaw05_same [(.t 9), (.t 10)], none⟩,
    ⟨(some 6), .mv (.t 11), none⟩])
  .ret)) }
def c_touchstonelaw05_qpar : Fun := { cin := [.id], cout := [(.agg [.id, .id, .id])], ntmps := 5, keep := false, res := [(2, some (true, 3))], body :=
  (.seq (.reg [⟨(some 2), .alloc 31 [(.b false), (.s []), (.b false)], none⟩])
  (.seq (.reg [⟨(some 3), .mv (.t 0), none⟩,
    ⟨(some 4), .build [(.b false), (.s []), (.b false)] [(0, 1, (.c (.b true))), (1, 1, (.t 3)), (2, 1, (.c (.b true)))], none⟩,
    ⟨none, .st 3 (.t 2) (.t 4), none⟩])
  .ret)) }
def c_touchstonelaw05_lit : Fun := { cin := [.id], cout := [(.agg [.id, .id, .id])], ntmps := 5, keep := false, res := [(2, some (true, 3))], body :=
  (.seq (.reg [⟨(some 2), .alloc 31 [(.b false), (.s []), (.b false)], none⟩])
  (.seq (.reg [⟨(some 3), .mv (.t 0), none⟩,
    ⟨(some 4), .build [(.b false), (.s []), (.b false)] [(1, 1, (.t 3))], none⟩,
    ⟨none, .st 3 (.t 2) (.t 4), none⟩])
  .ret)) }
def c_touchstonelaw05_quo : Fun := { cin := [.id], cout := [(.agg [.id, .id, .id])], ntmps := 5, keep := false, res := [(2, some (true, 3))], body :=
  (.seq (.reg [⟨(some 2), .alloc 31 [(.b false), (.s []), (.b false)], none⟩])
  (.seq (.reg [⟨(some 3), .mv (.t 0), none⟩,
    ⟨(some 4), .build [(.b false), (.s []), (.b false)] [(1, 1, (.t 3)), (2, 1, (.c (.b true)))], none⟩,
    ⟨none, .st 3 (.t 2) (.t 4), none⟩])
  .ret)) }
def c_touchstonelaw05_texts : Fun := { cin := [(.sl 1 .id)], cout := [.id], ntmps := 25, keep := false, res := [(2, none)], body :=
  (.seq (.reg [⟨(some 2), .mv (.c (.i .i64 0)), none⟩])
  (.seq (.reg [⟨(some 3), .mv (.c (.i .i64 0)), none⟩])
  (.seq (.seq (.reg [⟨(some 4), .mv (.c (.i .i64 0)), none⟩])
  (.blk 0 (.loop (.seq (.seq (.reg [⟨(some 5), .mv (.t 4), none⟩,
      ⟨(some 6), .mv (.t 0), none⟩,
      ⟨(some 7), .len 1 (.t 6), none⟩,
      ⟨(some 8), .bin .lss (.t 5) (.t 7), none⟩,
      ⟨(some 9), .mv (.t 8), none⟩,
      ⟨(some 10), .mv (.t 3), (some (9, true))⟩,
      ⟨(some 11), .bin .lss (.t 10) (.c (.i .i64 20000)), (some (9, true))⟩,
      ⟨(some 12), .pick (.t 9) (.t 11) (.c (.b false)), none⟩])
    (.cond (.t 12)
     .skip
     (.exit 0)))
    (.seq (.blk 1 (.reg [⟨(some 15), .mv (.t 3), none⟩,
       ⟨(some 16), .bin .add (.t 15) (.c (.i .i64 1)), none⟩,
       ⟨(some 17), .mv (.t 0), none⟩,
       ⟨(some 18), .mv (.t 4), none⟩,
       ⟨(some 19), .ia 1 (.t 17) (.t 18), none⟩,
       ⟨(some 20), .ld false 1 (.t 19), none⟩,
       ⟨(some 21), .len 0 (.t 20), none⟩,
       ⟨(some 22), .mm false (.t 21) (.c (.i .i64 20000)), none⟩,
       ⟨(some 23), .bin .add (.t 16) (.t 22), none⟩,
       ⟨(some 3), .mv (.t 23), none⟩]))
    (.reg [⟨(some 13), .mv (.t 4), none⟩,
      ⟨(some 14), .bin .add (.t 13) (.c (.i .i64 1)), none⟩,
      ⟨(some 4), .mv (.t 14), none⟩]))))))
  (.seq (.reg [⟨(some 24), .mv (.t 3), none⟩,
    ⟨(some 2), .mv (.t 24), none⟩])
  .ret)))) }
def c_expand_values : Fun := { cin := [(.agg [(.sl 1 .id), (.sl 1 .id), (.sl 1 .id), .id])], cout := [.id], ntmps := 4, keep := false, res := [(2, none)], body :=
  (.seq (.reg [⟨(some 1), .box 28 4 (.t 0), none⟩,
    ⟨(some 2), .mv (.c .nf), none⟩])
  (.seq (.reg [⟨(some 3), .mkf f_expand_values_1 [(.t 1)], none⟩,
    ⟨(some 2), .mv (.t 3), none⟩])
  .ret)) }
def c_expand_builder_split : Fun := { cin := [.id, .id], cout := [], ntmps := 34, keep := false, res := [], body :=
  (.seq (.reg [⟨(some 6), .mv (.t 1), none⟩,
    ⟨(some 7), .len 0 (.t 6), none⟩,
    ⟨(some 8), .mv (.c (.i .i64 0)), none⟩])
  (.blk 0 (.loop (.seq (.reg [⟨(some 9), .bin .lss (.t 8) (.t 7), none⟩])
    (.seq (.cond (.t 9)
     .skip
     (.exit 0))
    (.seq (.blk 1 (.seq (.reg [⟨(some 10), .mv (.t 8), none⟩,
       ⟨(some 4), .mv (.t 10), none⟩])
     (.seq (.reg [⟨(some 11), .mv (.t 1), none⟩,
       ⟨(some 12), .mv (.t 4), none⟩,
       ⟨(some 13), .ixS (.t 11) (.t 12), none⟩,
       ⟨(some 5), .mv (.t 13), none⟩])
     (.seq (.reg [⟨(some 14), .mv (.t 5), none⟩,
       ⟨(some 15), .bin .eql (.t 14) (.c (.i .u8 32)), none⟩,
       ⟨(some 16), .mv (.t 15), none⟩,
       ⟨(some 17), .mv (.t 5), (some (16, false))⟩,
       ⟨(some 18), .bin .eql (.t 17) (.c (.i .u8 9)), (some (16, false))⟩,
       ⟨(some 19), .pick (.t 16) (.c (.b true)) (.t 18), none⟩,
       ⟨(some 20), .mv (.t 19), none⟩,
       ⟨(some 21), .mv (.t 5), (some (20, false))⟩,
       ⟨(some 22), .bin .eql (.t 21) (.c (.i .u8 10)), (some (20, false))⟩,
       ⟨(some 23), .pick (.t 20) (.c (.b true)) (.t 22), none⟩])
     (.cond (.t 23)
      (.reg [⟨(some 24), .mv (.t 0), none⟩,
        ⟨(some 25), .call f_expand_builder_end [(.t 24)], none⟩])
      (.reg [⟨(some 26), .mv (.t 0), none⟩,
        ⟨(some 27), .mv (.t 1), none⟩,
        ⟨(some 28), .mv (.t 4), none⟩,
        ⟨(some 29), .mv (.t 4), none⟩,
        ⟨(some 30), .bin .add (.t 29) (.c (.i .i64 1)), none⟩,
        ⟨(some 31), .slS (.t 27) (some (.t 28)) (some (.t 30)), none⟩,
        ⟨(some 32), .call f_expand_builder_add [(.t 26), (.t 31)], none⟩]))))))
    (.reg [⟨(some 33), .bin .add (.t 8) (.c (.i .i64 1)), none⟩,
      ⟨(some 8), .mv (.t 33), none⟩]))))))) }
def c_expand_builder_add : Fun := { cin := [.id, .id], cout := [], ntmps := 16, keep := false, res := [], body :=
  (.seq (.reg [⟨(some 4), .mv (.t 0), none⟩,
    ⟨(some 5), .nck (.t 4), none⟩,
    ⟨(some 6), .fa 2 (.t 5), none⟩,
    ⟨none, .st 1 (.t 6) (.c (.b true)), none⟩])
  (.reg [⟨(some 7), .mv (.t 0), none⟩,
    ⟨(some 8), .mv (.t 0), none⟩,
    ⟨(some 9), .nck (.t 8), none⟩,
    ⟨(some 10), .fa 1 (.t 9), none⟩,
    ⟨(some 11), .ld false 1 (.t 10), none⟩,
    ⟨(some 12), .mv (.t 1), none⟩,
    ⟨(some 13), .app 1 5 (.t 11) (.t 12), none⟩,
    ⟨(some 14), .nck (.t 7), none⟩,
    ⟨(some 15), .fa 1 (.t 14), none⟩,
    ⟨none, .st 1 (.t 15) (.t 13), none⟩])) }
def c_expand_builder_end : Fun := { cin := [.id], cout := [], ntmps := 26, keep := false, res := [], body :=
  (.seq (.seq (.reg [⟨(some 2), .mv (.t 0), none⟩,
    ⟨(some 3), .nck (.t 2), none⟩,
    ⟨(some 4), .fa 2 (.t 3), none⟩,
    ⟨(some 5), .ld false 1 (.t 4), none⟩])
  (.cond (.t 5)
   (.regD [⟨(some 6), .mv (.t 0), none⟩,
     ⟨(some 7), .mv (.t 0), none⟩,
     ⟨(some 8), .nck (.t 7), none⟩,
     ⟨(some 9), .fa 0 (.t 8), none⟩,
     ⟨(some 10), .ld false 1 (.t 9), none⟩,
     ⟨(some 11), .mv (.t 0), none⟩,
     ⟨(some 12), .nck (.t 11), none⟩,
     ⟨(some 13), .fa 1 (.t 12), none⟩,
     ⟨(some 14), .ld false 1 (.t 13), none⟩,
     ⟨(some 15), .cvBS (.t 14), none⟩,
     ⟨(some 16), .bsl 1 [(.t 15)], none⟩,
     ⟨(some 17), .app 1 9 (.t 10) (.t 16), none⟩,
     ⟨(some 18), .nck (.t 6), none⟩,
     ⟨(some 19), .fa 0 (.t 18), none⟩,
     ⟨none, .st 1 (.t 19) (.t 17), none⟩] [])
   .skip))
  (.reg [⟨(some 20), .mv (.t 0), none⟩,
    ⟨(some 21), .mv (.t 0), none⟩,
    ⟨(some 22), .nck (.t 20), none⟩,
    ⟨(some 23), .fa 1 (.t 22), none⟩,
    ⟨none, .st 1 (.t 23) (.c .nsl), none⟩,
    ⟨(some 24), .nck (.t 21), none⟩,
    ⟨(some 25), .fa 2 (.t 24), none⟩,
    ⟨none, .st 1 (.t 25) (.c (.b false)), none⟩])) }
def c_strings_Builder_WriteString : Fun := { cin := [.id, .id], cout := [.id, .id], ntmps := 19, keep := false, res := [(4, none), (5, none)], body :=
  (.seq (.reg [⟨(some 4), .mv (.c (.i .i64 0)), none⟩,
    ⟨(some 5), .mv (.c .ni), none⟩])
  (.seq (.reg [⟨(some 6), .mv (.t 0), none⟩,
    ⟨(some 7), .call f_strings_Builder_copyCheck [(.t 6)], none⟩])
  (.seq (.reg [⟨(some 8), .mv (.t 0), none⟩,
    ⟨(some 9), .mv (.t 0), none⟩,
    ⟨(some 10), .nck (.t 9), none⟩,
    ⟨(some 11), .fa 1 (.t 10), none⟩,
    ⟨(some 12), .ld false 1 (.t 11), none⟩,
    ⟨(some 13), .mv (.t 1), none⟩,
    ⟨(some 14), .app 1 5 (.t 12) (.t 13), none⟩,
    ⟨(some 15), .nck (.t 8), none⟩,
    ⟨(some 16), .fa 1 (.t 15), none⟩,
    ⟨none, .st 1 (.t 16) (.t 14), none⟩])
  (.seq (.reg [⟨(some 17), .mv (.t 1), none⟩,
    ⟨(some 18), .len 0 (.t 17), none⟩,
    ⟨(some 4), .mv (.t 18), none⟩,
    ⟨(some 5), .mv (.c .ni), none⟩])
  .ret)))) }
def c_strings_Builder_String : Fun := { cin := [.id], cout := [.id], ntmps := 14, keep := false, res := [(2, none)], body :=
  (.seq (.reg [⟨(some 2), .mv (.c (.s [])), none⟩])
  (.seq (.regD [⟨(some 3), .mv (.t 0), none⟩,
    ⟨(some 4), .nck (.t 3), none⟩,
    ⟨(some 5), .fa 1 (.t 4), none⟩,
    ⟨(some 6), .ld false 1 (.t 5), none⟩,
    ⟨(some 7), .ud (.t 6), none⟩,
    ⟨(some 8), .mv (.t 0), none⟩,
    ⟨(some 9), .nck (.t 8), none⟩,
    ⟨(some 10), .fa 1 (.t 9), none⟩,
    ⟨(some 11), .ld false 1 (.t 10), none⟩,
    ⟨(some 12), .len 1 (.t 11), none⟩,
    ⟨(some 13), .us 5 (.t 7) (.t 12), none⟩,
    ⟨(some 2), .mv (.t 13), none⟩] [])
  .ret)) }
def c_strconv_Itoa : Fun := { cin := [], cout := [], ntmps := 0, keep := false, res := [], body := .bad, prim := some (pureP primItoa) }
def c_slices_Index_string_string : Fun := { cin := [(.sl 1 .id), .id], cout := [.id], ntmps := 19, keep := false, res := [(4, none)], body :=
  (.seq (.reg [⟨(some 4), .mv (.c (.i .i64 0)), none⟩])
  (.seq (.seq (.reg [⟨(some 6), .mv (.t 0), none⟩,
    ⟨(some 7), .len 1 (.t 6), none⟩,
    ⟨(some 8), .mv (.c (.i .i64 0)), none⟩])
  (.blk 0 (.loop (.seq (.reg [⟨(some 9), .bin .lss (.t 8) (.t 7), none⟩])
    (.seq (.cond (.t 9)
     .skip
     (.exit 0))
    (.seq (.blk 1 (.seq (.reg [⟨(some 10), .mv (.t 8), none⟩,
       ⟨(some 5), .mv (.t 10), none⟩])
     (.seq (.reg [⟨(some 11), .mv (.t 1), none⟩,
       ⟨(some 12), .mv (.t 0), none⟩,
       ⟨(some 13), .mv (.t 5), none⟩,
       ⟨(some 14), .ia 1 (.t 12) (.t 13), none⟩,
       ⟨(some 15), .ld false 1 (.t 14), none⟩,
       ⟨(some 16), .bin .eql (.t 11) (.t 15), none⟩])
     (.cond (.t 16)
      (.seq (.reg [⟨(some 17), .mv (.t 5), none⟩,
        ⟨(some 4), .mv (.t 17), none⟩])
      .ret)
      .skip))))
    (.reg [⟨(some 18), .bin .add (.t 8) (.c (.i .i64 1)), none⟩,
      ⟨(some 8), .mv (.t 18), none⟩])))))))
  (.seq (.reg [⟨(some 4), .mv (.c (.i .i64 (-1))), none⟩])
  .ret))) }
def c_expand_isName : Fun := { cin := [.id], cout := [.id], ntmps := 23, keep := false, res := [(2, none)], body :=
  (.seq (.reg [⟨(some 2), .mv (.c (.b false)), none⟩])
  (.seq (.reg [⟨(some 3), .mv (.t 0), none⟩,
    ⟨(some 4), .call f_word_Param [(.t 3)], none⟩,
    ⟨(some 5), .mv (.t 4), none⟩,
    ⟨(some 6), .mv (.t 0), (some (5, true))⟩,
    ⟨(some 7), .bin .neq (.t 6) (.c (.s [35])), (some (5, true))⟩,
    ⟨(some 8), .pick (.t 5) (.t 7) (.c (.b false)), none⟩,
    ⟨(some 9), .mv (.t 8), none⟩,
    ⟨(some 10), .mv (.t 0), (some (9, true))⟩,
    ⟨(some 11), .bin .neq (.t 10) (.c (.s [63])), (some (9, true))⟩,
    ⟨(some 12), .pick (.t 9) (.t 11) (.c (.b false)), none⟩,
    ⟨(some 13), .mv (.t 12), none⟩,
    ⟨(some 14), .mv (.t 0), (some (13, true))⟩,
    ⟨(some 15), .ixS (.t 14) (.c (.i .i64 0)), (some (13, true))⟩,
    ⟨(some 16), .bin .lss (.t 15) (.c (.i .u8 48)), (some (13, true))⟩,
    ⟨(some 17), .mv (.t 16), (some (13, true))⟩,
    ⟨(some 18), .mv (.t 0), (some (17, false))⟩,
    ⟨(some 19), .ixS (.t 18) (.c (.i .i64 0)), (some (17, false))⟩,
    ⟨(some 20), .bin .gtr (.t 19) (.c (.i .u8 57)), (some (17, false))⟩,
    ⟨(some 21), .pick (.t 17) (.c (.b true)) (.t 20), (some (13, true))⟩,
    ⟨(some 22), .pick (.t 13) (.t 21) (.c (.b false)), none⟩,
    ⟨(some 2), .mv (.t 22), none⟩])
  .ret)) }
def c_slices_Clone_string_string : Fun := { cin := [(.sl 1 .id)], cout := [], ntmps := 8, keep := true, res := [(2, none)], body :=
  (.seq (.reg [⟨(some 2), .mv (.c .nsl), none⟩])
  (.seq (.seq (.reg [⟨(some 3), .mv (.t 0), none⟩,
    ⟨(some 4), .eq .sl false (.t 3) (.c .nsl), none⟩])
  (.cond (.t 4)
   (.seq (.reg [⟨(some 2), .mv (.c .nsl), none⟩])
   .ret)
   .skip))
  (.seq (.reg [⟨(some 5), .bsl 1 [], none⟩,
    ⟨(some 6), .mv (.t 0), none⟩,
    ⟨(some 7), .app 1 9 (.t 5) (.t 6), none⟩,
    ⟨(some 2), .mv (.t 7), none⟩])
  .ret))) }
def c_slices_Sort_string_string : Fun := { cin := [], cout := [], ntmps := 0, keep := false, res := [], body := .bad, prim := some primSort }
def c_slices_Compact_string_string : Fun := { cin := [], cout := [], ntmps := 0, keep := false, res := [], body := .bad, prim := some primCompact }
def c_expand_values_1 : Fun := { cin := [(.agg [.id, .id, .id])], cout := [.id], ntmps := 12, keep := false, res := [(3, none)], body :=
  (.seq (.reg [⟨(some 2), .box 31 3 (.t 0), none⟩,
    ⟨(some 3), .mv (.c (.s [])), none⟩])
  (.seq (.seq (.reg [⟨(some 4), .fa 0 (.t 2), none⟩,
    ⟨(some 5), .ld false 1 (.t 4), none⟩])
  (.cond (.t 5)
   (.seq (.reg [⟨(some 6), .ld true 4 (.t 1), none⟩,
     ⟨(some 7), .fa 1 (.t 2), none⟩,
     ⟨(some 8), .ld false 1 (.t 7), none⟩,
     ⟨(some 9), .call f_expand_Value [(.t 6), (.t 8)], none⟩,
     ⟨(some 3), .mv (.t 9), none⟩])
   .ret)
   .skip))
  (.seq (.reg [⟨(some 10), .fa 1 (.t 2), none⟩,
    ⟨(some 11), .ld false 1 (.t 10), none⟩,
    ⟨(some 3), .mv (.t 11), none⟩])
  .ret))) }
def c_strings_Builder_copyCheck : Fun := { cin := [.id], cout := [], ntmps := 20, keep := false, res := [], body :=
  (.seq (.reg [⟨(some 2), .mv (.t 0), none⟩,
    ⟨(some 3), .nck (.t 2), none⟩,
    ⟨(some 4), .fa 0 (.t 3), none⟩,
    ⟨(some 5), .ld false 1 (.t 4), none⟩,
    ⟨(some 6), .eq .ptr false (.t 5) (.c .np), none⟩])
  (.cond (.t 6)
   (.reg [⟨(some 7), .mv (.t 0), none⟩,
     ⟨(some 8), .mv (.t 0), none⟩,
     ⟨(some 9), .cvU 65 2 (.t 8), none⟩,
     ⟨(some 10), .xtn 1 [(.t 9)], none⟩,
     ⟨(some 11), .cvU 65 2 (.t 10), none⟩,
     ⟨(some 12), .nck (.t 7), none⟩,
     ⟨(some 13), .fa 0 (.t 12), none⟩,
     ⟨none, .st 1 (.t 13) (.t 11), none⟩])
   (.seq (.reg [⟨(some 14), .mv (.t 0), none⟩,
     ⟨(some 15), .nck (.t 14), none⟩,
     ⟨(some 16), .fa 0 (.t 15), none⟩,
     ⟨(some 17), .ld false 1 (.t 16), none⟩,
     ⟨(some 18), .mv (.t 0), none⟩,
     ⟨(some 19), .eq .ptr true (.t 17) (.t 18), none⟩])
   (.cond (.t 19)
    .bad
    .skip)))) }
def c_word_Param : Fun := { cin := [.id], cout := [.id], ntmps := 19, keep := false, res := [(2, none)], body :=
  (.seq (.reg [⟨(some 2), .mv (.c (.b false)), none⟩])
  (.seq (.seq (.reg [⟨(some 3), .mv (.t 0), none⟩,
    ⟨(some 4), .len 0 (.t 3), none⟩,
    ⟨(some 5), .bin .eql (.t 4) (.c (.i .i64 1)), none⟩,
    ⟨(some 6), .mv (.t 5), none⟩,
    ⟨(some 7), .mv (.t 0), (some (6, true))⟩,
    ⟨(some 8), .call f_strings_Contains [(.c (.s [49, 50, 51, 52, 53, 54, 55, 56, 57, 35, 63])), (.t 7)], (some (6, true))⟩,
    ⟨(some 9), .pick (.t 6) (.t 8) (.c (.b false)), none⟩])
  (.cond (.t 9)
   (.seq (.reg [⟨(some 2), .mv (.c (.b true)), none⟩])
   .ret)
   .skip))
  (.seq (.reg [⟨(some 10), .mv (.t 0), none⟩,
    ⟨(some 11), .bin .neq (.t 10) (.c (.s [])), none⟩,
    ⟨(some 12), .mv (.t 11), none⟩,
    ⟨(some 13), .mv (.t 0), (some (12, true))⟩,
    ⟨(some 14), .call f_word_lead [(.t 13)], (some (12, true))⟩,
    ⟨(some 15), .mv (.t 0), (some (12, true))⟩,
    ⟨(some 16), .len 0 (.t 15), (some (12, true))⟩,
    ⟨(some 17), .bin .eql (.t 14) (.t 16), (some (12, true))⟩,
    ⟨(some 18), .pick (.t 12) (.t 17) (.c (.b false)), none⟩,
    ⟨(some 2), .mv (.t 18), none⟩])
  .ret))) }
def c_strings_Contains : Fun := { cin := [.id, .id], cout := [.id], ntmps := 9, keep := false, res := [(4, none)], body :=
  (.seq (.reg [⟨(some 4), .mv (.c (.b false)), none⟩])
  (.seq (.reg [⟨(some 5), .mv (.t 0), none⟩,
    ⟨(some 6), .mv (.t 1), none⟩,
    ⟨(some 7), .call f_strings_Index [(.t 5), (.t 6)], none⟩,
    ⟨(some 8), .bin .geq (.t 7) (.c (.i .i64 0)), none⟩,
    ⟨(some 4), .mv (.t 8), none⟩])
  .ret)) }
def c_word_lead : Fun := { cin := [.id], cout := [.id], ntmps := 35, keep := false, res := [(2, none)], body :=
  (.seq (.reg [⟨(some 2), .mv (.c (.i .i64 0)), none⟩])
  (.seq (.seq (.reg [⟨(some 4), .mv (.t 0), none⟩,
    ⟨(some 5), .bin .eql (.t 4) (.c (.s [])), none⟩,
    ⟨(some 6), .mv (.t 5), none⟩,
    ⟨(some 7), .mv (.t 0), (some (6, false))⟩,
    ⟨(some 8), .ixS (.t 7) (.c (.i .i64 0)), (some (6, false))⟩,
    ⟨(some 9), .call f_word_letter [(.t 8)], (some (6, false))⟩,
    ⟨(some 10), .un .not (.t 9), (some (6, false))⟩,
    ⟨(some 11), .pick (.t 6) (.c (.b true)) (.t 10), none⟩])
  (.cond (.t 11)
   (.seq (.reg [⟨(some 2), .mv (.c (.i .i64 0)), none⟩])
   .ret)
   .skip))
  (.seq (.reg [⟨(some 3), .mv (.c (.i .i64 1)), none⟩])
  (.seq (.blk 0 (.loop (.seq (.seq (.reg [⟨(some 12), .mv (.t 3), none⟩,
      ⟨(some 13), .mv (.t 0), none⟩,
      ⟨(some 14), .len 0 (.t 13), none⟩,
      ⟨(some 15), .bin .lss (.t 12) (.t 14), none⟩,
      ⟨(some 16), .mv (.t 15), none⟩,
      ⟨(some 17), .mv (.t 3), (some (16, true))⟩,
      ⟨(some 18), .bin .lss (.t 17) (.c (.i .i64 64)), (some (16, true))⟩,
      ⟨(some 19), .pick (.t 16) (.t 18) (.c (.b false)), none⟩,
      ⟨(some 20), .mv (.t 19), none⟩,
      ⟨(some 21), .mv (.t 0), (some (20, true))⟩,
      ⟨(some 22), .mv (.t 3), (some (20, true))⟩,
      ⟨(some 23), .ixS (.t 21) (.t 22), (some (20, true))⟩,
      ⟨(some 24), .call f_word_letter [(.t 23)], (some (20, true))⟩,
      ⟨(some 25), .mv (.t 24), (some (20, true))⟩,
      ⟨(some 26), .mv (.t 0), (some (25, false))⟩,
      ⟨(some 27), .mv (.t 3), (some (25, false))⟩,
      ⟨(some 28), .ixS (.t 26) (.t 27), (some (25, false))⟩,
      ⟨(some 29), .call f_word_digit [(.t 28)], (some (25, false))⟩,
      ⟨(some 30), .pick (.t 25) (.c (.b true)) (.t 29), (some (20, true))⟩,
      ⟨(some 31), .pick (.t 20) (.t 30) (.c (.b false)), none⟩])
    (.cond (.t 31)
     .skip
     (.exit 0)))
    (.blk 1 (.reg [⟨(some 32), .mv (.t 3), none⟩,
       ⟨(some 33), .bin .add (.t 32) (.c (.i .i64 1)), none⟩,
       ⟨(some 3), .mv (.t 33), none⟩])))))
  (.seq (.reg [⟨(some 34), .mv (.t 3), none⟩,
    ⟨(some 2), .mv (.t 34), none⟩])
  .ret))))) }
def c_strings_Index : Fun := { cin := [.id, .id], cout := [.id], ntmps := 8, keep := false, res := [(4, none)], body :=
  (.seq (.reg [⟨(some 4), .mv (.c (.i .i64 0)), none⟩])
  (.seq (.reg [⟨(some 5), .mv (.t 0), none⟩,
    ⟨(some 6), .mv (.t 1), none⟩,
    ⟨(some 7), .call f_internal_stringslite_Index [(.t 5), (.t 6)], none⟩,
    ⟨(some 4), .mv (.t 7), none⟩])
  .ret)) }
def c_word_letter : Fun := { cin := [.id], cout := [.id], ntmps := 15, keep := false, res := [(2, none)], body :=
  (.seq (.reg [⟨(some 2), .mv (.c (.b false)), none⟩])
  (.seq (.reg [⟨(some 3), .mv (.t 0), none⟩,
    ⟨(some 4), .bin .eql (.t 3) (.c (.i .u8 95)), none⟩,
    ⟨(some 5), .mv (.t 4), none⟩,
    ⟨(some 6), .mv (.t 0), (some (5, false))⟩,
    ⟨(some 7), .bin .or (.t 6) (.c (.i .u8 32)), (some (5, false))⟩,
    ⟨(some 8), .bin .geq (.t 7) (.c (.i .u8 97)), (some (5, false))⟩,
    ⟨(some 9), .mv (.t 8), (some (5, false))⟩,
    ⟨(some 10), .mv (.t 0), (some (9, true))⟩,
    ⟨(some 11), .bin .or (.t 10) (.c (.i .u8 32)), (some (9, true))⟩,
    ⟨(some 12), .bin .leq (.t 11) (.c (.i .u8 122)), (some (9, true))⟩,
    ⟨(some 13), .pick (.t 9) (.t 12) (.c (.b false)), (some (5, false))⟩,
    ⟨(some 14), .pick (.t 5) (.c (.b true)) (.t 13), none⟩,
    ⟨(some 2), .mv (.t 14), none⟩])
  .ret)) }
def c_word_digit : Fun := { cin := [.id], cout := [.id], ntmps := 9, keep := false, res := [(2, none)], body :=
  (.seq (.reg [⟨(some 2), .mv (.c (.b false)), none⟩])
  (.seq (.reg [⟨(some 3), .mv (.t 0), none⟩,
    ⟨(some 4), .bin .geq (.t 3) (.c (.i .u8 48)), none⟩,
    ⟨(some 5), .mv (.t 4), none⟩,
    ⟨(some 6), .mv (.t 0), (some (5, true))⟩,
    ⟨(some 7), .bin .leq (.t 6) (.c (.i .u8 57)), (some (5, true))⟩,
    ⟨(some 8), .pick (.t 5) (.t 7) (.c (.b false)), none⟩,
    ⟨(some 2), .mv (.t 8), none⟩])
  .ret)) }
def c_internal_stringslite_Index : Fun := { cin := [.id, .id], cout := [.id], ntmps := 143, keep := false, res := [(4, none)], body :=
  (.seq (.reg [⟨(some 4), .mv (.c (.i .i64 0)), none⟩])
  (.seq (.reg [⟨(some 14), .mv (.t 1), none⟩,
    ⟨(some 15), .len 0 (.t 14), none⟩,
    ⟨(some 5), .mv (.t 15), none⟩])
  (.seq (.blk 0 (.seq (.reg [⟨(some 17), .mv (.t 5), none⟩,
     ⟨(some 18), .bin .eql (.t 17) (.c (.i .i64 0)), none⟩,
     ⟨(some 19), .mv (.t 18), none⟩,
     ⟨(some 20), .mv (.t 1), (some (19, false))⟩,
     ⟨(some 21), .mv (.t 0), (some (19, false))⟩,
     ⟨(some 22), .bin .eql (.t 20) (.t 21), (some (19, false))⟩,
     ⟨(some 23), .pick (.t 19) (.c (.b true)) (.t 22), none⟩,
     ⟨(some 16), .mv (.t 23), none⟩])
   (.cond (.t 16)
    (.seq (.reg [⟨(some 4), .mv (.c (.i .i64 0)), none⟩])
    .ret)
    (.seq (.reg [⟨(some 25), .mv (.t 5), none⟩,
      ⟨(some 26), .bin .eql (.t 25) (.c (.i .i64 1)), none⟩,
      ⟨(some 24), .mv (.t 26), none⟩])
    (.cond (.t 24)
     (.seq (.reg [⟨(some 27), .mv (.t 0), none⟩,
       ⟨(some 28), .mv (.t 1), none⟩,
       ⟨(some 29), .ixS (.t 28) (.c (.i .i64 0)), none⟩,
       ⟨(some 30), .call f_internal_stringslite_IndexByte [(.t 27), (.t 29)], none⟩,
       ⟨(some 4), .mv (.t 30), none⟩])
     .ret)
     (.seq (.reg [⟨(some 32), .mv (.t 5), none⟩,
       ⟨(some 33), .mv (.t 0), none⟩,
       ⟨(some 34), .len 0 (.t 33), none⟩,
       ⟨(some 35), .bin .geq (.t 32) (.t 34), none⟩,
       ⟨(some 31), .mv (.t 35), none⟩])
     (.cond (.t 31)
      (.seq (.reg [⟨(some 4), .mv (.c (.i .i64 (-1))), none⟩])
      .ret)
      (.seq (.reg [⟨(some 37), .mv (.t 5), none⟩,
        ⟨(some 38), .bad, none⟩,
        ⟨(some 39), .bin .leq (.t 37) (.t 38), none⟩,
        ⟨(some 40), .mv (.t 39), none⟩,
        ⟨(some 41), .mv (.t 0), (some (40, true))⟩,
        ⟨(some 42), .len 0 (.t 41), (some (40, true))⟩,
        ⟨(some 43), .bin .leq (.t 42) (.c (.i .i64 64)), (some (40, true))⟩,
        ⟨(some 44), .pick (.t 40) (.t 43) (.c (.b false)), none⟩,
        ⟨(some 36), .mv (.t 44), none⟩])
      (.cond (.t 36)
       (.seq (.reg [⟨(some 45), .mv (.t 0), none⟩,
         ⟨(some 46), .mv (.t 1), none⟩,
         ⟨(some 47), .bad, none⟩,
         ⟨(some 4), .mv (.t 47), none⟩])
       .ret)
       .skip)))))))))
  (.seq (.reg [⟨(some 48), .mv (.t 1), none⟩,
    ⟨(some 49), .ixS (.t 48) (.c (.i .i64 0)), none⟩,
    ⟨(some 6), .mv (.t 49), none⟩])
  (.seq (.reg [⟨(some 50), .mv (.t 1), none⟩,
    ⟨(some 51), .ixS (.t 50) (.c (.i .i64 1)), none⟩,
    ⟨(some 7), .mv (.t 51), none⟩])
  (.seq (.reg [⟨(some 8), .mv (.c (.i .i64 0)), none⟩])
  (.seq (.reg [⟨(some 52), .mv (.t 0), none⟩,
    ⟨(some 53), .len 0 (.t 52), none⟩,
    ⟨(some 54), .mv (.t 5), none⟩,
    ⟨(some 55), .bin .sub (.t 53) (.t 54), none⟩,
    ⟨(some 56), .bin .add (.t 55) (.c (.i .i64 1)), none⟩,
    ⟨(some 9), .mv (.t 56), none⟩])
  (.seq (.reg [⟨(some 10), .mv (.c (.i .i64 0)), none⟩])
  (.seq (.blk 1 (.loop (.seq (.seq (.reg [⟨(some 57), .mv (.t 8), none⟩,
      ⟨(some 58), .mv (.t 9), none⟩,
      ⟨(some 59), .bin .lss (.t 57) (.t 58), none⟩])
    (.cond (.t 59)
     .skip
     (.exit 1)))
    (.blk 2 (.seq (.seq (.reg [⟨(some 60), .mv (.t 0), none⟩,
       ⟨(some 61), .mv (.t 8), none⟩,
       ⟨(some 62), .ixS (.t 60) (.t 61), none⟩,
       ⟨(some 63), .mv (.t 6), none⟩,
       ⟨(some 64), .bin .neq (.t 62) (.t 63), none⟩])
     (.cond (.t 64)
      (.seq (.reg [⟨(some 65), .mv (.t 0), none⟩,
        ⟨(some 66), .mv (.t 8), none⟩,
        ⟨(some 67), .bin .add (.t 66) (.c (.i .i64 1)), none⟩,
        ⟨(some 68), .mv (.t 9), none⟩,
        ⟨(some 69), .slS (.t 65) (some (.t 67)) (some (.t 68)), none⟩,
        ⟨(some 70), .mv (.t 6), none⟩,
        ⟨(some 71), .call f_internal_stringslite_IndexByte [(.t 69), (.t 70)], none⟩,
        ⟨(some 11), .mv (.t 71), none⟩])
      (.seq (.seq (.reg [⟨(some 72), .mv (.t 11), none⟩,
        ⟨(some 73), .bin .lss (.t 72) (.c (.i .i64 0)), none⟩])
      (.cond (.t 73)
       (.seq (.reg [⟨(some 4), .mv (.c (.i .i64 (-1))), none⟩])
       .ret)
       .skip))
      (.reg [⟨(some 74), .mv (.t 8), none⟩,
        ⟨(some 75), .mv (.t 11), none⟩,
        ⟨(some 76), .bin .add (.t 75) (.c (.i .i64 1)), none⟩,
        ⟨(some 77), .bin .add (.t 74) (.t 76), none⟩,
        ⟨(some 8), .mv (.t 77), none⟩])))
      .skip))
     (.seq (.seq (.reg [⟨(some 78), .mv (.t 0), none⟩,
       ⟨(some 79), .mv (.t 8), none⟩,
       ⟨(some 80), .bin .add (.t 79) (.c (.i .i64 1)), none⟩,
       ⟨(some 81), .ixS (.t 78) (.t 80), none⟩,
       ⟨(some 82), .mv (.t 7), none⟩,
       ⟨(some 83), .bin .eql (.t 81) (.t 82), none⟩,
       ⟨(some 84), .mv (.t 83), none⟩,
       ⟨(some 85), .mv (.t 0), (some (84, true))⟩,
       ⟨(some 86), .mv (.t 8), (some (84, true))⟩,
       ⟨(some 87), .mv (.t 8), (some (84, true))⟩,
       ⟨(some 88), .mv (.t 5), (some (84, true))⟩,
       ⟨(some 89), .bin .add (.t 87) (.t 88), (some (84, true))⟩,
       ⟨(some 90), .slS (.t 85) (some (.t 86)) (some (.t 89)), (some (84, true))⟩,
       ⟨(some 91), .mv (.t 1), (some (84, true))⟩,
       ⟨(some 92), .bin .eql (.t 90) (.t 91), (some (84, true))⟩,
       ⟨(some 93), .pick (.t 84) (.t 92) (.c (.b false)), none⟩])
     (.cond (.t 93)
      (.seq (.reg [⟨(some 94), .mv (.t 8), none⟩,
        ⟨(some 4), .mv (.t 94), none⟩])
      .ret)
      .skip))
     (.seq (.reg [⟨(some 95), .mv (.t 8), none⟩,
       ⟨(some 96), .bin .add (.t 95) (.c (.i .i64 1)), none⟩,
       ⟨(some 8), .mv (.t 96), none⟩])
     (.seq (.reg [⟨(some 97), .mv (.t 10), none⟩,
       ⟨(some 98), .bin .add (.t 97) (.c (.i .i64 1)), none⟩,
       ⟨(some 10), .mv (.t 98), none⟩])
     (.seq (.reg [⟨(some 99), .mv (.t 5), none⟩,
       ⟨(some 100), .bad, none⟩,
       ⟨(some 101), .bin .leq (.t 99) (.t 100), none⟩,
       ⟨(some 102), .mv (.t 101), none⟩,
       ⟨(some 103), .mv (.t 10), (some (102, true))⟩,
       ⟨(some 104), .mv (.t 8), (some (102, true))⟩,
       ⟨(some 105), .call f_internal_bytealg_Cutover [(.t 104)], (some (102, true))⟩,
       ⟨(some 106), .bin .gtr (.t 103) (.t 105), (some (102, true))⟩,
       ⟨(some 107), .pick (.t 102) (.t 106) (.c (.b false)), none⟩])
     (.cond (.t 107)
      (.seq (.reg [⟨(some 108), .mv (.t 0), none⟩,
        ⟨(some 109), .mv (.t 8), none⟩,
        ⟨(some 110), .slS (.t 108) (some (.t 109)) none, none⟩,
        ⟨(some 111), .mv (.t 1), none⟩,
        ⟨(some 112), .bad, none⟩,
        ⟨(some 12), .mv (.t 112), none⟩])
      (.seq (.seq (.reg [⟨(some 113), .mv (.t 12), none⟩,
        ⟨(some 114), .bin .geq (.t 113) (.c (.i .i64 0)), none⟩])
      (.cond (.t 114)
       (.seq (.reg [⟨(some 115), .mv (.t 12), none⟩,
         ⟨(some 116), .mv (.t 8), none⟩,
         ⟨(some 117), .bin .add (.t 115) (.t 116), none⟩,
         ⟨(some 4), .mv (.t 117), none⟩])
       .ret)
       .skip))
      (.seq (.reg [⟨(some 4), .mv (.c (.i .i64 (-1))), none⟩])
      .ret)))
      (.seq (.reg [⟨(some 118), .mv (.t 5), none⟩,
        ⟨(some 119), .bad, none⟩,
        ⟨(some 120), .bin .gtr (.t 118) (.t 119), none⟩,
        ⟨(some 121), .mv (.t 120), none⟩,
        ⟨(some 122), .mv (.t 10), (some (121, true))⟩,
        ⟨(some 123), .mv (.t 8), (some (121, true))⟩,
        ⟨(some 124), .bin .shr (.t 123) (.c (.i .u64 4)), (some (121, true))⟩,
        ⟨(some 125), .bin .add (.c (.i .i64 4)) (.t 124), (some (121, true))⟩,
        ⟨(some 126), .bin .geq (.t 122) (.t 125), (some (121, true))⟩,
        ⟨(some 127), .pick (.t 121) (.t 126) (.c (.b false)), none⟩,
        ⟨(some 128), .mv (.t 127), none⟩,
        ⟨(some 129), .mv (.t 8), (some (128, true))⟩,
        ⟨(some 130), .mv (.t 9), (some (128, true))⟩,
        ⟨(some 131), .bin .lss (.t 129) (.t 130), (some (128, true))⟩,
        ⟨(some 132), .pick (.t 128) (.t 131) (.c (.b false)), none⟩])
      (.cond (.t 132)
       (.seq (.reg [⟨(some 133), .mv (.t 0), none⟩,
         ⟨(some 134), .mv (.t 8), none⟩,
         ⟨(some 135), .slS (.t 133) (some (.t 134)) none, none⟩,
         ⟨(some 136), .mv (.t 1), none⟩,
         ⟨(some 137), .call f_internal_bytealg_IndexRabinKarp_string [(.t 135), (.t 136)], none⟩,
         ⟨(some 13), .mv (.t 137), none⟩])
       (.seq (.seq (.reg [⟨(some 138), .mv (.t 13), none⟩,
         ⟨(some 139), .bin .lss (.t 138) (.c (.i .i64 0)), none⟩])
       (.cond (.t 139)
        (.seq (.reg [⟨(some 4), .mv (.c (.i .i64 (-1))), none⟩])
        .ret)
        .skip))
       (.seq (.reg [⟨(some 140), .mv (.t 8), none⟩,
         ⟨(some 141), .mv (.t 13), none⟩,
         ⟨(some 142), .bin .add (.t 140) (.t 141), none⟩,
         ⟨(some 4), .mv (.t 142), none⟩])
       .ret)))
       .skip))))))))))))
  (.seq (.reg [⟨(some 4), .mv (.c (.i .i64 (-1))), none⟩])
  .ret)))))))))) }
def c_internal_stringslite_IndexByte : Fun := { cin := [.id, .id], cout := [.id], ntmps := 8, keep := false, res := [(4, none)], body :=
  (.seq (.reg [⟨(some 4), .mv (.c (.i .i64 0)), none⟩])
  (.seq (.reg [⟨(some 5), .mv (.t 0), none⟩,
    ⟨(some 6), .mv (.t 1), none⟩,
    ⟨(some 7), .xtn 0 [(.t 5), (.t 6)], none⟩,
    ⟨(some 4), .mv (.t 7), none⟩])
  .ret)) }
def c_internal_bytealg_Cutover : Fun := { cin := [.id], cout := [.id], ntmps := 6, keep := false, res := [(2, none)], body :=
  (.seq (.reg [⟨(some 2), .mv (.c (.i .i64 0)), none⟩])
  (.seq (.reg [⟨(some 3), .mv (.t 0), none⟩,
    ⟨(some 4), .bin .add (.t 3) (.c (.i .i64 16)), none⟩,
    ⟨(some 5), .bin .quo (.t 4) (.c (.i .i64 8)), none⟩,
    ⟨(some 2), .mv (.t 5), none⟩])
  .ret)) }
def c_internal_bytealg_IndexRabinKarp_string : Fun := { cin := [.id, .id], cout := [.id], ntmps := 81, keep := false, res := [(4, none)], body :=
  (.seq (.reg [⟨(some 4), .mv (.c (.i .i64 0)), none⟩])
  (.seq (.reg [⟨(some 12), .mv (.t 1), none⟩,
    ⟨(some 13), .call f_internal_bytealg_hashStr_string [(.t 12)], none⟩,
    ⟨(some 11), .mv (.t 13), none⟩,
    ⟨(some 14), .ext (.t 11) 0, none⟩,
    ⟨(some 15), .ext (.t 11) 1, none⟩,
    ⟨(some 5), .mv (.t 14), none⟩,
    ⟨(some 6), .mv (.t 15), none⟩])
  (.seq (.reg [⟨(some 16), .mv (.t 1), none⟩,
    ⟨(some 17), .len 0 (.t 16), none⟩,
    ⟨(some 7), .mv (.t 17), none⟩])
  (.seq (.reg [⟨(some 8), .mv (.c (.i .u32 0)), none⟩])
  (.seq (.seq (.reg [⟨(some 9), .mv (.c (.i .i64 0)), none⟩])
  (.blk 0 (.loop (.seq (.seq (.reg [⟨(some 18), .mv (.t 9), none⟩,
      ⟨(some 19), .mv (.t 7), none⟩,
      ⟨(some 20), .bin .lss (.t 18) (.t 19), none⟩])
    (.cond (.t 20)
     .skip
     (.exit 0)))
    (.seq (.blk 1 (.reg [⟨(some 23), .mv (.t 8), none⟩,
       ⟨(some 24), .bin .mul (.t 23) (.c (.i .u32 16777619)), none⟩,
       ⟨(some 25), .mv (.t 0), none⟩,
       ⟨(some 26), .mv (.t 9), none⟩,
       ⟨(some 27), .ixS (.t 25) (.t 26), none⟩,
       ⟨(some 28), .cvI .u32 (.t 27), none⟩,
       ⟨(some 29), .bin .add (.t 24) (.t 28), none⟩,
       ⟨(some 8), .mv (.t 29), none⟩]))
    (.reg [⟨(some 21), .mv (.t 9), none⟩,
      ⟨(some 22), .bin .add (.t 21) (.c (.i .i64 1)), none⟩,
      ⟨(some 9), .mv (.t 22), none⟩]))))))
  (.seq (.seq (.reg [⟨(some 30), .mv (.t 8), none⟩,
    ⟨(some 31), .mv (.t 5), none⟩,
    ⟨(some 32), .bin .eql (.t 30) (.t 31), none⟩,
    ⟨(some 33), .mv (.t 32), none⟩,
    ⟨(some 34), .mv (.t 0), (some (33, true))⟩,
    ⟨(some 35), .mv (.t 7), (some (33, true))⟩,
    ⟨(some 36), .slS (.t 34) none (some (.t 35)), (some (33, true))⟩,
    ⟨(some 37), .mv (.t 1), (some (33, true))⟩,
    ⟨(some 38), .bin .eql (.t 36) (.t 37), (some (33, true))⟩,
    ⟨(some 39), .pick (.t 33) (.t 38) (.c (.b false)), none⟩])
  (.cond (.t 39)
   (.seq (.reg [⟨(some 4), .mv (.c (.i .i64 0)), none⟩])
   .ret)
   .skip))
  (.seq (.seq (.reg [⟨(some 40), .mv (.t 7), none⟩,
    ⟨(some 10), .mv (.t 40), none⟩])
  (.blk 2 (.loop (.seq (.seq (.reg [⟨(some 41), .mv (.t 10), none⟩,
      ⟨(some 42), .mv (.t 0), none⟩,
      ⟨(some 43), .len 0 (.t 42), none⟩,
      ⟨(some 44), .bin .lss (.t 41) (.t 43), none⟩])
    (.cond (.t 44)
     .skip
     (.exit 2)))
    (.blk 3 (.seq (.reg [⟨(some 45), .mv (.t 8), none⟩,
       ⟨(some 46), .bin .mul (.t 45) (.c (.i .u32 16777619)), none⟩,
       ⟨(some 8), .mv (.t 46), none⟩])
     (.seq (.reg [⟨(some 47), .mv (.t 8), none⟩,
       ⟨(some 48), .mv (.t 0), none⟩,
       ⟨(some 49), .mv (.t 10), none⟩,
       ⟨(some 50), .ixS (.t 48) (.t 49), none⟩,
       ⟨(some 51), .cvI .u32 (.t 50), none⟩,
       ⟨(some 52), .bin .add (.t 47) (.t 51), none⟩,
       ⟨(some 8), .mv (.t 52), none⟩])
     (.seq (.reg [⟨(some 53), .mv (.t 8), none⟩,
       ⟨(some 54), .mv (.t 6), none⟩,
       ⟨(some 55), .mv (.t 0), none⟩,
       ⟨(some 56), .mv (.t 10), none⟩,
       ⟨(some 57), .mv (.t 7), none⟩,
       ⟨(some 58), .bin .sub (.t 56) (.t 57), none⟩,
       ⟨(some 59), .ixS (.t 55) (.t 58), none⟩,
       ⟨(some 60), .cvI .u32 (.t 59), none⟩,
       ⟨(some 61), .bin .mul (.t 54) (.t 60), none⟩,
       ⟨(some 62), .bin .sub (.t 53) (.t 61), none⟩,
       ⟨(some 8), .mv (.t 62), none⟩])
     (.seq (.reg [⟨(some 63), .mv (.t 10), none⟩,
       ⟨(some 64), .bin .add (.t 63) (.c (.i .i64 1)), none⟩,
       ⟨(some 10), .mv (.t 64), none⟩])
     (.seq (.reg [⟨(some 65), .mv (.t 8), none⟩,
       ⟨(some 66), .mv (.t 5), none⟩,
       ⟨(some 67), .bin .eql (.t 65) (.t 66), none⟩,
       ⟨(some 68), .mv (.t 67), none⟩,
       ⟨(some 69), .mv (.t 0), (some (68, true))⟩,
       ⟨(some 70), .mv (.t 10), (some (68, true))⟩,
       ⟨(some 71), .mv (.t 7), (some (68, true))⟩,
       ⟨(some 72), .bin .sub (.t 70) (.t 71), (some (68, true))⟩,
       ⟨(some 73), .mv (.t 10), (some (68, true))⟩,
       ⟨(some 74), .slS (.t 69) (some (.t 72)) (some (.t 73)), (some (68, true))⟩,
       ⟨(some 75), .mv (.t 1), (some (68, true))⟩,
       ⟨(some 76), .bin .eql (.t 74) (.t 75), (some (68, true))⟩,
       ⟨(some 77), .pick (.t 68) (.t 76) (.c (.b false)), none⟩])
     (.cond (.t 77)
      (.seq (.reg [⟨(some 78), .mv (.t 10), none⟩,
        ⟨(some 79), .mv (.t 7), none⟩,
        ⟨(some 80), .bin .sub (.t 78) (.t 79), none⟩,
        ⟨(some 4), .mv (.t 80), none⟩])
      .ret)
      .skip)))))))))))
  (.seq (.reg [⟨(some 4), .mv (.c (.i .i64 (-1))), none⟩])
  .ret)))))))) }
def c_internal_bytealg_hashStr_string : Fun := { cin := [.id], cout := [.id, .id], ntmps := 39, keep := false, res := [(2, none), (3, none)], body :=
  (.seq (.reg [⟨(some 2), .mv (.c (.i .u32 0)), none⟩,
    ⟨(some 3), .mv (.c (.i .u32 0)), none⟩])
  (.seq (.reg [⟨(some 4), .mv (.c (.i .u32 0)), none⟩])
  (.seq (.seq (.reg [⟨(some 5), .mv (.c (.i .i64 0)), none⟩])
  (.blk 0 (.loop (.seq (.seq (.reg [⟨(some 9), .mv (.t 5), none⟩,
      ⟨(some 10), .mv (.t 0), none⟩,
      ⟨(some 11), .len 0 (.t 10), none⟩,
      ⟨(some 12), .bin .lss (.t 9) (.t 11), none⟩])
    (.cond (.t 12)
     .skip
     (.exit 0)))
    (.seq (.blk 1 (.reg [⟨(some 15), .mv (.t 4), none⟩,
       ⟨(some 16), .bin .mul (.t 15) (.c (.i .u32 16777619)), none⟩,
       ⟨(some 17), .mv (.t 0), none⟩,
       ⟨(some 18), .mv (.t 5), none⟩,
       ⟨(some 19), .ixS (.t 17) (.t 18), none⟩,
       ⟨(some 20), .cvI .u32 (.t 19), none⟩,
       ⟨(some 21), .bin .add (.t 16) (.t 20), none⟩,
       ⟨(some 4), .mv (.t 21), none⟩]))
    (.reg [⟨(some 13), .mv (.t 5), none⟩,
      ⟨(some 14), .bin .add (.t 13) (.c (.i .i64 1)), none⟩,
      ⟨(some 5), .mv (.t 14), none⟩]))))))
  (.seq (.reg [⟨(some 6), .mv (.c (.i .u32 1)), none⟩,
    ⟨(some 7), .mv (.c (.i .u32 16777619)), none⟩])
  (.seq (.seq (.reg [⟨(some 22), .mv (.t 0), none⟩,
    ⟨(some 23), .len 0 (.t 22), none⟩,
    ⟨(some 8), .mv (.t 23), none⟩])
  (.blk 2 (.loop (.seq (.seq (.reg [⟨(some 24), .mv (.t 8), none⟩,
      ⟨(some 25), .bin .gtr (.t 24) (.c (.i .i64 0)), none⟩])
    (.cond (.t 25)
     .skip
     (.exit 2)))
    (.seq (.blk 3 (.seq (.seq (.reg [⟨(some 28), .mv (.t 8), none⟩,
       ⟨(some 29), .bin .and (.t 28) (.c (.i .i64 1)), none⟩,
       ⟨(some 30), .bin .neq (.t 29) (.c (.i .i64 0)), none⟩])
     (.cond (.t 30)
      (.reg [⟨(some 31), .mv (.t 6), none⟩,
        ⟨(some 32), .mv (.t 7), none⟩,
        ⟨(some 33), .bin .mul (.t 31) (.t 32), none⟩,
        ⟨(some 6), .mv (.t 33), none⟩])
      .skip))
     (.reg [⟨(some 34), .mv (.t 7), none⟩,
       ⟨(some 35), .mv (.t 7), none⟩,
       ⟨(some 36), .bin .mul (.t 34) (.t 35), none⟩,
       ⟨(some 7), .mv (.t 36), none⟩])))
    (.reg [⟨(some 26), .mv (.t 8), none⟩,
      ⟨(some 27), .bin .shr (.t 26) (.c (.i .u64 1)), none⟩,
      ⟨(some 8), .mv (.t 27), none⟩]))))))
  (.seq (.reg [⟨(some 37), .mv (.t 4), none⟩,
    ⟨(some 38), .mv (.t 6), none⟩,
    ⟨(some 2), .mv (.t 37), none⟩,
    ⟨(some 3), .mv (.t 38), none⟩])
  .ret)))))) }
def tab : PT := (.n 32 c_expand_builder_end (.n 18 c_expand_Value (.n 9 c_touchstonelaw05_blank (.n 6 c_touchstonelaw05_works (.n 5 c_touchstonelaw05_ExpandKeeps (.n 3 c_touchstonelaw05_ExpandSplits .e .e) .e) (.n 8 c_touchstonelaw05_given (.n 7 c_touchstonelaw05_large .e .e) .e)) (.n 12 c_touchstonelaw05_same (.n 11 c_expand_Text (.n 10 c_expand_Fields .e .e) .e) (.n 13 c_touchstonelaw05_par .e .e))) (.n 27 c_touchstonelaw05_quo (.n 24 c_touchstonelaw05_fields (.n 23 c_touchstonelaw05_vars (.n 22 c_expand_Set .e .e) .e) (.n 26 c_touchstonelaw05_lit (.n 25 c_touchstonelaw05_qpar .e .e) .e)) (.n 30 c_expand_builder_split (.n 29 c_expand_values (.n 28 c_touchstonelaw05_texts .e .e) .e) (.n 31 c_expand_builder_add .e .e)))) (.n 47 c_word_Param (.n 41 c_slices_Clone_string_string (.n 36 c_strconv_Itoa (.n 34 c_strings_Builder_String (.n 33 c_strings_Builder_WriteString .e .e) .e) (.n 40 c_expand_isName (.n 37 c_slices_Index_string_string .e .e) .e)) (.n 44 c_expand_values_1 (.n 43 c_slices_Compact_string_string (.n 42 c_slices_Sort_string_string .e .e) .e) (.n 45 c_strings_Builder_copyCheck .e .e))) (.n 82 c_internal_stringslite_Index (.n 69 c_strings_Index (.n 53 c_word_lead (.n 52 c_strings_Contains .e .e) .e) (.n 71 c_word_digit (.n 70 c_word_letter .e .e) .e)) (.n 89 c_internal_bytealg_IndexRabinKarp_string (.n 88 c_internal_bytealg_Cutover (.n 86 c_internal_stringslite_IndexByte .e .e) .e) (.n 91 c_internal_bytealg_hashStr_string .e .e)))))
def prog (n : Nat) : Option Fun := tab.get n
theorem p_touchstonelaw05_ExpandSplits : prog f_touchstonelaw05_ExpandSplits = some c_touchstonelaw05_ExpandSplits := rfl
theorem p_touchstonelaw05_ExpandKeeps : prog f_touchstonelaw05_ExpandKeeps = some c_touchstonelaw05_ExpandKeeps := rfl
theorem p_touchstonelaw05_works : prog f_touchstonelaw05_works = some c_touchstonelaw05_works := rfl
theorem p_touchstonelaw05_large : prog f_touchstonelaw05_large = some c_touchstonelaw05_large := rfl
theorem p_touchstonelaw05_given : prog f_touchstonelaw05_given = some c_touchstonelaw05_given := rfl
theorem p_touchstonelaw05_blank : prog f_touchstonelaw05_blank = some c_touchstonelaw05_blank := rfl
theorem p_expand_Fields : prog f_expand_Fields = some c_expand_Fields := rfl
theorem p_expand_Text : prog f_expand_Text = some c_expand_Text := rfl
theorem p_touchstonelaw05_same : prog f_touchstonelaw05_same = some c_touchstonelaw05_same := rfl
theorem p_touchstonelaw05_par : prog f_touchstonelaw05_par = some c_touchstonelaw05_par := rfl
theorem p_expand_Value : prog f_expand_Value = some c_expand_Value := rfl
theorem p_expand_Set : prog f_expand_Set = some c_expand_Set := rfl
theorem p_touchstonelaw05_vars : prog f_touchstonelaw05_vars = some c_touchstonelaw05_vars := rfl
theorem p_touchstonelaw05_fields : prog f_touchstonelaw05_fields = some c_touchstonelaw05_fields := rfl
theorem p_touchstonelaw05_qpar : prog f_touchstonelaw05_qpar = some c_touchstonelaw05_qpar := rfl
theorem p_touchstonelaw05_lit : prog f_touchstonelaw05_lit = some c_touchstonelaw05_lit := rfl
theorem p_touchstonelaw05_quo : prog f_touchstonelaw05_quo = some c_touchstonelaw05_quo := rfl
theorem p_touchstonelaw05_texts : prog f_touchstonelaw05_texts = some c_touchstonelaw05_texts := rfl
theorem p_expand_values : prog f_expand_values = some c_expand_values := rfl
theorem p_expand_builder_split : prog f_expand_builder_split = some c_expand_builder_split := rfl
theorem p_expand_builder_add : prog f_expand_builder_add = some c_expand_builder_add := rfl
theorem p_expand_builder_end : prog f_expand_builder_end = some c_expand_builder_end := rfl
theorem p_strings_Builder_WriteString : prog f_strings_Builder_WriteString = some c_strings_Builder_WriteString := rfl
theorem p_strings_Builder_String : prog f_strings_Builder_String = some c_strings_Builder_String := rfl
theorem p_strconv_Itoa : prog f_strconv_Itoa = some c_strconv_Itoa := rfl
theorem p_slices_Index_string_string : prog f_slices_Index_string_string = some c_slices_Index_string_string := rfl
theorem p_expand_isName : prog f_expand_isName = some c_expand_isName := rfl
theorem p_slices_Clone_string_string : prog f_slices_Clone_string_string = some c_slices_Clone_string_string := rfl
theorem p_slices_Sort_string_string : prog f_slices_Sort_string_string = some c_slices_Sort_string_string := rfl
theorem p_slices_Compact_string_string : prog f_slices_Compact_string_string = some c_slices_Compact_string_string := rfl
theorem p_expand_values_1 : prog f_expand_values_1 = some c_expand_values_1 := rfl
theorem p_strings_Builder_copyCheck : prog f_strings_Builder_copyCheck = some c_strings_Builder_copyCheck := rfl
theorem p_word_Param : prog f_word_Param = some c_word_Param := rfl
theorem p_strings_Contains : prog f_strings_Contains = some c_strings_Contains := rfl
theorem p_word_lead : prog f_word_lead = some c_word_lead := rfl
theorem p_strings_Index : prog f_strings_Index = some c_strings_Index := rfl
theorem p_word_letter : prog f_word_letter = some c_word_letter := rfl
theorem p_word_digit : prog f_word_digit = some c_word_digit := rfl
theorem p_internal_stringslite_Index : prog f_internal_stringslite_Index = some c_internal_stringslite_Index := rfl
theorem p_internal_stringslite_IndexByte : prog f_internal_stringslite_IndexByte = some c_internal_stringslite_IndexByte := rfl
theorem p_internal_bytealg_Cutover : prog f_internal_bytealg_Cutover = some c_internal_bytealg_Cutover := rfl
theorem p_internal_bytealg_IndexRabinKarp_string : prog f_internal_bytealg_IndexRabinKarp_string = some c_internal_bytealg_IndexRabinKarp_string := rfl
theorem p_internal_bytealg_hashStr_string : prog f_internal_bytealg_hashStr_string = some c_internal_bytealg_hashStr_string := rfl
end Go.Proofs.YtfpoihibfajhlaaDoor
