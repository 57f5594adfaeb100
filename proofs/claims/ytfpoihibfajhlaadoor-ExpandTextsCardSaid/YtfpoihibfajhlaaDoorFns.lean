/-
  The functions, as the abstract machine's: numbers and texts. By program.
-/
import Derived.Test.YtfpoihibfajhlaaDoorAmTab
import Derived.Test.YtfpoihibfajhlaaDoorAmItoa
set_option linter.all false
set_option linter.unusedVariables false
set_option linter.unusedSimpArgs false
set_option linter.unusedSectionVars false
set_option maxRecDepth 100000
namespace Go.Proofs.YtfpoihibfajhlaaDoor
open Go.Proofs.YtfpoihibfajhlaaDoor.Am
def f_touchstonelaw05_ExpandSplits : Nat := 3
def f_touchstonelaw05_ExpandTexts : Nat := 4
def f_touchstonelaw05_works : Nat := 6
def f_touchstonelaw05_large : Nat := 7
def f_touchstonelaw05_given : Nat := 8
def f_touchstonelaw05_blank : Nat := 9
def f_expand_Fields : Nat := 10
def f_expand_Text : Nat := 11
def f_touchstonelaw05_same : Nat := 12
def f_touchstonelaw05_par : Nat := 13
def f_touchstoneref05_Text : Nat := 14
def f_touchstoneref05_Fields : Nat := 15
def f_expand_Items : Nat := 16
def f_touchstoneref05_Items : Nat := 17
def f_expand_Value : Nat := 18
def f_touchstoneref05_Value : Nat := 19
def f_touchstoneref05_Same : Nat := 20
def f_touchstonelaw05_back : Nat := 21
def f_touchstonelaw05_vars : Nat := 23
def f_touchstonelaw05_fields : Nat := 24
def f_touchstonelaw05_qpar : Nat := 25
def f_touchstonelaw05_lit : Nat := 26
def f_touchstonelaw05_quo : Nat := 27
def f_touchstonelaw05_texts : Nat := 28
def f_expand_values : Nat := 29
def f_expand_builder_split : Nat := 30
def f_expand_builder_add : Nat := 31
def f_expand_builder_end : Nat := 32
def f_strings_Builder_WriteString : Nat := 33
def f_strings_Builder_String : Nat := 34
def f_touchstoneref05_of : Nat := 35
def f_strconv_Itoa : Nat := 36
def f_slices_Index_string_string : Nat := 37
def f_touchstoneref05_digits : Nat := 38
def f_touchstoneref05_texts : Nat := 39
def f_expand_values_1 : Nat := 44
def f_strings_Builder_copyCheck : Nat := 45
def f_internal_abi_NoEscape : Nat := 50
def c_touchstonelaw05_ExpandSplits : Fun := { cin := [(.agg [(.sl 1 .id), (.sl 1 .id), (.sl 1 .id), .id]), (.sl 3 (.agg [.id, .id, .id]))], cout := [.id], ntmps := 185, keep := false, res := [(4, none)], body :=
  (.seq (.reg [⟨(some 2), .box 24 4 (.t 0), none⟩,
    ⟨(some 4), .mv (.c (.b false)), none⟩])
  (.seq (.seq (.reg [⟨(some 21), .call f_touchstonelaw05_works [], none⟩,
    ⟨(some 22), .un .not (.t 21), none⟩,
    ⟨(some 23), .mv (.t 22), none⟩,
    ⟨(some 24), .ld true 4 (.t 2), (some (23, false))⟩,
    ⟨(some 25), .mv (.t 1), (some (23, false))⟩,
    ⟨(some 26), .call f_touchstonelaw05_large [(.t 24), (.t 25)], (some (23, false))⟩,
    ⟨(some 27), .pick (.t 23) (.c (.b true)) (.t 26), none⟩])
  (.cond (.t 27)
   (.seq (.reg [⟨(some 28), .call f_touchstonelaw05_works [], none⟩,
     ⟨(some 4), .mv (.t 28), none⟩])
   .ret)
   .skip))
  (.seq (.reg [⟨(some 29), .ld true 4 (.t 2), none⟩,
    ⟨(some 30), .call f_touchstonelaw05_given [(.t 29)], none⟩,
    ⟨(some 5), .alloc 28 [.nsl, .nsl, .nsl, (.i .i64 0)], none⟩,
    ⟨none, .st 4 (.t 5) (.t 30), none⟩])
  (.seq (.reg [⟨(some 6), .mv (.c .nsl), none⟩])
  (.seq (.reg [⟨(some 7), .mv (.c .nsl), none⟩])
  (.seq (.seq (.reg [⟨(some 8), .mv (.c (.i .i64 0)), none⟩])
  (.blk 0 (.loop (.seq (.seq (.reg [⟨(some 31), .mv (.t 8), none⟩,
      ⟨(some 32), .mv (.t 1), none⟩,
      ⟨(some 33), .len 1 (.t 32), none⟩,
      ⟨(some 34), .bin .lss (.t 31) (.t 33), none⟩])
    (.cond (.t 34)
     .skip
     (.exit 0)))
    (.seq (.blk 1 (.seq (.reg [⟨(some 37), .mv (.t 1), none⟩,
       ⟨(some 38), .mv (.t 8), none⟩,
       ⟨(some 39), .ia 3 (.t 37) (.t 38), none⟩,
       ⟨(some 40), .ld true 3 (.t 39), none⟩,
       ⟨(some 9), .alloc 31 [(.b false), (.s []), (.b false)], none⟩,
       ⟨none, .st 3 (.t 9) (.t 40), none⟩])
     (.seq (.reg [⟨(some 41), .fa 2 (.t 9), none⟩,
       ⟨none, .st 1 (.t 41) (.c (.b true)), none⟩])
     (.seq (.reg [⟨(some 42), .mv (.t 6), none⟩,
       ⟨(some 43), .ld true 3 (.t 9), none⟩,
       ⟨(some 44), .bsl 3 [(.t 43)], none⟩,
       ⟨(some 45), .app 3 31 (.t 42) (.t 44), none⟩,
       ⟨(some 6), .mv (.t 45), none⟩])
     (.seq (.reg [⟨(some 46), .fa 2 (.t 9), none⟩,
       ⟨none, .st 1 (.t 46) (.c (.b false)), none⟩])
     (.seq (.seq (.reg [⟨(some 47), .fa 0 (.t 9), none⟩,
       ⟨(some 48), .ld false 1 (.t 47), none⟩,
       ⟨(some 49), .un .not (.t 48), none⟩])
     (.cond (.t 49)
      (.seq (.reg [⟨(some 10), .mv (.c (.s [])), none⟩])
      (.seq (.seq (.reg [⟨(some 11), .mv (.c (.i .i64 0)), none⟩])
      (.blk 2 (.loop (.seq (.seq (.reg [⟨(some 50), .mv (.t 11), none⟩,
          ⟨(some 51), .fa 1 (.t 9), none⟩,
          ⟨(some 52), .ld false 1 (.t 51), none⟩,
          ⟨(some 53), .len 0 (.t 52), none⟩,
          ⟨(some 54), .bin .lss (.t 50) (.t 53), none⟩])
        (.cond (.t 54)
         .skip
         (.exit 2)))
        (.seq (.blk 3 (.seq (.reg [⟨(some 57), .fa 1 (.t 9), none⟩,
           ⟨(some 58), .ld false 1 (.t 57), none⟩,
           ⟨(some 59), .mv (.t 11), none⟩,
           ⟨(some 60), .ixS (.t 58) (.t 59), none⟩,
           ⟨(some 61), .call f_touchstonelaw05_blank [(.t 60)], none⟩,
           ⟨(some 62), .un .not (.t 61), none⟩])
         (.cond (.t 62)
          (.reg [⟨(some 63), .mv (.t 10), none⟩,
            ⟨(some 64), .fa 1 (.t 9), none⟩,
            ⟨(some 65), .ld false 1 (.t 64), none⟩,
            ⟨(some 66), .mv (.t 11), none⟩,
            ⟨(some 67), .mv (.t 11), none⟩,
            ⟨(some 68), .bin .add (.t 67) (.c (.i .i64 1)), none⟩,
            ⟨(some 69), .slS (.t 65) (some (.t 66)) (some (.t 68)), none⟩,
            ⟨(some 70), .bin .add (.t 63) (.t 69), none⟩,
            ⟨(some 10), .mv (.t 70), none⟩])
          .skip)))
        (.reg [⟨(some 55), .mv (.t 11), none⟩,
          ⟨(some 56), .bin .add (.t 55) (.c (.i .i64 1)), none⟩,
          ⟨(some 11), .mv (.t 56), none⟩]))))))
      (.reg [⟨(some 71), .mv (.t 10), none⟩,
        ⟨(some 72), .fa 1 (.t 9), none⟩,
        ⟨none, .st 1 (.t 72) (.t 71), none⟩])))
      .skip))
     (.reg [⟨(some 73), .mv (.t 7), none⟩,
       ⟨(some 74), .ld true 3 (.t 9), none⟩,
       ⟨(some 75), .bsl 3 [(.t 74)], none⟩,
       ⟨(some 76), .app 3 31 (.t 73) (.t 75), none⟩,
       ⟨(some 7), .mv (.t 76), none⟩])))))))
    (.reg [⟨(some 35), .mv (.t 8), none⟩,
      ⟨(some 36), .bin .add (.t 35) (.c (.i .i64 1)), none⟩,
      ⟨(some 8), .mv (.t 36), none⟩]))))))
  (.seq (.reg [⟨(some 77), .ld true 4 (.t 5), none⟩,
    ⟨(some 78), .mv (.t 6), none⟩,
    ⟨(some 79), .call f_expand_Fields [(.t 77), (.t 78)], none⟩,
    ⟨(some 12), .mv (.t 79), none⟩])
  (.seq (.seq (.regD [⟨(some 80), .mv (.t 1), none⟩,
    ⟨(some 81), .len 1 (.t 80), none⟩,
    ⟨(some 82), .bin .eql (.t 81) (.c (.i .i64 0)), none⟩,
    ⟨(some 83), .mv (.t 82), none⟩,
    ⟨(some 84), .mv (.t 12), (some (83, true))⟩,
    ⟨(some 85), .len 1 (.t 84), (some (83, true))⟩,
    ⟨(some 86), .bin .neq (.t 85) (.c (.i .i64 0)), (some (83, true))⟩,
    ⟨(some 87), .pick (.t 83) (.t 86) (.c (.b false)), none⟩,
    ⟨(some 88), .mv (.t 87), none⟩,
    ⟨(some 89), .mv (.t 1), (some (88, false))⟩,
    ⟨(some 90), .len 1 (.t 89), (some (88, false))⟩,
    ⟨(some 91), .bin .gtr (.t 90) (.c (.i .i64 0)), (some (88, false))⟩,
    ⟨(some 92), .mv (.t 91), (some (88, false))⟩,
    ⟨(some 93), .mv (.t 12), (some (92, true))⟩,
    ⟨(some 94), .len 1 (.t 93), (some (92, true))⟩,
    ⟨(some 95), .bin .neq (.t 94) (.c (.i .i64 1)), (some (92, true))⟩,
    ⟨(some 96), .mv (.t 95), (some (92, true))⟩,
    ⟨(some 97), .mv (.t 12), (some (96, false))⟩,
    ⟨(some 98), .ia 1 (.t 97) (.c (.i .i64 0)), (some (96, false))⟩,
    ⟨(some 99), .ld false 1 (.t 98), (some (96, false))⟩,
    ⟨(some 100), .ld true 4 (.t 5), (some (96, false))⟩,
    ⟨(some 101), .mv (.t 1), (some (96, false))⟩,
    ⟨(some 102), .call f_expand_Text [(.t 100), (.t 101)], (some (96, false))⟩,
    ⟨(some 103), .bin .neq (.t 99) (.t 102), (some (96, false))⟩,
    ⟨(some 104), .pick (.t 96) (.c (.b true)) (.t 103), (some (92, true))⟩,
    ⟨(some 105), .pick (.t 92) (.t 104) (.c (.b false)), (some (88, false))⟩,
    ⟨(some 106), .pick (.t 88) (.c (.b true)) (.t 105), none⟩] [(19, (19, 23))])
  (.cond (.t 106)
   (.seq (.reg [⟨(some 4), .mv (.c (.b false)), none⟩])
   .ret)
   .skip))
  (.seq (.reg [⟨(some 107), .ld true 4 (.t 5), none⟩,
    ⟨(some 108), .mv (.t 7), none⟩,
    ⟨(some 109), .call f_expand_Fields [(.t 107), (.t 108)], none⟩,
    ⟨(some 13), .mv (.t 109), none⟩])
  (.seq (.reg [⟨(some 14), .mv (.c (.s [])), none⟩])
  (.seq (.reg [⟨(some 15), .mv (.c (.s [])), none⟩])
  (.seq (.seq (.reg [⟨(some 16), .mv (.c (.i .i64 0)), none⟩])
  (.blk 4 (.loop (.seq (.seq (.reg [⟨(some 110), .mv (.t 16), none⟩,
      ⟨(some 111), .mv (.t 13), none⟩,
      ⟨(some 112), .len 1 (.t 111), none⟩,
      ⟨(some 113), .bin .lss (.t 110) (.t 112), none⟩])
    (.cond (.t 113)
     .skip
     (.exit 4)))
    (.seq (.blk 5 (.seq (.seq (.reg [⟨(some 116), .mv (.t 13), none⟩,
       ⟨(some 117), .mv (.t 16), none⟩,
       ⟨(some 118), .ia 1 (.t 116) (.t 117), none⟩,
       ⟨(some 119), .ld false 1 (.t 118), none⟩,
       ⟨(some 120), .bin .eql (.t 119) (.c (.s [])), none⟩])
     (.cond (.t 120)
      (.seq (.reg [⟨(some 4), .mv (.c (.b false)), none⟩])
      .ret)
      .skip))
     (.seq (.seq (.reg [⟨(some 17), .mv (.c (.i .i64 0)), none⟩])
     (.blk 6 (.loop (.seq (.seq (.reg [⟨(some 121), .mv (.t 17), none⟩,
         ⟨(some 122), .mv (.t 13), none⟩,
         ⟨(some 123), .mv (.t 16), none⟩,
         ⟨(some 124), .ia 1 (.t 122) (.t 123), none⟩,
         ⟨(some 125), .ld false 1 (.t 124), none⟩,
         ⟨(some 126), .len 0 (.t 125), none⟩,
         ⟨(some 127), .bin .lss (.t 121) (.t 126), none⟩])
       (.cond (.t 127)
        .skip
        (.exit 6)))
       (.seq (.blk 7 (.seq (.reg [⟨(some 130), .mv (.t 13), none⟩,
          ⟨(some 131), .mv (.t 16), none⟩,
          ⟨(some 132), .ia 1 (.t 130) (.t 131), none⟩,
          ⟨(some 133), .ld false 1 (.t 132), none⟩,
          ⟨(some 134), .mv (.t 17), none⟩,
          ⟨(some 135), .ixS (.t 133) (.t 134), none⟩,
          ⟨(some 136), .call f_touchstonelaw05_blank [(.t 135)], none⟩])
        (.cond (.t 136)
         (.seq (.reg [⟨(some 4), .mv (.c (.b false)), none⟩])
         .ret)
         .skip)))
       (.reg [⟨(some 128), .mv (.t 17), none⟩,
         ⟨(some 129), .bin .add (.t 128) (.c (.i .i64 1)), none⟩,
         ⟨(some 17), .mv (.t 129), none⟩]))))))
     (.seq (.reg [⟨(some 137), .mv (.t 14), none⟩,
       ⟨(some 138), .mv (.t 13), none⟩,
       ⟨(some 139), .mv (.t 16), none⟩,
       ⟨(some 140), .ia 1 (.t 138) (.t 139), none⟩,
       ⟨(some 141), .ld false 1 (.t 140), none⟩,
       ⟨(some 142), .bin .add (.t 137) (.t 141), none⟩,
       ⟨(some 14), .mv (.t 142), none⟩])
     (.reg [⟨(some 143), .mv (.t 15), none⟩,
       ⟨(some 144), .bin .add (.t 143) (.c (.s [32])), none⟩,
       ⟨(some 145), .mv (.t 13), none⟩,
       ⟨(some 146), .mv (.t 16), none⟩,
       ⟨(some 147), .ia 1 (.t 145) (.t 146), none⟩,
       ⟨(some 148), .ld false 1 (.t 147), none⟩,
       ⟨(some 149), .bin .add (.t 144) (.t 148), none⟩,
       ⟨(some 15), .mv (.t 149), none⟩])))))
    (.reg [⟨(some 114), .mv (.t 16), none⟩,
      ⟨(some 115), .bin .add (.t 114) (.c (.i .i64 1)), none⟩,
      ⟨(some 16), .mv (.t 115), none⟩]))))))
  (.seq (.reg [⟨(some 150), .ld true 4 (.t 5), none⟩,
    ⟨(some 151), .mv (.t 7), none⟩,
    ⟨(some 152), .call f_expand_Text [(.t 150), (.t 151)], none⟩,
    ⟨(some 18), .mv (.t 152), none⟩])
  (.seq (.reg [⟨(some 19), .mv (.c (.s [])), none⟩])
  (.seq (.seq (.reg [⟨(some 20), .mv (.c (.i .i64 0)), none⟩])
  (.blk 8 (.loop (.seq (.seq (.reg [⟨(some 153), .mv (.t 20), none⟩,
      ⟨(some 154), .mv (.t 18), none⟩,
      ⟨(some 155), .len 0 (.t 154), none⟩,
      ⟨(some 156), .bin .lss (.t 153) (.t 155), none⟩])
    (.cond (.t 156)
     .skip
     (.exit 8)))
    (.seq (.blk 9 (.seq (.reg [⟨(some 159), .mv (.t 18), none⟩,
       ⟨(some 160), .mv (.t 20), none⟩,
       ⟨(some 161), .ixS (.t 159) (.t 160), none⟩,
       ⟨(some 162), .call f_touchstonelaw05_blank [(.t 161)], none⟩,
       ⟨(some 163), .un .not (.t 162), none⟩])
     (.cond (.t 163)
      (.reg [⟨(some 164), .mv (.t 19), none⟩,
        ⟨(some 165), .mv (.t 18), none⟩,
        ⟨(some 166), .mv (.t 20), none⟩,
        ⟨(some 167), .mv (.t 20), none⟩,
        ⟨(some 168), .bin .add (.t 167) (.c (.i .i64 1)), none⟩,
        ⟨(some 169), .slS (.t 165) (some (.t 166)) (some (.t 168)), none⟩,
        ⟨(some 170), .bin .add (.t 164) (.t 169), none⟩,
        ⟨(some 19), .mv (.t 170), none⟩])
      .skip)))
    (.reg [⟨(some 157), .mv (.t 20), none⟩,
      ⟨(some 158), .bin .add (.t 157) (.c (.i .i64 1)), none⟩,
      ⟨(some 20), .mv (.t 158), none⟩]))))))
  (.seq (.reg [⟨(some 171), .mv (.t 14), none⟩,
    ⟨(some 172), .mv (.t 19), none⟩,
    ⟨(some 173), .bin .eql (.t 171) (.t 172), none⟩,
    ⟨(some 174), .mv (.t 173), none⟩,
    ⟨(some 175), .bsl 1 [(.c (.s [120]))], (some (174, true))⟩,
    ⟨(some 176), .mv (.t 15), (some (174, true))⟩,
    ⟨(some 177), .bsl 1 [(.t 176)], (some (174, true))⟩,
    ⟨(some 178), .build [.nsl, .nsl, .nsl, (.i .i64 0)] [(0, 1, (.t 175)), (1, 1, (.t 177))], (some (174, true))⟩,
    ⟨(some 179), .call f_touchstonelaw05_par [(.c (.s [120]))], (some (174, true))⟩,
    ⟨(some 180), .bsl 3 [(.t 179)], (some (174, true))⟩,
    ⟨(some 181), .call f_expand_Fields [(.t 178), (.t 180)], (some (174, true))⟩,
    ⟨(some 182), .mv (.t 13), (some (174, true))⟩,
    ⟨(some 183), .call f_touchstonelaw05_same [(.t 181), (.t 182)], (some (174, true))⟩,
    ⟨(some 184), .pick (.t 174) (.t 183) (.c (.b false)), none⟩,
    ⟨(some 4), .mv (.t 184), none⟩])
  .ret)))))))))))))))) }
def c_touchstonelaw05_ExpandTexts : Fun := { cin := [(.agg [(.sl 1 .id), (.sl 1 .id), (.sl 1 .id), .id]), (.sl 3 (.agg [.id, .id, .id])), (.sl 2 (.agg [(.sl 3 (.agg [.id, .id, .id])), .id]))], cout := [.id], ntmps := 90, keep := false, res := [(6, none)], body :=
  (.seq (.reg [⟨(some 3), .box 24 4 (.t 0), none⟩,
    ⟨(some 6), .mv (.c (.b false)), none⟩])
  (.seq (.seq (.reg [⟨(some 11), .ld true 4 (.t 3), none⟩,
    ⟨(some 12), .mv (.t 1), none⟩,
    ⟨(some 13), .call f_touchstonelaw05_large [(.t 11), (.t 12)], none⟩,
    ⟨(some 14), .mv (.t 13), none⟩,
    ⟨(some 15), .mv (.t 2), (some (14, false))⟩,
    ⟨(some 16), .len 1 (.t 15), (some (14, false))⟩,
    ⟨(some 17), .bin .gtr (.t 16) (.c (.i .i64 30)), (some (14, false))⟩,
    ⟨(some 18), .pick (.t 14) (.c (.b true)) (.t 17), none⟩])
  (.cond (.t 18)
   (.seq (.reg [⟨(some 6), .mv (.c (.b true)), none⟩])
   .ret)
   .skip))
  (.seq (.seq (.reg [⟨(some 7), .mv (.c (.i .i64 0)), none⟩])
  (.blk 0 (.loop (.seq (.seq (.reg [⟨(some 19), .mv (.t 7), none⟩,
      ⟨(some 20), .mv (.t 2), none⟩,
      ⟨(some 21), .len 1 (.t 20), none⟩,
      ⟨(some 22), .bin .lss (.t 19) (.t 21), none⟩])
    (.cond (.t 22)
     .skip
     (.exit 0)))
    (.seq (.blk 1 (.seq (.seq (.thw 2)
     (.regD [⟨(some 25), .ld true 4 (.t 3), none⟩,
       ⟨(some 26), .mv (.t 2), none⟩,
       ⟨(some 27), .mv (.t 7), none⟩,
       ⟨(some 28), .ia 2 (.t 26) (.t 27), none⟩,
       ⟨(some 29), .fa 0 (.t 28), none⟩,
       ⟨(some 30), .ld false 1 (.t 29), none⟩,
       ⟨(some 31), .call f_touchstonelaw05_large [(.t 25), (.t 30)], none⟩] []))
     (.cond (.t 31)
      (.seq (.reg [⟨(some 6), .mv (.c (.b true)), none⟩])
      .ret)
      .skip)))
    (.reg [⟨(some 23), .mv (.t 7), none⟩,
      ⟨(some 24), .bin .add (.t 23) (.c (.i .i64 1)), none⟩,
      ⟨(some 7), .mv (.t 24), none⟩]))))))
  (.seq (.reg [⟨(some 32), .ld true 4 (.t 3), none⟩,
    ⟨(some 33), .call f_touchstonelaw05_given [(.t 32)], none⟩,
    ⟨(some 8), .alloc 28 [.nsl, .nsl, .nsl, (.i .i64 0)], none⟩,
    ⟨none, .st 4 (.t 8) (.t 33), none⟩])
  (.seq (.regD [⟨(some 34), .ld true 4 (.t 8), none⟩,
    ⟨(some 35), .mv (.t 1), none⟩,
    ⟨(some 36), .call f_expand_Text [(.t 34), (.t 35)], none⟩,
    ⟨(some 37), .ld true 4 (.t 3), none⟩,
    ⟨(some 38), .mv (.t 1), none⟩,
    ⟨(some 39), .call f_touchstoneref05_Text [(.t 37), (.t 38)], none⟩,
    ⟨(some 40), .bin .eql (.t 36) (.t 39), none⟩,
    ⟨(some 41), .mv (.t 40), none⟩,
    ⟨(some 42), .ld true 4 (.t 8), (some (41, true))⟩,
    ⟨(some 43), .mv (.t 1), (some (41, true))⟩,
    ⟨(some 44), .call f_expand_Fields [(.t 42), (.t 43)], (some (41, true))⟩,
    ⟨(some 45), .ld true 4 (.t 3), (some (41, true))⟩,
    ⟨(some 46), .mv (.t 1), (some (41, true))⟩,
    ⟨(some 47), .call f_touchstoneref05_Fields [(.t 45), (.t 46)], (some (41, true))⟩,
    ⟨(some 48), .call f_touchstonelaw05_same [(.t 44), (.t 47)], (some (41, true))⟩,
    ⟨(some 49), .pick (.t 41) (.t 48) (.c (.b false)), none⟩,
    ⟨(some 50), .mv (.t 49), none⟩,
    ⟨(some 51), .ld true 4 (.t 8), (some (50, true))⟩,
    ⟨(some 52), .mv (.t 2), (some (50, true))⟩,
    ⟨(some 53), .call f_expand_Items [(.t 51), (.t 52)], (some (50, true))⟩,
    ⟨(some 54), .ld true 4 (.t 3), (some (50, true))⟩,
    ⟨(some 55), .mv (.t 2), (some (50, true))⟩,
    ⟨(some 56), .call f_touchstoneref05_Items [(.t 54), (.t 55)], (some (50, true))⟩,
    ⟨(some 57), .call f_touchstonelaw05_same [(.t 53), (.t 56)], (some (50, true))⟩,
    ⟨(some 58), .pick (.t 50) (.t 57) (.c (.b false)), none⟩,
    ⟨(some 9), .mv (.t 58), none⟩] [(3, (2, 3)), (11, (10, 11)), (20, (19, 20))])
  (.seq (.seq (.reg [⟨(some 10), .mv (.c (.i .i64 0)), none⟩])
  (.blk 2 (.loop (.seq (.seq (.reg [⟨(some 59), .mv (.t 10), none⟩,
      ⟨(some 60), .mv (.t 1), none⟩,
      ⟨(some 61), .len 1 (.t 60), none⟩,
      ⟨(some 62), .bin .lss (.t 59) (.t 61), none⟩])
    (.cond (.t 62)
     .skip
     (.exit 2)))
    (.seq (.blk 3 (.seq (.thw 1)
     (.regD [⟨(some 65), .mv (.t 9), none⟩,
       ⟨(some 66), .mv (.t 65), none⟩,
       ⟨(some 67), .ld true 4 (.t 8), (some (66, true))⟩,
       ⟨(some 68), .mv (.t 1), (some (66, true))⟩,
       ⟨(some 69), .mv (.t 10), (some (66, true))⟩,
       ⟨(some 70), .ia 3 (.t 68) (.t 69), (some (66, true))⟩,
       ⟨(some 71), .fa 1 (.t 70), (some (66, true))⟩,
       ⟨(some 72), .ld false 1 (.t 71), (some (66, true))⟩,
       ⟨(some 73), .call f_expand_Value [(.t 67), (.t 72)], (some (66, true))⟩,
       ⟨(some 74), .ld true 4 (.t 3), (some (66, true))⟩,
       ⟨(some 75), .mv (.t 1), (some (66, true))⟩,
       ⟨(some 76), .mv (.t 10), (some (66, true))⟩,
       ⟨(some 77), .ia 3 (.t 75) (.t 76), (some (66, true))⟩,
       ⟨(some 78), .fa 1 (.t 77), (some (66, true))⟩,
       ⟨(some 79), .ld false 1 (.t 78), (some (66, true))⟩,
       ⟨(some 80), .call f_touchstoneref05_Value [(.t 74), (.t 79)], (some (66, true))⟩,
       ⟨(some 81), .bin .eql (.t 73) (.t 80), (some (66, true))⟩,
       ⟨(some 82), .pick (.t 66) (.t 81) (.c (.b false)), none⟩,
       ⟨(some 9), .mv (.t 82), none⟩] [(9, (8, 9)), (14, (8, 14))])))
    (.reg [⟨(some 63), .mv (.t 10), none⟩,
      ⟨(some 64), .bin .add (.t 63) (.c (.i .i64 1)), none⟩,
      ⟨(some 10), .mv (.t 64), none⟩]))))))
  (.seq (.regD [⟨(some 83), .mv (.t 9), none⟩,
    ⟨(some 84), .mv (.t 83), none⟩,
    ⟨(some 85), .ld true 4 (.t 8), (some (84, true))⟩,
    ⟨(some 86), .call f_touchstonelaw05_back [(.t 85)], (some (84, true))⟩,
    ⟨(some 87), .ld true 4 (.t 3), (some (84, true))⟩,
    ⟨(some 88), .call f_touchstoneref05_Same [(.t 86), (.t 87)], (some (84, true))⟩,
    ⟨(some 89), .pick (.t 84) (.t 88) (.c (.b false)), none⟩,
    ⟨(some 6), .mv (.t 89), none⟩] [(4, (3, 4))])
  .ret))))))) }
def c_touchstonelaw05_works : Fun := { cin := [], cout := [.id], ntmps := 63, keep := false, res := [(0, none)], body :=
  (.seq (.reg [⟨(some 0), .mv (.c (.b false)), none⟩])
  (.seq (.reg [⟨(some 2), .call f_touchstonelaw05_vars [(.c (.s [97, 32, 32, 98, 32]))], none⟩,
    ⟨(some 1), .alloc 28 [.nsl, .nsl, .nsl, (.i .i64 0)], none⟩,
    ⟨none, .st 4 (.t 1) (.t 2), none⟩])
  (.seq (.regD [⟨(some 3), .ld true 4 (.t 1), none⟩,
    ⟨(some 4), .callQ false f_touchstonelaw05_par [(.c (.s [120]))], none⟩,
    ⟨(some 5), .bsl 3 [(.t 4)], none⟩,
    ⟨(some 6), .bsl 1 [(.c (.s [97])), (.c (.s [98]))], none⟩,
    ⟨(some 7), .callQ false f_touchstonelaw05_fields [(.t 3), (.t 5), (.t 6)], none⟩,
    ⟨(some 8), .mv (.t 7), none⟩,
    ⟨(some 9), .ld true 4 (.t 1), (some (8, true))⟩,
    ⟨(some 10), .callQ false f_touchstonelaw05_qpar [(.c (.s [120]))], (some (8, true))⟩,
    ⟨(some 11), .bsl 3 [(.t 10)], (some (8, true))⟩,
    ⟨(some 12), .bsl 1 [(.c (.s [97, 32, 32, 98, 32]))], (some (8, true))⟩,
    ⟨(some 13), .callQ false f_touchstonelaw05_fields [(.t 9), (.t 11), (.t 12)], (some (8, true))⟩,
    ⟨(some 14), .pick (.t 8) (.t 13) (.c (.b false)), none⟩,
    ⟨(some 15), .mv (.t 14), none⟩,
    ⟨(some 16), .ld true 4 (.t 1), (some (15, true))⟩,
    ⟨(some 17), .callQ false f_touchstonelaw05_lit [(.c (.s [99]))], (some (15, true))⟩,
    ⟨(some 18), .callQ false f_touchstonelaw05_par [(.c (.s [120]))], (some (15, true))⟩,
    ⟨(some 19), .callQ false f_touchstonelaw05_quo [(.c (.s [100]))], (some (15, true))⟩,
    ⟨(some 20), .bsl 3 [(.t 17), (.t 18), (.t 19)], (some (15, true))⟩,
    ⟨(some 21), .bsl 1 [(.c (.s [99, 97])), (.c (.s [98])), (.c (.s [100]))], (some (15, true))⟩,
    ⟨(some 22), .callQ false f_touchstonelaw05_fields [(.t 16), (.t 20), (.t 21)], (some (15, true))⟩,
    ⟨(some 23), .pick (.t 15) (.t 22) (.c (.b false)), none⟩,
    ⟨(some 24), .mv (.t 23), none⟩,
    ⟨(some 25), .ld true 4 (.t 1), (some (24, true))⟩,
    ⟨(some 26), .callQ false f_touchstonelaw05_par [(.c (.s [121]))], (some (24, true))⟩,
    ⟨(some 27), .bsl 3 [(.t 26)], (some (24, true))⟩,
    ⟨(some 28), .callQ false f_touchstonelaw05_fields [(.t 25), (.t 27), (.c .nsl)], (some (24, true))⟩,
    ⟨(some 29), .pick (.t 24) (.t 28) (.c (.b false)), none⟩,
    ⟨(some 30), .mv (.t 29), none⟩,
    ⟨(some 31), .ld true 4 (.t 1), (some (30, true))⟩,
    ⟨(some 32), .callQ false f_touchstonelaw05_quo [(.c (.s []))], (some (30, true))⟩,
    ⟨(some 33), .bsl 3 [(.t 32)], (some (30, true))⟩,
    ⟨(some 34), .bsl 1 [(.c (.s []))], (some (30, true))⟩,
    ⟨(some 35), .callQ false f_touchstonelaw05_fields [(.t 31), (.t 33), (.t 34)], (some (30, true))⟩,
    ⟨(some 36), .pick (.t 30) (.t 35) (.c (.b false)), none⟩,
    ⟨(some 37), .mv (.t 36), none⟩,
    ⟨(some 38), .ld true 4 (.t 1), (some (37, true))⟩,
    ⟨(some 39), .callQ false f_touchstonelaw05_lit [(.c (.s [99]))], (some (37, true))⟩,
    ⟨(some 40), .callQ false f_touchstonelaw05_par [(.c (.s [121]))], (some (37, true))⟩,
    ⟨(some 41), .bsl 3 [(.t 39), (.t 40)], (some (37, true))⟩,
    ⟨(some 42), .bsl 1 [(.c (.s [99]))], (some (37, true))⟩,
    ⟨(some 43), .callQ false f_touchstonelaw05_fields [(.t 38), (.t 41), (.t 42)], (some (37, true))⟩,
    ⟨(some 44), .pick (.t 37) (.t 43) (.c (.b false)), none⟩,
    ⟨(some 45), .mv (.t 44), none⟩,
    ⟨(some 46), .ld true 4 (.t 1), (some (45, true))⟩,
    ⟨(some 47), .callQ false f_touchstonelaw05_lit [(.c (.s [99]))], (some (45, true))⟩,
    ⟨(some 48), .callQ false f_touchstonelaw05_par [(.c (.s [120]))], (some (45, true))⟩,
    ⟨(some 49), .bsl 3 [(.t 47), (.t 48)], (some (45, true))⟩,
    ⟨(some 50), .callQ false f_expand_Text [(.t 46), (.t 49)], (some (45, true))⟩,
    ⟨(some 51), .bin .eql (.t 50) (.c (.s [99, 97, 32, 32, 98, 32])), (some (45, true))⟩,
    ⟨(some 52), .pick (.t 45) (.t 51) (.c (.b false)), none⟩,
    ⟨(some 53), .mv (.t 52), none⟩,
    ⟨(some 54), .ld true 4 (.t 1), (some (53, true))⟩,
    ⟨(some 55), .callQ false f_expand_Value [(.t 54), (.c (.s [35]))], (some (53, true))⟩,
    ⟨(some 56), .bin .eql (.t 55) (.c (.s [50])), (some (53, true))⟩,
    ⟨(some 57), .pick (.t 53) (.t 56) (.c (.b false)), none⟩,
    ⟨(some 58), .mv (.t 57), none⟩,
    ⟨(some 59), .ld true 4 (.t 1), (some (58, true))⟩,
    ⟨(some 60), .callQ false f_expand_Value [(.t 59), (.c (.s [51]))], (some (58, true))⟩,
    ⟨(some 61), .bin .eql (.t 60) (.c (.s [])), (some (58, true))⟩,
    ⟨(some 62), .pick (.t 58) (.t 61) (.c (.b false)), none⟩,
    ⟨(some 0), .mv (.t 62), none⟩] [(0, (0, 2)), (6, (6, 8)), (13, (13, 17)), (22, (22, 24)), (28, (28, 30)), (35, (35, 38)), (43, (43, 46))])
  .ret))) }
def c_touchstonelaw05_large : Fun := { cin := [(.agg [(.sl 1 .id), (.sl 1 .id), (.sl 1 .id), .id]), (.sl 3 (.agg [.id, .id, .id]))], cout := [.id], ntmps := 47, keep := false, res := [(4, none)], body :=
  (.seq (.reg [⟨(some 2), .box 24 4 (.t 0), none⟩,
    ⟨(some 4), .mv (.c (.b false)), none⟩])
  (.seq (.reg [⟨(some 7), .fa 0 (.t 2), none⟩,
    ⟨(some 8), .ld false 1 (.t 7), none⟩,
    ⟨(some 9), .call f_touchstonelaw05_texts [(.t 8)], none⟩,
    ⟨(some 5), .mv (.t 9), none⟩])
  (.seq (.reg [⟨(some 10), .mv (.t 5), none⟩,
    ⟨(some 11), .fa 1 (.t 2), none⟩,
    ⟨(some 12), .ld false 1 (.t 11), none⟩,
    ⟨(some 13), .call f_touchstonelaw05_texts [(.t 12)], none⟩,
    ⟨(some 14), .bin .add (.t 10) (.t 13), none⟩,
    ⟨(some 5), .mv (.t 14), none⟩])
  (.seq (.reg [⟨(some 15), .mv (.t 5), none⟩,
    ⟨(some 16), .fa 2 (.t 2), none⟩,
    ⟨(some 17), .ld false 1 (.t 16), none⟩,
    ⟨(some 18), .call f_touchstonelaw05_texts [(.t 17)], none⟩,
    ⟨(some 19), .bin .add (.t 15) (.t 18), none⟩,
    ⟨(some 5), .mv (.t 19), none⟩])
  (.seq (.seq (.reg [⟨(some 6), .mv (.c (.i .i64 0)), none⟩])
  (.blk 0 (.loop (.seq (.seq (.reg [⟨(some 20), .mv (.t 6), none⟩,
      ⟨(some 21), .mv (.t 1), none⟩,
      ⟨(some 22), .len 1 (.t 21), none⟩,
      ⟨(some 23), .bin .lss (.t 20) (.t 22), none⟩,
      ⟨(some 24), .mv (.t 23), none⟩,
      ⟨(some 25), .mv (.t 5), (some (24, true))⟩,
      ⟨(some 26), .bin .lss (.t 25) (.c (.i .i64 20000)), (some (24, true))⟩,
      ⟨(some 27), .pick (.t 24) (.t 26) (.c (.b false)), none⟩])
    (.cond (.t 27)
     .skip
     (.exit 0)))
    (.seq (.blk 1 (.seq (.thw 1)
     (.reg [⟨(some 30), .mv (.t 5), none⟩,
       ⟨(some 31), .bin .add (.t 30) (.c (.i .i64 1)), none⟩,
       ⟨(some 32), .mv (.t 1), none⟩,
       ⟨(some 33), .mv (.t 6), none⟩,
       ⟨(some 34), .ia 3 (.t 32) (.t 33), none⟩,
       ⟨(some 35), .fa 1 (.t 34), none⟩,
       ⟨(some 36), .ld false 1 (.t 35), none⟩,
       ⟨(some 37), .len 0 (.t 36), none⟩,
       ⟨(some 38), .mm false (.t 37) (.c (.i .i64 20000)), none⟩,
       ⟨(some 39), .bin .add (.t 31) (.t 38), none⟩,
       ⟨(some 5), .mv (.t 39), none⟩])))
    (.reg [⟨(some 28), .mv (.t 6), none⟩,
      ⟨(some 29), .bin .add (.t 28) (.c (.i .i64 1)), none⟩,
      ⟨(some 6), .mv (.t 29), none⟩]))))))
  (.seq (.reg [⟨(some 40), .mv (.t 5), none⟩,
    ⟨(some 41), .bin .geq (.t 40) (.c (.i .i64 20000)), none⟩,
    ⟨(some 42), .mv (.t 41), none⟩,
    ⟨(some 43), .mv (.t 1), (some (42, false))⟩,
    ⟨(some 44), .len 1 (.t 43), (some (42, false))⟩,
    ⟨(some 45), .bin .gtr (.t 44) (.c (.i .i64 200)), (some (42, false))⟩,
    ⟨(some 46), .pick (.t 42) (.c (.b true)) (.t 45), none⟩,
    ⟨(some 4), .mv (.t 46), none⟩])
  .ret)))))) }
def c_touchstonelaw05_given : Fun := { cin := [(.agg [(.sl 1 .id), (.sl 1 .id), (.sl 1 .id), .id])], cout := [(.agg [(.sl 1 .id), (.sl 1 .id), (.sl 1 .id), .id])], ntmps := 18, keep := false, res := [(2, some (true, 4))], body :=
  (.seq (.reg [⟨(some 1), .box 24 4 (.t 0), none⟩,
    ⟨(some 2), .alloc 28 [.nsl, .nsl, .nsl, (.i .i64 0)], none⟩])
  (.seq (.regD [⟨(some 3), .bsl 1 [], none⟩,
    ⟨(some 4), .fa 0 (.t 1), none⟩,
    ⟨(some 5), .ld false 1 (.t 4), none⟩,
    ⟨(some 6), .appQ 1 9 (.t 3) (.t 5), none⟩,
    ⟨(some 7), .bsl 1 [], none⟩,
    ⟨(some 8), .fa 1 (.t 1), none⟩,
    ⟨(some 9), .ld false 1 (.t 8), none⟩,
    ⟨(some 10), .appQ 1 9 (.t 7) (.t 9), none⟩,
    ⟨(some 11), .bsl 1 [], none⟩,
    ⟨(some 12), .fa 2 (.t 1), none⟩,
    ⟨(some 13), .ld false 1 (.t 12), none⟩,
    ⟨(some 14), .appQ 1 9 (.t 11) (.t 13), none⟩,
    ⟨(some 15), .fa 3 (.t 1), none⟩,
    ⟨(some 16), .ld false 1 (.t 15), none⟩,
    ⟨(some 17), .build [.nsl, .nsl, .nsl, (.i .i64 0)] [(0, 1, (.t 6)), (1, 1, (.t 10)), (2, 1, (.t 14)), (3, 1, (.t 16))], none⟩,
    ⟨none, .st 4 (.t 2) (.t 17), none⟩] [(6, (3, 6)), (10, (3, 10)), (13, (3, 13))])
  .ret)) }
def c_touchstonelaw05_blank : Fun := { cin := [.id], cout := [.id], ntmps := 13, keep := false, res := [(2, none)], body :=
  (.seq (.reg [⟨(some 2), .mv (.c (.b false)), none⟩])
  (.seq (.reg [⟨(some 3), .mv (.t 0), none⟩,
    ⟨(some 4), .bin .eql (.t 3) (.c (.i .u8 32)), none⟩,
    ⟨(some 5), .mv (.t 4), none⟩,
    ⟨(some 6), .mv (.t 0), (some (5, false))⟩,
    ⟨(some 7), .bin .eql (.t 6) (.c (.i .u8 9)), (some (5, false))⟩,
    ⟨(some 8), .pick (.t 5) (.c (.b true)) (.t 7), none⟩,
    ⟨(some 9), .mv (.t 8), none⟩,
    ⟨(some 10), .mv (.t 0), (some (9, false))⟩,
    ⟨(some 11), .bin .eql (.t 10) (.c (.i .u8 10)), (some (9, false))⟩,
    ⟨(some 12), .pick (.t 9) (.c (.b true)) (.t 11), none⟩,
    ⟨(some 2), .mv (.t 12), none⟩])
  .ret)) }
def c_expand_Fields : Fun := { cin := [(.agg [(.sl 1 .id), (.sl 1 .id), (.sl 1 .id), .id]), (.sl 3 (.agg [.id, .id, .id]))], cout := [(.sl 1 .id)], ntmps := 51, keep := false, res := [(4, none)], body :=
  (.seq (.reg [⟨(some 2), .box 28 4 (.t 0), none⟩,
    ⟨(some 4), .mv (.c .nsl), none⟩])
  (.seq (.reg [⟨(some 10), .ld true 4 (.t 2), none⟩,
    ⟨(some 11), .call f_expand_values [(.t 10)], none⟩,
    ⟨(some 5), .mv (.t 11), none⟩])
  (.seq (.reg [⟨(some 12), .build [.nsl, .nsl, (.b false)] [], none⟩,
    ⟨(some 13), .box 61 3 (.t 12), none⟩,
    ⟨(some 6), .mv (.t 13), none⟩])
  (.seq (.seq (.reg [⟨(some 14), .mv (.t 1), none⟩,
    ⟨(some 15), .len 1 (.t 14), none⟩,
    ⟨(some 16), .mv (.c (.i .i64 0)), none⟩])
  (.blk 0 (.loop (.seq (.reg [⟨(some 17), .bin .lss (.t 16) (.t 15), none⟩])
    (.seq (.cond (.t 17)
     .skip
     (.exit 0))
    (.seq (.blk 1 (.seq (.reg [⟨(some 18), .ia 3 (.t 14) (.t 16), none⟩,
       ⟨(some 19), .ld true 3 (.t 18), none⟩,
       ⟨(some 8), .alloc 31 [(.b false), (.s []), (.b false)], none⟩,
       ⟨none, .st 3 (.t 8) (.t 19), none⟩])
     (.seq (.reg [⟨(some 20), .mv (.t 5), none⟩,
       ⟨(some 21), .ld true 3 (.t 8), none⟩,
       ⟨(some 22), .callX (.t 20) [(.t 21)], none⟩,
       ⟨(some 9), .mv (.t 22), none⟩])
     (.blk 2 (.seq (.reg [⟨(some 24), .fa 0 (.t 8), none⟩,
        ⟨(some 25), .ld false 1 (.t 24), none⟩,
        ⟨(some 26), .mv (.t 25), none⟩,
        ⟨(some 27), .fa 2 (.t 8), (some (26, true))⟩,
        ⟨(some 28), .ld false 1 (.t 27), (some (26, true))⟩,
        ⟨(some 29), .un .not (.t 28), (some (26, true))⟩,
        ⟨(some 30), .pick (.t 26) (.t 29) (.c (.b false)), none⟩,
        ⟨(some 23), .mv (.t 30), none⟩])
      (.cond (.t 23)
       (.reg [⟨(some 31), .mv (.t 6), none⟩,
         ⟨(some 32), .mv (.t 9), none⟩,
         ⟨(some 33), .call f_expand_builder_split [(.t 31), (.t 32)], none⟩])
       (.seq (.reg [⟨(some 35), .fa 2 (.t 8), none⟩,
         ⟨(some 36), .ld false 1 (.t 35), none⟩,
         ⟨(some 37), .mv (.t 36), none⟩,
         ⟨(some 38), .mv (.t 9), (some (37, false))⟩,
         ⟨(some 39), .bin .neq (.t 38) (.c (.s [])), (some (37, false))⟩,
         ⟨(some 40), .pick (.t 37) (.c (.b true)) (.t 39), none⟩,
         ⟨(some 34), .mv (.t 40), none⟩])
       (.cond (.t 34)
        (.reg [⟨(some 41), .mv (.t 6), none⟩,
          ⟨(some 42), .mv (.t 9), none⟩,
          ⟨(some 43), .call f_expand_builder_add [(.t 41), (.t 42)], none⟩])
        .skip))))))))
    (.reg [⟨(some 44), .bin .add (.t 16) (.c (.i .i64 1)), none⟩,
      ⟨(some 16), .mv (.t 44), none⟩])))))))
  (.seq (.reg [⟨(some 45), .mv (.t 6), none⟩,
    ⟨(some 46), .call f_expand_builder_end [(.t 45)], none⟩])
  (.seq (.reg [⟨(some 47), .mv (.t 6), none⟩,
    ⟨(some 48), .nck (.t 47), none⟩,
    ⟨(some 49), .fa 0 (.t 48), none⟩,
    ⟨(some 50), .ld false 1 (.t 49), none⟩,
    ⟨(some 4), .mv (.t 50), none⟩])
  .ret)))))) }
def c_expand_Text : Fun := { cin := [(.agg [(.sl 1 .id), (.sl 1 .id), (.sl 1 .id), .id]), (.sl 3 (.agg [.id, .id, .id]))], cout := [.id], ntmps := 23, keep := false, res := [(4, none)], body :=
  (.seq (.reg [⟨(some 2), .box 28 4 (.t 0), none⟩,
    ⟨(some 4), .mv (.c (.s [])), none⟩])
  (.seq (.reg [⟨(some 9), .ld true 4 (.t 2), none⟩,
    ⟨(some 10), .call f_expand_values [(.t 9)], none⟩,
    ⟨(some 5), .mv (.t 10), none⟩])
  (.seq (.reg [⟨(some 6), .alloc 65 [.np, .nsl], none⟩])
  (.seq (.seq (.reg [⟨(some 11), .mv (.t 1), none⟩,
    ⟨(some 12), .len 1 (.t 11), none⟩,
    ⟨(some 13), .mv (.c (.i .i64 0)), none⟩])
  (.blk 0 (.loop (.seq (.reg [⟨(some 14), .bin .lss (.t 13) (.t 12), none⟩])
    (.seq (.cond (.t 14)
     .skip
     (.exit 0))
    (.seq (.blk 1 (.seq (.reg [⟨(some 15), .ia 3 (.t 11) (.t 13), none⟩,
       ⟨(some 16), .ld true 3 (.t 15), none⟩,
       ⟨(some 8), .alloc 31 [(.b false), (.s []), (.b false)], none⟩,
       ⟨none, .st 3 (.t 8) (.t 16), none⟩])
     (.reg [⟨(some 17), .mv (.t 5), none⟩,
       ⟨(some 18), .ld true 3 (.t 8), none⟩,
       ⟨(some 19), .callX (.t 17) [(.t 18)], none⟩,
       ⟨(some 20), .call f_strings_Builder_WriteString [(.t 6), (.t 19)], none⟩])))
    (.reg [⟨(some 21), .bin .add (.t 13) (.c (.i .i64 1)), none⟩,
      ⟨(some 13), .mv (.t 21), none⟩])))))))
  (.seq (.reg [⟨(some 22), .call f_strings_Builder_String [(.t 6)], none⟩,
    ⟨(some 4), .mv (.t 22), none⟩])
  .ret))))) }
def c_touchstonelaw05_same : Fun := { cin := [(.sl 1 .id), (.sl 1 .id)], cout := [.id], ntmps := 26, keep := false, res := [(4, none)], body :=
  (.seq (.reg [⟨(some 4), .mv (.c (.b false)), none⟩])
  (.seq (.seq (.reg [⟨(some 6), .mv (.t 0), none⟩,
    ⟨(some 7), .len 1 (.t 6), none⟩,
    ⟨(some 8), .mv (.t 1), none⟩,
    ⟨(some 9), .len 1 (.t 8), none⟩,
    ⟨(some 10), .bin .neq (.t 7) (.t 9), none⟩])
  (.cond (.t 10)
   (.seq (.reg [⟨(some 4), .mv (.c (.b false)), none⟩])
   .ret)
   .skip))
  (.seq (.seq (.reg [⟨(some 5), .mv (.c (.i .i64 0)), none⟩])
  (.blk 0 (.loop (.seq (.seq (.reg [⟨(some 11), .mv (.t 5), none⟩,
      ⟨(some 12), .mv (.t 0), none⟩,
      ⟨(some 13), .len 1 (.t 12), none⟩,
      ⟨(some 14), .bin .lss (.t 11) (.t 13), none⟩])
    (.cond (.t 14)
     .skip
     (.exit 0)))
    (.seq (.blk 1 (.seq (.regD [⟨(some 17), .mv (.t 0), none⟩,
       ⟨(some 18), .mv (.t 5), none⟩,
       ⟨(some 19), .ia 1 (.t 17) (.t 18), none⟩,
       ⟨(some 20), .ld false 1 (.t 19), none⟩,
       ⟨(some 21), .mv (.t 1), none⟩,
       ⟨(some 22), .mv (.t 5), none⟩,
       ⟨(some 23), .ia 1 (.t 21) (.t 22), none⟩,
       ⟨(some 24), .ld false 1 (.t 23), none⟩,
       ⟨(some 25), .bin .neq (.t 20) (.t 24), none⟩] [])
     (.cond (.t 25)
      (.seq (.reg [⟨(some 4), .mv (.c (.b false)), none⟩])
      .ret)
      .skip)))
    (.reg [⟨(some 15), .mv (.t 5), none⟩,
      ⟨(some 16), .bin .add (.t 15) (.c (.i .i64 1)), none⟩,
      ⟨(some 5), .mv (.t 16), none⟩]))))))
  (.seq (.reg [⟨(some 4), .mv (.c (.b true)), none⟩])
  .ret)))) }
def c_touchstonelaw05_par : Fun := { cin := [.id], cout := [(.agg [.id, .id, .id])], ntmps := 5, keep := false, res := [(2, some (true, 3))], body :=
  (.seq (.reg [⟨(some 2), .alloc 31 [(.b false), (.s []), (.b false)], none⟩])
  (.seq (.reg [⟨(some 3), .mv (.t 0), none⟩,
    ⟨(some 4), .build [(.b false), (.s []), (.b false)] [(0, 1, (.c (.b true))), (1, 1, (.t 3))], none⟩,
    ⟨none, .st 3 (.t 2) (.t 4), none⟩])
  .ret)) }
def c_touchstoneref05_Text : Fun := { cin := [(.agg [(.sl 1 .id), (.sl 1 .id), (.sl 1 .id), .id]), (.sl 3 (.agg [.id, .id, .id]))], cout := [.id], ntmps := 22, keep := false, res := [(4, none)], body :=
  (.seq (.reg [⟨(some 2), .box 24 4 (.t 0), none⟩,
    ⟨(some 4), .mv (.c (.s [])), none⟩])
  (.seq (.reg [⟨(some 5), .mv (.c (.s [])), none⟩])
  (.seq (.seq (.reg [⟨(some 6), .mv (.c (.i .i64 0)), none⟩])
  (.blk 0 (.loop (.seq (.seq (.reg [⟨(some 7), .mv (.t 6), none⟩,
      ⟨(some 8), .mv (.t 1), none⟩,
      ⟨(some 9), .len 1 (.t 8), none⟩,
      ⟨(some 10), .bin .lss (.t 7) (.t 9), none⟩])
    (.cond (.t 10)
     .skip
     (.exit 0)))
    (.seq (.blk 1 (.regD [⟨(some 13), .mv (.t 5), none⟩,
       ⟨(some 14), .ld true 4 (.t 2), none⟩,
       ⟨(some 15), .mv (.t 1), none⟩,
       ⟨(some 16), .mv (.t 6), none⟩,
       ⟨(some 17), .ia 3 (.t 15) (.t 16), none⟩,
       ⟨(some 18), .ld true 3 (.t 17), none⟩,
       ⟨(some 19), .call f_touchstoneref05_of [(.t 14), (.t 18)], none⟩,
       ⟨(some 20), .bin .add (.t 13) (.t 19), none⟩,
       ⟨(some 5), .mv (.t 20), none⟩] []))
    (.reg [⟨(some 11), .mv (.t 6), none⟩,
      ⟨(some 12), .bin .add (.t 11) (.c (.i .i64 1)), none⟩,
      ⟨(some 6), .mv (.t 12), none⟩]))))))
  (.seq (.reg [⟨(some 21), .mv (.t 5), none⟩,
    ⟨(some 4), .mv (.t 21), none⟩])
  .ret)))) }
def c_touchstoneref05_Fields : Fun := { cin := [(.agg [(.sl 1 .id), (.sl 1 .id), (.sl 1 .id), .id]), (.sl 3 (.agg [.id, .id, .id]))], cout := [(.sl 1 .id)], ntmps := 91, keep := false, res := [(4, none)], body :=
  (.seq (.reg [⟨(some 2), .box 24 4 (.t 0), none⟩,
    ⟨(some 4), .mv (.c .nsl), none⟩])
  (.seq (.reg [⟨(some 5), .mv (.c .nsl), none⟩])
  (.seq (.reg [⟨(some 6), .mv (.c (.b false)), none⟩])
  (.seq (.reg [⟨(some 7), .mv (.c (.s [])), none⟩])
  (.seq (.seq (.reg [⟨(some 8), .mv (.c (.i .i64 0)), none⟩])
  (.blk 0 (.loop (.seq (.seq (.reg [⟨(some 11), .mv (.t 8), none⟩,
      ⟨(some 12), .mv (.t 1), none⟩,
      ⟨(some 13), .len 1 (.t 12), none⟩,
      ⟨(some 14), .bin .lss (.t 11) (.t 13), none⟩])
    (.cond (.t 14)
     .skip
     (.exit 0)))
    (.seq (.blk 1 (.seq (.regD [⟨(some 17), .ld true 4 (.t 2), none⟩,
       ⟨(some 18), .mv (.t 1), none⟩,
       ⟨(some 19), .mv (.t 8), none⟩,
       ⟨(some 20), .ia 3 (.t 18) (.t 19), none⟩,
       ⟨(some 21), .ld true 3 (.t 20), none⟩,
       ⟨(some 22), .call f_touchstoneref05_of [(.t 17), (.t 21)], none⟩,
       ⟨(some 9), .mv (.t 22), none⟩] [])
     (.seq (.seq (.seq (.thw 1)
     (.reg [⟨(some 23), .mv (.t 1), none⟩,
       ⟨(some 24), .mv (.t 8), none⟩,
       ⟨(some 25), .ia 3 (.t 23) (.t 24), none⟩,
       ⟨(some 26), .fa 2 (.t 25), none⟩,
       ⟨(some 27), .ld false 1 (.t 26), none⟩,
       ⟨(some 28), .mv (.t 27), none⟩,
       ⟨(some 29), .mv (.t 1), (some (28, false))⟩,
       ⟨(some 30), .mv (.t 8), (some (28, false))⟩,
       ⟨(some 31), .ia 3 (.t 29) (.t 30), (some (28, false))⟩,
       ⟨(some 32), .fa 0 (.t 31), (some (28, false))⟩,
       ⟨(some 33), .ld false 1 (.t 32), (some (28, false))⟩,
       ⟨(some 34), .un .not (.t 33), (some (28, false))⟩,
       ⟨(some 35), .pick (.t 28) (.c (.b true)) (.t 34), none⟩]))
     (.cond (.t 35)
      (.seq (.seq (.thw 1)
      (.reg [⟨(some 36), .mv (.t 6), none⟩,
        ⟨(some 37), .mv (.t 36), none⟩,
        ⟨(some 38), .mv (.t 1), (some (37, false))⟩,
        ⟨(some 39), .mv (.t 8), (some (37, false))⟩,
        ⟨(some 40), .ia 3 (.t 38) (.t 39), (some (37, false))⟩,
        ⟨(some 41), .fa 2 (.t 40), (some (37, false))⟩,
        ⟨(some 42), .ld false 1 (.t 41), (some (37, false))⟩,
        ⟨(some 43), .pick (.t 37) (.c (.b true)) (.t 42), none⟩,
        ⟨(some 44), .mv (.t 43), none⟩,
        ⟨(some 45), .mv (.t 9), (some (44, false))⟩,
        ⟨(some 46), .bin .neq (.t 45) (.c (.s [])), (some (44, false))⟩,
        ⟨(some 47), .pick (.t 44) (.c (.b true)) (.t 46), none⟩,
        ⟨(some 6), .mv (.t 47), none⟩]))
      (.seq (.reg [⟨(some 48), .mv (.t 7), none⟩,
        ⟨(some 49), .mv (.t 9), none⟩,
        ⟨(some 50), .bin .add (.t 48) (.t 49), none⟩,
        ⟨(some 7), .mv (.t 50), none⟩])
      (.exit 1)))
      .skip))
     (.seq (.reg [⟨(some 10), .mv (.c (.i .i64 0)), none⟩])
     (.blk 2 (.loop (.seq (.seq (.reg [⟨(some 51), .mv (.t 10), none⟩,
         ⟨(some 52), .mv (.t 9), none⟩,
         ⟨(some 53), .len 0 (.t 52), none⟩,
         ⟨(some 54), .bin .lss (.t 51) (.t 53), none⟩])
       (.cond (.t 54)
        .skip
        (.exit 2)))
       (.seq (.blk 3 (.seq (.reg [⟨(some 57), .mv (.t 9), none⟩,
          ⟨(some 58), .mv (.t 10), none⟩,
          ⟨(some 59), .ixS (.t 57) (.t 58), none⟩,
          ⟨(some 60), .bin .eql (.t 59) (.c (.i .u8 32)), none⟩,
          ⟨(some 61), .mv (.t 60), none⟩,
          ⟨(some 62), .mv (.t 9), (some (61, false))⟩,
          ⟨(some 63), .mv (.t 10), (some (61, false))⟩,
          ⟨(some 64), .ixS (.t 62) (.t 63), (some (61, false))⟩,
          ⟨(some 65), .bin .eql (.t 64) (.c (.i .u8 9)), (some (61, false))⟩,
          ⟨(some 66), .pick (.t 61) (.c (.b true)) (.t 65), none⟩,
          ⟨(some 67), .mv (.t 66), none⟩,
          ⟨(some 68), .mv (.t 9), (some (67, false))⟩,
          ⟨(some 69), .mv (.t 10), (some (67, false))⟩,
          ⟨(some 70), .ixS (.t 68) (.t 69), (some (67, false))⟩,
          ⟨(some 71), .bin .eql (.t 70) (.c (.i .u8 10)), (some (67, false))⟩,
          ⟨(some 72), .pick (.t 67) (.c (.b true)) (.t 71), none⟩])
        (.cond (.t 72)
         (.seq (.seq (.reg [⟨(some 73), .mv (.t 6), none⟩])
         (.cond (.t 73)
          (.reg [⟨(some 74), .mv (.t 5), none⟩,
            ⟨(some 75), .mv (.t 7), none⟩,
            ⟨(some 76), .bsl 1 [(.t 75)], none⟩,
            ⟨(some 77), .app 1 9 (.t 74) (.t 76), none⟩,
            ⟨(some 5), .mv (.t 77), none⟩])
          .skip))
         (.seq (.reg [⟨(some 6), .mv (.c (.b false)), none⟩])
         (.reg [⟨(some 7), .mv (.c (.s [])), none⟩])))
         (.seq (.reg [⟨(some 6), .mv (.c (.b true)), none⟩])
         (.reg [⟨(some 78), .mv (.t 7), none⟩,
           ⟨(some 79), .mv (.t 9), none⟩,
           ⟨(some 80), .mv (.t 10), none⟩,
           ⟨(some 81), .mv (.t 10), none⟩,
           ⟨(some 82), .bin .add (.t 81) (.c (.i .i64 1)), none⟩,
           ⟨(some 83), .slS (.t 79) (some (.t 80)) (some (.t 82)), none⟩,
           ⟨(some 84), .bin .add (.t 78) (.t 83), none⟩,
           ⟨(some 7), .mv (.t 84), none⟩])))))
       (.reg [⟨(some 55), .mv (.t 10), none⟩,
         ⟨(some 56), .bin .add (.t 55) (.c (.i .i64 1)), none⟩,
         ⟨(some 10), .mv (.t 56), none⟩])))))))))
    (.reg [⟨(some 15), .mv (.t 8), none⟩,
      ⟨(some 16), .bin .add (.t 15) (.c (.i .i64 1)), none⟩,
      ⟨(some 8), .mv (.t 16), none⟩]))))))
  (.seq (.seq (.reg [⟨(some 85), .mv (.t 6), none⟩])
  (.cond (.t 85)
   (.reg [⟨(some 86), .mv (.t 5), none⟩,
     ⟨(some 87), .mv (.t 7), none⟩,
     ⟨(some 88), .bsl 1 [(.t 87)], none⟩,
     ⟨(some 89), .app 1 9 (.t 86) (.t 88), none⟩,
     ⟨(some 5), .mv (.t 89), none⟩])
   .skip))
  (.seq (.reg [⟨(some 90), .mv (.t 5), none⟩,
    ⟨(some 4), .mv (.t 90), none⟩])
  .ret))))))) }
def c_expand_Items : Fun := { cin := [(.agg [(.sl 1 .id), (.sl 1 .id), (.sl 1 .id), .id]), (.sl 2 (.agg [(.sl 3 (.agg [.id, .id, .id])), .id]))], cout := [(.sl 1 .id)], ntmps := 31, keep := false, res := [(4, none)], body :=
  (.seq (.reg [⟨(some 2), .box 28 4 (.t 0), none⟩,
    ⟨(some 4), .mv (.c .nsl), none⟩])
  (.seq (.reg [⟨(some 5), .mv (.c .nsl), none⟩])
  (.seq (.seq (.reg [⟨(some 8), .mv (.t 1), none⟩,
    ⟨(some 9), .len 1 (.t 8), none⟩,
    ⟨(some 10), .mv (.c (.i .i64 0)), none⟩])
  (.blk 0 (.loop (.seq (.reg [⟨(some 11), .bin .lss (.t 10) (.t 9), none⟩])
    (.seq (.cond (.t 11)
     .skip
     (.exit 0))
    (.seq (.blk 1 (.seq (.reg [⟨(some 12), .ia 2 (.t 8) (.t 10), none⟩,
       ⟨(some 13), .ld true 2 (.t 12), none⟩,
       ⟨(some 7), .alloc 39 [.nsl, (.b false)], none⟩,
       ⟨none, .st 2 (.t 7) (.t 13), none⟩])
     (.seq (.reg [⟨(some 14), .fa 1 (.t 7), none⟩,
       ⟨(some 15), .ld false 1 (.t 14), none⟩])
     (.cond (.t 15)
      (.reg [⟨(some 16), .mv (.t 5), none⟩,
        ⟨(some 17), .ld true 4 (.t 2), none⟩,
        ⟨(some 18), .fa 0 (.t 7), none⟩,
        ⟨(some 19), .ld false 1 (.t 18), none⟩,
        ⟨(some 20), .call f_expand_Fields [(.t 17), (.t 19)], none⟩,
        ⟨(some 21), .app 1 9 (.t 16) (.t 20), none⟩,
        ⟨(some 5), .mv (.t 21), none⟩])
      (.reg [⟨(some 22), .mv (.t 5), none⟩,
        ⟨(some 23), .ld true 4 (.t 2), none⟩,
        ⟨(some 24), .fa 0 (.t 7), none⟩,
        ⟨(some 25), .ld false 1 (.t 24), none⟩,
        ⟨(some 26), .call f_expand_Text [(.t 23), (.t 25)], none⟩,
        ⟨(some 27), .bsl 1 [(.t 26)], none⟩,
        ⟨(some 28), .app 1 9 (.t 22) (.t 27), none⟩,
        ⟨(some 5), .mv (.t 28), none⟩])))))
    (.reg [⟨(some 29), .bin .add (.t 10) (.c (.i .i64 1)), none⟩,
      ⟨(some 10), .mv (.t 29), none⟩])))))))
  (.seq (.reg [⟨(some 30), .mv (.t 5), none⟩,
    ⟨(some 4), .mv (.t 30), none⟩])
  .ret)))) }
def c_touchstoneref05_Items : Fun := { cin := [(.agg [(.sl 1 .id), (.sl 1 .id), (.sl 1 .id), .id]), (.sl 2 (.agg [(.sl 3 (.agg [.id, .id, .id])), .id]))], cout := [(.sl 1 .id)], ntmps := 38, keep := false, res := [(4, none)], body :=
  (.seq (.reg [⟨(some 2), .box 24 4 (.t 0), none⟩,
    ⟨(some 4), .mv (.c .nsl), none⟩])
  (.seq (.reg [⟨(some 5), .mv (.c .nsl), none⟩])
  (.seq (.seq (.reg [⟨(some 6), .mv (.c (.i .i64 0)), none⟩])
  (.blk 0 (.loop (.seq (.seq (.reg [⟨(some 7), .mv (.t 6), none⟩,
      ⟨(some 8), .mv (.t 1), none⟩,
      ⟨(some 9), .len 1 (.t 8), none⟩,
      ⟨(some 10), .bin .lss (.t 7) (.t 9), none⟩])
    (.cond (.t 10)
     .skip
     (.exit 0)))
    (.seq (.blk 1 (.seq (.seq (.thw 1)
     (.reg [⟨(some 13), .mv (.t 1), none⟩,
       ⟨(some 14), .mv (.t 6), none⟩,
       ⟨(some 15), .ia 2 (.t 13) (.t 14), none⟩,
       ⟨(some 16), .fa 1 (.t 15), none⟩,
       ⟨(some 17), .ld false 1 (.t 16), none⟩]))
     (.cond (.t 17)
      (.seq (.thw 1)
      (.regD [⟨(some 18), .mv (.t 5), none⟩,
        ⟨(some 19), .ld true 4 (.t 2), none⟩,
        ⟨(some 20), .mv (.t 1), none⟩,
        ⟨(some 21), .mv (.t 6), none⟩,
        ⟨(some 22), .ia 2 (.t 20) (.t 21), none⟩,
        ⟨(some 23), .fa 0 (.t 22), none⟩,
        ⟨(some 24), .ld false 1 (.t 23), none⟩,
        ⟨(some 25), .call f_touchstoneref05_Fields [(.t 19), (.t 24)], none⟩,
        ⟨(some 26), .app 1 9 (.t 18) (.t 25), none⟩,
        ⟨(some 5), .mv (.t 26), none⟩] []))
      (.seq (.thw 1)
      (.regD [⟨(some 27), .mv (.t 5), none⟩,
        ⟨(some 28), .ld true 4 (.t 2), none⟩,
        ⟨(some 29), .mv (.t 1), none⟩,
        ⟨(some 30), .mv (.t 6), none⟩,
        ⟨(some 31), .ia 2 (.t 29) (.t 30), none⟩,
        ⟨(some 32), .fa 0 (.t 31), none⟩,
        ⟨(some 33), .ld false 1 (.t 32), none⟩,
        ⟨(some 34), .callQ false f_touchstoneref05_Text [(.t 28), (.t 33)], none⟩,
        ⟨(some 35), .bsl 1 [(.t 34)], none⟩,
        ⟨(some 36), .app 1 9 (.t 27) (.t 35), none⟩,
        ⟨(some 5), .mv (.t 36), none⟩] [])))))
    (.reg [⟨(some 11), .mv (.t 6), none⟩,
      ⟨(some 12), .bin .add (.t 11) (.c (.i .i64 1)), none⟩,
      ⟨(some 6), .mv (.t 12), none⟩]))))))
  (.seq (.reg [⟨(some 37), .mv (.t 5), none⟩,
    ⟨(some 4), .mv (.t 37), none⟩])
  .ret)))) }
def c_expand_Value : Fun := { cin := [(.agg [(.sl 1 .id), (.sl 1 .id), (.sl 1 .id), .id]), .id], cout := [.id], ntmps := 66, keep := false, res := [(4, none)], body :=
  (.seq (.reg [⟨(some 2), .box 28 4 (.t 0), none⟩,
    ⟨(some 4), .mv (.c (.s [])), none⟩])
  (.seq (.blk 0 (.seq (.reg [⟨(some 8), .mv (.t 1), none⟩,
     ⟨(some 9), .bin .eql (.t 8) (.c (.s [35])), none⟩,
     ⟨(some 7), .mv (.t 9), none⟩])
   (.cond (.t 7)
    (.seq (.reg [⟨(some 10), .fa 2 (.t 2), none⟩,
      ⟨(some 11), .ld false 1 (.t 10), none⟩,
      ⟨(some 12), .len 1 (.t 11), none⟩,
      ⟨(some 13), .call f_strconv_Itoa [(.t 12)], none⟩,
      ⟨(some 4), .mv (.t 13), none⟩])
    .ret)
    (.seq (.reg [⟨(some 15), .mv (.t 1), none⟩,
      ⟨(some 16), .bin .eql (.t 15) (.c (.s [63])), none⟩,
      ⟨(some 14), .mv (.t 16), none⟩])
    (.cond (.t 14)
     (.seq (.reg [⟨(some 17), .fa 3 (.t 2), none⟩,
       ⟨(some 18), .ld false 1 (.t 17), none⟩,
       ⟨(some 19), .call f_strconv_Itoa [(.t 18)], none⟩,
       ⟨(some 4), .mv (.t 19), none⟩])
     .ret)
     (.seq (.reg [⟨(some 21), .mv (.t 1), none⟩,
       ⟨(some 22), .len 0 (.t 21), none⟩,
       ⟨(some 23), .bin .eql (.t 22) (.c (.i .i64 1)), none⟩,
       ⟨(some 24), .mv (.t 23), none⟩,
       ⟨(some 25), .mv (.t 1), (some (24, true))⟩,
       ⟨(some 26), .ixS (.t 25) (.c (.i .i64 0)), (some (24, true))⟩,
       ⟨(some 27), .bin .geq (.t 26) (.c (.i .u8 49)), (some (24, true))⟩,
       ⟨(some 28), .pick (.t 24) (.t 27) (.c (.b false)), none⟩,
       ⟨(some 29), .mv (.t 28), none⟩,
       ⟨(some 30), .mv (.t 1), (some (29, true))⟩,
       ⟨(some 31), .ixS (.t 30) (.c (.i .i64 0)), (some (29, true))⟩,
       ⟨(some 32), .bin .leq (.t 31) (.c (.i .u8 57)), (some (29, true))⟩,
       ⟨(some 33), .pick (.t 29) (.t 32) (.c (.b false)), none⟩,
       ⟨(some 20), .mv (.t 33), none⟩])
     (.cond (.t 20)
      (.seq (.seq (.reg [⟨(some 34), .mv (.t 1), none⟩,
        ⟨(some 35), .ixS (.t 34) (.c (.i .i64 0)), none⟩,
        ⟨(some 36), .bin .sub (.t 35) (.c (.i .u8 49)), none⟩,
        ⟨(some 37), .cvI .i64 (.t 36), none⟩,
        ⟨(some 5), .mv (.t 37), none⟩])
      (.seq (.reg [⟨(some 38), .mv (.t 5), none⟩,
        ⟨(some 39), .fa 2 (.t 2), none⟩,
        ⟨(some 40), .ld false 1 (.t 39), none⟩,
        ⟨(some 41), .len 1 (.t 40), none⟩,
        ⟨(some 42), .bin .lss (.t 38) (.t 41), none⟩])
      (.cond (.t 42)
       (.seq (.reg [⟨(some 43), .fa 2 (.t 2), none⟩,
         ⟨(some 44), .ld false 1 (.t 43), none⟩,
         ⟨(some 45), .mv (.t 5), none⟩,
         ⟨(some 46), .ia 1 (.t 44) (.t 45), none⟩,
         ⟨(some 47), .ld false 1 (.t 46), none⟩,
         ⟨(some 4), .mv (.t 47), none⟩])
       .ret)
       .skip)))
      (.seq (.reg [⟨(some 4), .mv (.c (.s [])), none⟩])
      .ret))
      .skip)))))))
  (.seq (.seq (.reg [⟨(some 48), .fa 0 (.t 2), none⟩,
    ⟨(some 49), .ld false 1 (.t 48), none⟩,
    ⟨(some 50), .mv (.t 1), none⟩,
    ⟨(some 51), .call f_slices_Index_string_string [(.t 49), (.t 50)], none⟩,
    ⟨(some 6), .mv (.t 51), none⟩])
  (.seq (.reg [⟨(some 52), .mv (.t 6), none⟩,
    ⟨(some 53), .bin .geq (.t 52) (.c (.i .i64 0)), none⟩,
    ⟨(some 54), .mv (.t 53), none⟩,
    ⟨(some 55), .mv (.t 6), (some (54, true))⟩,
    ⟨(some 56), .fa 1 (.t 2), (some (54, true))⟩,
    ⟨(some 57), .ld false 1 (.t 56), (some (54, true))⟩,
    ⟨(some 58), .len 1 (.t 57), (some (54, true))⟩,
    ⟨(some 59), .bin .lss (.t 55) (.t 58), (some (54, true))⟩,
    ⟨(some 60), .pick (.t 54) (.t 59) (.c (.b false)), none⟩])
  (.cond (.t 60)
   (.seq (.reg [⟨(some 61), .fa 1 (.t 2), none⟩,
     ⟨(some 62), .ld false 1 (.t 61), none⟩,
     ⟨(some 63), .mv (.t 6), none⟩,
     ⟨(some 64), .ia 1 (.t 62) (.t 63), none⟩,
     ⟨(some 65), .ld false 1 (.t 64), none⟩,
     ⟨(some 4), .mv (.t 65), none⟩])
   .ret)
   .skip)))
  (.seq (.reg [⟨(some 4), .mv (.c (.s [])), none⟩])
  .ret)))) }
def c_touchstoneref05_Value : Fun := { cin := [(.agg [(.sl 1 .id), (.sl 1 .id), (.sl 1 .id), .id]), .id], cout := [.id], ntmps := 61, keep := false, res := [(4, none)], body :=
  (.seq (.reg [⟨(some 2), .box 24 4 (.t 0), none⟩,
    ⟨(some 4), .mv (.c (.s [])), none⟩])
  (.seq (.seq (.reg [⟨(some 7), .mv (.t 1), none⟩,
    ⟨(some 8), .bin .eql (.t 7) (.c (.s [35])), none⟩])
  (.cond (.t 8)
   (.seq (.reg [⟨(some 9), .fa 2 (.t 2), none⟩,
     ⟨(some 10), .ld false 1 (.t 9), none⟩,
     ⟨(some 11), .len 1 (.t 10), none⟩,
     ⟨(some 12), .call f_touchstoneref05_digits [(.t 11)], none⟩,
     ⟨(some 4), .mv (.t 12), none⟩])
   .ret)
   .skip))
  (.seq (.seq (.reg [⟨(some 13), .mv (.t 1), none⟩,
    ⟨(some 14), .bin .eql (.t 13) (.c (.s [63])), none⟩])
  (.cond (.t 14)
   (.seq (.reg [⟨(some 15), .fa 3 (.t 2), none⟩,
     ⟨(some 16), .ld false 1 (.t 15), none⟩,
     ⟨(some 17), .call f_touchstoneref05_digits [(.t 16)], none⟩,
     ⟨(some 4), .mv (.t 17), none⟩])
   .ret)
   .skip))
  (.seq (.seq (.reg [⟨(some 5), .mv (.c (.i .i64 1)), none⟩])
  (.blk 0 (.loop (.seq (.seq (.reg [⟨(some 18), .mv (.t 5), none⟩,
      ⟨(some 19), .bin .leq (.t 18) (.c (.i .i64 9)), none⟩])
    (.cond (.t 19)
     .skip
     (.exit 0)))
    (.seq (.blk 1 (.seq (.reg [⟨(some 22), .mv (.t 1), none⟩,
       ⟨(some 23), .mv (.t 5), none⟩,
       ⟨(some 24), .call f_touchstoneref05_digits [(.t 23)], none⟩,
       ⟨(some 25), .bin .eql (.t 22) (.t 24), none⟩])
     (.cond (.t 25)
      (.seq (.seq (.reg [⟨(some 26), .mv (.t 5), none⟩,
        ⟨(some 27), .fa 2 (.t 2), none⟩,
        ⟨(some 28), .ld false 1 (.t 27), none⟩,
        ⟨(some 29), .len 1 (.t 28), none⟩,
        ⟨(some 30), .bin .leq (.t 26) (.t 29), none⟩])
      (.cond (.t 30)
       (.seq (.reg [⟨(some 31), .fa 2 (.t 2), none⟩,
         ⟨(some 32), .ld false 1 (.t 31), none⟩,
         ⟨(some 33), .mv (.t 5), none⟩,
         ⟨(some 34), .bin .sub (.t 33) (.c (.i .i64 1)), none⟩,
         ⟨(some 35), .ia 1 (.t 32) (.t 34), none⟩,
         ⟨(some 36), .ld false 1 (.t 35), none⟩,
         ⟨(some 4), .mv (.t 36), none⟩])
       .ret)
       .skip))
      (.seq (.reg [⟨(some 4), .mv (.c (.s [])), none⟩])
      .ret))
      .skip)))
    (.reg [⟨(some 20), .mv (.t 5), none⟩,
      ⟨(some 21), .bin .add (.t 20) (.c (.i .i64 1)), none⟩,
      ⟨(some 5), .mv (.t 21), none⟩]))))))
  (.seq (.seq (.reg [⟨(some 6), .mv (.c (.i .i64 0)), none⟩])
  (.blk 2 (.loop (.seq (.seq (.reg [⟨(some 37), .mv (.t 6), none⟩,
      ⟨(some 38), .fa 0 (.t 2), none⟩,
      ⟨(some 39), .ld false 1 (.t 38), none⟩,
      ⟨(some 40), .len 1 (.t 39), none⟩,
      ⟨(some 41), .bin .lss (.t 37) (.t 40), none⟩])
    (.cond (.t 41)
     .skip
     (.exit 2)))
    (.seq (.blk 3 (.seq (.reg [⟨(some 44), .fa 0 (.t 2), none⟩,
       ⟨(some 45), .ld false 1 (.t 44), none⟩,
       ⟨(some 46), .mv (.t 6), none⟩,
       ⟨(some 47), .ia 1 (.t 45) (.t 46), none⟩,
       ⟨(some 48), .ld false 1 (.t 47), none⟩,
       ⟨(some 49), .mv (.t 1), none⟩,
       ⟨(some 50), .bin .eql (.t 48) (.t 49), none⟩])
     (.cond (.t 50)
      (.seq (.seq (.reg [⟨(some 51), .mv (.t 6), none⟩,
        ⟨(some 52), .fa 1 (.t 2), none⟩,
        ⟨(some 53), .ld false 1 (.t 52), none⟩,
        ⟨(some 54), .len 1 (.t 53), none⟩,
        ⟨(some 55), .bin .lss (.t 51) (.t 54), none⟩])
      (.cond (.t 55)
       (.seq (.reg [⟨(some 56), .fa 1 (.t 2), none⟩,
         ⟨(some 57), .ld false 1 (.t 56), none⟩,
         ⟨(some 58), .mv (.t 6), none⟩,
         ⟨(some 59), .ia 1 (.t 57) (.t 58), none⟩,
         ⟨(some 60), .ld false 1 (.t 59), none⟩,
         ⟨(some 4), .mv (.t 60), none⟩])
       .ret)
       .skip))
      (.seq (.reg [⟨(some 4), .mv (.c (.s [])), none⟩])
      .ret))
      .skip)))
    (.reg [⟨(some 42), .mv (.t 6), none⟩,
      ⟨(some 43), .bin .add (.t 42) (.c (.i .i64 1)), none⟩,
      ⟨(some 6), .mv (.t 43), none⟩]))))))
  (.seq (.reg [⟨(some 4), .mv (.c (.s [])), none⟩])
  .ret)))))) }
def c_touchstoneref05_Same : Fun := { cin := [(.agg [(.sl 1 .id), (.sl 1 .id), (.sl 1 .id), .id]), (.agg [(.sl 1 .id), (.sl 1 .id), (.sl 1 .id), .id])], cout := [.id], ntmps := 31, keep := false, res := [(4, none)], body :=
  (.seq (.reg [⟨(some 2), .box 24 4 (.t 0), none⟩,
    ⟨(some 3), .box 24 4 (.t 1), none⟩,
    ⟨(some 4), .mv (.c (.b false)), none⟩])
  (.seq (.reg [⟨(some 5), .fa 0 (.t 2), none⟩,
    ⟨(some 6), .ld false 1 (.t 5), none⟩,
    ⟨(some 7), .fa 0 (.t 3), none⟩,
    ⟨(some 8), .ld false 1 (.t 7), none⟩,
    ⟨(some 9), .call f_touchstoneref05_texts [(.t 6), (.t 8)], none⟩,
    ⟨(some 10), .mv (.t 9), none⟩,
    ⟨(some 11), .fa 1 (.t 2), (some (10, true))⟩,
    ⟨(some 12), .ld false 1 (.t 11), (some (10, true))⟩,
    ⟨(some 13), .fa 1 (.t 3), (some (10, true))⟩,
    ⟨(some 14), .ld false 1 (.t 13), (some (10, true))⟩,
    ⟨(some 15), .call f_touchstoneref05_texts [(.t 12), (.t 14)], (some (10, true))⟩,
    ⟨(some 16), .pick (.t 10) (.t 15) (.c (.b false)), none⟩,
    ⟨(some 17), .mv (.t 16), none⟩,
    ⟨(some 18), .fa 2 (.t 2), (some (17, true))⟩,
    ⟨(some 19), .ld false 1 (.t 18), (some (17, true))⟩,
    ⟨(some 20), .fa 2 (.t 3), (some (17, true))⟩,
    ⟨(some 21), .ld false 1 (.t 20), (some (17, true))⟩,
    ⟨(some 22), .call f_touchstoneref05_texts [(.t 19), (.t 21)], (some (17, true))⟩,
    ⟨(some 23), .pick (.t 17) (.t 22) (.c (.b false)), none⟩,
    ⟨(some 24), .mv (.t 23), none⟩,
    ⟨(some 25), .fa 3 (.t 2), (some (24, true))⟩,
    ⟨(some 26), .ld false 1 (.t 25), (some (24, true))⟩,
    ⟨(some 27), .fa 3 (.t 3), (some (24, true))⟩,
    ⟨(some 28), .ld false 1 (.t 27), (some (24, true))⟩,
    ⟨(some 29), .bin .eql (.t 26) (.t 28), (some (24, true))⟩,
    ⟨(some 30), .pick (.t 24) (.t 29) (.c (.b false)), none⟩,
    ⟨(some 4), .mv (.t 30), none⟩])
  .ret)) }
def c_touchstonelaw05_back : Fun := { cin := [(.agg [(.sl 1 .id), (.sl 1 .id), (.sl 1 .id), .id])], cout := [(.agg [(.sl 1 .id), (.sl 1 .id), (.sl 1 .id), .id])], ntmps := 12, keep := false, res := [(2, some (true, 4))], body :=
  (.seq (.reg [⟨(some 1), .box 28 4 (.t 0), none⟩,
    ⟨(some 2), .alloc 24 [.nsl, .nsl, .nsl, (.i .i64 0)], none⟩])
  (.seq (.reg [⟨(some 3), .fa 0 (.t 1), none⟩,
    ⟨(some 4), .ld false 1 (.t 3), none⟩,
    ⟨(some 5), .fa 1 (.t 1), none⟩,
    ⟨(some 6), .ld false 1 (.t 5), none⟩,
    ⟨(some 7), .fa 2 (.t 1), none⟩,
    ⟨(some 8), .ld false 1 (.t 7), none⟩,
    ⟨(some 9), .fa 3 (.t 1), none⟩,
    ⟨(some 10), .ld false 1 (.t 9), none⟩,
    ⟨(some 11), .build [.nsl, .nsl, .nsl, (.i .i64 0)] [(0, 1, (.t 4)), (1, 1, (.t 6)), (2, 1, (.t 8)), (3, 1, (.t 10))], none⟩,
    ⟨none, .st 4 (.t 2) (.t 11), none⟩])
  .ret)) }
def c_touchstonelaw05_vars : Fun := { cin := [.id], cout := [(.agg [(.sl 1 .id), (.sl 1 .id), (.sl 1 .id), .id])], ntmps := 8, keep := false, res := [(2, some (true, 4))], body :=
  (.seq (.reg [⟨(some 2), .alloc 28 [.nsl, .nsl, .nsl, (.i .i64 0)], none⟩])
  (.seq (.reg [⟨(some 3), .bsl 1 [(.c (.s [120]))], none⟩,
    ⟨(some 4), .mv (.t 0), none⟩,
    ⟨(some 5), .bsl 1 [(.t 4)], none⟩,
    ⟨(some 6), .bsl 1 [(.c (.s [111, 110, 101])), (.c (.s [116, 119, 111]))], none⟩,
    ⟨(some 7), .build [.nsl, .nsl, .nsl, (.i .i64 0)] [(0, 1, (.t 3)), (1, 1, (.t 5)), (2, 1, (.t 6))], none⟩,
    ⟨none, .st 4 (.t 2) (.t 7), none⟩])
  .ret)) }
def c_touchstonelaw05_fields : Fun := { cin := [(.agg [(.sl 1 .id), (.sl 1 .id), (.sl 1 .id), .id]), (.sl 3 (.agg [.id, .id, .id])), (.sl 1 .id)], cout := [.id], ntmps := 12, keep := false, res := [(6, none)], body :=
  (.seq (.reg [⟨(some 3), .box 28 4 (.t 0), none⟩,
    ⟨(some 6), .mv (.c (.b false)), none⟩])
  (.seq (.reg [⟨(some 7), .ld true 4 (.t 3), none⟩,
    ⟨(some 8), .mv (.t 1), none⟩,
    ⟨(some 9), .call f_expand_Fields [(.t 7), (.t 8)], none⟩,
    ⟨(some 10), .mv (.t 2), none⟩,
    ⟨(some 11), .call f_touchstonelaw05_same [(.t 9), (.t 10)], none⟩,
    ⟨(some 6), .mv (.t 11), none⟩])
  .ret)) }
def c_touchstonelaw05_qpar : Fun := { cin := [.id], cout := [(.agg [.id, .id, .id])], ntmps := 5, keep := false, res := [(2, some (true, 3))], body :=
  (.seq (.reg [⟨(some 2), .alloc 31 [(.b false), (.s []), (.b false)], none⟩])
  (.seq (.reg [⟨(some 3), .mv (.t 0), none⟩,
    ⟨(some 4), .build [(.b false), (.s []), (.b false)] [(0, 1, (.c (.b true))), (1, 1, (.t 3)), (2, 1, (.c (.b true)))], none⟩,
    ⟨none, .st 3 (.t 2) (.t 4), none⟩])
  .ret)) }
def c_touchstonelaw05_lit : Fun := { cin := [.id], cout := [(.agg [.id, .id, .id])], ntmps := 5, keep := false, res := [(2, some (true, 3))], body :=
  (.seq (.reg [⟨(some 2), .alloc 31 [(.b false), (.s []), (.b false)], none⟩])
  (.seq (.reg [⟨(some 3), .mv (.t 0), none⟩,
    ⟨(some 4), .build [(.b false), (.s []), (.b false)] [(1, 1, (.t 3))], none⟩,
    ⟨none, .st 3 (.t 2) (.t 4), none⟩])
  .ret)) }
def c_touchstonelaw05_quo : Fun := { cin := [.id], cout := [(.agg [.id, .id, .id])], ntmps := 5, keep := false, res := [(2, some (true, 3))], body :=
  (.seq (.reg [⟨(some 2), .alloc 31 [(.b false), (.s []), (.b false)], none⟩])
  (.seq (.reg [⟨(some 3), .mv (.t 0), none⟩,
    ⟨(some 4), .build [(.b false), (.s []), (.b false)] [(1, 1, (.t 3)), (2, 1, (.c (.b true)))], none⟩,
    ⟨none, .st 3 (.t 2) (.t 4), none⟩])
  .ret)) }
def c_touchstonelaw05_texts : Fun := { cin := [(.sl 1 .id)], cout := [.id], ntmps := 25, keep := false, res := [(2, none)], body :=
  (.seq (.reg [⟨(some 2), .mv (.c (.i .i64 0)), none⟩])
  (.seq (.reg [⟨(some 3), .mv (.c (.i .i64 0)), none⟩])
  (.seq (.seq (.reg [⟨(some 4), .mv (.c (.i .i64 0)), none⟩])
  (.blk 0 (.loop (.seq (.seq (.reg [⟨(some 5), .mv (.t 4), none⟩,
      ⟨(some 6), .mv (.t 0), none⟩,
      ⟨(some 7), .len 1 (.t 6), none⟩,
      ⟨(some 8), .bin .lss (.t 5) (.t 7), none⟩,
      ⟨(some 9), .mv (.t 8), none⟩,
      ⟨(some 10), .mv (.t 3), (some (9, true))⟩,
      ⟨(some 11), .bin .lss (.t 10) (.c (.i .i64 20000)), (some (9, true))⟩,
      ⟨(some 12), .pick (.t 9) (.t 11) (.c (.b false)), none⟩])
    (.cond (.t 12)
     .skip
     (.exit 0)))
    (.seq (.blk 1 (.reg [⟨(some 15), .mv (.t 3), none⟩,
       ⟨(some 16), .bin .add (.t 15) (.c (.i .i64 1)), none⟩,
       ⟨(some 17), .mv (.t 0), none⟩,
       ⟨(some 18), .mv (.t 4), none⟩,
       ⟨(some 19), .ia 1 (.t 17) (.t 18), none⟩,
       ⟨(some 20), .ld false 1 (.t 19), none⟩,
       ⟨(some 21), .len 0 (.t 20), none⟩,
       ⟨(some 22), .mm false (.t 21) (.c (.i .i64 20000)), none⟩,
       ⟨(some 23), .bin .add (.t 16) (.t 22), none⟩,
       ⟨(some 3), .mv (.t 23), none⟩]))
    (.reg [⟨(some 13), .mv (.t 4), none⟩,
      ⟨(some 14), .bin .add (.t 13) (.c (.i .i64 1)), none⟩,
      ⟨(some 4), .mv (.t 14), none⟩]))))))
  (.seq (.reg [⟨(some 24), .mv (.t 3), none⟩,
    ⟨(some 2), .mv (.t 24), none⟩])
  .ret)))) }
def c_expand_values : Fun := { cin := [(.agg [(.sl 1 .id), (.sl 1 .id), (.sl 1 .id), .id])], cout := [.id], ntmps := 4, keep := false, res := [(2, none)], body :=
  (.seq (.reg [⟨(some 1), .box 28 4 (.t 0), none⟩,
    ⟨(some 2), .mv (.c .nf), none⟩])
  (.seq (.reg [⟨(some 3), .mkf f_expand_values_1 [(.t 1)], none⟩,
    ⟨(some 2), .mv (.t 3), none⟩])
  .ret)) }
def c_expand_builder_split : Fun := { cin := [.id, .id], cout := [], ntmps := 34, keep := false, res := [], body :=
  (.seq (.reg [⟨(some 6), .mv (.t 1), none⟩,
    ⟨(some 7), .len 0 (.t 6), none⟩,
    ⟨(some 8), .mv (.c (.i .i64 0)), none⟩])
  (.blk 0 (.loop (.seq (.reg [⟨(some 9), .bin .lss (.t 8) (.t 7), none⟩])
    (.seq (.cond (.t 9)
     .skip
     (.exit 0))
    (.seq (.blk 1 (.seq (.reg [⟨(some 10), .mv (.t 8), none⟩,
       ⟨(some 4), .mv (.t 10), none⟩])
     (.seq (.reg [⟨(some 11), .mv (.t 1), none⟩,
       ⟨(some 12), .mv (.t 4), none⟩,
       ⟨(some 13), .ixS (.t 11) (.t 12), none⟩,
       ⟨(some 5), .mv (.t 13), none⟩])
     (.seq (.reg [⟨(some 14), .mv (.t 5), none⟩,
       ⟨(some 15), .bin .eql (.t 14) (.c (.i .u8 32)), none⟩,
       ⟨(some 16), .mv (.t 15), none⟩,
       ⟨(some 17), .mv (.t 5), (some (16, false))⟩,
       ⟨(some 18), .bin .eql (.t 17) (.c (.i .u8 9)), (some (16, false))⟩,
       ⟨(some 19), .pick (.t 16) (.c (.b true)) (.t 18), none⟩,
       ⟨(some 20), .mv (.t 19), none⟩,
       ⟨(some 21), .mv (.t 5), (some (20, false))⟩,
       ⟨(some 22), .bin .eql (.t 21) (.c (.i .u8 10)), (some (20, false))⟩,
       ⟨(some 23), .pick (.t 20) (.c (.b true)) (.t 22), none⟩])
     (.cond (.t 23)
      (.reg [⟨(some 24), .mv (.t 0), none⟩,
        ⟨(some 25), .call f_expand_builder_end [(.t 24)], none⟩])
      (.reg [⟨(some 26), .mv (.t 0), none⟩,
        ⟨(some 27), .mv (.t 1), none⟩,
        ⟨(some 28), .mv (.t 4), none⟩,
        ⟨(some 29), .mv (.t 4), none⟩,
        ⟨(some 30), .bin .add (.t 29) (.c (.i .i64 1)), none⟩,
        ⟨(some 31), .slS (.t 27) (some (.t 28)) (some (.t 30)), none⟩,
        ⟨(some 32), .call f_expand_builder_add [(.t 26), (.t 31)], none⟩]))))))
    (.reg [⟨(some 33), .bin .add (.t 8) (.c (.i .i64 1)), none⟩,
      ⟨(some 8), .mv (.t 33), none⟩]))))))) }
def c_expand_builder_add : Fun := { cin := [.id, .id], cout := [], ntmps := 16, keep := false, res := [], body :=
  (.seq (.reg [⟨(some 4), .mv (.t 0), none⟩,
    ⟨(some 5), .nck (.t 4), none⟩,
    ⟨(some 6), .fa 2 (.t 5), none⟩,
    ⟨none, .st 1 (.t 6) (.c (.b true)), none⟩])
  (.reg [⟨(some 7), .mv (.t 0), none⟩,
    ⟨(some 8), .mv (.t 0), none⟩,
    ⟨(some 9), .nck (.t 8), none⟩,
    ⟨(some 10), .fa 1 (.t 9), none⟩,
    ⟨(some 11), .ld false 1 (.t 10), none⟩,
    ⟨(some 12), .mv (.t 1), none⟩,
    ⟨(some 13), .app 1 5 (.t 11) (.t 12), none⟩,
    ⟨(some 14), .nck (.t 7), none⟩,
    ⟨(some 15), .fa 1 (.t 14), none⟩,
    ⟨none, .st 1 (.t 15) (.t 13), none⟩])) }
def c_expand_builder_end : Fun := { cin := [.id], cout := [], ntmps := 26, keep := false, res := [], body :=
  (.seq (.seq (.reg [⟨(some 2), .mv (.t 0), none⟩,
    ⟨(some 3), .nck (.t 2), none⟩,
    ⟨(some 4), .fa 2 (.t 3), none⟩,
    ⟨(some 5), .ld false 1 (.t 4), none⟩])
  (.cond (.t 5)
   (.regD [⟨(some 6), .mv (.t 0), none⟩,
     ⟨(some 7), .mv (.t 0), none⟩,
     ⟨(some 8), .nck (.t 7), none⟩,
     ⟨(some 9), .fa 0 (.t 8), none⟩,
     ⟨(some 10), .ld false 1 (.t 9), none⟩,
     ⟨(some 11), .mv (.t 0), none⟩,
     ⟨(some 12), .nck (.t 11), none⟩,
     ⟨(some 13), .fa 1 (.t 12), none⟩,
     ⟨(some 14), .ld false 1 (.t 13), none⟩,
     ⟨(some 15), .cvBS (.t 14), none⟩,
     ⟨(some 16), .bsl 1 [(.t 15)], none⟩,
     ⟨(some 17), .app 1 9 (.t 10) (.t 16), none⟩,
     ⟨(some 18), .nck (.t 6), none⟩,
     ⟨(some 19), .fa 0 (.t 18), none⟩,
     ⟨none, .st 1 (.t 19) (.t 17), none⟩] [])
   .skip))
  (.reg [⟨(some 20), .mv (.t 0), none⟩,
    ⟨(some 21), .mv (.t 0), none⟩,
    ⟨(some 22), .nck (.t 20), none⟩,
    ⟨(some 23), .fa 1 (.t 22), none⟩,
    ⟨none, .st 1 (.t 23) (.c .nsl), none⟩,
    ⟨(some 24), .nck (.t 21), none⟩,
    ⟨(some 25), .fa 2 (.t 24), none⟩,
    ⟨none, .st 1 (.t 25) (.c (.b false)), none⟩])) }
def c_strings_Builder_WriteString : Fun := { cin := [.id, .id], cout := [.id, .id], ntmps := 19, keep := false, res := [(4, none), (5, none)], body :=
  (.seq (.reg [⟨(some 4), .mv (.c (.i .i64 0)), none⟩,
    ⟨(some 5), .mv (.c .ni), none⟩])
  (.seq (.reg [⟨(some 6), .mv (.t 0), none⟩,
    ⟨(some 7), .call f_strings_Builder_copyCheck [(.t 6)], none⟩])
  (.seq (.reg [⟨(some 8), .mv (.t 0), none⟩,
    ⟨(some 9), .mv (.t 0), none⟩,
    ⟨(some 10), .nck (.t 9), none⟩,
    ⟨(some 11), .fa 1 (.t 10), none⟩,
    ⟨(some 12), .ld false 1 (.t 11), none⟩,
    ⟨(some 13), .mv (.t 1), none⟩,
    ⟨(some 14), .app 1 5 (.t 12) (.t 13), none⟩,
    ⟨(some 15), .nck (.t 8), none⟩,
    ⟨(some 16), .fa 1 (.t 15), none⟩,
    ⟨none, .st 1 (.t 16) (.t 14), none⟩])
  (.seq (.reg [⟨(some 17), .mv (.t 1), none⟩,
    ⟨(some 18), .len 0 (.t 17), none⟩,
    ⟨(some 4), .mv (.t 18), none⟩,
    ⟨(some 5), .mv (.c .ni), none⟩])
  .ret)))) }
def c_strings_Builder_String : Fun := { cin := [.id], cout := [.id], ntmps := 14, keep := false, res := [(2, none)], body :=
  (.seq (.reg [⟨(some 2), .mv (.c (.s [])), none⟩])
  (.seq (.regD [⟨(some 3), .mv (.t 0), none⟩,
    ⟨(some 4), .nck (.t 3), none⟩,
    ⟨(some 5), .fa 1 (.t 4), none⟩,
    ⟨(some 6), .ld false 1 (.t 5), none⟩,
    ⟨(some 7), .ud (.t 6), none⟩,
    ⟨(some 8), .mv (.t 0), none⟩,
    ⟨(some 9), .nck (.t 8), none⟩,
    ⟨(some 10), .fa 1 (.t 9), none⟩,
    ⟨(some 11), .ld false 1 (.t 10), none⟩,
    ⟨(some 12), .len 1 (.t 11), none⟩,
    ⟨(some 13), .us 5 (.t 7) (.t 12), none⟩,
    ⟨(some 2), .mv (.t 13), none⟩] [])
  .ret)) }
def c_touchstoneref05_of : Fun := { cin := [(.agg [(.sl 1 .id), (.sl 1 .id), (.sl 1 .id), .id]), (.agg [.id, .id, .id])], cout := [.id], ntmps := 13, keep := false, res := [(4, none)], body :=
  (.seq (.reg [⟨(some 2), .box 24 4 (.t 0), none⟩,
    ⟨(some 3), .box 31 3 (.t 1), none⟩,
    ⟨(some 4), .mv (.c (.s [])), none⟩])
  (.seq (.seq (.reg [⟨(some 5), .fa 0 (.t 3), none⟩,
    ⟨(some 6), .ld false 1 (.t 5), none⟩])
  (.cond (.t 6)
   (.seq (.reg [⟨(some 7), .ld true 4 (.t 2), none⟩,
     ⟨(some 8), .fa 1 (.t 3), none⟩,
     ⟨(some 9), .ld false 1 (.t 8), none⟩,
     ⟨(some 10), .call f_touchstoneref05_Value [(.t 7), (.t 9)], none⟩,
     ⟨(some 4), .mv (.t 10), none⟩])
   .ret)
   .skip))
  (.seq (.reg [⟨(some 11), .fa 1 (.t 3), none⟩,
    ⟨(some 12), .ld false 1 (.t 11), none⟩,
    ⟨(some 4), .mv (.t 12), none⟩])
  .ret))) }
def c_strconv_Itoa : Fun := { cin := [], cout := [], ntmps := 0, keep := false, res := [], body := .bad, prim := some primItoa }
def c_slices_Index_string_string : Fun := { cin := [(.sl 1 .id), .id], cout := [.id], ntmps := 19, keep := false, res := [(4, none)], body :=
  (.seq (.reg [⟨(some 4), .mv (.c (.i .i64 0)), none⟩])
  (.seq (.seq (.reg [⟨(some 6), .mv (.t 0), none⟩,
    ⟨(some 7), .len 1 (.t 6), none⟩,
    ⟨(some 8), .mv (.c (.i .i64 0)), none⟩])
  (.blk 0 (.loop (.seq (.reg [⟨(some 9), .bin .lss (.t 8) (.t 7), none⟩])
    (.seq (.cond (.t 9)
     .skip
     (.exit 0))
    (.seq (.blk 1 (.seq (.reg [⟨(some 10), .mv (.t 8), none⟩,
       ⟨(some 5), .mv (.t 10), none⟩])
     (.seq (.reg [⟨(some 11), .mv (.t 1), none⟩,
       ⟨(some 12), .mv (.t 0), none⟩,
       ⟨(some 13), .mv (.t 5), none⟩,
       ⟨(some 14), .ia 1 (.t 12) (.t 13), none⟩,
       ⟨(some 15), .ld false 1 (.t 14), none⟩,
       ⟨(some 16), .bin .eql (.t 11) (.t 15), none⟩])
     (.cond (.t 16)
      (.seq (.reg [⟨(some 17), .mv (.t 5), none⟩,
        ⟨(some 4), .mv (.t 17), none⟩])
      .ret)
      .skip))))
    (.reg [⟨(some 18), .bin .add (.t 8) (.c (.i .i64 1)), none⟩,
      ⟨(some 8), .mv (.t 18), none⟩])))))))
  (.seq (.reg [⟨(some 4), .mv (.c (.i .i64 (-1))), none⟩])
  .ret))) }
def c_touchstoneref05_digits : Fun := { cin := [.id], cout := [.id], ntmps := 40, keep := false, res := [(2, none)], body :=
  (.seq (.reg [⟨(some 2), .mv (.c (.s [])), none⟩])
  (.seq (.seq (.reg [⟨(some 3), .mv (.t 0), none⟩,
    ⟨(some 4), .bin .lss (.t 3) (.c (.i .i64 0)), none⟩])
  (.cond (.t 4)
   (.seq (.seq (.reg [⟨(some 5), .mv (.t 0), none⟩,
     ⟨(some 6), .bin .gtr (.t 5) (.c (.i .i64 (-10))), none⟩])
   (.cond (.t 6)
    (.seq (.reg [⟨(some 7), .mv (.t 0), none⟩,
      ⟨(some 8), .bin .sub (.c (.i .i64 48)) (.t 7), none⟩,
      ⟨(some 9), .cvI .u8 (.t 8), none⟩,
      ⟨(some 10), .bsl 1 [(.t 9)], none⟩,
      ⟨(some 11), .cvBS (.t 10), none⟩,
      ⟨(some 12), .bin .add (.c (.s [45])) (.t 11), none⟩,
      ⟨(some 2), .mv (.t 12), none⟩])
    .ret)
    .skip))
   (.seq (.regD [⟨(some 13), .mv (.t 0), none⟩,
     ⟨(some 14), .bin .quo (.t 13) (.c (.i .i64 10)), none⟩,
     ⟨(some 15), .call f_touchstoneref05_digits [(.t 14)], none⟩,
     ⟨(some 16), .mv (.t 0), none⟩,
     ⟨(some 17), .bin .rem (.t 16) (.c (.i .i64 10)), none⟩,
     ⟨(some 18), .bin .sub (.c (.i .i64 48)) (.t 17), none⟩,
     ⟨(some 19), .cvI .u8 (.t 18), none⟩,
     ⟨(some 20), .bsl 1 [(.t 19)], none⟩,
     ⟨(some 21), .cvBS (.t 20), none⟩,
     ⟨(some 22), .bin .add (.t 15) (.t 21), none⟩,
     ⟨(some 2), .mv (.t 22), none⟩] [(8, (2, 8))])
   .ret))
   .skip))
  (.seq (.seq (.reg [⟨(some 23), .mv (.t 0), none⟩,
    ⟨(some 24), .bin .lss (.t 23) (.c (.i .i64 10)), none⟩])
  (.cond (.t 24)
   (.seq (.reg [⟨(some 25), .mv (.t 0), none⟩,
     ⟨(some 26), .bin .add (.c (.i .i64 48)) (.t 25), none⟩,
     ⟨(some 27), .cvI .u8 (.t 26), none⟩,
     ⟨(some 28), .bsl 1 [(.t 27)], none⟩,
     ⟨(some 29), .cvBS (.t 28), none⟩,
     ⟨(some 2), .mv (.t 29), none⟩])
   .ret)
   .skip))
  (.seq (.regD [⟨(some 30), .mv (.t 0), none⟩,
    ⟨(some 31), .bin .quo (.t 30) (.c (.i .i64 10)), none⟩,
    ⟨(some 32), .call f_touchstoneref05_digits [(.t 31)], none⟩,
    ⟨(some 33), .mv (.t 0), none⟩,
    ⟨(some 34), .bin .rem (.t 33) (.c (.i .i64 10)), none⟩,
    ⟨(some 35), .bin .add (.c (.i .i64 48)) (.t 34), none⟩,
    ⟨(some 36), .cvI .u8 (.t 35), none⟩,
    ⟨(some 37), .bsl 1 [(.t 36)], none⟩,
    ⟨(some 38), .cvBS (.t 37), none⟩,
    ⟨(some 39), .bin .add (.t 32) (.t 38), none⟩,
    ⟨(some 2), .mv (.t 39), none⟩] [(8, (2, 8))])
  .ret)))) }
def c_touchstoneref05_texts : Fun := { cin := [(.sl 1 .id), (.sl 1 .id)], cout := [.id], ntmps := 26, keep := false, res := [(4, none)], body :=
  (.seq (.reg [⟨(some 4), .mv (.c (.b false)), none⟩])
  (.seq (.seq (.reg [⟨(some 6), .mv (.t 0), none⟩,
    ⟨(some 7), .len 1 (.t 6), none⟩,
    ⟨(some 8), .mv (.t 1), none⟩,
    ⟨(some 9), .len 1 (.t 8), none⟩,
    ⟨(some 10), .bin .neq (.t 7) (.t 9), none⟩])
  (.cond (.t 10)
   (.seq (.reg [⟨(some 4), .mv (.c (.b false)), none⟩])
   .ret)
   .skip))
  (.seq (.seq (.reg [⟨(some 5), .mv (.c (.i .i64 0)), none⟩])
  (.blk 0 (.loop (.seq (.seq (.reg [⟨(some 11), .mv (.t 5), none⟩,
      ⟨(some 12), .mv (.t 0), none⟩,
      ⟨(some 13), .len 1 (.t 12), none⟩,
      ⟨(some 14), .bin .lss (.t 11) (.t 13), none⟩])
    (.cond (.t 14)
     .skip
     (.exit 0)))
    (.seq (.blk 1 (.seq (.regD [⟨(some 17), .mv (.t 0), none⟩,
       ⟨(some 18), .mv (.t 5), none⟩,
       ⟨(some 19), .ia 1 (.t 17) (.t 18), none⟩,
       ⟨(some 20), .ld false 1 (.t 19), none⟩,
       ⟨(some 21), .mv (.t 1), none⟩,
       ⟨(some 22), .mv (.t 5), none⟩,
       ⟨(some 23), .ia 1 (.t 21) (.t 22), none⟩,
       ⟨(some 24), .ld false 1 (.t 23), none⟩,
       ⟨(some 25), .bin .neq (.t 20) (.t 24), none⟩] [])
     (.cond (.t 25)
      (.seq (.reg [⟨(some 4), .mv (.c (.b false)), none⟩])
      .ret)
      .skip)))
    (.reg [⟨(some 15), .mv (.t 5), none⟩,
      ⟨(some 16), .bin .add (.t 15) (.c (.i .i64 1)), none⟩,
      ⟨(some 5), .mv (.t 16), none⟩]))))))
  (.seq (.reg [⟨(some 4), .mv (.c (.b true)), none⟩])
  .ret)))) }
def c_expand_values_1 : Fun := { cin := [(.agg [.id, .id, .id])], cout := [.id], ntmps := 12, keep := false, res := [(3, none)], body :=
  (.seq (.reg [⟨(some 2), .box 31 3 (.t 0), none⟩,
    ⟨(some 3), .mv (.c (.s [])), none⟩])
  (.seq (.seq (.reg [⟨(some 4), .fa 0 (.t 2), none⟩,
    ⟨(some 5), .ld false 1 (.t 4), none⟩])
  (.cond (.t 5)
   (.seq (.reg [⟨(some 6), .ld true 4 (.t 1), none⟩,
     ⟨(some 7), .fa 1 (.t 2), none⟩,
     ⟨(some 8), .ld false 1 (.t 7), none⟩,
     ⟨(some 9), .call f_expand_Value [(.t 6), (.t 8)], none⟩,
     ⟨(some 3), .mv (.t 9), none⟩])
   .ret)
   .skip))
  (.seq (.reg [⟨(some 10), .fa 1 (.t 2), none⟩,
    ⟨(some 11), .ld false 1 (.t 10), none⟩,
    ⟨(some 3), .mv (.t 11), none⟩])
  .ret))) }
def c_strings_Builder_copyCheck : Fun := { cin := [.id], cout := [], ntmps := 20, keep := false, res := [], body :=
  (.seq (.reg [⟨(some 2), .mv (.t 0), none⟩,
    ⟨(some 3), .nck (.t 2), none⟩,
    ⟨(some 4), .fa 0 (.t 3), none⟩,
    ⟨(some 5), .ld false 1 (.t 4), none⟩,
    ⟨(some 6), .eq .ptr false (.t 5) (.c .np), none⟩])
  (.cond (.t 6)
   (.reg [⟨(some 7), .mv (.t 0), none⟩,
     ⟨(some 8), .mv (.t 0), none⟩,
     ⟨(some 9), .cvU 65 2 (.t 8), none⟩,
     ⟨(some 10), .xtn 1 [(.t 9)], none⟩,
     ⟨(some 11), .cvU 65 2 (.t 10), none⟩,
     ⟨(some 12), .nck (.t 7), none⟩,
     ⟨(some 13), .fa 0 (.t 12), none⟩,
     ⟨none, .st 1 (.t 13) (.t 11), none⟩])
   (.seq (.reg [⟨(some 14), .mv (.t 0), none⟩,
     ⟨(some 15), .nck (.t 14), none⟩,
     ⟨(some 16), .fa 0 (.t 15), none⟩,
     ⟨(some 17), .ld false 1 (.t 16), none⟩,
     ⟨(some 18), .mv (.t 0), none⟩,
     ⟨(some 19), .eq .ptr true (.t 17) (.t 18), none⟩])
   (.cond (.t 19)
    .bad
    .skip)))) }
def tab : PT := (.n 23 c_touchstonelaw05_vars (.n 13 c_touchstonelaw05_par (.n 8 c_touchstonelaw05_given (.n 6 c_touchstonelaw05_works (.n 4 c_touchstonelaw05_ExpandTexts (.n 3 c_touchstonelaw05_ExpandSplits .e .e) .e) (.n 7 c_touchstonelaw05_large .e .e)) (.n 11 c_expand_Text (.n 10 c_expand_Fields (.n 9 c_touchstonelaw05_blank .e .e) .e) (.n 12 c_touchstonelaw05_same .e .e))) (.n 18 c_expand_Value (.n 16 c_expand_Items (.n 15 c_touchstoneref05_Fields (.n 14 c_touchstoneref05_Text .e .e) .e) (.n 17 c_touchstoneref05_Items .e .e)) (.n 20 c_touchstoneref05_Same (.n 19 c_touchstoneref05_Value .e .e) (.n 21 c_touchstonelaw05_back .e .e)))) (.n 33 c_strings_Builder_WriteString (.n 28 c_touchstonelaw05_texts (.n 26 c_touchstonelaw05_lit (.n 25 c_touchstonelaw05_qpar (.n 24 c_touchstonelaw05_fields .e .e) .e) (.n 27 c_touchstonelaw05_quo .e .e)) (.n 31 c_expand_builder_add (.n 30 c_expand_builder_split (.n 29 c_expand_values .e .e) .e) (.n 32 c_expand_builder_end .e .e))) (.n 38 c_touchstoneref05_digits (.n 36 c_strconv_Itoa (.n 35 c_touchstoneref05_of (.n 34 c_strings_Builder_String .e .e) .e) (.n 37 c_slices_Index_string_string .e .e)) (.n 44 c_expand_values_1 (.n 39 c_touchstoneref05_texts .e .e) (.n 45 c_strings_Builder_copyCheck .e .e)))))
def prog (n : Nat) : Option Fun := tab.get n
theorem p_touchstonelaw05_ExpandSplits : prog f_touchstonelaw05_ExpandSplits = some c_touchstonelaw05_ExpandSplits := rfl
theorem p_touchstonelaw05_ExpandTexts : prog f_touchstonelaw05_ExpandTexts = some c_touchstonelaw05_ExpandTexts := rfl
theorem p_touchstonelaw05_works : prog f_touchstonelaw05_works = some c_touchstonelaw05_works := rfl
theorem p_touchstonelaw05_large : prog f_touchstonelaw05_large = some c_touchstonelaw05_large := rfl
theorem p_touchstonelaw05_given : prog f_touchstonelaw05_given = some c_touchstonelaw05_given := rfl
theorem p_touchstonelaw05_blank : prog f_touchstonelaw05_blank = some c_touchstonelaw05_blank := rfl
theorem p_expand_Fields : prog f_expand_Fields = some c_expand_Fields := rfl
theorem p_expand_Text : prog f_expand_Text = some c_expand_Text := rfl
theorem p_touchstonelaw05_same : prog f_touchstonelaw05_same = some c_touchstonelaw05_same := rfl
theorem p_touchstonelaw05_par : prog f_touchstonelaw05_par = some c_touchstonelaw05_par := rfl
theorem p_touchstoneref05_Text : prog f_touchstoneref05_Text = some c_touchstoneref05_Text := rfl
theorem p_touchstoneref05_Fields : prog f_touchstoneref05_Fields = some c_touchstoneref05_Fields := rfl
theorem p_expand_Items : prog f_expand_Items = some c_expand_Items := rfl
theorem p_touchstoneref05_Items : prog f_touchstoneref05_Items = some c_touchstoneref05_Items := rfl
theorem p_expand_Value : prog f_expand_Value = some c_expand_Value := rfl
theorem p_touchstoneref05_Value : prog f_touchstoneref05_Value = some c_touchstoneref05_Value := rfl
theorem p_touchstoneref05_Same : prog f_touchstoneref05_Same = some c_touchstoneref05_Same := rfl
theorem p_touchstonelaw05_back : prog f_touchstonelaw05_back = some c_touchstonelaw05_back := rfl
theorem p_touchstonelaw05_vars : prog f_touchstonelaw05_vars = some c_touchstonelaw05_vars := rfl
theorem p_touchstonelaw05_fields : prog f_touchstonelaw05_fields = some c_touchstonelaw05_fields := rfl
theorem p_touchstonelaw05_qpar : prog f_touchstonelaw05_qpar = some c_touchstonelaw05_qpar := rfl
theorem p_touchstonelaw05_lit : prog f_touchstonelaw05_lit = some c_touchstonelaw05_lit := rfl
theorem p_touchstonelaw05_quo : prog f_touchstonelaw05_quo = some c_touchstonelaw05_quo := rfl
theorem p_touchstonelaw05_texts : prog f_touchstonelaw05_texts = some c_touchstonelaw05_texts := rfl
theorem p_expand_values : prog f_expand_values = some c_expand_values := rfl
theorem p_expand_builder_split : prog f_expand_builder_split = some c_expand_builder_split := rfl
theorem p_expand_builder_add : prog f_expand_builder_add = some c_expand_builder_add := rfl
theorem p_expand_builder_end : prog f_expand_builder_end = some c_expand_builder_end := rfl
theorem p_strings_Builder_WriteString : prog f_strings_Builder_WriteString = some c_strings_Builder_WriteString := rfl
theorem p_strings_Builder_String : prog f_strings_Builder_String = some c_strings_Builder_String := rfl
theorem p_touchstoneref05_of : prog f_touchstoneref05_of = some c_touchstoneref05_of := rfl
theorem p_strconv_Itoa : prog f_strconv_Itoa = some c_strconv_Itoa := rfl
theorem p_slices_Index_string_string : prog f_slices_Index_string_string = some c_slices_Index_string_string := rfl
theorem p_touchstoneref05_digits : prog f_touchstoneref05_digits = some c_touchstoneref05_digits := rfl
theorem p_touchstoneref05_texts : prog f_touchstoneref05_texts = some c_touchstoneref05_texts := rfl
theorem p_expand_values_1 : prog f_expand_values_1 = some c_expand_values_1 := rfl
theorem p_strings_Builder_copyCheck : prog f_strings_Builder_copyCheck = some c_strings_Builder_copyCheck := rfl
end Go.Proofs.YtfpoihibfajhlaaDoor
