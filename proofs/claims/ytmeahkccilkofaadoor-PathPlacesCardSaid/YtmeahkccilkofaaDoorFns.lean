/-
  The functions, as the abstract machine's: numbers and texts. By program.
-/
import Derived.Test.YtmeahkccilkofaaDoorAmTab
import Derived.Test.YtmeahkccilkofaaDoorAmPrim
set_option linter.all false
set_option linter.unusedVariables false
set_option linter.unusedSimpArgs false
set_option linter.unusedSectionVars false
set_option maxRecDepth 100000
namespace Go.Proofs.YtmeahkccilkofaaDoor
open Go.Proofs.YtmeahkccilkofaaDoor.Am
def f_touchstonelaw06_PathPlaces : Nat := 5
def f_touchstonelaw06_PathOrder : Nat := 6
def f_touchstonelaw06_PathNames : Nat := 10
def f_touchstonelaw06_long : Nat := 29
def f_touchstonelaw06_awake : Nat := 30
def f_path_Show : Nat := 31
def f_touchstoneref06_Show : Nat := 32
def f_path_Under : Nat := 33
def f_touchstoneref06_Under : Nat := 34
def f_path_Less : Nat := 35
def f_touchstoneref06_Less : Nat := 36
def f_touchstoneref06_Same : Nat := 37
def f_path_Name : Nat := 38
def f_path_Clean : Nat := 39
def f_path_Steps : Nat := 40
def f_path_Last : Nat := 54
def f_path_Dir : Nat := 57
def f_path_Check : Nat := 59
def f_strings_Join : Nat := 82
def f_slices_Equal_string_string : Nat := 83
def f_slices_Compare_string_string : Nat := 84
def f_strings_ContainsAny : Nat := 85
def f_path_steps : Nat := 86
def f_slices_Collect_string : Nat := 87
def f_strings_TrimRight : Nat := 92
def f_strings_LastIndexByte : Nat := 93
def f_strings_Contains : Nat := 94
def f_cmp_Compare_string : Nat := 104
def f_strings_IndexAny : Nat := 105
def f_path_steps_1 : Nat := 106
def f_strings_SplitSeq : Nat := 107
def f_slices_AppendSeq_string_string : Nat := 108
def f_strings_trimRightByte : Nat := 113
def f_strings_makeASCIISet : Nat := 114
def f_strings_trimRightASCII : Nat := 115
def f_strings_trimRightUnicode : Nat := 116
def f_internal_bytealg_LastIndexByteString : Nat := 117
def f_strings_Index : Nat := 118
def f_cmp_isNaN_string : Nat := 126
def f_strings_IndexRune : Nat := 127
def f_strings_shouldUseASCIISet : Nat := 128
def f_strings_asciiSet_contains : Nat := 129
def f_strings_splitSeq : Nat := 130
def f_strings_IndexByte : Nat := 131
def f_unicode_utf8_DecodeLastRuneInString : Nat := 133
def f_strings_ContainsRune : Nat := 134
def f_internal_stringslite_Index : Nat := 135
def f_unicode_utf8_ValidRune : Nat := 154
def f_internal_bytealg_Cutover : Nat := 155
def f_internal_bytealg_IndexString : Nat := 156
def f_strings_splitSeq_1 : Nat := 157
def f_unicode_utf8_DecodeRuneInString : Nat := 158
def f_internal_stringslite_IndexByte : Nat := 159
def f_unicode_utf8_RuneStart : Nat := 162
def f_internal_bytealg_IndexRabinKarp_string : Nat := 163
def f_unicode_utf8_decodeRuneInStringSlow : Nat := 176
def f_internal_bytealg_IndexByteString : Nat := 177
def f_internal_bytealg_hashStr_string : Nat := 179
def c_touchstonelaw06_PathPlaces : Fun := { cin := [(.sl 1 .id), (.sl 1 .id)], cout := [.id], ntmps := 38, keep := false, res := [(4, none)], body :=
  (.seq (.reg [⟨(some 4), .mv (.c (.b false)), none⟩])
  (.seq (.seq (.reg [⟨(some 5), .mv (.t 0), none⟩,
    ⟨(some 6), .call f_touchstonelaw06_long [(.t 5)], none⟩,
    ⟨(some 7), .mv (.t 6), none⟩,
    ⟨(some 8), .mv (.t 1), (some (7, false))⟩,
    ⟨(some 9), .call f_touchstonelaw06_long [(.t 8)], (some (7, false))⟩,
    ⟨(some 10), .pick (.t 7) (.c (.b true)) (.t 9), none⟩])
  (.cond (.t 10)
   (.seq (.reg [⟨(some 11), .call f_touchstonelaw06_awake [], none⟩,
     ⟨(some 4), .mv (.t 11), none⟩])
   .ret)
   .skip))
  (.seq (.reg [⟨(some 12), .mv (.t 0), none⟩,
    ⟨(some 13), .call f_path_Show [(.t 12)], none⟩,
    ⟨(some 14), .mv (.t 0), none⟩,
    ⟨(some 15), .call f_touchstoneref06_Show [(.t 14)], none⟩,
    ⟨(some 16), .bin .eql (.t 13) (.t 15), none⟩,
    ⟨(some 17), .mv (.t 16), none⟩,
    ⟨(some 18), .mv (.t 0), (some (17, true))⟩,
    ⟨(some 19), .mv (.t 1), (some (17, true))⟩,
    ⟨(some 20), .call f_path_Under [(.t 18), (.t 19)], (some (17, true))⟩,
    ⟨(some 21), .mv (.t 0), (some (17, true))⟩,
    ⟨(some 22), .mv (.t 1), (some (17, true))⟩,
    ⟨(some 23), .call f_touchstoneref06_Under [(.t 21), (.t 22)], (some (17, true))⟩,
    ⟨(some 24), .eq .bool false (.t 20) (.t 23), (some (17, true))⟩,
    ⟨(some 25), .pick (.t 17) (.t 24) (.c (.b false)), none⟩,
    ⟨(some 26), .mv (.t 25), none⟩,
    ⟨(some 27), .mv (.t 0), (some (26, true))⟩,
    ⟨(some 28), .mv (.t 1), (some (26, true))⟩,
    ⟨(some 29), .call f_path_Less [(.t 27), (.t 28)], (some (26, true))⟩,
    ⟨(some 30), .mv (.t 0), (some (26, true))⟩,
    ⟨(some 31), .mv (.t 1), (some (26, true))⟩,
    ⟨(some 32), .call f_touchstoneref06_Less [(.t 30), (.t 31)], (some (26, true))⟩,
    ⟨(some 33), .eq .bool false (.t 29) (.t 32), (some (26, true))⟩,
    ⟨(some 34), .pick (.t 26) (.t 33) (.c (.b false)), none⟩,
    ⟨(some 35), .mv (.t 34), none⟩,
    ⟨(some 36), .call f_touchstonelaw06_awake [], (some (35, true))⟩,
    ⟨(some 37), .pick (.t 35) (.t 36) (.c (.b false)), none⟩,
    ⟨(some 4), .mv (.t 37), none⟩])
  .ret))) }
def c_touchstonelaw06_PathOrder : Fun := { cin := [(.sl 1 .id), (.sl 1 .id), (.sl 1 .id)], cout := [.id], ntmps := 78, keep := false, res := [(6, none)], body :=
  (.seq (.reg [⟨(some 6), .mv (.c (.b false)), none⟩])
  (.seq (.seq (.reg [⟨(some 9), .mv (.t 0), none⟩,
    ⟨(some 10), .call f_touchstonelaw06_long [(.t 9)], none⟩,
    ⟨(some 11), .mv (.t 10), none⟩,
    ⟨(some 12), .mv (.t 1), (some (11, false))⟩,
    ⟨(some 13), .call f_touchstonelaw06_long [(.t 12)], (some (11, false))⟩,
    ⟨(some 14), .pick (.t 11) (.c (.b true)) (.t 13), none⟩,
    ⟨(some 15), .mv (.t 14), none⟩,
    ⟨(some 16), .mv (.t 2), (some (15, false))⟩,
    ⟨(some 17), .call f_touchstonelaw06_long [(.t 16)], (some (15, false))⟩,
    ⟨(some 18), .pick (.t 15) (.c (.b true)) (.t 17), none⟩,
    ⟨(some 19), .mv (.t 18), none⟩,
    ⟨(some 20), .call f_touchstonelaw06_awake [], (some (19, false))⟩,
    ⟨(some 21), .un .not (.t 20), (some (19, false))⟩,
    ⟨(some 22), .pick (.t 19) (.c (.b true)) (.t 21), none⟩])
  (.cond (.t 22)
   (.seq (.reg [⟨(some 23), .call f_touchstonelaw06_awake [], none⟩,
     ⟨(some 6), .mv (.t 23), none⟩])
   .ret)
   .skip))
  (.seq (.reg [⟨(some 24), .mv (.t 0), none⟩,
    ⟨(some 25), .mv (.t 1), none⟩,
    ⟨(some 26), .call f_path_Less [(.t 24), (.t 25)], none⟩,
    ⟨(some 27), .mv (.t 1), none⟩,
    ⟨(some 28), .mv (.t 0), none⟩,
    ⟨(some 29), .call f_path_Less [(.t 27), (.t 28)], none⟩,
    ⟨(some 7), .mv (.t 26), none⟩,
    ⟨(some 8), .mv (.t 29), none⟩])
  (.seq (.seq (.reg [⟨(some 30), .mv (.t 7), none⟩,
    ⟨(some 31), .mv (.t 30), none⟩,
    ⟨(some 32), .mv (.t 8), (some (31, true))⟩,
    ⟨(some 33), .pick (.t 31) (.t 32) (.c (.b false)), none⟩,
    ⟨(some 34), .mv (.t 33), none⟩,
    ⟨(some 35), .mv (.t 7), (some (34, false))⟩,
    ⟨(some 36), .mv (.t 35), (some (34, false))⟩,
    ⟨(some 37), .mv (.t 8), (some (36, false))⟩,
    ⟨(some 38), .pick (.t 36) (.c (.b true)) (.t 37), (some (34, false))⟩,
    ⟨(some 39), .mv (.t 0), (some (34, false))⟩,
    ⟨(some 40), .mv (.t 1), (some (34, false))⟩,
    ⟨(some 41), .call f_touchstoneref06_Same [(.t 39), (.t 40)], (some (34, false))⟩,
    ⟨(some 42), .eq .bool false (.t 38) (.t 41), (some (34, false))⟩,
    ⟨(some 43), .pick (.t 34) (.c (.b true)) (.t 42), none⟩,
    ⟨(some 44), .mv (.t 43), none⟩,
    ⟨(some 45), .mv (.t 7), (some (44, false))⟩,
    ⟨(some 46), .mv (.t 45), (some (44, false))⟩,
    ⟨(some 47), .mv (.t 1), (some (46, true))⟩,
    ⟨(some 48), .mv (.t 2), (some (46, true))⟩,
    ⟨(some 49), .call f_path_Less [(.t 47), (.t 48)], (some (46, true))⟩,
    ⟨(some 50), .pick (.t 46) (.t 49) (.c (.b false)), (some (44, false))⟩,
    ⟨(some 51), .mv (.t 50), (some (44, false))⟩,
    ⟨(some 52), .mv (.t 0), (some (51, true))⟩,
    ⟨(some 53), .mv (.t 2), (some (51, true))⟩,
    ⟨(some 54), .call f_path_Less [(.t 52), (.t 53)], (some (51, true))⟩,
    ⟨(some 55), .un .not (.t 54), (some (51, true))⟩,
    ⟨(some 56), .pick (.t 51) (.t 55) (.c (.b false)), (some (44, false))⟩,
    ⟨(some 57), .pick (.t 44) (.c (.b true)) (.t 56), none⟩])
  (.cond (.t 57)
   (.seq (.reg [⟨(some 6), .mv (.c (.b false)), none⟩])
   .ret)
   .skip))
  (.seq (.reg [⟨(some 58), .mv (.t 0), none⟩,
    ⟨(some 59), .mv (.t 1), none⟩,
    ⟨(some 60), .call f_path_Under [(.t 58), (.t 59)], none⟩,
    ⟨(some 61), .mv (.t 60), none⟩,
    ⟨(some 62), .mv (.t 1), (some (61, true))⟩,
    ⟨(some 63), .mv (.t 2), (some (61, true))⟩,
    ⟨(some 64), .call f_path_Under [(.t 62), (.t 63)], (some (61, true))⟩,
    ⟨(some 65), .pick (.t 61) (.t 64) (.c (.b false)), none⟩,
    ⟨(some 66), .un .not (.t 65), none⟩,
    ⟨(some 67), .mv (.t 66), none⟩,
    ⟨(some 68), .mv (.t 0), (some (67, false))⟩,
    ⟨(some 69), .mv (.t 2), (some (67, false))⟩,
    ⟨(some 70), .call f_path_Under [(.t 68), (.t 69)], (some (67, false))⟩,
    ⟨(some 71), .mv (.t 70), (some (67, false))⟩,
    ⟨(some 72), .mv (.t 2), (some (71, true))⟩,
    ⟨(some 73), .mv (.t 0), (some (71, true))⟩,
    ⟨(some 74), .call f_path_Less [(.t 72), (.t 73)], (some (71, true))⟩,
    ⟨(some 75), .un .not (.t 74), (some (71, true))⟩,
    ⟨(some 76), .pick (.t 71) (.t 75) (.c (.b false)), (some (67, false))⟩,
    ⟨(some 77), .pick (.t 67) (.c (.b true)) (.t 76), none⟩,
    ⟨(some 6), .mv (.t 77), none⟩])
  .ret))))) }
def c_touchstonelaw06_PathNames : Fun := { cin := [], cout := [.id], ntmps := 162, keep := false, res := [(0, none)], body :=
  (.seq (.reg [⟨(some 0), .mv (.c (.b false)), none⟩])
  (.seq (.reg [⟨(some 1), .mv (.c (.s [])), none⟩])
  (.seq (.seq (.reg [⟨(some 2), .mv (.c (.i .i64 0)), none⟩])
  (.blk 0 (.loop (.seq (.seq (.reg [⟨(some 10), .mv (.t 2), none⟩,
      ⟨(some 11), .bin .lss (.t 10) (.c (.i .i64 64)), none⟩])
    (.cond (.t 11)
     .skip
     (.exit 0)))
    (.seq (.blk 1 (.reg [⟨(some 14), .mv (.t 1), none⟩,
       ⟨(some 15), .bin .add (.t 14) (.c (.s [110])), none⟩,
       ⟨(some 1), .mv (.t 15), none⟩]))
    (.reg [⟨(some 12), .mv (.t 2), none⟩,
      ⟨(some 13), .bin .add (.t 12) (.c (.i .i64 1)), none⟩,
      ⟨(some 2), .mv (.t 13), none⟩]))))))
  (.seq (.reg [⟨(some 17), .call f_path_Last [(.c (.s [47, 97, 47, 98, 47, 47]))], none⟩,
    ⟨(some 16), .mv (.t 17), none⟩,
    ⟨(some 18), .ext (.t 16) 0, none⟩,
    ⟨(some 19), .ext (.t 16) 1, none⟩,
    ⟨(some 3), .mv (.t 18), none⟩,
    ⟨(some 4), .mv (.t 19), none⟩])
  (.seq (.reg [⟨(some 21), .call f_path_Last [(.c (.s [97, 47, 46, 46]))], none⟩,
    ⟨(some 20), .mv (.t 21), none⟩,
    ⟨(some 22), .ext (.t 20) 0, none⟩,
    ⟨(some 23), .ext (.t 20) 1, none⟩,
    ⟨(some 5), .mv (.t 22), none⟩,
    ⟨(some 6), .mv (.t 23), none⟩])
  (.seq (.reg [⟨(some 25), .call f_path_Last [(.c (.s [47]))], none⟩,
    ⟨(some 24), .mv (.t 25), none⟩,
    ⟨(some 26), .ext (.t 24) 0, none⟩,
    ⟨(some 27), .ext (.t 24) 1, none⟩,
    ⟨(some 7), .mv (.t 26), none⟩,
    ⟨(some 8), .mv (.t 27), none⟩])
  (.seq (.reg [⟨(some 28), .mv (.t 1), none⟩,
    ⟨(some 29), .bin .add (.t 28) (.c (.s [47])), none⟩,
    ⟨(some 30), .mv (.t 1), none⟩,
    ⟨(some 31), .bin .add (.t 29) (.t 30), none⟩,
    ⟨(some 32), .bin .add (.t 31) (.c (.s [47])), none⟩,
    ⟨(some 33), .mv (.t 1), none⟩,
    ⟨(some 34), .bin .add (.t 32) (.t 33), none⟩,
    ⟨(some 35), .bin .add (.t 34) (.c (.s [47])), none⟩,
    ⟨(some 36), .mv (.t 1), none⟩,
    ⟨(some 37), .slS (.t 36) none (some (.c (.i .i64 61))), none⟩,
    ⟨(some 38), .bin .add (.t 35) (.t 37), none⟩,
    ⟨(some 9), .mv (.t 38), none⟩])
  (.seq (.reg [⟨(some 39), .mv (.t 1), none⟩,
    ⟨(some 40), .call f_path_Name [(.t 39)], none⟩,
    ⟨(some 41), .mv (.t 40), none⟩,
    ⟨(some 42), .mv (.t 1), (some (41, true))⟩,
    ⟨(some 43), .bin .add (.t 42) (.c (.s [110])), (some (41, true))⟩,
    ⟨(some 44), .call f_path_Name [(.t 43)], (some (41, true))⟩,
    ⟨(some 45), .un .not (.t 44), (some (41, true))⟩,
    ⟨(some 46), .pick (.t 41) (.t 45) (.c (.b false)), none⟩,
    ⟨(some 47), .mv (.t 46), none⟩,
    ⟨(some 48), .call f_path_Name [(.c (.s []))], (some (47, true))⟩,
    ⟨(some 49), .un .not (.t 48), (some (47, true))⟩,
    ⟨(some 50), .pick (.t 47) (.t 49) (.c (.b false)), none⟩,
    ⟨(some 51), .mv (.t 50), none⟩,
    ⟨(some 52), .call f_path_Name [(.c (.s [46]))], (some (51, true))⟩,
    ⟨(some 53), .un .not (.t 52), (some (51, true))⟩,
    ⟨(some 54), .pick (.t 51) (.t 53) (.c (.b false)), none⟩,
    ⟨(some 55), .mv (.t 54), none⟩,
    ⟨(some 56), .call f_path_Name [(.c (.s [46, 46]))], (some (55, true))⟩,
    ⟨(some 57), .un .not (.t 56), (some (55, true))⟩,
    ⟨(some 58), .pick (.t 55) (.t 57) (.c (.b false)), none⟩,
    ⟨(some 59), .mv (.t 58), none⟩,
    ⟨(some 60), .call f_path_Name [(.c (.s [97, 47, 98]))], (some (59, true))⟩,
    ⟨(some 61), .un .not (.t 60), (some (59, true))⟩,
    ⟨(some 62), .pick (.t 59) (.t 61) (.c (.b false)), none⟩,
    ⟨(some 63), .mv (.t 62), none⟩,
    ⟨(some 64), .call f_path_Name [(.c (.s [97, 10]))], (some (63, true))⟩,
    ⟨(some 65), .un .not (.t 64), (some (63, true))⟩,
    ⟨(some 66), .pick (.t 63) (.t 65) (.c (.b false)), none⟩,
    ⟨(some 67), .mv (.t 66), none⟩,
    ⟨(some 68), .call f_path_Name [(.c (.s [46, 46, 46]))], (some (67, true))⟩,
    ⟨(some 69), .pick (.t 67) (.t 68) (.c (.b false)), none⟩,
    ⟨(some 70), .mv (.t 69), none⟩,
    ⟨(some 71), .mv (.t 3), (some (70, true))⟩,
    ⟨(some 72), .bin .eql (.t 71) (.c (.s [98])), (some (70, true))⟩,
    ⟨(some 73), .pick (.t 70) (.t 72) (.c (.b false)), none⟩,
    ⟨(some 74), .mv (.t 73), none⟩,
    ⟨(some 75), .mv (.t 4), (some (74, true))⟩,
    ⟨(some 76), .pick (.t 74) (.t 75) (.c (.b false)), none⟩,
    ⟨(some 77), .mv (.t 76), none⟩,
    ⟨(some 78), .mv (.t 6), (some (77, true))⟩,
    ⟨(some 79), .un .not (.t 78), (some (77, true))⟩,
    ⟨(some 80), .pick (.t 77) (.t 79) (.c (.b false)), none⟩,
    ⟨(some 81), .mv (.t 80), none⟩,
    ⟨(some 82), .mv (.t 8), (some (81, true))⟩,
    ⟨(some 83), .un .not (.t 82), (some (81, true))⟩,
    ⟨(some 84), .pick (.t 81) (.t 83) (.c (.b false)), none⟩,
    ⟨(some 85), .mv (.t 84), none⟩,
    ⟨(some 86), .call f_path_Check [(.c (.s []))], (some (85, true))⟩,
    ⟨(some 87), .bin .eql (.t 86) (.c (.i .i64 4)), (some (85, true))⟩,
    ⟨(some 88), .pick (.t 85) (.t 87) (.c (.b false)), none⟩,
    ⟨(some 89), .mv (.t 88), none⟩,
    ⟨(some 90), .call f_path_Check [(.c (.s [97, 0]))], (some (89, true))⟩,
    ⟨(some 91), .bin .eql (.t 90) (.c (.i .i64 4)), (some (89, true))⟩,
    ⟨(some 92), .pick (.t 89) (.t 91) (.c (.b false)), none⟩,
    ⟨(some 93), .mv (.t 92), none⟩,
    ⟨(some 94), .mv (.t 9), (some (93, true))⟩,
    ⟨(some 95), .call f_path_Check [(.t 94)], (some (93, true))⟩,
    ⟨(some 96), .bin .eql (.t 95) (.c (.i .i64 0)), (some (93, true))⟩,
    ⟨(some 97), .pick (.t 93) (.t 96) (.c (.b false)), none⟩,
    ⟨(some 98), .mv (.t 97), none⟩,
    ⟨(some 99), .mv (.t 9), (some (98, true))⟩,
    ⟨(some 100), .len 0 (.t 99), (some (98, true))⟩,
    ⟨(some 101), .bin .eql (.t 100) (.c (.i .i64 256)), (some (98, true))⟩,
    ⟨(some 102), .pick (.t 98) (.t 101) (.c (.b false)), none⟩,
    ⟨(some 103), .mv (.t 102), none⟩,
    ⟨(some 104), .mv (.t 9), (some (103, true))⟩,
    ⟨(some 105), .bin .add (.t 104) (.c (.s [120])), (some (103, true))⟩,
    ⟨(some 106), .call f_path_Check [(.t 105)], (some (103, true))⟩,
    ⟨(some 107), .bin .eql (.t 106) (.c (.i .i64 40)), (some (103, true))⟩,
    ⟨(some 108), .pick (.t 103) (.t 107) (.c (.b false)), none⟩,
    ⟨(some 109), .mv (.t 108), none⟩,
    ⟨(some 110), .mv (.t 1), (some (109, true))⟩,
    ⟨(some 111), .bin .add (.t 110) (.c (.s [110])), (some (109, true))⟩,
    ⟨(some 112), .call f_path_Check [(.t 111)], (some (109, true))⟩,
    ⟨(some 113), .bin .eql (.t 112) (.c (.i .i64 4)), (some (109, true))⟩,
    ⟨(some 114), .pick (.t 109) (.t 113) (.c (.b false)), none⟩,
    ⟨(some 115), .mv (.t 114), none⟩,
    ⟨(some 116), .call f_path_Check [(.c (.s [47]))], (some (115, true))⟩,
    ⟨(some 117), .bin .eql (.t 116) (.c (.i .i64 0)), (some (115, true))⟩,
    ⟨(some 118), .pick (.t 115) (.t 117) (.c (.b false)), none⟩,
    ⟨(some 119), .mv (.t 118), none⟩,
    ⟨(some 120), .call f_path_Check [(.c (.s [46, 46, 47, 46, 46]))], (some (119, true))⟩,
    ⟨(some 121), .bin .eql (.t 120) (.c (.i .i64 0)), (some (119, true))⟩,
    ⟨(some 122), .pick (.t 119) (.t 121) (.c (.b false)), none⟩,
    ⟨(some 123), .mv (.t 122), none⟩,
    ⟨(some 124), .call f_path_Dir [(.c (.s [47]))], (some (123, true))⟩,
    ⟨(some 125), .pick (.t 123) (.t 124) (.c (.b false)), none⟩,
    ⟨(some 126), .mv (.t 125), none⟩,
    ⟨(some 127), .call f_path_Dir [(.c (.s [97, 47]))], (some (126, true))⟩,
    ⟨(some 128), .pick (.t 126) (.t 127) (.c (.b false)), none⟩,
    ⟨(some 129), .mv (.t 128), none⟩,
    ⟨(some 130), .call f_path_Dir [(.c (.s [46, 46]))], (some (129, true))⟩,
    ⟨(some 131), .pick (.t 129) (.t 130) (.c (.b false)), none⟩,
    ⟨(some 132), .mv (.t 131), none⟩,
    ⟨(some 133), .call f_path_Dir [(.c (.s [46]))], (some (132, true))⟩,
    ⟨(some 134), .pick (.t 132) (.t 133) (.c (.b false)), none⟩,
    ⟨(some 135), .mv (.t 134), none⟩,
    ⟨(some 136), .call f_path_Dir [(.c (.s []))], (some (135, true))⟩,
    ⟨(some 137), .un .not (.t 136), (some (135, true))⟩,
    ⟨(some 138), .pick (.t 135) (.t 137) (.c (.b false)), none⟩,
    ⟨(some 139), .mv (.t 138), none⟩,
    ⟨(some 140), .call f_path_Dir [(.c (.s [97]))], (some (139, true))⟩,
    ⟨(some 141), .un .not (.t 140), (some (139, true))⟩,
    ⟨(some 142), .pick (.t 139) (.t 141) (.c (.b false)), none⟩,
    ⟨(some 143), .mv (.t 142), none⟩,
    ⟨(some 144), .call f_path_Dir [(.c (.s [47, 46, 46, 97]))], (some (143, true))⟩,
    ⟨(some 145), .un .not (.t 144), (some (143, true))⟩,
    ⟨(some 146), .pick (.t 143) (.t 145) (.c (.b false)), none⟩,
    ⟨(some 147), .mv (.t 146), none⟩,
    ⟨(some 148), .call f_path_Clean [(.c (.s [46, 46, 47, 46, 46]))], (some (147, true))⟩,
    ⟨(some 149), .len 1 (.t 148), (some (147, true))⟩,
    ⟨(some 150), .bin .eql (.t 149) (.c (.i .i64 0)), (some (147, true))⟩,
    ⟨(some 151), .pick (.t 147) (.t 150) (.c (.b false)), none⟩,
    ⟨(some 152), .mv (.t 151), none⟩,
    ⟨(some 153), .call f_path_Show [(.c .nsl)], (some (152, true))⟩,
    ⟨(some 154), .bin .eql (.t 153) (.c (.s [47])), (some (152, true))⟩,
    ⟨(some 155), .pick (.t 152) (.t 154) (.c (.b false)), none⟩,
    ⟨(some 156), .mv (.t 155), none⟩,
    ⟨(some 157), .call f_path_Under [(.c .nsl), (.c .nsl)], (some (156, true))⟩,
    ⟨(some 158), .pick (.t 156) (.t 157) (.c (.b false)), none⟩,
    ⟨(some 159), .mv (.t 158), none⟩,
    ⟨(some 160), .call f_touchstonelaw06_awake [], (some (159, true))⟩,
    ⟨(some 161), .pick (.t 159) (.t 160) (.c (.b false)), none⟩,
    ⟨(some 0), .mv (.t 161), none⟩])
  .ret)))))))) }
def c_touchstonelaw06_long : Fun := { cin := [(.sl 1 .id)], cout := [.id], ntmps := 19, keep := false, res := [(2, none)], body :=
  (.seq (.reg [⟨(some 2), .mv (.c (.b false)), none⟩])
  (.seq (.seq (.reg [⟨(some 4), .mv (.t 0), none⟩,
    ⟨(some 5), .len 1 (.t 4), none⟩,
    ⟨(some 6), .bin .gtr (.t 5) (.c (.i .i64 100)), none⟩])
  (.cond (.t 6)
   (.seq (.reg [⟨(some 2), .mv (.c (.b true)), none⟩])
   .ret)
   .skip))
  (.seq (.seq (.reg [⟨(some 3), .mv (.c (.i .i64 0)), none⟩])
  (.blk 0 (.loop (.seq (.seq (.reg [⟨(some 7), .mv (.t 3), none⟩,
      ⟨(some 8), .mv (.t 0), none⟩,
      ⟨(some 9), .len 1 (.t 8), none⟩,
      ⟨(some 10), .bin .lss (.t 7) (.t 9), none⟩])
    (.cond (.t 10)
     .skip
     (.exit 0)))
    (.seq (.blk 1 (.seq (.reg [⟨(some 13), .mv (.t 0), none⟩,
       ⟨(some 14), .mv (.t 3), none⟩,
       ⟨(some 15), .ia 1 (.t 13) (.t 14), none⟩,
       ⟨(some 16), .ld false 1 (.t 15), none⟩,
       ⟨(some 17), .len 0 (.t 16), none⟩,
       ⟨(some 18), .bin .gtr (.t 17) (.c (.i .i64 500)), none⟩])
     (.cond (.t 18)
      (.seq (.reg [⟨(some 2), .mv (.c (.b true)), none⟩])
      .ret)
      .skip)))
    (.reg [⟨(some 11), .mv (.t 3), none⟩,
      ⟨(some 12), .bin .add (.t 11) (.c (.i .i64 1)), none⟩,
      ⟨(some 3), .mv (.t 12), none⟩]))))))
  (.seq (.reg [⟨(some 2), .mv (.c (.b false)), none⟩])
  .ret)))) }
def c_touchstonelaw06_awake : Fun := { cin := [], cout := [.id], ntmps := 35, keep := false, res := [(0, none)], body :=
  (.seq (.reg [⟨(some 0), .mv (.c (.b false)), none⟩])
  (.seq (.reg [⟨(some 2), .call f_path_Steps [(.c (.s [47, 97, 47, 47, 46, 47, 98, 47, 46, 46]))], none⟩,
    ⟨(some 1), .mv (.t 2), none⟩])
  (.seq (.reg [⟨(some 3), .mv (.t 1), none⟩,
    ⟨(some 4), .bsl 1 [(.c (.s [97])), (.c (.s [98])), (.c (.s [46, 46]))], none⟩,
    ⟨(some 5), .call f_touchstoneref06_Same [(.t 3), (.t 4)], none⟩,
    ⟨(some 6), .mv (.t 5), none⟩,
    ⟨(some 7), .call f_path_Dir [(.c (.s [47, 97, 47, 47, 46, 47, 98, 47, 46, 46]))], (some (6, true))⟩,
    ⟨(some 8), .pick (.t 6) (.t 7) (.c (.b false)), none⟩,
    ⟨(some 9), .mv (.t 8), none⟩,
    ⟨(some 10), .call f_path_Clean [(.c (.s [47, 97, 47, 47, 46, 47, 98, 47, 46, 46]))], (some (9, true))⟩,
    ⟨(some 11), .bsl 1 [(.c (.s [97]))], (some (9, true))⟩,
    ⟨(some 12), .call f_touchstoneref06_Same [(.t 10), (.t 11)], (some (9, true))⟩,
    ⟨(some 13), .pick (.t 9) (.t 12) (.c (.b false)), none⟩,
    ⟨(some 14), .mv (.t 13), none⟩,
    ⟨(some 15), .bsl 1 [(.c (.s [97])), (.c (.s [98]))], (some (14, true))⟩,
    ⟨(some 16), .call f_path_Show [(.t 15)], (some (14, true))⟩,
    ⟨(some 17), .bin .eql (.t 16) (.c (.s [47, 97, 47, 98])), (some (14, true))⟩,
    ⟨(some 18), .pick (.t 14) (.t 17) (.c (.b false)), none⟩,
    ⟨(some 19), .mv (.t 18), none⟩,
    ⟨(some 20), .bsl 1 [(.c (.s [97]))], (some (19, true))⟩,
    ⟨(some 21), .bsl 1 [(.c (.s [97])), (.c (.s [98]))], (some (19, true))⟩,
    ⟨(some 22), .call f_path_Under [(.t 20), (.t 21)], (some (19, true))⟩,
    ⟨(some 23), .pick (.t 19) (.t 22) (.c (.b false)), none⟩,
    ⟨(some 24), .mv (.t 23), none⟩,
    ⟨(some 25), .bsl 1 [(.c (.s [98]))], (some (24, true))⟩,
    ⟨(some 26), .bsl 1 [(.c (.s [97])), (.c (.s [98]))], (some (24, true))⟩,
    ⟨(some 27), .call f_path_Under [(.t 25), (.t 26)], (some (24, true))⟩,
    ⟨(some 28), .un .not (.t 27), (some (24, true))⟩,
    ⟨(some 29), .pick (.t 24) (.t 28) (.c (.b false)), none⟩,
    ⟨(some 30), .mv (.t 29), none⟩,
    ⟨(some 31), .bsl 1 [(.c (.s [97]))], (some (30, true))⟩,
    ⟨(some 32), .bsl 1 [(.c (.s [97])), (.c (.s [98]))], (some (30, true))⟩,
    ⟨(some 33), .call f_path_Less [(.t 31), (.t 32)], (some (30, true))⟩,
    ⟨(some 34), .pick (.t 30) (.t 33) (.c (.b false)), none⟩,
    ⟨(some 0), .mv (.t 34), none⟩])
  .ret))) }
def c_path_Show : Fun := { cin := [(.sl 1 .id)], cout := [.id], ntmps := 9, keep := false, res := [(2, none)], body :=
  (.seq (.reg [⟨(some 2), .mv (.c (.s [])), none⟩])
  (.seq (.seq (.reg [⟨(some 3), .mv (.t 0), none⟩,
    ⟨(some 4), .len 1 (.t 3), none⟩,
    ⟨(some 5), .bin .eql (.t 4) (.c (.i .i64 0)), none⟩])
  (.cond (.t 5)
   (.seq (.reg [⟨(some 2), .mv (.c (.s [47])), none⟩])
   .ret)
   .skip))
  (.seq (.reg [⟨(some 6), .mv (.t 0), none⟩,
    ⟨(some 7), .call f_strings_Join [(.t 6), (.c (.s [47]))], none⟩,
    ⟨(some 8), .bin .add (.c (.s [47])) (.t 7), none⟩,
    ⟨(some 2), .mv (.t 8), none⟩])
  .ret))) }
def c_touchstoneref06_Show : Fun := { cin := [(.sl 1 .id)], cout := [.id], ntmps := 22, keep := false, res := [(2, none)], body :=
  (.seq (.reg [⟨(some 2), .mv (.c (.s [])), none⟩])
  (.seq (.seq (.reg [⟨(some 5), .mv (.t 0), none⟩,
    ⟨(some 6), .len 1 (.t 5), none⟩,
    ⟨(some 7), .bin .eql (.t 6) (.c (.i .i64 0)), none⟩])
  (.cond (.t 7)
   (.seq (.reg [⟨(some 2), .mv (.c (.s [47])), none⟩])
   .ret)
   .skip))
  (.seq (.reg [⟨(some 3), .mv (.c (.s [])), none⟩])
  (.seq (.seq (.reg [⟨(some 4), .mv (.c (.i .i64 0)), none⟩])
  (.blk 0 (.loop (.seq (.seq (.reg [⟨(some 8), .mv (.t 4), none⟩,
      ⟨(some 9), .mv (.t 0), none⟩,
      ⟨(some 10), .len 1 (.t 9), none⟩,
      ⟨(some 11), .bin .lss (.t 8) (.t 10), none⟩])
    (.cond (.t 11)
     .skip
     (.exit 0)))
    (.seq (.blk 1 (.reg [⟨(some 14), .mv (.t 3), none⟩,
       ⟨(some 15), .bin .add (.t 14) (.c (.s [47])), none⟩,
       ⟨(some 16), .mv (.t 0), none⟩,
       ⟨(some 17), .mv (.t 4), none⟩,
       ⟨(some 18), .ia 1 (.t 16) (.t 17), none⟩,
       ⟨(some 19), .ld false 1 (.t 18), none⟩,
       ⟨(some 20), .bin .add (.t 15) (.t 19), none⟩,
       ⟨(some 3), .mv (.t 20), none⟩]))
    (.reg [⟨(some 12), .mv (.t 4), none⟩,
      ⟨(some 13), .bin .add (.t 12) (.c (.i .i64 1)), none⟩,
      ⟨(some 4), .mv (.t 13), none⟩]))))))
  (.seq (.reg [⟨(some 21), .mv (.t 3), none⟩,
    ⟨(some 2), .mv (.t 21), none⟩])
  .ret))))) }
def c_path_Under : Fun := { cin := [(.sl 1 .id), (.sl 1 .id)], cout := [.id], ntmps := 18, keep := false, res := [(4, none)], body :=
  (.seq (.reg [⟨(some 4), .mv (.c (.b false)), none⟩])
  (.seq (.reg [⟨(some 5), .mv (.t 0), none⟩,
    ⟨(some 6), .len 1 (.t 5), none⟩,
    ⟨(some 7), .mv (.t 1), none⟩,
    ⟨(some 8), .len 1 (.t 7), none⟩,
    ⟨(some 9), .bin .leq (.t 6) (.t 8), none⟩,
    ⟨(some 10), .mv (.t 9), none⟩,
    ⟨(some 11), .mv (.t 0), (some (10, true))⟩,
    ⟨(some 12), .mv (.t 1), (some (10, true))⟩,
    ⟨(some 13), .mv (.t 0), (some (10, true))⟩,
    ⟨(some 14), .len 1 (.t 13), (some (10, true))⟩,
    ⟨(some 15), .slc false 1 (.t 12) none (some (.t 14)) none, (some (10, true))⟩,
    ⟨(some 16), .call f_slices_Equal_string_string [(.t 11), (.t 15)], (some (10, true))⟩,
    ⟨(some 17), .pick (.t 10) (.t 16) (.c (.b false)), none⟩,
    ⟨(some 4), .mv (.t 17), none⟩])
  .ret)) }
def c_touchstoneref06_Under : Fun := { cin := [(.sl 1 .id), (.sl 1 .id)], cout := [.id], ntmps := 26, keep := false, res := [(4, none)], body :=
  (.seq (.reg [⟨(some 4), .mv (.c (.b false)), none⟩])
  (.seq (.seq (.reg [⟨(some 6), .mv (.t 0), none⟩,
    ⟨(some 7), .len 1 (.t 6), none⟩,
    ⟨(some 8), .mv (.t 1), none⟩,
    ⟨(some 9), .len 1 (.t 8), none⟩,
    ⟨(some 10), .bin .gtr (.t 7) (.t 9), none⟩])
  (.cond (.t 10)
   (.seq (.reg [⟨(some 4), .mv (.c (.b false)), none⟩])
   .ret)
   .skip))
  (.seq (.seq (.reg [⟨(some 5), .mv (.c (.i .i64 0)), none⟩])
  (.blk 0 (.loop (.seq (.seq (.reg [⟨(some 11), .mv (.t 5), none⟩,
      ⟨(some 12), .mv (.t 0), none⟩,
      ⟨(some 13), .len 1 (.t 12), none⟩,
      ⟨(some 14), .bin .lss (.t 11) (.t 13), none⟩])
    (.cond (.t 14)
     .skip
     (.exit 0)))
    (.seq (.blk 1 (.seq (.regD [⟨(some 17), .mv (.t 0), none⟩,
       ⟨(some 18), .mv (.t 5), none⟩,
       ⟨(some 19), .ia 1 (.t 17) (.t 18), none⟩,
       ⟨(some 20), .ld false 1 (.t 19), none⟩,
       ⟨(some 21), .mv (.t 1), none⟩,
       ⟨(some 22), .mv (.t 5), none⟩,
       ⟨(some 23), .ia 1 (.t 21) (.t 22), none⟩,
       ⟨(some 24), .ld false 1 (.t 23), none⟩,
       ⟨(some 25), .bin .neq (.t 20) (.t 24), none⟩] [])
     (.cond (.t 25)
      (.seq (.reg [⟨(some 4), .mv (.c (.b false)), none⟩])
      .ret)
      .skip)))
    (.reg [⟨(some 15), .mv (.t 5), none⟩,
      ⟨(some 16), .bin .add (.t 15) (.c (.i .i64 1)), none⟩,
      ⟨(some 5), .mv (.t 16), none⟩]))))))
  (.seq (.reg [⟨(some 4), .mv (.c (.b true)), none⟩])
  .ret)))) }
def c_path_Less : Fun := { cin := [(.sl 1 .id), (.sl 1 .id)], cout := [.id], ntmps := 9, keep := false, res := [(4, none)], body :=
  (.seq (.reg [⟨(some 4), .mv (.c (.b false)), none⟩])
  (.seq (.reg [⟨(some 5), .mv (.t 0), none⟩,
    ⟨(some 6), .mv (.t 1), none⟩,
    ⟨(some 7), .call f_slices_Compare_string_string [(.t 5), (.t 6)], none⟩,
    ⟨(some 8), .bin .lss (.t 7) (.c (.i .i64 0)), none⟩,
    ⟨(some 4), .mv (.t 8), none⟩])
  .ret)) }
def c_touchstoneref06_Less : Fun := { cin := [(.sl 1 .id), (.sl 1 .id)], cout := [.id], ntmps := 41, keep := false, res := [(4, none)], body :=
  (.seq (.reg [⟨(some 4), .mv (.c (.b false)), none⟩])
  (.seq (.seq (.reg [⟨(some 5), .mv (.c (.i .i64 0)), none⟩])
  (.blk 0 (.loop (.seq (.seq (.reg [⟨(some 6), .mv (.t 5), none⟩,
      ⟨(some 7), .mv (.t 0), none⟩,
      ⟨(some 8), .len 1 (.t 7), none⟩,
      ⟨(some 9), .bin .lss (.t 6) (.t 8), none⟩,
      ⟨(some 10), .mv (.t 9), none⟩,
      ⟨(some 11), .mv (.t 5), (some (10, true))⟩,
      ⟨(some 12), .mv (.t 1), (some (10, true))⟩,
      ⟨(some 13), .len 1 (.t 12), (some (10, true))⟩,
      ⟨(some 14), .bin .lss (.t 11) (.t 13), (some (10, true))⟩,
      ⟨(some 15), .pick (.t 10) (.t 14) (.c (.b false)), none⟩])
    (.cond (.t 15)
     .skip
     (.exit 0)))
    (.seq (.blk 1 (.seq (.regD [⟨(some 18), .mv (.t 0), none⟩,
       ⟨(some 19), .mv (.t 5), none⟩,
       ⟨(some 20), .ia 1 (.t 18) (.t 19), none⟩,
       ⟨(some 21), .ld false 1 (.t 20), none⟩,
       ⟨(some 22), .mv (.t 1), none⟩,
       ⟨(some 23), .mv (.t 5), none⟩,
       ⟨(some 24), .ia 1 (.t 22) (.t 23), none⟩,
       ⟨(some 25), .ld false 1 (.t 24), none⟩,
       ⟨(some 26), .bin .neq (.t 21) (.t 25), none⟩] [])
     (.cond (.t 26)
      (.seq (.regD [⟨(some 27), .mv (.t 0), none⟩,
        ⟨(some 28), .mv (.t 5), none⟩,
        ⟨(some 29), .ia 1 (.t 27) (.t 28), none⟩,
        ⟨(some 30), .ld false 1 (.t 29), none⟩,
        ⟨(some 31), .mv (.t 1), none⟩,
        ⟨(some 32), .mv (.t 5), none⟩,
        ⟨(some 33), .ia 1 (.t 31) (.t 32), none⟩,
        ⟨(some 34), .ld false 1 (.t 33), none⟩,
        ⟨(some 35), .bin .lss (.t 30) (.t 34), none⟩,
        ⟨(some 4), .mv (.t 35), none⟩] [])
      .ret)
      .skip)))
    (.reg [⟨(some 16), .mv (.t 5), none⟩,
      ⟨(some 17), .bin .add (.t 16) (.c (.i .i64 1)), none⟩,
      ⟨(some 5), .mv (.t 17), none⟩]))))))
  (.seq (.reg [⟨(some 36), .mv (.t 0), none⟩,
    ⟨(some 37), .len 1 (.t 36), none⟩,
    ⟨(some 38), .mv (.t 1), none⟩,
    ⟨(some 39), .len 1 (.t 38), none⟩,
    ⟨(some 40), .bin .lss (.t 37) (.t 39), none⟩,
    ⟨(some 4), .mv (.t 40), none⟩])
  .ret))) }
def c_touchstoneref06_Same : Fun := { cin := [(.sl 1 .id), (.sl 1 .id)], cout := [.id], ntmps := 15, keep := false, res := [(4, none)], body :=
  (.seq (.reg [⟨(some 4), .mv (.c (.b false)), none⟩])
  (.seq (.reg [⟨(some 5), .mv (.t 0), none⟩,
    ⟨(some 6), .len 1 (.t 5), none⟩,
    ⟨(some 7), .mv (.t 1), none⟩,
    ⟨(some 8), .len 1 (.t 7), none⟩,
    ⟨(some 9), .bin .eql (.t 6) (.t 8), none⟩,
    ⟨(some 10), .mv (.t 9), none⟩,
    ⟨(some 11), .mv (.t 0), (some (10, true))⟩,
    ⟨(some 12), .mv (.t 1), (some (10, true))⟩,
    ⟨(some 13), .call f_touchstoneref06_Under [(.t 11), (.t 12)], (some (10, true))⟩,
    ⟨(some 14), .pick (.t 10) (.t 13) (.c (.b false)), none⟩,
    ⟨(some 4), .mv (.t 14), none⟩])
  .ret)) }
def c_path_Name : Fun := { cin := [.id], cout := [.id], ntmps := 23, keep := false, res := [(2, none)], body :=
  (.seq (.reg [⟨(some 2), .mv (.c (.b false)), none⟩])
  (.seq (.reg [⟨(some 3), .mv (.t 0), none⟩,
    ⟨(some 4), .bin .neq (.t 3) (.c (.s [])), none⟩,
    ⟨(some 5), .mv (.t 4), none⟩,
    ⟨(some 6), .mv (.t 0), (some (5, true))⟩,
    ⟨(some 7), .len 0 (.t 6), (some (5, true))⟩,
    ⟨(some 8), .bin .leq (.t 7) (.c (.i .i64 64)), (some (5, true))⟩,
    ⟨(some 9), .pick (.t 5) (.t 8) (.c (.b false)), none⟩,
    ⟨(some 10), .mv (.t 9), none⟩,
    ⟨(some 11), .mv (.t 0), (some (10, true))⟩,
    ⟨(some 12), .bin .neq (.t 11) (.c (.s [46])), (some (10, true))⟩,
    ⟨(some 13), .pick (.t 10) (.t 12) (.c (.b false)), none⟩,
    ⟨(some 14), .mv (.t 13), none⟩,
    ⟨(some 15), .mv (.t 0), (some (14, true))⟩,
    ⟨(some 16), .bin .neq (.t 15) (.c (.s [46, 46])), (some (14, true))⟩,
    ⟨(some 17), .pick (.t 14) (.t 16) (.c (.b false)), none⟩,
    ⟨(some 18), .mv (.t 17), none⟩,
    ⟨(some 19), .mv (.t 0), (some (18, true))⟩,
    ⟨(some 20), .call f_strings_ContainsAny [(.t 19), (.c (.s [47, 0, 10]))], (some (18, true))⟩,
    ⟨(some 21), .un .not (.t 20), (some (18, true))⟩,
    ⟨(some 22), .pick (.t 18) (.t 21) (.c (.b false)), none⟩,
    ⟨(some 2), .mv (.t 22), none⟩])
  .ret)) }
def c_path_Clean : Fun := { cin := [.id], cout := [(.sl 1 .id)], ntmps := 25, keep := false, res := [(2, none)], body :=
  (.seq (.reg [⟨(some 2), .mv (.c .nsl), none⟩])
  (.seq (.reg [⟨(some 3), .alloc 22 [.nsl], none⟩])
  (.seq (.seq (.reg [⟨(some 5), .mv (.t 0), none⟩,
    ⟨(some 6), .call f_path_steps [(.t 5)], none⟩])
  (.blk 0 (.rf (.t 6) [7] (.reg [⟨(some 4), .mv (.t 7), none⟩])
   (.blk 1 (.blk 2 (.seq (.reg [⟨(some 9), .mv (.t 4), none⟩,
        ⟨(some 10), .bin .neq (.t 9) (.c (.s [46, 46])), none⟩,
        ⟨(some 8), .mv (.t 10), none⟩])
      (.cond (.t 8)
       (.reg [⟨(some 11), .ld false 1 (.t 3), none⟩,
         ⟨(some 12), .mv (.t 4), none⟩,
         ⟨(some 13), .bsl 1 [(.t 12)], none⟩,
         ⟨(some 14), .app 1 9 (.t 11) (.t 13), none⟩,
         ⟨none, .st 1 (.t 3) (.t 14), none⟩])
       (.seq (.reg [⟨(some 16), .ld false 1 (.t 3), none⟩,
         ⟨(some 17), .len 1 (.t 16), none⟩,
         ⟨(some 18), .bin .gtr (.t 17) (.c (.i .i64 0)), none⟩,
         ⟨(some 15), .mv (.t 18), none⟩])
       (.cond (.t 15)
        (.reg [⟨(some 19), .ld false 1 (.t 3), none⟩,
          ⟨(some 20), .ld false 1 (.t 3), none⟩,
          ⟨(some 21), .len 1 (.t 20), none⟩,
          ⟨(some 22), .bin .sub (.t 21) (.c (.i .i64 1)), none⟩,
          ⟨(some 23), .slc true 1 (.t 19) none (some (.t 22)) none, none⟩,
          ⟨none, .st 1 (.t 3) (.t 23), none⟩])
        .skip)))))))))
  (.seq (.reg [⟨(some 24), .ld false 1 (.t 3), none⟩,
    ⟨(some 2), .mv (.t 24), none⟩])
  .ret)))) }
def c_path_Steps : Fun := { cin := [.id], cout := [(.sl 1 .id)], ntmps := 6, keep := false, res := [(2, none)], body :=
  (.seq (.reg [⟨(some 2), .mv (.c .nsl), none⟩])
  (.seq (.reg [⟨(some 3), .mv (.t 0), none⟩,
    ⟨(some 4), .call f_path_steps [(.t 3)], none⟩,
    ⟨(some 5), .call f_slices_Collect_string [(.t 4)], none⟩,
    ⟨(some 2), .mv (.t 5), none⟩])
  .ret)) }
def c_path_Last : Fun := { cin := [.id], cout := [.id, .id], ntmps := 15, keep := false, res := [(2, none), (3, none)], body :=
  (.seq (.reg [⟨(some 2), .mv (.c (.s [])), none⟩,
    ⟨(some 3), .mv (.c (.b false)), none⟩])
  (.seq (.reg [⟨(some 4), .mv (.t 0), none⟩,
    ⟨(some 5), .call f_strings_TrimRight [(.t 4), (.c (.s [47]))], none⟩,
    ⟨(some 0), .mv (.t 5), none⟩])
  (.seq (.reg [⟨(some 6), .mv (.t 0), none⟩,
    ⟨(some 7), .mv (.t 0), none⟩,
    ⟨(some 8), .call f_strings_LastIndexByte [(.t 7), (.c (.i .u8 47))], none⟩,
    ⟨(some 9), .bin .add (.t 8) (.c (.i .i64 1)), none⟩,
    ⟨(some 10), .slS (.t 6) (some (.t 9)) none, none⟩,
    ⟨(some 0), .mv (.t 10), none⟩])
  (.seq (.seq (.reg [⟨(some 11), .mv (.t 0), none⟩,
    ⟨(some 12), .call f_path_Name [(.t 11)], none⟩,
    ⟨(some 13), .un .not (.t 12), none⟩])
  (.cond (.t 13)
   (.seq (.reg [⟨(some 2), .mv (.c (.s [])), none⟩,
     ⟨(some 3), .mv (.c (.b false)), none⟩])
   .ret)
   .skip))
  (.seq (.reg [⟨(some 14), .mv (.t 0), none⟩,
    ⟨(some 2), .mv (.t 14), none⟩,
    ⟨(some 3), .mv (.c (.b true)), none⟩])
  .ret))))) }
def c_path_Dir : Fun := { cin := [.id], cout := [.id], ntmps := 23, keep := false, res := [(2, none)], body :=
  (.seq (.reg [⟨(some 2), .mv (.c (.b false)), none⟩])
  (.seq (.reg [⟨(some 4), .mv (.t 0), none⟩,
    ⟨(some 5), .mv (.t 0), none⟩,
    ⟨(some 6), .call f_strings_LastIndexByte [(.t 5), (.c (.i .u8 47))], none⟩,
    ⟨(some 7), .bin .add (.t 6) (.c (.i .i64 1)), none⟩,
    ⟨(some 8), .slS (.t 4) (some (.t 7)) none, none⟩,
    ⟨(some 3), .mv (.t 8), none⟩])
  (.seq (.reg [⟨(some 9), .mv (.t 3), none⟩,
    ⟨(some 10), .bin .eql (.t 9) (.c (.s [46])), none⟩,
    ⟨(some 11), .mv (.t 10), none⟩,
    ⟨(some 12), .mv (.t 3), (some (11, false))⟩,
    ⟨(some 13), .bin .eql (.t 12) (.c (.s [46, 46])), (some (11, false))⟩,
    ⟨(some 14), .pick (.t 11) (.c (.b true)) (.t 13), none⟩,
    ⟨(some 15), .mv (.t 14), none⟩,
    ⟨(some 16), .mv (.t 3), (some (15, false))⟩,
    ⟨(some 17), .bin .eql (.t 16) (.c (.s [])), (some (15, false))⟩,
    ⟨(some 18), .mv (.t 17), (some (15, false))⟩,
    ⟨(some 19), .mv (.t 0), (some (18, true))⟩,
    ⟨(some 20), .bin .neq (.t 19) (.c (.s [])), (some (18, true))⟩,
    ⟨(some 21), .pick (.t 18) (.t 20) (.c (.b false)), (some (15, false))⟩,
    ⟨(some 22), .pick (.t 15) (.c (.b true)) (.t 21), none⟩,
    ⟨(some 2), .mv (.t 22), none⟩])
  .ret))) }
def c_path_Check : Fun := { cin := [.id], cout := [.id], ntmps := 25, keep := false, res := [(2, some (false, 1))], body :=
  (.seq (.reg [⟨(some 2), .alloc 57 [(.i .i64 0)], none⟩])
  (.seq (.blk 0 (.seq (.reg [⟨(some 5), .mv (.t 0), none⟩,
     ⟨(some 6), .bin .eql (.t 5) (.c (.s [])), none⟩,
     ⟨(some 7), .mv (.t 6), none⟩,
     ⟨(some 8), .mv (.t 0), (some (7, false))⟩,
     ⟨(some 9), .call f_strings_Contains [(.t 8), (.c (.s [0]))], (some (7, false))⟩,
     ⟨(some 10), .pick (.t 7) (.c (.b true)) (.t 9), none⟩,
     ⟨(some 4), .mv (.t 10), none⟩])
   (.cond (.t 4)
    (.seq (.reg [⟨none, .st 1 (.t 2) (.c (.i .i64 4)), none⟩])
    .ret)
    (.seq (.reg [⟨(some 12), .mv (.t 0), none⟩,
      ⟨(some 13), .len 0 (.t 12), none⟩,
      ⟨(some 14), .bin .gtr (.t 13) (.c (.i .i64 256)), none⟩,
      ⟨(some 11), .mv (.t 14), none⟩])
    (.cond (.t 11)
     (.seq (.reg [⟨none, .st 1 (.t 2) (.c (.i .i64 40)), none⟩])
     .ret)
     .skip)))))
  (.seq (.seq (.reg [⟨(some 15), .mv (.t 0), none⟩,
    ⟨(some 16), .call f_path_steps [(.t 15)], none⟩])
  (.blk 1 (.rf (.t 16) [17] (.reg [⟨(some 3), .mv (.t 17), none⟩])
   (.blk 2 (.seq (.reg [⟨(some 18), .mv (.t 3), none⟩,
       ⟨(some 19), .bin .neq (.t 18) (.c (.s [46, 46])), none⟩,
       ⟨(some 20), .mv (.t 19), none⟩,
       ⟨(some 21), .mv (.t 3), (some (20, true))⟩,
       ⟨(some 22), .call f_path_Name [(.t 21)], (some (20, true))⟩,
       ⟨(some 23), .un .not (.t 22), (some (20, true))⟩,
       ⟨(some 24), .pick (.t 20) (.t 23) (.c (.b false)), none⟩])
     (.cond (.t 24)
      (.seq (.reg [⟨none, .st 1 (.t 2) (.c (.i .i64 4)), none⟩])
      .ret)
      .skip))))))
  (.seq (.reg [⟨none, .st 1 (.t 2) (.c (.i .i64 0)), none⟩])
  .ret)))) }
def c_strings_Join : Fun := { cin := [], cout := [], ntmps := 0, keep := false, res := [], body := .bad, prim := some primJoin }
def c_slices_Equal_string_string : Fun := { cin := [(.sl 1 .id), (.sl 1 .id)], cout := [.id], ntmps := 26, keep := false, res := [(4, none)], body :=
  (.seq (.reg [⟨(some 4), .mv (.c (.b false)), none⟩])
  (.seq (.seq (.reg [⟨(some 6), .mv (.t 0), none⟩,
    ⟨(some 7), .len 1 (.t 6), none⟩,
    ⟨(some 8), .mv (.t 1), none⟩,
    ⟨(some 9), .len 1 (.t 8), none⟩,
    ⟨(some 10), .bin .neq (.t 7) (.t 9), none⟩])
  (.cond (.t 10)
   (.seq (.reg [⟨(some 4), .mv (.c (.b false)), none⟩])
   .ret)
   .skip))
  (.seq (.seq (.reg [⟨(some 11), .mv (.t 0), none⟩,
    ⟨(some 12), .len 1 (.t 11), none⟩,
    ⟨(some 13), .mv (.c (.i .i64 0)), none⟩])
  (.blk 0 (.loop (.seq (.reg [⟨(some 14), .bin .lss (.t 13) (.t 12), none⟩])
    (.seq (.cond (.t 14)
     .skip
     (.exit 0))
    (.seq (.blk 1 (.seq (.reg [⟨(some 15), .mv (.t 13), none⟩,
       ⟨(some 5), .mv (.t 15), none⟩])
     (.seq (.regD [⟨(some 16), .mv (.t 0), none⟩,
       ⟨(some 17), .mv (.t 5), none⟩,
       ⟨(some 18), .ia 1 (.t 16) (.t 17), none⟩,
       ⟨(some 19), .ld false 1 (.t 18), none⟩,
       ⟨(some 20), .mv (.t 1), none⟩,
       ⟨(some 21), .mv (.t 5), none⟩,
       ⟨(some 22), .ia 1 (.t 20) (.t 21), none⟩,
       ⟨(some 23), .ld false 1 (.t 22), none⟩,
       ⟨(some 24), .bin .neq (.t 19) (.t 23), none⟩] [])
     (.cond (.t 24)
      (.seq (.reg [⟨(some 4), .mv (.c (.b false)), none⟩])
      .ret)
      .skip))))
    (.reg [⟨(some 25), .bin .add (.t 13) (.c (.i .i64 1)), none⟩,
      ⟨(some 13), .mv (.t 25), none⟩])))))))
  (.seq (.reg [⟨(some 4), .mv (.c (.b true)), none⟩])
  .ret)))) }
def c_slices_Compare_string_string : Fun := { cin := [(.sl 1 .id), (.sl 1 .id)], cout := [.id], ntmps := 36, keep := false, res := [(4, none)], body :=
  (.seq (.reg [⟨(some 4), .mv (.c (.i .i64 0)), none⟩])
  (.seq (.seq (.reg [⟨(some 9), .mv (.t 0), none⟩,
    ⟨(some 10), .len 1 (.t 9), none⟩,
    ⟨(some 11), .mv (.c (.i .i64 0)), none⟩])
  (.blk 0 (.loop (.seq (.reg [⟨(some 12), .bin .lss (.t 11) (.t 10), none⟩])
    (.seq (.cond (.t 12)
     .skip
     (.exit 0))
    (.seq (.blk 1 (.seq (.reg [⟨(some 13), .mv (.t 11), none⟩,
       ⟨(some 14), .ia 1 (.t 9) (.t 11), none⟩,
       ⟨(some 15), .ld false 1 (.t 14), none⟩,
       ⟨(some 5), .mv (.t 13), none⟩,
       ⟨(some 6), .mv (.t 15), none⟩])
     (.seq (.seq (.reg [⟨(some 16), .mv (.t 5), none⟩,
       ⟨(some 17), .mv (.t 1), none⟩,
       ⟨(some 18), .len 1 (.t 17), none⟩,
       ⟨(some 19), .bin .geq (.t 16) (.t 18), none⟩])
     (.cond (.t 19)
      (.seq (.reg [⟨(some 4), .mv (.c (.i .i64 1)), none⟩])
      .ret)
      .skip))
     (.seq (.reg [⟨(some 20), .mv (.t 1), none⟩,
       ⟨(some 21), .mv (.t 5), none⟩,
       ⟨(some 22), .ia 1 (.t 20) (.t 21), none⟩,
       ⟨(some 23), .ld false 1 (.t 22), none⟩,
       ⟨(some 7), .mv (.t 23), none⟩])
     (.seq (.reg [⟨(some 24), .mv (.t 6), none⟩,
       ⟨(some 25), .mv (.t 7), none⟩,
       ⟨(some 26), .call f_cmp_Compare_string [(.t 24), (.t 25)], none⟩,
       ⟨(some 8), .mv (.t 26), none⟩])
     (.seq (.reg [⟨(some 27), .mv (.t 8), none⟩,
       ⟨(some 28), .bin .neq (.t 27) (.c (.i .i64 0)), none⟩])
     (.cond (.t 28)
      (.seq (.reg [⟨(some 29), .mv (.t 8), none⟩,
        ⟨(some 4), .mv (.t 29), none⟩])
      .ret)
      .skip)))))))
    (.reg [⟨(some 30), .bin .add (.t 11) (.c (.i .i64 1)), none⟩,
      ⟨(some 11), .mv (.t 30), none⟩])))))))
  (.seq (.seq (.reg [⟨(some 31), .mv (.t 0), none⟩,
    ⟨(some 32), .len 1 (.t 31), none⟩,
    ⟨(some 33), .mv (.t 1), none⟩,
    ⟨(some 34), .len 1 (.t 33), none⟩,
    ⟨(some 35), .bin .lss (.t 32) (.t 34), none⟩])
  (.cond (.t 35)
   (.seq (.reg [⟨(some 4), .mv (.c (.i .i64 (-1))), none⟩])
   .ret)
   .skip))
  (.seq (.reg [⟨(some 4), .mv (.c (.i .i64 0)), none⟩])
  .ret)))) }
def c_strings_ContainsAny : Fun := { cin := [.id, .id], cout := [.id], ntmps := 9, keep := false, res := [(4, none)], body :=
  (.seq (.reg [⟨(some 4), .mv (.c (.b false)), none⟩])
  (.seq (.reg [⟨(some 5), .mv (.t 0), none⟩,
    ⟨(some 6), .mv (.t 1), none⟩,
    ⟨(some 7), .call f_strings_IndexAny [(.t 5), (.t 6)], none⟩,
    ⟨(some 8), .bin .geq (.t 7) (.c (.i .i64 0)), none⟩,
    ⟨(some 4), .mv (.t 8), none⟩])
  .ret)) }
def c_path_steps : Fun := { cin := [.id], cout := [.id], ntmps := 4, keep := false, res := [(2, none)], body :=
  (.seq (.reg [⟨(some 1), .box 9 1 (.t 0), none⟩,
    ⟨(some 2), .mv (.c .nf), none⟩])
  (.seq (.reg [⟨(some 3), .mkf f_path_steps_1 [(.t 1)], none⟩,
    ⟨(some 2), .mv (.t 3), none⟩])
  .ret)) }
def c_slices_Collect_string : Fun := { cin := [.id], cout := [(.sl 1 .id)], ntmps := 5, keep := false, res := [(2, none)], body :=
  (.seq (.reg [⟨(some 2), .mv (.c .nsl), none⟩])
  (.seq (.reg [⟨(some 3), .mv (.t 0), none⟩,
    ⟨(some 4), .call f_slices_AppendSeq_string_string [(.c .nsl), (.t 3)], none⟩,
    ⟨(some 2), .mv (.t 4), none⟩])
  .ret)) }
def c_strings_TrimRight : Fun := { cin := [.id, .id], cout := [.id], ntmps := 37, keep := false, res := [(4, none)], body :=
  (.seq (.reg [⟨(some 4), .mv (.c (.s [])), none⟩])
  (.seq (.seq (.reg [⟨(some 7), .mv (.t 0), none⟩,
    ⟨(some 8), .bin .eql (.t 7) (.c (.s [])), none⟩,
    ⟨(some 9), .mv (.t 8), none⟩,
    ⟨(some 10), .mv (.t 1), (some (9, false))⟩,
    ⟨(some 11), .bin .eql (.t 10) (.c (.s [])), (some (9, false))⟩,
    ⟨(some 12), .pick (.t 9) (.c (.b true)) (.t 11), none⟩])
  (.cond (.t 12)
   (.seq (.reg [⟨(some 13), .mv (.t 0), none⟩,
     ⟨(some 4), .mv (.t 13), none⟩])
   .ret)
   .skip))
  (.seq (.seq (.reg [⟨(some 14), .mv (.t 1), none⟩,
    ⟨(some 15), .len 0 (.t 14), none⟩,
    ⟨(some 16), .bin .eql (.t 15) (.c (.i .i64 1)), none⟩,
    ⟨(some 17), .mv (.t 16), none⟩,
    ⟨(some 18), .mv (.t 1), (some (17, true))⟩,
    ⟨(some 19), .ixS (.t 18) (.c (.i .i64 0)), (some (17, true))⟩,
    ⟨(some 20), .bin .lss (.t 19) (.c (.i .u8 128)), (some (17, true))⟩,
    ⟨(some 21), .pick (.t 17) (.t 20) (.c (.b false)), none⟩])
  (.cond (.t 21)
   (.seq (.reg [⟨(some 22), .mv (.t 0), none⟩,
     ⟨(some 23), .mv (.t 1), none⟩,
     ⟨(some 24), .ixS (.t 23) (.c (.i .i64 0)), none⟩,
     ⟨(some 25), .call f_strings_trimRightByte [(.t 22), (.t 24)], none⟩,
     ⟨(some 4), .mv (.t 25), none⟩])
   .ret)
   .skip))
  (.seq (.seq (.reg [⟨(some 27), .mv (.t 1), none⟩,
    ⟨(some 28), .call f_strings_makeASCIISet [(.t 27)], none⟩,
    ⟨(some 26), .mv (.t 28), none⟩,
    ⟨(some 29), .ext (.t 26) 0, none⟩,
    ⟨(some 30), .ext (.t 26) 1, none⟩,
    ⟨(some 5), .alloc 129 [(.b false), (.b false), (.b false), (.b false), (.b false), (.b false), (.b false), (.b false), (.b false), (.b false), (.b false), (.b false), (.b false), (.b false), (.b false), (.b false), (.b false), (.b false), (.b false), (.b false), (.b false), (.b false), (.b false), (.b false), (.b false), (.b false), (.b false), (.b false), (.b false), (.b false), (.b false), (.b false), (.b false), (.b false), (.b false), (.b false), (.b false), (.b false), (.b false), (.b false), (.b false), (.b false), (.b false), (.b false), (.b false), (.b false), (.b false), (.b false), (.b false), (.b false), (.b false), (.b false), (.b false), (.b false), (.b false), (.b false), (.b false), (.b false), (.b false), (.b false), (.b false), (.b false), (.b false), (.b false), (.b false), (.b false), (.b false), (.b false), (.b false), (.b false), (.b false), (.b false), (.b false), (.b false), (.b false), (.b false), (.b false), (.b false), (.b false), (.b false), (.b false), (.b false), (.b false), (.b false), (.b false), (.b false), (.b false), (.b false), (.b false), (.b false), (.b false), (.b false), (.b false), (.b false), (.b false), (.b false), (.b false), (.b false), (.b false), (.b false), (.b false), (.b false), (.b false), (.b false), (.b false), (.b false), (.b false), (.b false), (.b false), (.b false), (.b false), (.b false), (.b false), (.b false), (.b false), (.b false), (.b false), (.b false), (.b false), (.b false), (.b false), (.b false), (.b false), (.b false), (.b false), (.b false), (.b false), (.b false), (.b false), (.b false), (.b false), (.b false), (.b false), (.b false), (.b false), (.b false), (.b false), (.b false), (.b false), (.b false), (.b false), (.b false), (.b false), (.b false), (.b false), (.b false), (.b false), (.b false), (.b false), (.b false), (.b false), (.b false), (.b false), (.b false), (.b false), (.b false), (.b false), (.b false), (.b false), (.b false), (.b false), (.b false), (.b false), (.b false), (.b false), (.b false), (.b false), (.b false), (.b false), (.b false), (.b false), (.b false), (.b false), (.b false), (.b false), (.b false), (.b false), (.b false), (.b false), (.b false), (.b false), (.b false), (.b false), (.b false), (.b false), (.b false), (.b false), (.b false), (.b false), (.b false), (.b false), (.b false), (.b false), (.b false), (.b false), (.b false), (.b false), (.b false), (.b false), (.b false), (.b false), (.b false), (.b false), (.b false), (.b false), (.b false), (.b false), (.b false), (.b false), (.b false), (.b false), (.b false), (.b false), (.b false), (.b false), (.b false), (.b false), (.b false), (.b false), (.b false), (.b false), (.b false), (.b false), (.b false), (.b false), (.b false), (.b false), (.b false), (.b false), (.b false), (.b false), (.b false), (.b false), (.b false), (.b false), (.b false), (.b false), (.b false), (.b false), (.b false), (.b false), (.b false), (.b false), (.b false), (.b false), (.b false), (.b false), (.b false), (.b false), (.b false), (.b false), (.b false), (.b false), (.b false), (.b false), (.b false)], none⟩,
    ⟨none, .st 256 (.t 5) (.t 29), none⟩,
    ⟨(some 6), .mv (.t 30), none⟩])
  (.seq (.reg [⟨(some 31), .mv (.t 6), none⟩])
  (.cond (.t 31)
   (.seq (.reg [⟨(some 32), .mv (.t 0), none⟩,
     ⟨(some 33), .call f_strings_trimRightASCII [(.t 32), (.t 5)], none⟩,
     ⟨(some 4), .mv (.t 33), none⟩])
   .ret)
   .skip)))
  (.seq (.reg [⟨(some 34), .mv (.t 0), none⟩,
    ⟨(some 35), .mv (.t 1), none⟩,
    ⟨(some 36), .call f_strings_trimRightUnicode [(.t 34), (.t 35)], none⟩,
    ⟨(some 4), .mv (.t 36), none⟩])
  .ret))))) }
def c_strings_LastIndexByte : Fun := { cin := [.id, .id], cout := [.id], ntmps := 8, keep := false, res := [(4, none)], body :=
  (.seq (.reg [⟨(some 4), .mv (.c (.i .i64 0)), none⟩])
  (.seq (.reg [⟨(some 5), .mv (.t 0), none⟩,
    ⟨(some 6), .mv (.t 1), none⟩,
    ⟨(some 7), .call f_internal_bytealg_LastIndexByteString [(.t 5), (.t 6)], none⟩,
    ⟨(some 4), .mv (.t 7), none⟩])
  .ret)) }
def c_strings_Contains : Fun := { cin := [.id, .id], cout := [.id], ntmps := 9, keep := false, res := [(4, none)], body :=
  (.seq (.reg [⟨(some 4), .mv (.c (.b false)), none⟩])
  (.seq (.reg [⟨(some 5), .mv (.t 0), none⟩,
    ⟨(some 6), .mv (.t 1), none⟩,
    ⟨(some 7), .call f_strings_Index [(.t 5), (.t 6)], none⟩,
    ⟨(some 8), .bin .geq (.t 7) (.c (.i .i64 0)), none⟩,
    ⟨(some 4), .mv (.t 8), none⟩])
  .ret)) }
def c_cmp_Compare_string : Fun := { cin := [.id, .id], cout := [.id], ntmps := 20, keep := false, res := [(4, none)], body :=
  (.seq (.reg [⟨(some 4), .mv (.c (.i .i64 0)), none⟩])
  (.seq (.reg [⟨(some 7), .mv (.t 0), none⟩,
    ⟨(some 8), .call f_cmp_isNaN_string [(.t 7)], none⟩,
    ⟨(some 5), .mv (.t 8), none⟩])
  (.seq (.reg [⟨(some 9), .mv (.t 1), none⟩,
    ⟨(some 10), .call f_cmp_isNaN_string [(.t 9)], none⟩,
    ⟨(some 6), .mv (.t 10), none⟩])
  (.seq (.seq (.reg [⟨(some 11), .mv (.t 5), none⟩])
  (.cond (.t 11)
   (.seq (.seq (.reg [⟨(some 12), .mv (.t 6), none⟩])
   (.cond (.t 12)
    (.seq (.reg [⟨(some 4), .mv (.c (.i .i64 0)), none⟩])
    .ret)
    .skip))
   (.seq (.reg [⟨(some 4), .mv (.c (.i .i64 (-1))), none⟩])
   .ret))
   .skip))
  (.seq (.seq (.reg [⟨(some 13), .mv (.t 6), none⟩])
  (.cond (.t 13)
   (.seq (.reg [⟨(some 4), .mv (.c (.i .i64 1)), none⟩])
   .ret)
   .skip))
  (.seq (.seq (.reg [⟨(some 14), .mv (.t 0), none⟩,
    ⟨(some 15), .mv (.t 1), none⟩,
    ⟨(some 16), .bin .lss (.t 14) (.t 15), none⟩])
  (.cond (.t 16)
   (.seq (.reg [⟨(some 4), .mv (.c (.i .i64 (-1))), none⟩])
   .ret)
   .skip))
  (.seq (.seq (.reg [⟨(some 17), .mv (.t 0), none⟩,
    ⟨(some 18), .mv (.t 1), none⟩,
    ⟨(some 19), .bin .gtr (.t 17) (.t 18), none⟩])
  (.cond (.t 19)
   (.seq (.reg [⟨(some 4), .mv (.c (.i .i64 1)), none⟩])
   .ret)
   .skip))
  (.seq (.reg [⟨(some 4), .mv (.c (.i .i64 0)), none⟩])
  .ret)))))))) }
def c_strings_IndexAny : Fun := { cin := [.id, .id], cout := [.id], ntmps := 55, keep := false, res := [(4, none)], body :=
  (.seq (.reg [⟨(some 4), .mv (.c (.i .i64 0)), none⟩])
  (.seq (.seq (.reg [⟨(some 11), .mv (.t 1), none⟩,
    ⟨(some 12), .bin .eql (.t 11) (.c (.s [])), none⟩])
  (.cond (.t 12)
   (.seq (.reg [⟨(some 4), .mv (.c (.i .i64 (-1))), none⟩])
   .ret)
   .skip))
  (.seq (.seq (.reg [⟨(some 13), .mv (.t 1), none⟩,
    ⟨(some 14), .len 0 (.t 13), none⟩,
    ⟨(some 15), .bin .eql (.t 14) (.c (.i .i64 1)), none⟩])
  (.cond (.t 15)
   (.seq (.reg [⟨(some 16), .mv (.t 1), none⟩,
     ⟨(some 17), .ixS (.t 16) (.c (.i .i64 0)), none⟩,
     ⟨(some 18), .cvI .i32 (.t 17), none⟩,
     ⟨(some 5), .mv (.t 18), none⟩])
   (.seq (.seq (.reg [⟨(some 19), .mv (.t 5), none⟩,
     ⟨(some 20), .bin .geq (.t 19) (.c (.i .i32 128)), none⟩])
   (.cond (.t 20)
    (.reg [⟨(some 5), .mv (.c (.i .i32 65533)), none⟩])
    .skip))
   (.seq (.reg [⟨(some 21), .mv (.t 0), none⟩,
     ⟨(some 22), .mv (.t 5), none⟩,
     ⟨(some 23), .call f_strings_IndexRune [(.t 21), (.t 22)], none⟩,
     ⟨(some 4), .mv (.t 23), none⟩])
   .ret)))
   .skip))
  (.seq (.seq (.reg [⟨(some 24), .mv (.t 0), none⟩,
    ⟨(some 25), .len 0 (.t 24), none⟩,
    ⟨(some 26), .call f_strings_shouldUseASCIISet [(.t 25)], none⟩])
  (.cond (.t 26)
   (.seq (.reg [⟨(some 28), .mv (.t 1), none⟩,
     ⟨(some 29), .call f_strings_makeASCIISet [(.t 28)], none⟩,
     ⟨(some 27), .mv (.t 29), none⟩,
     ⟨(some 30), .ext (.t 27) 0, none⟩,
     ⟨(some 31), .ext (.t 27) 1, none⟩,
     ⟨(some 6), .alloc 129 [(.b false), (.b false), (.b false), (.b false), (.b false), (.b false), (.b false), (.b false), (.b false), (.b false), (.b false), (.b false), (.b false), (.b false), (.b false), (.b false), (.b false), (.b false), (.b false), (.b false), (.b false), (.b false), (.b false), (.b false), (.b false), (.b false), (.b false), (.b false), (.b false), (.b false), (.b false), (.b false), (.b false), (.b false), (.b false), (.b false), (.b false), (.b false), (.b false), (.b false), (.b false), (.b false), (.b false), (.b false), (.b false), (.b false), (.b false), (.b false), (.b false), (.b false), (.b false), (.b false), (.b false), (.b false), (.b false), (.b false), (.b false), (.b false), (.b false), (.b false), (.b false), (.b false), (.b false), (.b false), (.b false), (.b false), (.b false), (.b false), (.b false), (.b false), (.b false), (.b false), (.b false), (.b false), (.b false), (.b false), (.b false), (.b false), (.b false), (.b false), (.b false), (.b false), (.b false), (.b false), (.b false), (.b false), (.b false), (.b false), (.b false), (.b false), (.b false), (.b false), (.b false), (.b false), (.b false), (.b false), (.b false), (.b false), (.b false), (.b false), (.b false), (.b false), (.b false), (.b false), (.b false), (.b false), (.b false), (.b false), (.b false), (.b false), (.b false), (.b false), (.b false), (.b false), (.b false), (.b false), (.b false), (.b false), (.b false), (.b false), (.b false), (.b false), (.b false), (.b false), (.b false), (.b false), (.b false), (.b false), (.b false), (.b false), (.b false), (.b false), (.b false), (.b false), (.b false), (.b false), (.b false), (.b false), (.b false), (.b false), (.b false), (.b false), (.b false), (.b false), (.b false), (.b false), (.b false), (.b false), (.b false), (.b false), (.b false), (.b false), (.b false), (.b false), (.b false), (.b false), (.b false), (.b false), (.b false), (.b false), (.b false), (.b false), (.b false), (.b false), (.b false), (.b false), (.b false), (.b false), (.b false), (.b false), (.b false), (.b false), (.b false), (.b false), (.b false), (.b false), (.b false), (.b false), (.b false), (.b false), (.b false), (.b false), (.b false), (.b false), (.b false), (.b false), (.b false), (.b false), (.b false), (.b false), (.b false), (.b false), (.b false), (.b false), (.b false), (.b false), (.b false), (.b false), (.b false), (.b false), (.b false), (.b false), (.b false), (.b false), (.b false), (.b false), (.b false), (.b false), (.b false), (.b false), (.b false), (.b false), (.b false), (.b false), (.b false), (.b false), (.b false), (.b false), (.b false), (.b false), (.b false), (.b false), (.b false), (.b false), (.b false), (.b false), (.b false), (.b false), (.b false), (.b false), (.b false), (.b false), (.b false), (.b false), (.b false), (.b false), (.b false), (.b false), (.b false), (.b false), (.b false), (.b false), (.b false), (.b false), (.b false), (.b false), (.b false), (.b false), (.b false), (.b false), (.b false), (.b false), (.b false), (.b false), (.b false), (.b false)], none⟩,
     ⟨none, .st 256 (.t 6) (.t 30), none⟩,
     ⟨(some 7), .mv (.t 31), none⟩])
   (.seq (.reg [⟨(some 32), .mv (.t 7), none⟩])
   (.cond (.t 32)
    (.seq (.seq (.reg [⟨(some 8), .mv (.c (.i .i64 0)), none⟩])
    (.blk 0 (.loop (.seq (.seq (.reg [⟨(some 33), .mv (.t 8), none⟩,
        ⟨(some 34), .mv (.t 0), none⟩,
        ⟨(some 35), .len 0 (.t 34), none⟩,
        ⟨(some 36), .bin .lss (.t 33) (.t 35), none⟩])
      (.cond (.t 36)
       .skip
       (.exit 0)))
      (.seq (.blk 1 (.seq (.reg [⟨(some 39), .mv (.t 0), none⟩,
         ⟨(some 40), .mv (.t 8), none⟩,
         ⟨(some 41), .ixS (.t 39) (.t 40), none⟩,
         ⟨(some 42), .call f_strings_asciiSet_contains [(.t 6), (.t 41)], none⟩])
       (.cond (.t 42)
        (.seq (.reg [⟨(some 43), .mv (.t 8), none⟩,
          ⟨(some 4), .mv (.t 43), none⟩])
        .ret)
        .skip)))
      (.reg [⟨(some 37), .mv (.t 8), none⟩,
        ⟨(some 38), .bin .add (.t 37) (.c (.i .i64 1)), none⟩,
        ⟨(some 8), .mv (.t 38), none⟩]))))))
    (.seq (.reg [⟨(some 4), .mv (.c (.i .i64 (-1))), none⟩])
    .ret))
    .skip)))
   .skip))
  (.seq (.seq (.reg [⟨(some 44), .mv (.t 0), none⟩,
    ⟨(some 45), .siter (.t 44), none⟩])
  (.blk 2 (.loop (.seq (.reg [⟨(some 46), .snext (.t 45), none⟩,
      ⟨(some 47), .ext (.t 46) 0, none⟩])
    (.seq (.cond (.t 47)
     .skip
     (.exit 2))
    (.blk 3 (.seq (.reg [⟨(some 48), .ext (.t 46) 1, none⟩,
       ⟨(some 49), .ext (.t 46) 2, none⟩,
       ⟨(some 9), .mv (.t 48), none⟩,
       ⟨(some 10), .mv (.t 49), none⟩])
     (.seq (.reg [⟨(some 50), .mv (.t 1), none⟩,
       ⟨(some 51), .mv (.t 10), none⟩,
       ⟨(some 52), .call f_strings_IndexRune [(.t 50), (.t 51)], none⟩,
       ⟨(some 53), .bin .geq (.t 52) (.c (.i .i64 0)), none⟩])
     (.cond (.t 53)
      (.seq (.reg [⟨(some 54), .mv (.t 9), none⟩,
        ⟨(some 4), .mv (.t 54), none⟩])
      .ret)
      .skip)))))))))
  (.seq (.reg [⟨(some 4), .mv (.c (.i .i64 (-1))), none⟩])
  .ret)))))) }
def c_path_steps_1 : Fun := { cin := [.id], cout := [], ntmps := 19, keep := false, res := [], body :=
  (.seq (.reg [⟨(some 2), .box 53 1 (.t 0), none⟩])
  (.seq (.reg [⟨(some 4), .ld false 1 (.t 1), none⟩,
    ⟨(some 5), .call f_strings_SplitSeq [(.t 4), (.c (.s [47]))], none⟩])
  (.blk 0 (.rf (.t 5) [6] (.reg [⟨(some 3), .mv (.t 6), none⟩])
   (.blk 1 (.seq (.reg [⟨(some 7), .mv (.t 3), none⟩,
       ⟨(some 8), .bin .neq (.t 7) (.c (.s [])), none⟩,
       ⟨(some 9), .mv (.t 8), none⟩,
       ⟨(some 10), .mv (.t 3), (some (9, true))⟩,
       ⟨(some 11), .bin .neq (.t 10) (.c (.s [46])), (some (9, true))⟩,
       ⟨(some 12), .pick (.t 9) (.t 11) (.c (.b false)), none⟩,
       ⟨(some 13), .mv (.t 12), none⟩,
       ⟨(some 14), .ld false 1 (.t 2), (some (13, true))⟩,
       ⟨(some 15), .mv (.t 3), (some (13, true))⟩,
       ⟨(some 16), .callX (.t 14) [(.t 15)], (some (13, true))⟩,
       ⟨(some 17), .un .not (.t 16), (some (13, true))⟩,
       ⟨(some 18), .pick (.t 13) (.t 17) (.c (.b false)), none⟩])
     (.cond (.t 18)
      .ret
      .skip))))))) }
def c_strings_SplitSeq : Fun := { cin := [.id, .id], cout := [.id], ntmps := 8, keep := false, res := [(4, none)], body :=
  (.seq (.reg [⟨(some 4), .mv (.c .nf), none⟩])
  (.seq (.reg [⟨(some 5), .mv (.t 0), none⟩,
    ⟨(some 6), .mv (.t 1), none⟩,
    ⟨(some 7), .call f_strings_splitSeq [(.t 5), (.t 6), (.c (.i .i64 0))], none⟩,
    ⟨(some 4), .mv (.t 7), none⟩])
  .ret)) }
def c_slices_AppendSeq_string_string : Fun := { cin := [], cout := [], ntmps := 13, keep := false, res := [(4, none)], body :=
  (.seq (.reg [⟨(some 2), .box 22 1 (.t 0), none⟩,
    ⟨(some 4), .mv (.c .nsl), none⟩])
  (.seq (.seq (.reg [⟨(some 6), .mv (.t 1), none⟩])
  (.blk 0 (.rf (.t 6) [7] (.reg [⟨(some 5), .mv (.t 7), none⟩])
   (.blk 1 (.reg [⟨(some 8), .ld false 1 (.t 2), none⟩,
       ⟨(some 9), .mv (.t 5), none⟩,
       ⟨(some 10), .bsl 1 [(.t 9)], none⟩,
       ⟨(some 11), .app 1 9 (.t 8) (.t 10), none⟩,
       ⟨none, .st 1 (.t 2) (.t 11), none⟩])))))
  (.seq (.reg [⟨(some 12), .ld false 1 (.t 2), none⟩,
    ⟨(some 4), .mv (.t 12), none⟩])
  .ret))) }
def c_strings_trimRightByte : Fun := { cin := [.id, .id], cout := [.id], ntmps := 23, keep := false, res := [(4, none)], body :=
  (.seq (.reg [⟨(some 4), .mv (.c (.s [])), none⟩])
  (.seq (.blk 0 (.loop (.seq (.seq (.reg [⟨(some 5), .mv (.t 0), none⟩,
      ⟨(some 6), .len 0 (.t 5), none⟩,
      ⟨(some 7), .bin .gtr (.t 6) (.c (.i .i64 0)), none⟩,
      ⟨(some 8), .mv (.t 7), none⟩,
      ⟨(some 9), .mv (.t 0), (some (8, true))⟩,
      ⟨(some 10), .mv (.t 0), (some (8, true))⟩,
      ⟨(some 11), .len 0 (.t 10), (some (8, true))⟩,
      ⟨(some 12), .bin .sub (.t 11) (.c (.i .i64 1)), (some (8, true))⟩,
      ⟨(some 13), .ixS (.t 9) (.t 12), (some (8, true))⟩,
      ⟨(some 14), .mv (.t 1), (some (8, true))⟩,
      ⟨(some 15), .bin .eql (.t 13) (.t 14), (some (8, true))⟩,
      ⟨(some 16), .pick (.t 8) (.t 15) (.c (.b false)), none⟩])
    (.cond (.t 16)
     .skip
     (.exit 0)))
    (.blk 1 (.reg [⟨(some 17), .mv (.t 0), none⟩,
       ⟨(some 18), .mv (.t 0), none⟩,
       ⟨(some 19), .len 0 (.t 18), none⟩,
       ⟨(some 20), .bin .sub (.t 19) (.c (.i .i64 1)), none⟩,
       ⟨(some 21), .slS (.t 17) none (some (.t 20)), none⟩,
       ⟨(some 0), .mv (.t 21), none⟩])))))
  (.seq (.reg [⟨(some 22), .mv (.t 0), none⟩,
    ⟨(some 4), .mv (.t 22), none⟩])
  .ret))) }
def c_strings_makeASCIISet : Fun := { cin := [.id], cout := [(.agg [.id, .id, .id, .id, .id, .id, .id, .id, .id, .id, .id, .id, .id, .id, .id, .id, .id, .id, .id, .id, .id, .id, .id, .id, .id, .id, .id, .id, .id, .id, .id, .id, .id, .id, .id, .id, .id, .id, .id, .id, .id, .id, .id, .id, .id, .id, .id, .id, .id, .id, .id, .id, .id, .id, .id, .id, .id, .id, .id, .id, .id, .id, .id, .id, .id, .id, .id, .id, .id, .id, .id, .id, .id, .id, .id, .id, .id, .id, .id, .id, .id, .id, .id, .id, .id, .id, .id, .id, .id, .id, .id, .id, .id, .id, .id, .id, .id, .id, .id, .id, .id, .id, .id, .id, .id, .id, .id, .id, .id, .id, .id, .id, .id, .id, .id, .id, .id, .id, .id, .id, .id, .id, .id, .id, .id, .id, .id, .id, .id, .id, .id, .id, .id, .id, .id, .id, .id, .id, .id, .id, .id, .id, .id, .id, .id, .id, .id, .id, .id, .id, .id, .id, .id, .id, .id, .id, .id, .id, .id, .id, .id, .id, .id, .id, .id, .id, .id, .id, .id, .id, .id, .id, .id, .id, .id, .id, .id, .id, .id, .id, .id, .id, .id, .id, .id, .id, .id, .id, .id, .id, .id, .id, .id, .id, .id, .id, .id, .id, .id, .id, .id, .id, .id, .id, .id, .id, .id, .id, .id, .id, .id, .id, .id, .id, .id, .id, .id, .id, .id, .id, .id, .id, .id, .id, .id, .id, .id, .id, .id, .id, .id, .id, .id, .id, .id, .id, .id, .id, .id, .id, .id, .id, .id, .id, .id, .id, .id, .id, .id, .id, .id, .id, .id, .id, .id, .id]), .id], ntmps := 21, keep := false, res := [(2, some (true, 256)), (3, none)], body :=
  (.seq (.reg [⟨(some 2), .alloc 129 [(.b false), (.b false), (.b false), (.b false), (.b false), (.b false), (.b false), (.b false), (.b false), (.b false), (.b false), (.b false), (.b false), (.b false), (.b false), (.b false), (.b false), (.b false), (.b false), (.b false), (.b false), (.b false), (.b false), (.b false), (.b false), (.b false), (.b false), (.b false), (.b false), (.b false), (.b false), (.b false), (.b false), (.b false), (.b false), (.b false), (.b false), (.b false), (.b false), (.b false), (.b false), (.b false), (.b false), (.b false), (.b false), (.b false), (.b false), (.b false), (.b false), (.b false), (.b false), (.b false), (.b false), (.b false), (.b false), (.b false), (.b false), (.b false), (.b false), (.b false), (.b false), (.b false), (.b false), (.b false), (.b false), (.b false), (.b false), (.b false), (.b false), (.b false), (.b false), (.b false), (.b false), (.b false), (.b false), (.b false), (.b false), (.b false), (.b false), (.b false), (.b false), (.b false), (.b false), (.b false), (.b false), (.b false), (.b false), (.b false), (.b false), (.b false), (.b false), (.b false), (.b false), (.b false), (.b false), (.b false), (.b false), (.b false), (.b false), (.b false), (.b false), (.b false), (.b false), (.b false), (.b false), (.b false), (.b false), (.b false), (.b false), (.b false), (.b false), (.b false), (.b false), (.b false), (.b false), (.b false), (.b false), (.b false), (.b false), (.b false), (.b false), (.b false), (.b false), (.b false), (.b false), (.b false), (.b false), (.b false), (.b false), (.b false), (.b false), (.b false), (.b false), (.b false), (.b false), (.b false), (.b false), (.b false), (.b false), (.b false), (.b false), (.b false), (.b false), (.b false), (.b false), (.b false), (.b false), (.b false), (.b false), (.b false), (.b false), (.b false), (.b false), (.b false), (.b false), (.b false), (.b false), (.b false), (.b false), (.b false), (.b false), (.b false), (.b false), (.b false), (.b false), (.b false), (.b false), (.b false), (.b false), (.b false), (.b false), (.b false), (.b false), (.b false), (.b false), (.b false), (.b false), (.b false), (.b false), (.b false), (.b false), (.b false), (.b false), (.b false), (.b false), (.b false), (.b false), (.b false), (.b false), (.b false), (.b false), (.b false), (.b false), (.b false), (.b false), (.b false), (.b false), (.b false), (.b false), (.b false), (.b false), (.b false), (.b false), (.b false), (.b false), (.b false), (.b false), (.b false), (.b false), (.b false), (.b false), (.b false), (.b false), (.b false), (.b false), (.b false), (.b false), (.b false), (.b false), (.b false), (.b false), (.b false), (.b false), (.b false), (.b false), (.b false), (.b false), (.b false), (.b false), (.b false), (.b false), (.b false), (.b false), (.b false), (.b false), (.b false), (.b false), (.b false), (.b false), (.b false), (.b false), (.b false), (.b false), (.b false), (.b false), (.b false), (.b false), (.b false), (.b false), (.b false), (.b false), (.b false), (.b false), (.b false), (.b false), (.b false)], none⟩,
    ⟨(some 3), .mv (.c (.b false)), none⟩])
  (.seq (.seq (.reg [⟨(some 4), .mv (.c (.i .i64 0)), none⟩])
  (.blk 0 (.loop (.seq (.seq (.reg [⟨(some 6), .mv (.t 4), none⟩,
      ⟨(some 7), .mv (.t 0), none⟩,
      ⟨(some 8), .len 0 (.t 7), none⟩,
      ⟨(some 9), .bin .lss (.t 6) (.t 8), none⟩])
    (.cond (.t 9)
     .skip
     (.exit 0)))
    (.seq (.blk 1 (.seq (.reg [⟨(some 12), .mv (.t 0), none⟩,
       ⟨(some 13), .mv (.t 4), none⟩,
       ⟨(some 14), .ixS (.t 12) (.t 13), none⟩,
       ⟨(some 5), .mv (.t 14), none⟩])
     (.seq (.seq (.reg [⟨(some 15), .mv (.t 5), none⟩,
       ⟨(some 16), .bin .geq (.t 15) (.c (.i .u8 128)), none⟩])
     (.cond (.t 16)
      (.seq (.reg [⟨(some 17), .ld true 256 (.t 2), none⟩,
        ⟨none, .st 256 (.t 2) (.t 17), none⟩,
        ⟨(some 3), .mv (.c (.b false)), none⟩])
      .ret)
      .skip))
     (.reg [⟨(some 18), .mv (.t 5), none⟩,
       ⟨(some 19), .iaA 256 1 (.t 2) (.t 18), none⟩,
       ⟨none, .st 1 (.t 19) (.c (.b true)), none⟩]))))
    (.reg [⟨(some 10), .mv (.t 4), none⟩,
      ⟨(some 11), .bin .add (.t 10) (.c (.i .i64 1)), none⟩,
      ⟨(some 4), .mv (.t 11), none⟩]))))))
  (.seq (.reg [⟨(some 20), .ld true 256 (.t 2), none⟩,
    ⟨none, .st 256 (.t 2) (.t 20), none⟩,
    ⟨(some 3), .mv (.c (.b true)), none⟩])
  .ret))) }
def c_strings_trimRightASCII : Fun := { cin := [.id, .id], cout := [.id], ntmps := 22, keep := false, res := [(4, none)], body :=
  (.seq (.reg [⟨(some 4), .mv (.c (.s [])), none⟩])
  (.seq (.blk 0 (.loop (.seq (.seq (.reg [⟨(some 5), .mv (.t 0), none⟩,
      ⟨(some 6), .len 0 (.t 5), none⟩,
      ⟨(some 7), .bin .gtr (.t 6) (.c (.i .i64 0)), none⟩])
    (.cond (.t 7)
     .skip
     (.exit 0)))
    (.blk 1 (.seq (.seq (.reg [⟨(some 8), .mv (.t 1), none⟩,
       ⟨(some 9), .mv (.t 0), none⟩,
       ⟨(some 10), .mv (.t 0), none⟩,
       ⟨(some 11), .len 0 (.t 10), none⟩,
       ⟨(some 12), .bin .sub (.t 11) (.c (.i .i64 1)), none⟩,
       ⟨(some 13), .ixS (.t 9) (.t 12), none⟩,
       ⟨(some 14), .call f_strings_asciiSet_contains [(.t 8), (.t 13)], none⟩,
       ⟨(some 15), .un .not (.t 14), none⟩])
     (.cond (.t 15)
      (.exit 0)
      .skip))
     (.reg [⟨(some 16), .mv (.t 0), none⟩,
       ⟨(some 17), .mv (.t 0), none⟩,
       ⟨(some 18), .len 0 (.t 17), none⟩,
       ⟨(some 19), .bin .sub (.t 18) (.c (.i .i64 1)), none⟩,
       ⟨(some 20), .slS (.t 16) none (some (.t 19)), none⟩,
       ⟨(some 0), .mv (.t 20), none⟩]))))))
  (.seq (.reg [⟨(some 21), .mv (.t 0), none⟩,
    ⟨(some 4), .mv (.t 21), none⟩])
  .ret))) }
def c_strings_trimRightUnicode : Fun := { cin := [.id, .id], cout := [.id], ntmps := 34, keep := false, res := [(4, none)], body :=
  (.seq (.reg [⟨(some 4), .mv (.c (.s [])), none⟩])
  (.seq (.blk 0 (.loop (.seq (.seq (.reg [⟨(some 7), .mv (.t 0), none⟩,
      ⟨(some 8), .len 0 (.t 7), none⟩,
      ⟨(some 9), .bin .gtr (.t 8) (.c (.i .i64 0)), none⟩])
    (.cond (.t 9)
     .skip
     (.exit 0)))
    (.blk 1 (.seq (.reg [⟨(some 10), .mv (.t 0), none⟩,
       ⟨(some 11), .mv (.t 0), none⟩,
       ⟨(some 12), .len 0 (.t 11), none⟩,
       ⟨(some 13), .bin .sub (.t 12) (.c (.i .i64 1)), none⟩,
       ⟨(some 14), .ixS (.t 10) (.t 13), none⟩,
       ⟨(some 15), .cvI .i32 (.t 14), none⟩,
       ⟨(some 5), .mv (.t 15), none⟩,
       ⟨(some 6), .mv (.c (.i .i64 1)), none⟩])
     (.seq (.seq (.reg [⟨(some 16), .mv (.t 5), none⟩,
       ⟨(some 17), .bin .geq (.t 16) (.c (.i .i32 128)), none⟩])
     (.cond (.t 17)
      (.reg [⟨(some 19), .mv (.t 0), none⟩,
        ⟨(some 20), .call f_unicode_utf8_DecodeLastRuneInString [(.t 19)], none⟩,
        ⟨(some 18), .mv (.t 20), none⟩,
        ⟨(some 21), .ext (.t 18) 0, none⟩,
        ⟨(some 22), .ext (.t 18) 1, none⟩,
        ⟨(some 5), .mv (.t 21), none⟩,
        ⟨(some 6), .mv (.t 22), none⟩])
      .skip))
     (.seq (.seq (.reg [⟨(some 23), .mv (.t 1), none⟩,
       ⟨(some 24), .mv (.t 5), none⟩,
       ⟨(some 25), .call f_strings_ContainsRune [(.t 23), (.t 24)], none⟩,
       ⟨(some 26), .un .not (.t 25), none⟩])
     (.cond (.t 26)
      (.exit 0)
      .skip))
     (.reg [⟨(some 27), .mv (.t 0), none⟩,
       ⟨(some 28), .mv (.t 0), none⟩,
       ⟨(some 29), .len 0 (.t 28), none⟩,
       ⟨(some 30), .mv (.t 6), none⟩,
       ⟨(some 31), .bin .sub (.t 29) (.t 30), none⟩,
       ⟨(some 32), .slS (.t 27) none (some (.t 31)), none⟩,
       ⟨(some 0), .mv (.t 32), none⟩]))))))))
  (.seq (.reg [⟨(some 33), .mv (.t 0), none⟩,
    ⟨(some 4), .mv (.t 33), none⟩])
  .ret))) }
def c_internal_bytealg_LastIndexByteString : Fun := { cin := [.id, .id], cout := [.id], ntmps := 19, keep := false, res := [(4, none)], body :=
  (.seq (.reg [⟨(some 4), .mv (.c (.i .i64 0)), none⟩])
  (.seq (.seq (.reg [⟨(some 6), .mv (.t 0), none⟩,
    ⟨(some 7), .len 0 (.t 6), none⟩,
    ⟨(some 8), .bin .sub (.t 7) (.c (.i .i64 1)), none⟩,
    ⟨(some 5), .mv (.t 8), none⟩])
  (.blk 0 (.loop (.seq (.seq (.reg [⟨(some 9), .mv (.t 5), none⟩,
      ⟨(some 10), .bin .geq (.t 9) (.c (.i .i64 0)), none⟩])
    (.cond (.t 10)
     .skip
     (.exit 0)))
    (.seq (.blk 1 (.seq (.reg [⟨(some 13), .mv (.t 0), none⟩,
       ⟨(some 14), .mv (.t 5), none⟩,
       ⟨(some 15), .ixS (.t 13) (.t 14), none⟩,
       ⟨(some 16), .mv (.t 1), none⟩,
       ⟨(some 17), .bin .eql (.t 15) (.t 16), none⟩])
     (.cond (.t 17)
      (.seq (.reg [⟨(some 18), .mv (.t 5), none⟩,
        ⟨(some 4), .mv (.t 18), none⟩])
      .ret)
      .skip)))
    (.reg [⟨(some 11), .mv (.t 5), none⟩,
      ⟨(some 12), .bin .sub (.t 11) (.c (.i .i64 1)), none⟩,
      ⟨(some 5), .mv (.t 12), none⟩]))))))
  (.seq (.reg [⟨(some 4), .mv (.c (.i .i64 (-1))), none⟩])
  .ret))) }
def c_strings_Index : Fun := { cin := [.id, .id], cout := [.id], ntmps := 8, keep := false, res := [(4, none)], body :=
  (.seq (.reg [⟨(some 4), .mv (.c (.i .i64 0)), none⟩])
  (.seq (.reg [⟨(some 5), .mv (.t 0), none⟩,
    ⟨(some 6), .mv (.t 1), none⟩,
    ⟨(some 7), .call f_internal_stringslite_Index [(.t 5), (.t 6)], none⟩,
    ⟨(some 4), .mv (.t 7), none⟩])
  .ret)) }
def c_cmp_isNaN_string : Fun := { cin := [.id], cout := [.id], ntmps := 6, keep := false, res := [(2, none)], body :=
  (.seq (.reg [⟨(some 2), .mv (.c (.b false)), none⟩])
  (.seq (.reg [⟨(some 3), .mv (.t 0), none⟩,
    ⟨(some 4), .mv (.t 0), none⟩,
    ⟨(some 5), .bin .neq (.t 3) (.t 4), none⟩,
    ⟨(some 2), .mv (.t 5), none⟩])
  .ret)) }
def c_strings_IndexRune : Fun := { cin := [.id, .id], cout := [.id], ntmps := 187, keep := false, res := [(4, none)], body :=
  (.seq (.reg [⟨(some 4), .mv (.c (.i .i64 0)), none⟩])
  (.blk 0 (.seq (.reg [⟨(some 161), .mv (.t 1), none⟩,
     ⟨(some 162), .bin .leq (.c (.i .i32 0)) (.t 161), none⟩,
     ⟨(some 163), .mv (.t 162), none⟩,
     ⟨(some 164), .mv (.t 1), (some (163, true))⟩,
     ⟨(some 165), .bin .lss (.t 164) (.c (.i .i32 128)), (some (163, true))⟩,
     ⟨(some 166), .pick (.t 163) (.t 165) (.c (.b false)), none⟩,
     ⟨(some 160), .mv (.t 166), none⟩])
   (.cond (.t 160)
    (.seq (.reg [⟨(some 167), .mv (.t 0), none⟩,
      ⟨(some 168), .mv (.t 1), none⟩,
      ⟨(some 169), .cvI .u8 (.t 168), none⟩,
      ⟨(some 170), .call f_strings_IndexByte [(.t 167), (.t 169)], none⟩,
      ⟨(some 4), .mv (.t 170), none⟩])
    .ret)
    (.seq (.reg [⟨(some 172), .mv (.t 1), none⟩,
      ⟨(some 173), .bin .eql (.t 172) (.c (.i .i32 65533)), none⟩,
      ⟨(some 171), .mv (.t 173), none⟩])
    (.cond (.t 171)
     (.seq (.seq (.reg [⟨(some 174), .mv (.t 0), none⟩,
       ⟨(some 175), .siter (.t 174), none⟩])
     (.blk 9 (.loop (.seq (.reg [⟨(some 176), .snext (.t 175), none⟩,
         ⟨(some 177), .ext (.t 176) 0, none⟩])
       (.seq (.cond (.t 177)
        .skip
        (.exit 9))
       (.blk 10 (.seq (.reg [⟨(some 178), .ext (.t 176) 1, none⟩,
          ⟨(some 179), .ext (.t 176) 2, none⟩,
          ⟨(some 5), .mv (.t 178), none⟩,
          ⟨(some 6), .mv (.t 179), none⟩])
        (.seq (.reg [⟨(some 180), .mv (.t 6), none⟩,
          ⟨(some 181), .bin .eql (.t 180) (.c (.i .i32 65533)), none⟩])
        (.cond (.t 181)
         (.seq (.reg [⟨(some 182), .mv (.t 5), none⟩,
           ⟨(some 4), .mv (.t 182), none⟩])
         .ret)
         .skip)))))))))
     (.seq (.reg [⟨(some 4), .mv (.c (.i .i64 (-1))), none⟩])
     .ret))
     (.seq (.reg [⟨(some 184), .mv (.t 1), none⟩,
       ⟨(some 185), .call f_unicode_utf8_ValidRune [(.t 184)], none⟩,
       ⟨(some 186), .un .not (.t 185), none⟩,
       ⟨(some 183), .mv (.t 186), none⟩])
     (.cond (.t 183)
      (.seq (.reg [⟨(some 4), .mv (.c (.i .i64 (-1))), none⟩])
      .ret)
      .bad)))))))) }
def c_strings_shouldUseASCIISet : Fun := { cin := [.id], cout := [.id], ntmps := 5, keep := false, res := [(2, none)], body :=
  (.seq (.reg [⟨(some 2), .mv (.c (.b false)), none⟩])
  (.seq (.reg [⟨(some 3), .mv (.t 0), none⟩,
    ⟨(some 4), .bin .gtr (.t 3) (.c (.i .i64 8)), none⟩,
    ⟨(some 2), .mv (.t 4), none⟩])
  .ret)) }
def c_strings_asciiSet_contains : Fun := { cin := [.id, .id], cout := [.id], ntmps := 10, keep := false, res := [(4, none)], body :=
  (.seq (.reg [⟨(some 4), .mv (.c (.b false)), none⟩])
  (.seq (.reg [⟨(some 5), .mv (.t 0), none⟩,
    ⟨(some 6), .mv (.t 1), none⟩,
    ⟨(some 7), .nck (.t 5), none⟩,
    ⟨(some 8), .iaA 256 1 (.t 7) (.t 6), none⟩,
    ⟨(some 9), .ld false 1 (.t 8), none⟩,
    ⟨(some 4), .mv (.t 9), none⟩])
  .ret)) }
def c_strings_splitSeq : Fun := { cin := [.id, .id, .id], cout := [.id], ntmps := 8, keep := false, res := [(6, none)], body :=
  (.seq (.reg [⟨(some 3), .box 9 1 (.t 0), none⟩,
    ⟨(some 4), .box 9 1 (.t 1), none⟩,
    ⟨(some 5), .box 3 1 (.t 2), none⟩,
    ⟨(some 6), .mv (.c .nf), none⟩])
  (.seq (.reg [⟨(some 7), .mkf f_strings_splitSeq_1 [(.t 4), (.t 3), (.t 5)], none⟩,
    ⟨(some 6), .mv (.t 7), none⟩])
  .ret)) }
def c_strings_IndexByte : Fun := { cin := [.id, .id], cout := [.id], ntmps := 8, keep := false, res := [(4, none)], body :=
  (.seq (.reg [⟨(some 4), .mv (.c (.i .i64 0)), none⟩])
  (.seq (.reg [⟨(some 5), .mv (.t 0), none⟩,
    ⟨(some 6), .mv (.t 1), none⟩,
    ⟨(some 7), .call f_internal_stringslite_IndexByte [(.t 5), (.t 6)], none⟩,
    ⟨(some 4), .mv (.t 7), none⟩])
  .ret)) }
def c_unicode_utf8_DecodeLastRuneInString : Fun := { cin := [.id], cout := [.id, .id], ntmps := 51, keep := false, res := [(2, none), (3, none)], body :=
  (.seq (.reg [⟨(some 2), .mv (.c (.i .i32 0)), none⟩,
    ⟨(some 3), .mv (.c (.i .i64 0)), none⟩])
  (.seq (.reg [⟨(some 7), .mv (.t 0), none⟩,
    ⟨(some 8), .len 0 (.t 7), none⟩,
    ⟨(some 4), .mv (.t 8), none⟩])
  (.seq (.seq (.reg [⟨(some 9), .mv (.t 4), none⟩,
    ⟨(some 10), .bin .eql (.t 9) (.c (.i .i64 0)), none⟩])
  (.cond (.t 10)
   (.seq (.reg [⟨(some 2), .mv (.c (.i .i32 65533)), none⟩,
     ⟨(some 3), .mv (.c (.i .i64 0)), none⟩])
   .ret)
   .skip))
  (.seq (.reg [⟨(some 11), .mv (.t 4), none⟩,
    ⟨(some 12), .bin .sub (.t 11) (.c (.i .i64 1)), none⟩,
    ⟨(some 5), .mv (.t 12), none⟩])
  (.seq (.reg [⟨(some 13), .mv (.t 0), none⟩,
    ⟨(some 14), .mv (.t 5), none⟩,
    ⟨(some 15), .ixS (.t 13) (.t 14), none⟩,
    ⟨(some 16), .cvI .i32 (.t 15), none⟩,
    ⟨(some 2), .mv (.t 16), none⟩])
  (.seq (.seq (.reg [⟨(some 17), .mv (.t 2), none⟩,
    ⟨(some 18), .bin .lss (.t 17) (.c (.i .i32 128)), none⟩])
  (.cond (.t 18)
   (.seq (.reg [⟨(some 19), .mv (.t 2), none⟩,
     ⟨(some 2), .mv (.t 19), none⟩,
     ⟨(some 3), .mv (.c (.i .i64 1)), none⟩])
   .ret)
   .skip))
  (.seq (.reg [⟨(some 20), .mv (.t 4), none⟩,
    ⟨(some 21), .bin .sub (.t 20) (.c (.i .i64 4)), none⟩,
    ⟨(some 22), .mm true (.t 21) (.c (.i .i64 0)), none⟩,
    ⟨(some 6), .mv (.t 22), none⟩])
  (.seq (.seq (.reg [⟨(some 23), .mv (.t 5), none⟩,
    ⟨(some 24), .bin .sub (.t 23) (.c (.i .i64 1)), none⟩,
    ⟨(some 5), .mv (.t 24), none⟩])
  (.blk 0 (.loop (.seq (.seq (.reg [⟨(some 25), .mv (.t 5), none⟩,
      ⟨(some 26), .mv (.t 6), none⟩,
      ⟨(some 27), .bin .geq (.t 25) (.t 26), none⟩])
    (.cond (.t 27)
     .skip
     (.exit 0)))
    (.seq (.blk 1 (.seq (.reg [⟨(some 30), .mv (.t 0), none⟩,
       ⟨(some 31), .mv (.t 5), none⟩,
       ⟨(some 32), .ixS (.t 30) (.t 31), none⟩,
       ⟨(some 33), .call f_unicode_utf8_RuneStart [(.t 32)], none⟩])
     (.cond (.t 33)
      (.exit 0)
      .skip)))
    (.reg [⟨(some 28), .mv (.t 5), none⟩,
      ⟨(some 29), .bin .sub (.t 28) (.c (.i .i64 1)), none⟩,
      ⟨(some 5), .mv (.t 29), none⟩]))))))
  (.seq (.seq (.reg [⟨(some 34), .mv (.t 5), none⟩,
    ⟨(some 35), .bin .lss (.t 34) (.c (.i .i64 0)), none⟩])
  (.cond (.t 35)
   (.reg [⟨(some 5), .mv (.c (.i .i64 0)), none⟩])
   .skip))
  (.seq (.reg [⟨(some 37), .mv (.t 0), none⟩,
    ⟨(some 38), .mv (.t 5), none⟩,
    ⟨(some 39), .mv (.t 4), none⟩,
    ⟨(some 40), .slS (.t 37) (some (.t 38)) (some (.t 39)), none⟩,
    ⟨(some 41), .call f_unicode_utf8_DecodeRuneInString [(.t 40)], none⟩,
    ⟨(some 36), .mv (.t 41), none⟩,
    ⟨(some 42), .ext (.t 36) 0, none⟩,
    ⟨(some 43), .ext (.t 36) 1, none⟩,
    ⟨(some 2), .mv (.t 42), none⟩,
    ⟨(some 3), .mv (.t 43), none⟩])
  (.seq (.seq (.reg [⟨(some 44), .mv (.t 5), none⟩,
    ⟨(some 45), .mv (.t 3), none⟩,
    ⟨(some 46), .bin .add (.t 44) (.t 45), none⟩,
    ⟨(some 47), .mv (.t 4), none⟩,
    ⟨(some 48), .bin .neq (.t 46) (.t 47), none⟩])
  (.cond (.t 48)
   (.seq (.reg [⟨(some 2), .mv (.c (.i .i32 65533)), none⟩,
     ⟨(some 3), .mv (.c (.i .i64 1)), none⟩])
   .ret)
   .skip))
  (.seq (.reg [⟨(some 49), .mv (.t 2), none⟩,
    ⟨(some 50), .mv (.t 3), none⟩,
    ⟨(some 2), .mv (.t 49), none⟩,
    ⟨(some 3), .mv (.t 50), none⟩])
  .ret)))))))))))) }
def c_strings_ContainsRune : Fun := { cin := [.id, .id], cout := [.id], ntmps := 9, keep := false, res := [(4, none)], body :=
  (.seq (.reg [⟨(some 4), .mv (.c (.b false)), none⟩])
  (.seq (.reg [⟨(some 5), .mv (.t 0), none⟩,
    ⟨(some 6), .mv (.t 1), none⟩,
    ⟨(some 7), .call f_strings_IndexRune [(.t 5), (.t 6)], none⟩,
    ⟨(some 8), .bin .geq (.t 7) (.c (.i .i64 0)), none⟩,
    ⟨(some 4), .mv (.t 8), none⟩])
  .ret)) }
def c_internal_stringslite_Index : Fun := { cin := [.id, .id], cout := [.id], ntmps := 143, keep := false, res := [(4, none)], body :=
  (.seq (.reg [⟨(some 4), .mv (.c (.i .i64 0)), none⟩])
  (.seq (.reg [⟨(some 14), .mv (.t 1), none⟩,
    ⟨(some 15), .len 0 (.t 14), none⟩,
    ⟨(some 5), .mv (.t 15), none⟩])
  (.seq (.blk 0 (.seq (.reg [⟨(some 17), .mv (.t 5), none⟩,
     ⟨(some 18), .bin .eql (.t 17) (.c (.i .i64 0)), none⟩,
     ⟨(some 19), .mv (.t 18), none⟩,
     ⟨(some 20), .mv (.t 1), (some (19, false))⟩,
     ⟨(some 21), .mv (.t 0), (some (19, false))⟩,
     ⟨(some 22), .bin .eql (.t 20) (.t 21), (some (19, false))⟩,
     ⟨(some 23), .pick (.t 19) (.c (.b true)) (.t 22), none⟩,
     ⟨(some 16), .mv (.t 23), none⟩])
   (.cond (.t 16)
    (.seq (.reg [⟨(some 4), .mv (.c (.i .i64 0)), none⟩])
    .ret)
    (.seq (.reg [⟨(some 25), .mv (.t 5), none⟩,
      ⟨(some 26), .bin .eql (.t 25) (.c (.i .i64 1)), none⟩,
      ⟨(some 24), .mv (.t 26), none⟩])
    (.cond (.t 24)
     (.seq (.reg [⟨(some 27), .mv (.t 0), none⟩,
       ⟨(some 28), .mv (.t 1), none⟩,
       ⟨(some 29), .ixS (.t 28) (.c (.i .i64 0)), none⟩,
       ⟨(some 30), .call f_internal_stringslite_IndexByte [(.t 27), (.t 29)], none⟩,
       ⟨(some 4), .mv (.t 30), none⟩])
     .ret)
     (.seq (.reg [⟨(some 32), .mv (.t 5), none⟩,
       ⟨(some 33), .mv (.t 0), none⟩,
       ⟨(some 34), .len 0 (.t 33), none⟩,
       ⟨(some 35), .bin .geq (.t 32) (.t 34), none⟩,
       ⟨(some 31), .mv (.t 35), none⟩])
     (.cond (.t 31)
      (.seq (.reg [⟨(some 4), .mv (.c (.i .i64 (-1))), none⟩])
      .ret)
      (.seq (.reg [⟨(some 37), .mv (.t 5), none⟩,
        ⟨(some 38), .bad, none⟩,
        ⟨(some 39), .bin .leq (.t 37) (.t 38), none⟩,
        ⟨(some 40), .mv (.t 39), none⟩,
        ⟨(some 41), .mv (.t 0), (some (40, true))⟩,
        ⟨(some 42), .len 0 (.t 41), (some (40, true))⟩,
        ⟨(some 43), .bin .leq (.t 42) (.c (.i .i64 64)), (some (40, true))⟩,
        ⟨(some 44), .pick (.t 40) (.t 43) (.c (.b false)), none⟩,
        ⟨(some 36), .mv (.t 44), none⟩])
      (.cond (.t 36)
       (.seq (.reg [⟨(some 45), .mv (.t 0), none⟩,
         ⟨(some 46), .mv (.t 1), none⟩,
         ⟨(some 47), .bad, none⟩,
         ⟨(some 4), .mv (.t 47), none⟩])
       .ret)
       .skip)))))))))
  (.seq (.reg [⟨(some 48), .mv (.t 1), none⟩,
    ⟨(some 49), .ixS (.t 48) (.c (.i .i64 0)), none⟩,
    ⟨(some 6), .mv (.t 49), none⟩])
  (.seq (.reg [⟨(some 50), .mv (.t 1), none⟩,
    ⟨(some 51), .ixS (.t 50) (.c (.i .i64 1)), none⟩,
    ⟨(some 7), .mv (.t 51), none⟩])
  (.seq (.reg [⟨(some 8), .mv (.c (.i .i64 0)), none⟩])
  (.seq (.reg [⟨(some 52), .mv (.t 0), none⟩,
    ⟨(some 53), .len 0 (.t 52), none⟩,
    ⟨(some 54), .mv (.t 5), none⟩,
    ⟨(some 55), .bin .sub (.t 53) (.t 54), none⟩,
    ⟨(some 56), .bin .add (.t 55) (.c (.i .i64 1)), none⟩,
    ⟨(some 9), .mv (.t 56), none⟩])
  (.seq (.reg [⟨(some 10), .mv (.c (.i .i64 0)), none⟩])
  (.seq (.blk 1 (.loop (.seq (.seq (.reg [⟨(some 57), .mv (.t 8), none⟩,
      ⟨(some 58), .mv (.t 9), none⟩,
      ⟨(some 59), .bin .lss (.t 57) (.t 58), none⟩])
    (.cond (.t 59)
     .skip
     (.exit 1)))
    (.blk 2 (.seq (.seq (.reg [⟨(some 60), .mv (.t 0), none⟩,
       ⟨(some 61), .mv (.t 8), none⟩,
       ⟨(some 62), .ixS (.t 60) (.t 61), none⟩,
       ⟨(some 63), .mv (.t 6), none⟩,
       ⟨(some 64), .bin .neq (.t 62) (.t 63), none⟩])
     (.cond (.t 64)
      (.seq (.reg [⟨(some 65), .mv (.t 0), none⟩,
        ⟨(some 66), .mv (.t 8), none⟩,
        ⟨(some 67), .bin .add (.t 66) (.c (.i .i64 1)), none⟩,
        ⟨(some 68), .mv (.t 9), none⟩,
        ⟨(some 69), .slS (.t 65) (some (.t 67)) (some (.t 68)), none⟩,
        ⟨(some 70), .mv (.t 6), none⟩,
        ⟨(some 71), .call f_internal_stringslite_IndexByte [(.t 69), (.t 70)], none⟩,
        ⟨(some 11), .mv (.t 71), none⟩])
      (.seq (.seq (.reg [⟨(some 72), .mv (.t 11), none⟩,
        ⟨(some 73), .bin .lss (.t 72) (.c (.i .i64 0)), none⟩])
      (.cond (.t 73)
       (.seq (.reg [⟨(some 4), .mv (.c (.i .i64 (-1))), none⟩])
       .ret)
       .skip))
      (.reg [⟨(some 74), .mv (.t 8), none⟩,
        ⟨(some 75), .mv (.t 11), none⟩,
        ⟨(some 76), .bin .add (.t 75) (.c (.i .i64 1)), none⟩,
        ⟨(some 77), .bin .add (.t 74) (.t 76), none⟩,
        ⟨(some 8), .mv (.t 77), none⟩])))
      .skip))
     (.seq (.seq (.reg [⟨(some 78), .mv (.t 0), none⟩,
       ⟨(some 79), .mv (.t 8), none⟩,
       ⟨(some 80), .bin .add (.t 79) (.c (.i .i64 1)), none⟩,
       ⟨(some 81), .ixS (.t 78) (.t 80), none⟩,
       ⟨(some 82), .mv (.t 7), none⟩,
       ⟨(some 83), .bin .eql (.t 81) (.t 82), none⟩,
       ⟨(some 84), .mv (.t 83), none⟩,
       ⟨(some 85), .mv (.t 0), (some (84, true))⟩,
       ⟨(some 86), .mv (.t 8), (some (84, true))⟩,
       ⟨(some 87), .mv (.t 8), (some (84, true))⟩,
       ⟨(some 88), .mv (.t 5), (some (84, true))⟩,
       ⟨(some 89), .bin .add (.t 87) (.t 88), (some (84, true))⟩,
       ⟨(some 90), .slS (.t 85) (some (.t 86)) (some (.t 89)), (some (84, true))⟩,
       ⟨(some 91), .mv (.t 1), (some (84, true))⟩,
       ⟨(some 92), .bin .eql (.t 90) (.t 91), (some (84, true))⟩,
       ⟨(some 93), .pick (.t 84) (.t 92) (.c (.b false)), none⟩])
     (.cond (.t 93)
      (.seq (.reg [⟨(some 94), .mv (.t 8), none⟩,
        ⟨(some 4), .mv (.t 94), none⟩])
      .ret)
      .skip))
     (.seq (.reg [⟨(some 95), .mv (.t 8), none⟩,
       ⟨(some 96), .bin .add (.t 95) (.c (.i .i64 1)), none⟩,
       ⟨(some 8), .mv (.t 96), none⟩])
     (.seq (.reg [⟨(some 97), .mv (.t 10), none⟩,
       ⟨(some 98), .bin .add (.t 97) (.c (.i .i64 1)), none⟩,
       ⟨(some 10), .mv (.t 98), none⟩])
     (.seq (.reg [⟨(some 99), .mv (.t 5), none⟩,
       ⟨(some 100), .bad, none⟩,
       ⟨(some 101), .bin .leq (.t 99) (.t 100), none⟩,
       ⟨(some 102), .mv (.t 101), none⟩,
       ⟨(some 103), .mv (.t 10), (some (102, true))⟩,
       ⟨(some 104), .mv (.t 8), (some (102, true))⟩,
       ⟨(some 105), .call f_internal_bytealg_Cutover [(.t 104)], (some (102, true))⟩,
       ⟨(some 106), .bin .gtr (.t 103) (.t 105), (some (102, true))⟩,
       ⟨(some 107), .pick (.t 102) (.t 106) (.c (.b false)), none⟩])
     (.cond (.t 107)
      (.seq (.reg [⟨(some 108), .mv (.t 0), none⟩,
        ⟨(some 109), .mv (.t 8), none⟩,
        ⟨(some 110), .slS (.t 108) (some (.t 109)) none, none⟩,
        ⟨(some 111), .mv (.t 1), none⟩,
        ⟨(some 112), .bad, none⟩,
        ⟨(some 12), .mv (.t 112), none⟩])
      (.seq (.seq (.reg [⟨(some 113), .mv (.t 12), none⟩,
        ⟨(some 114), .bin .geq (.t 113) (.c (.i .i64 0)), none⟩])
      (.cond (.t 114)
       (.seq (.reg [⟨(some 115), .mv (.t 12), none⟩,
         ⟨(some 116), .mv (.t 8), none⟩,
         ⟨(some 117), .bin .add (.t 115) (.t 116), none⟩,
         ⟨(some 4), .mv (.t 117), none⟩])
       .ret)
       .skip))
      (.seq (.reg [⟨(some 4), .mv (.c (.i .i64 (-1))), none⟩])
      .ret)))
      (.seq (.reg [⟨(some 118), .mv (.t 5), none⟩,
        ⟨(some 119), .bad, none⟩,
        ⟨(some 120), .bin .gtr (.t 118) (.t 119), none⟩,
        ⟨(some 121), .mv (.t 120), none⟩,
        ⟨(some 122), .mv (.t 10), (some (121, true))⟩,
        ⟨(some 123), .mv (.t 8), (some (121, true))⟩,
        ⟨(some 124), .bin .shr (.t 123) (.c (.i .u64 4)), (some (121, true))⟩,
        ⟨(some 125), .bin .add (.c (.i .i64 4)) (.t 124), (some (121, true))⟩,
        ⟨(some 126), .bin .geq (.t 122) (.t 125), (some (121, true))⟩,
        ⟨(some 127), .pick (.t 121) (.t 126) (.c (.b false)), none⟩,
        ⟨(some 128), .mv (.t 127), none⟩,
        ⟨(some 129), .mv (.t 8), (some (128, true))⟩,
        ⟨(some 130), .mv (.t 9), (some (128, true))⟩,
        ⟨(some 131), .bin .lss (.t 129) (.t 130), (some (128, true))⟩,
        ⟨(some 132), .pick (.t 128) (.t 131) (.c (.b false)), none⟩])
      (.cond (.t 132)
       (.seq (.reg [⟨(some 133), .mv (.t 0), none⟩,
         ⟨(some 134), .mv (.t 8), none⟩,
         ⟨(some 135), .slS (.t 133) (some (.t 134)) none, none⟩,
         ⟨(some 136), .mv (.t 1), none⟩,
         ⟨(some 137), .call f_internal_bytealg_IndexRabinKarp_string [(.t 135), (.t 136)], none⟩,
         ⟨(some 13), .mv (.t 137), none⟩])
       (.seq (.seq (.reg [⟨(some 138), .mv (.t 13), none⟩,
         ⟨(some 139), .bin .lss (.t 138) (.c (.i .i64 0)), none⟩])
       (.cond (.t 139)
        (.seq (.reg [⟨(some 4), .mv (.c (.i .i64 (-1))), none⟩])
        .ret)
        .skip))
       (.seq (.reg [⟨(some 140), .mv (.t 8), none⟩,
         ⟨(some 141), .mv (.t 13), none⟩,
         ⟨(some 142), .bin .add (.t 140) (.t 141), none⟩,
         ⟨(some 4), .mv (.t 142), none⟩])
       .ret)))
       .skip))))))))))))
  (.seq (.reg [⟨(some 4), .mv (.c (.i .i64 (-1))), none⟩])
  .ret)))))))))) }
def c_unicode_utf8_ValidRune : Fun := { cin := [.id], cout := [.id], ntmps := 17, keep := false, res := [(2, none)], body :=
  (.seq (.reg [⟨(some 2), .mv (.c (.b false)), none⟩])
  (.seq (.blk 0 (.seq (.reg [⟨(some 4), .mv (.t 0), none⟩,
     ⟨(some 5), .bin .leq (.c (.i .i32 0)) (.t 4), none⟩,
     ⟨(some 6), .mv (.t 5), none⟩,
     ⟨(some 7), .mv (.t 0), (some (6, true))⟩,
     ⟨(some 8), .bin .lss (.t 7) (.c (.i .i32 55296)), (some (6, true))⟩,
     ⟨(some 9), .pick (.t 6) (.t 8) (.c (.b false)), none⟩,
     ⟨(some 3), .mv (.t 9), none⟩])
   (.cond (.t 3)
    (.seq (.reg [⟨(some 2), .mv (.c (.b true)), none⟩])
    .ret)
    (.seq (.reg [⟨(some 11), .mv (.t 0), none⟩,
      ⟨(some 12), .bin .lss (.c (.i .i32 57343)) (.t 11), none⟩,
      ⟨(some 13), .mv (.t 12), none⟩,
      ⟨(some 14), .mv (.t 0), (some (13, true))⟩,
      ⟨(some 15), .bin .leq (.t 14) (.c (.i .i32 1114111)), (some (13, true))⟩,
      ⟨(some 16), .pick (.t 13) (.t 15) (.c (.b false)), none⟩,
      ⟨(some 10), .mv (.t 16), none⟩])
    (.cond (.t 10)
     (.seq (.reg [⟨(some 2), .mv (.c (.b true)), none⟩])
     .ret)
     .skip)))))
  (.seq (.reg [⟨(some 2), .mv (.c (.b false)), none⟩])
  .ret))) }
def c_internal_bytealg_Cutover : Fun := { cin := [.id], cout := [.id], ntmps := 6, keep := false, res := [(2, none)], body :=
  (.seq (.reg [⟨(some 2), .mv (.c (.i .i64 0)), none⟩])
  (.seq (.reg [⟨(some 3), .mv (.t 0), none⟩,
    ⟨(some 4), .bin .add (.t 3) (.c (.i .i64 16)), none⟩,
    ⟨(some 5), .bin .quo (.t 4) (.c (.i .i64 8)), none⟩,
    ⟨(some 2), .mv (.t 5), none⟩])
  .ret)) }
def c_strings_splitSeq_1 : Fun := { cin := [.id], cout := [], ntmps := 52, keep := false, res := [], body :=
  (.seq (.seq (.reg [⟨(some 9), .ld false 1 (.t 1), none⟩,
    ⟨(some 10), .len 0 (.t 9), none⟩,
    ⟨(some 11), .bin .eql (.t 10) (.c (.i .i64 0)), none⟩])
  (.cond (.t 11)
   (.seq (.blk 0 (.loop (.seq (.seq (.reg [⟨(some 12), .ld false 1 (.t 2), none⟩,
       ⟨(some 13), .len 0 (.t 12), none⟩,
       ⟨(some 14), .bin .gtr (.t 13) (.c (.i .i64 0)), none⟩])
     (.cond (.t 14)
      .skip
      (.exit 0)))
     (.blk 1 (.seq (.reg [⟨(some 16), .ld false 1 (.t 2), none⟩,
        ⟨(some 17), .call f_unicode_utf8_DecodeRuneInString [(.t 16)], none⟩,
        ⟨(some 15), .mv (.t 17), none⟩,
        ⟨(some 18), .ext (.t 15) 0, none⟩,
        ⟨(some 19), .ext (.t 15) 1, none⟩,
        ⟨(some 5), .mv (.t 18), none⟩,
        ⟨(some 6), .mv (.t 19), none⟩])
      (.seq (.seq (.reg [⟨(some 20), .mv (.t 0), none⟩,
        ⟨(some 21), .ld false 1 (.t 2), none⟩,
        ⟨(some 22), .mv (.t 6), none⟩,
        ⟨(some 23), .slS (.t 21) none (some (.t 22)), none⟩,
        ⟨(some 24), .callX (.t 20) [(.t 23)], none⟩,
        ⟨(some 25), .un .not (.t 24), none⟩])
      (.cond (.t 25)
       .ret
       .skip))
      (.reg [⟨(some 26), .ld false 1 (.t 2), none⟩,
        ⟨(some 27), .mv (.t 6), none⟩,
        ⟨(some 28), .slS (.t 26) (some (.t 27)) none, none⟩,
        ⟨none, .st 1 (.t 2) (.t 28), none⟩])))))))
   .ret)
   .skip))
  (.seq (.blk 2 (.loop (.blk 3 (.seq (.reg [⟨(some 29), .ld false 1 (.t 2), none⟩,
       ⟨(some 30), .ld false 1 (.t 1), none⟩,
       ⟨(some 31), .call f_strings_Index [(.t 29), (.t 30)], none⟩,
       ⟨(some 7), .mv (.t 31), none⟩])
     (.seq (.seq (.reg [⟨(some 32), .mv (.t 7), none⟩,
       ⟨(some 33), .bin .lss (.t 32) (.c (.i .i64 0)), none⟩])
     (.cond (.t 33)
      (.exit 2)
      .skip))
     (.seq (.reg [⟨(some 34), .ld false 1 (.t 2), none⟩,
       ⟨(some 35), .mv (.t 7), none⟩,
       ⟨(some 36), .ld false 1 (.t 3), none⟩,
       ⟨(some 37), .bin .add (.t 35) (.t 36), none⟩,
       ⟨(some 38), .slS (.t 34) none (some (.t 37)), none⟩,
       ⟨(some 8), .mv (.t 38), none⟩])
     (.seq (.seq (.reg [⟨(some 39), .mv (.t 0), none⟩,
       ⟨(some 40), .mv (.t 8), none⟩,
       ⟨(some 41), .callX (.t 39) [(.t 40)], none⟩,
       ⟨(some 42), .un .not (.t 41), none⟩])
     (.cond (.t 42)
      .ret
      .skip))
     (.reg [⟨(some 43), .ld false 1 (.t 2), none⟩,
       ⟨(some 44), .mv (.t 7), none⟩,
       ⟨(some 45), .ld false 1 (.t 1), none⟩,
       ⟨(some 46), .len 0 (.t 45), none⟩,
       ⟨(some 47), .bin .add (.t 44) (.t 46), none⟩,
       ⟨(some 48), .slS (.t 43) (some (.t 47)) none, none⟩,
       ⟨none, .st 1 (.t 2) (.t 48), none⟩]))))))))
  (.reg [⟨(some 49), .mv (.t 0), none⟩,
    ⟨(some 50), .ld false 1 (.t 2), none⟩,
    ⟨(some 51), .callX (.t 49) [(.t 50)], none⟩]))) }
def c_unicode_utf8_DecodeRuneInString : Fun := { cin := [.id], cout := [.id, .id], ntmps := 19, keep := false, res := [(2, none), (3, none)], body :=
  (.seq (.reg [⟨(some 2), .mv (.c (.i .i32 0)), none⟩,
    ⟨(some 3), .mv (.c (.i .i64 0)), none⟩])
  (.seq (.seq (.reg [⟨(some 4), .mv (.t 0), none⟩,
    ⟨(some 5), .bin .neq (.t 4) (.c (.s [])), none⟩,
    ⟨(some 6), .mv (.t 5), none⟩,
    ⟨(some 7), .mv (.t 0), (some (6, true))⟩,
    ⟨(some 8), .ixS (.t 7) (.c (.i .i64 0)), (some (6, true))⟩,
    ⟨(some 9), .bin .lss (.t 8) (.c (.i .u8 128)), (some (6, true))⟩,
    ⟨(some 10), .pick (.t 6) (.t 9) (.c (.b false)), none⟩])
  (.cond (.t 10)
   (.seq (.reg [⟨(some 11), .mv (.t 0), none⟩,
     ⟨(some 12), .ixS (.t 11) (.c (.i .i64 0)), none⟩,
     ⟨(some 13), .cvI .i32 (.t 12), none⟩,
     ⟨(some 2), .mv (.t 13), none⟩,
     ⟨(some 3), .mv (.c (.i .i64 1)), none⟩])
   .ret)
   (.reg [⟨(some 15), .mv (.t 0), none⟩,
     ⟨(some 16), .call f_unicode_utf8_decodeRuneInStringSlow [(.t 15)], none⟩,
     ⟨(some 14), .mv (.t 16), none⟩,
     ⟨(some 17), .ext (.t 14) 0, none⟩,
     ⟨(some 18), .ext (.t 14) 1, none⟩,
     ⟨(some 2), .mv (.t 17), none⟩,
     ⟨(some 3), .mv (.t 18), none⟩])))
  .ret)) }
def c_internal_stringslite_IndexByte : Fun := { cin := [.id, .id], cout := [.id], ntmps := 8, keep := false, res := [(4, none)], body :=
  (.seq (.reg [⟨(some 4), .mv (.c (.i .i64 0)), none⟩])
  (.seq (.reg [⟨(some 5), .mv (.t 0), none⟩,
    ⟨(some 6), .mv (.t 1), none⟩,
    ⟨(some 7), .xtn 0 [(.t 5), (.t 6)], none⟩,
    ⟨(some 4), .mv (.t 7), none⟩])
  .ret)) }
def c_unicode_utf8_RuneStart : Fun := { cin := [.id], cout := [.id], ntmps := 6, keep := false, res := [(2, none)], body :=
  (.seq (.reg [⟨(some 2), .mv (.c (.b false)), none⟩])
  (.seq (.reg [⟨(some 3), .mv (.t 0), none⟩,
    ⟨(some 4), .bin .and (.t 3) (.c (.i .u8 192)), none⟩,
    ⟨(some 5), .bin .neq (.t 4) (.c (.i .u8 128)), none⟩,
    ⟨(some 2), .mv (.t 5), none⟩])
  .ret)) }
def c_internal_bytealg_IndexRabinKarp_string : Fun := { cin := [.id, .id], cout := [.id], ntmps := 81, keep := false, res := [(4, none)], body :=
  (.seq (.reg [⟨(some 4), .mv (.c (.i .i64 0)), none⟩])
  (.seq (.reg [⟨(some 12), .mv (.t 1), none⟩,
    ⟨(some 13), .call f_internal_bytealg_hashStr_string [(.t 12)], none⟩,
    ⟨(some 11), .mv (.t 13), none⟩,
    ⟨(some 14), .ext (.t 11) 0, none⟩,
    ⟨(some 15), .ext (.t 11) 1, none⟩,
    ⟨(some 5), .mv (.t 14), none⟩,
    ⟨(some 6), .mv (.t 15), none⟩])
  (.seq (.reg [⟨(some 16), .mv (.t 1), none⟩,
    ⟨(some 17), .len 0 (.t 16), none⟩,
    ⟨(some 7), .mv (.t 17), none⟩])
  (.seq (.reg [⟨(some 8), .mv (.c (.i .u32 0)), none⟩])
  (.seq (.seq (.reg [⟨(some 9), .mv (.c (.i .i64 0)), none⟩])
  (.blk 0 (.loop (.seq (.seq (.reg [⟨(some 18), .mv (.t 9), none⟩,
      ⟨(some 19), .mv (.t 7), none⟩,
      ⟨(some 20), .bin .lss (.t 18) (.t 19), none⟩])
    (.cond (.t 20)
     .skip
     (.exit 0)))
    (.seq (.blk 1 (.reg [⟨(some 23), .mv (.t 8), none⟩,
       ⟨(some 24), .bin .mul (.t 23) (.c (.i .u32 16777619)), none⟩,
       ⟨(some 25), .mv (.t 0), none⟩,
       ⟨(some 26), .mv (.t 9), none⟩,
       ⟨(some 27), .ixS (.t 25) (.t 26), none⟩,
       ⟨(some 28), .cvI .u32 (.t 27), none⟩,
       ⟨(some 29), .bin .add (.t 24) (.t 28), none⟩,
       ⟨(some 8), .mv (.t 29), none⟩]))
    (.reg [⟨(some 21), .mv (.t 9), none⟩,
      ⟨(some 22), .bin .add (.t 21) (.c (.i .i64 1)), none⟩,
      ⟨(some 9), .mv (.t 22), none⟩]))))))
  (.seq (.seq (.reg [⟨(some 30), .mv (.t 8), none⟩,
    ⟨(some 31), .mv (.t 5), none⟩,
    ⟨(some 32), .bin .eql (.t 30) (.t 31), none⟩,
    ⟨(some 33), .mv (.t 32), none⟩,
    ⟨(some 34), .mv (.t 0), (some (33, true))⟩,
    ⟨(some 35), .mv (.t 7), (some (33, true))⟩,
    ⟨(some 36), .slS (.t 34) none (some (.t 35)), (some (33, true))⟩,
    ⟨(some 37), .mv (.t 1), (some (33, true))⟩,
    ⟨(some 38), .bin .eql (.t 36) (.t 37), (some (33, true))⟩,
    ⟨(some 39), .pick (.t 33) (.t 38) (.c (.b false)), none⟩])
  (.cond (.t 39)
   (.seq (.reg [⟨(some 4), .mv (.c (.i .i64 0)), none⟩])
   .ret)
   .skip))
  (.seq (.seq (.reg [⟨(some 40), .mv (.t 7), none⟩,
    ⟨(some 10), .mv (.t 40), none⟩])
  (.blk 2 (.loop (.seq (.seq (.reg [⟨(some 41), .mv (.t 10), none⟩,
      ⟨(some 42), .mv (.t 0), none⟩,
      ⟨(some 43), .len 0 (.t 42), none⟩,
      ⟨(some 44), .bin .lss (.t 41) (.t 43), none⟩])
    (.cond (.t 44)
     .skip
     (.exit 2)))
    (.blk 3 (.seq (.reg [⟨(some 45), .mv (.t 8), none⟩,
       ⟨(some 46), .bin .mul (.t 45) (.c (.i .u32 16777619)), none⟩,
       ⟨(some 8), .mv (.t 46), none⟩])
     (.seq (.reg [⟨(some 47), .mv (.t 8), none⟩,
       ⟨(some 48), .mv (.t 0), none⟩,
       ⟨(some 49), .mv (.t 10), none⟩,
       ⟨(some 50), .ixS (.t 48) (.t 49), none⟩,
       ⟨(some 51), .cvI .u32 (.t 50), none⟩,
       ⟨(some 52), .bin .add (.t 47) (.t 51), none⟩,
       ⟨(some 8), .mv (.t 52), none⟩])
     (.seq (.reg [⟨(some 53), .mv (.t 8), none⟩,
       ⟨(some 54), .mv (.t 6), none⟩,
       ⟨(some 55), .mv (.t 0), none⟩,
       ⟨(some 56), .mv (.t 10), none⟩,
       ⟨(some 57), .mv (.t 7), none⟩,
       ⟨(some 58), .bin .sub (.t 56) (.t 57), none⟩,
       ⟨(some 59), .ixS (.t 55) (.t 58), none⟩,
       ⟨(some 60), .cvI .u32 (.t 59), none⟩,
       ⟨(some 61), .bin .mul (.t 54) (.t 60), none⟩,
       ⟨(some 62), .bin .sub (.t 53) (.t 61), none⟩,
       ⟨(some 8), .mv (.t 62), none⟩])
     (.seq (.reg [⟨(some 63), .mv (.t 10), none⟩,
       ⟨(some 64), .bin .add (.t 63) (.c (.i .i64 1)), none⟩,
       ⟨(some 10), .mv (.t 64), none⟩])
     (.seq (.reg [⟨(some 65), .mv (.t 8), none⟩,
       ⟨(some 66), .mv (.t 5), none⟩,
       ⟨(some 67), .bin .eql (.t 65) (.t 66), none⟩,
       ⟨(some 68), .mv (.t 67), none⟩,
       ⟨(some 69), .mv (.t 0), (some (68, true))⟩,
       ⟨(some 70), .mv (.t 10), (some (68, true))⟩,
       ⟨(some 71), .mv (.t 7), (some (68, true))⟩,
       ⟨(some 72), .bin .sub (.t 70) (.t 71), (some (68, true))⟩,
       ⟨(some 73), .mv (.t 10), (some (68, true))⟩,
       ⟨(some 74), .slS (.t 69) (some (.t 72)) (some (.t 73)), (some (68, true))⟩,
       ⟨(some 75), .mv (.t 1), (some (68, true))⟩,
       ⟨(some 76), .bin .eql (.t 74) (.t 75), (some (68, true))⟩,
       ⟨(some 77), .pick (.t 68) (.t 76) (.c (.b false)), none⟩])
     (.cond (.t 77)
      (.seq (.reg [⟨(some 78), .mv (.t 10), none⟩,
        ⟨(some 79), .mv (.t 7), none⟩,
        ⟨(some 80), .bin .sub (.t 78) (.t 79), none⟩,
        ⟨(some 4), .mv (.t 80), none⟩])
      .ret)
      .skip)))))))))))
  (.seq (.reg [⟨(some 4), .mv (.c (.i .i64 (-1))), none⟩])
  .ret)))))))) }
def c_unicode_utf8_decodeRuneInStringSlow : Fun := { cin := [.id], cout := [.id, .id], ntmps := 117, keep := false, res := [(2, none), (3, none)], body :=
  (.seq (.reg [⟨(some 2), .mv (.c (.i .i32 0)), none⟩,
    ⟨(some 3), .mv (.c (.i .i64 0)), none⟩])
  (.seq (.reg [⟨(some 13), .mv (.t 0), none⟩,
    ⟨(some 14), .len 0 (.t 13), none⟩,
    ⟨(some 4), .mv (.t 14), none⟩])
  (.seq (.seq (.reg [⟨(some 15), .mv (.t 4), none⟩,
    ⟨(some 16), .bin .lss (.t 15) (.c (.i .i64 1)), none⟩])
  (.cond (.t 16)
   (.seq (.reg [⟨(some 2), .mv (.c (.i .i32 65533)), none⟩,
     ⟨(some 3), .mv (.c (.i .i64 0)), none⟩])
   .ret)
   .skip))
  (.seq (.reg [⟨(some 17), .mv (.t 0), none⟩,
    ⟨(some 18), .ixS (.t 17) (.c (.i .i64 0)), none⟩,
    ⟨(some 5), .mv (.t 18), none⟩])
  (.seq (.reg [⟨(some 19), .mv (.t 5), none⟩,
    ⟨(some 20), .bad, none⟩,
    ⟨(some 21), .ld false 1 (.t 20), none⟩,
    ⟨(some 6), .mv (.t 21), none⟩])
  (.seq (.seq (.reg [⟨(some 22), .mv (.t 6), none⟩,
    ⟨(some 23), .bin .geq (.t 22) (.c (.i .u8 240)), none⟩])
  (.cond (.t 23)
   (.seq (.reg [⟨(some 24), .mv (.t 6), none⟩,
     ⟨(some 25), .cvI .i32 (.t 24), none⟩,
     ⟨(some 26), .bin .shl (.t 25) (.c (.i .u64 31)), none⟩,
     ⟨(some 27), .bin .shr (.t 26) (.c (.i .u64 31)), none⟩,
     ⟨(some 7), .mv (.t 27), none⟩])
   (.seq (.reg [⟨(some 28), .mv (.t 0), none⟩,
     ⟨(some 29), .ixS (.t 28) (.c (.i .i64 0)), none⟩,
     ⟨(some 30), .cvI .i32 (.t 29), none⟩,
     ⟨(some 31), .mv (.t 7), none⟩,
     ⟨(some 32), .bin .andNot (.t 30) (.t 31), none⟩,
     ⟨(some 33), .mv (.t 7), none⟩,
     ⟨(some 34), .bin .and (.c (.i .i32 65533)) (.t 33), none⟩,
     ⟨(some 35), .bin .or (.t 32) (.t 34), none⟩,
     ⟨(some 2), .mv (.t 35), none⟩,
     ⟨(some 3), .mv (.c (.i .i64 1)), none⟩])
   .ret))
   .skip))
  (.seq (.reg [⟨(some 36), .mv (.t 6), none⟩,
    ⟨(some 37), .bin .and (.t 36) (.c (.i .u8 7)), none⟩,
    ⟨(some 38), .cvI .i64 (.t 37), none⟩,
    ⟨(some 8), .mv (.t 38), none⟩])
  (.seq (.reg [⟨(some 39), .mv (.t 6), none⟩,
    ⟨(some 40), .bin .shr (.t 39) (.c (.i .u64 4)), none⟩,
    ⟨(some 41), .bad, none⟩,
    ⟨(some 42), .ld true 2 (.t 41), none⟩,
    ⟨(some 9), .alloc 188 [(.i .u8 0), (.i .u8 0)], none⟩,
    ⟨none, .st 2 (.t 9) (.t 42), none⟩])
  (.seq (.seq (.reg [⟨(some 43), .mv (.t 4), none⟩,
    ⟨(some 44), .mv (.t 8), none⟩,
    ⟨(some 45), .bin .lss (.t 43) (.t 44), none⟩])
  (.cond (.t 45)
   (.seq (.reg [⟨(some 2), .mv (.c (.i .i32 65533)), none⟩,
     ⟨(some 3), .mv (.c (.i .i64 1)), none⟩])
   .ret)
   .skip))
  (.seq (.reg [⟨(some 46), .mv (.t 0), none⟩,
    ⟨(some 47), .ixS (.t 46) (.c (.i .i64 1)), none⟩,
    ⟨(some 10), .mv (.t 47), none⟩])
  (.seq (.seq (.reg [⟨(some 48), .mv (.t 10), none⟩,
    ⟨(some 49), .fa 0 (.t 9), none⟩,
    ⟨(some 50), .ld false 1 (.t 49), none⟩,
    ⟨(some 51), .bin .lss (.t 48) (.t 50), none⟩,
    ⟨(some 52), .mv (.t 51), none⟩,
    ⟨(some 53), .fa 1 (.t 9), (some (52, false))⟩,
    ⟨(some 54), .ld false 1 (.t 53), (some (52, false))⟩,
    ⟨(some 55), .mv (.t 10), (some (52, false))⟩,
    ⟨(some 56), .bin .lss (.t 54) (.t 55), (some (52, false))⟩,
    ⟨(some 57), .pick (.t 52) (.c (.b true)) (.t 56), none⟩])
  (.cond (.t 57)
   (.seq (.reg [⟨(some 2), .mv (.c (.i .i32 65533)), none⟩,
     ⟨(some 3), .mv (.c (.i .i64 1)), none⟩])
   .ret)
   .skip))
  (.seq (.seq (.reg [⟨(some 58), .mv (.t 8), none⟩,
    ⟨(some 59), .bin .leq (.t 58) (.c (.i .i64 2)), none⟩])
  (.cond (.t 59)
   (.seq (.reg [⟨(some 60), .mv (.t 5), none⟩,
     ⟨(some 61), .bin .and (.t 60) (.c (.i .u8 31)), none⟩,
     ⟨(some 62), .cvI .i32 (.t 61), none⟩,
     ⟨(some 63), .bin .shl (.t 62) (.c (.i .u64 6)), none⟩,
     ⟨(some 64), .mv (.t 10), none⟩,
     ⟨(some 65), .bin .and (.t 64) (.c (.i .u8 63)), none⟩,
     ⟨(some 66), .cvI .i32 (.t 65), none⟩,
     ⟨(some 67), .bin .or (.t 63) (.t 66), none⟩,
     ⟨(some 2), .mv (.t 67), none⟩,
     ⟨(some 3), .mv (.c (.i .i64 2)), none⟩])
   .ret)
   .skip))
  (.seq (.reg [⟨(some 68), .mv (.t 0), none⟩,
    ⟨(some 69), .ixS (.t 68) (.c (.i .i64 2)), none⟩,
    ⟨(some 11), .mv (.t 69), none⟩])
  (.seq (.seq (.reg [⟨(some 70), .mv (.t 11), none⟩,
    ⟨(some 71), .bin .lss (.t 70) (.c (.i .u8 128)), none⟩,
    ⟨(some 72), .mv (.t 71), none⟩,
    ⟨(some 73), .mv (.t 11), (some (72, false))⟩,
    ⟨(some 74), .bin .lss (.c (.i .u8 191)) (.t 73), (some (72, false))⟩,
    ⟨(some 75), .pick (.t 72) (.c (.b true)) (.t 74), none⟩])
  (.cond (.t 75)
   (.seq (.reg [⟨(some 2), .mv (.c (.i .i32 65533)), none⟩,
     ⟨(some 3), .mv (.c (.i .i64 1)), none⟩])
   .ret)
   .skip))
  (.seq (.seq (.reg [⟨(some 76), .mv (.t 8), none⟩,
    ⟨(some 77), .bin .leq (.t 76) (.c (.i .i64 3)), none⟩])
  (.cond (.t 77)
   (.seq (.reg [⟨(some 78), .mv (.t 5), none⟩,
     ⟨(some 79), .bin .and (.t 78) (.c (.i .u8 15)), none⟩,
     ⟨(some 80), .cvI .i32 (.t 79), none⟩,
     ⟨(some 81), .bin .shl (.t 80) (.c (.i .u64 12)), none⟩,
     ⟨(some 82), .mv (.t 10), none⟩,
     ⟨(some 83), .bin .and (.t 82) (.c (.i .u8 63)), none⟩,
     ⟨(some 84), .cvI .i32 (.t 83), none⟩,
     ⟨(some 85), .bin .shl (.t 84) (.c (.i .u64 6)), none⟩,
     ⟨(some 86), .bin .or (.t 81) (.t 85), none⟩,
     ⟨(some 87), .mv (.t 11), none⟩,
     ⟨(some 88), .bin .and (.t 87) (.c (.i .u8 63)), none⟩,
     ⟨(some 89), .cvI .i32 (.t 88), none⟩,
     ⟨(some 90), .bin .or (.t 86) (.t 89), none⟩,
     ⟨(some 2), .mv (.t 90), none⟩,
     ⟨(some 3), .mv (.c (.i .i64 3)), none⟩])
   .ret)
   .skip))
  (.seq (.reg [⟨(some 91), .mv (.t 0), none⟩,
    ⟨(some 92), .ixS (.t 91) (.c (.i .i64 3)), none⟩,
    ⟨(some 12), .mv (.t 92), none⟩])
  (.seq (.seq (.reg [⟨(some 93), .mv (.t 12), none⟩,
    ⟨(some 94), .bin .lss (.t 93) (.c (.i .u8 128)), none⟩,
    ⟨(some 95), .mv (.t 94), none⟩,
    ⟨(some 96), .mv (.t 12), (some (95, false))⟩,
    ⟨(some 97), .bin .lss (.c (.i .u8 191)) (.t 96), (some (95, false))⟩,
    ⟨(some 98), .pick (.t 95) (.c (.b true)) (.t 97), none⟩])
  (.cond (.t 98)
   (.seq (.reg [⟨(some 2), .mv (.c (.i .i32 65533)), none⟩,
     ⟨(some 3), .mv (.c (.i .i64 1)), none⟩])
   .ret)
   .skip))
  (.seq (.reg [⟨(some 99), .mv (.t 5), none⟩,
    ⟨(some 100), .bin .and (.t 99) (.c (.i .u8 7)), none⟩,
    ⟨(some 101), .cvI .i32 (.t 100), none⟩,
    ⟨(some 102), .bin .shl (.t 101) (.c (.i .u64 18)), none⟩,
    ⟨(some 103), .mv (.t 10), none⟩,
    ⟨(some 104), .bin .and (.t 103) (.c (.i .u8 63)), none⟩,
    ⟨(some 105), .cvI .i32 (.t 104), none⟩,
    ⟨(some 106), .bin .shl (.t 105) (.c (.i .u64 12)), none⟩,
    ⟨(some 107), .bin .or (.t 102) (.t 106), none⟩,
    ⟨(some 108), .mv (.t 11), none⟩,
    ⟨(some 109), .bin .and (.t 108) (.c (.i .u8 63)), none⟩,
    ⟨(some 110), .cvI .i32 (.t 109), none⟩,
    ⟨(some 111), .bin .shl (.t 110) (.c (.i .u64 6)), none⟩,
    ⟨(some 112), .bin .or (.t 107) (.t 111), none⟩,
    ⟨(some 113), .mv (.t 12), none⟩,
    ⟨(some 114), .bin .and (.t 113) (.c (.i .u8 63)), none⟩,
    ⟨(some 115), .cvI .i32 (.t 114), none⟩,
    ⟨(some 116), .bin .or (.t 112) (.t 115), none⟩,
    ⟨(some 2), .mv (.t 116), none⟩,
    ⟨(some 3), .mv (.c (.i .i64 4)), none⟩])
  .ret)))))))))))))))))) }
def c_internal_bytealg_hashStr_string : Fun := { cin := [.id], cout := [.id, .id], ntmps := 39, keep := false, res := [(2, none), (3, none)], body :=
  (.seq (.reg [⟨(some 2), .mv (.c (.i .u32 0)), none⟩,
    ⟨(some 3), .mv (.c (.i .u32 0)), none⟩])
  (.seq (.reg [⟨(some 4), .mv (.c (.i .u32 0)), none⟩])
  (.seq (.seq (.reg [⟨(some 5), .mv (.c (.i .i64 0)), none⟩])
  (.blk 0 (.loop (.seq (.seq (.reg [⟨(some 9), .mv (.t 5), none⟩,
      ⟨(some 10), .mv (.t 0), none⟩,
      ⟨(some 11), .len 0 (.t 10), none⟩,
      ⟨(some 12), .bin .lss (.t 9) (.t 11), none⟩])
    (.cond (.t 12)
     .skip
     (.exit 0)))
    (.seq (.blk 1 (.reg [⟨(some 15), .mv (.t 4), none⟩,
       ⟨(some 16), .bin .mul (.t 15) (.c (.i .u32 16777619)), none⟩,
       ⟨(some 17), .mv (.t 0), none⟩,
       ⟨(some 18), .mv (.t 5), none⟩,
       ⟨(some 19), .ixS (.t 17) (.t 18), none⟩,
       ⟨(some 20), .cvI .u32 (.t 19), none⟩,
       ⟨(some 21), .bin .add (.t 16) (.t 20), none⟩,
       ⟨(some 4), .mv (.t 21), none⟩]))
    (.reg [⟨(some 13), .mv (.t 5), none⟩,
      ⟨(some 14), .bin .add (.t 13) (.c (.i .i64 1)), none⟩,
      ⟨(some 5), .mv (.t 14), none⟩]))))))
  (.seq (.reg [⟨(some 6), .mv (.c (.i .u32 1)), none⟩,
    ⟨(some 7), .mv (.c (.i .u32 16777619)), none⟩])
  (.seq (.seq (.reg [⟨(some 22), .mv (.t 0), none⟩,
    ⟨(some 23), .len 0 (.t 22), none⟩,
    ⟨(some 8), .mv (.t 23), none⟩])
  (.blk 2 (.loop (.seq (.seq (.reg [⟨(some 24), .mv (.t 8), none⟩,
      ⟨(some 25), .bin .gtr (.t 24) (.c (.i .i64 0)), none⟩])
    (.cond (.t 25)
     .skip
     (.exit 2)))
    (.seq (.blk 3 (.seq (.seq (.reg [⟨(some 28), .mv (.t 8), none⟩,
       ⟨(some 29), .bin .and (.t 28) (.c (.i .i64 1)), none⟩,
       ⟨(some 30), .bin .neq (.t 29) (.c (.i .i64 0)), none⟩])
     (.cond (.t 30)
      (.reg [⟨(some 31), .mv (.t 6), none⟩,
        ⟨(some 32), .mv (.t 7), none⟩,
        ⟨(some 33), .bin .mul (.t 31) (.t 32), none⟩,
        ⟨(some 6), .mv (.t 33), none⟩])
      .skip))
     (.reg [⟨(some 34), .mv (.t 7), none⟩,
       ⟨(some 35), .mv (.t 7), none⟩,
       ⟨(some 36), .bin .mul (.t 34) (.t 35), none⟩,
       ⟨(some 7), .mv (.t 36), none⟩])))
    (.reg [⟨(some 26), .mv (.t 8), none⟩,
      ⟨(some 27), .bin .shr (.t 26) (.c (.i .u64 1)), none⟩,
      ⟨(some 8), .mv (.t 27), none⟩]))))))
  (.seq (.reg [⟨(some 37), .mv (.t 4), none⟩,
    ⟨(some 38), .mv (.t 6), none⟩,
    ⟨(some 2), .mv (.t 37), none⟩,
    ⟨(some 3), .mv (.t 38), none⟩])
  .ret)))))) }
def tab : PT := (.n 105 c_strings_IndexAny (.n 40 c_path_Steps (.n 33 c_path_Under (.n 29 c_touchstonelaw06_long (.n 6 c_touchstonelaw06_PathOrder (.n 5 c_touchstonelaw06_PathPlaces .e .e) (.n 10 c_touchstonelaw06_PathNames .e .e)) (.n 31 c_path_Show (.n 30 c_touchstonelaw06_awake .e .e) (.n 32 c_touchstoneref06_Show .e .e))) (.n 37 c_touchstoneref06_Same (.n 35 c_path_Less (.n 34 c_touchstoneref06_Under .e .e) (.n 36 c_touchstoneref06_Less .e .e)) (.n 39 c_path_Clean (.n 38 c_path_Name .e .e) .e))) (.n 85 c_strings_ContainsAny (.n 82 c_strings_Join (.n 57 c_path_Dir (.n 54 c_path_Last .e .e) (.n 59 c_path_Check .e .e)) (.n 84 c_slices_Compare_string_string (.n 83 c_slices_Equal_string_string .e .e) .e)) (.n 93 c_strings_LastIndexByte (.n 87 c_slices_Collect_string (.n 86 c_path_steps .e .e) (.n 92 c_strings_TrimRight .e .e)) (.n 104 c_cmp_Compare_string (.n 94 c_strings_Contains .e .e) .e)))) (.n 130 c_strings_splitSeq (.n 116 c_strings_trimRightUnicode (.n 113 c_strings_trimRightByte (.n 107 c_strings_SplitSeq (.n 106 c_path_steps_1 .e .e) (.n 108 c_slices_AppendSeq_string_string .e .e)) (.n 115 c_strings_trimRightASCII (.n 114 c_strings_makeASCIISet .e .e) .e)) (.n 127 c_strings_IndexRune (.n 118 c_strings_Index (.n 117 c_internal_bytealg_LastIndexByteString .e .e) (.n 126 c_cmp_isNaN_string .e .e)) (.n 129 c_strings_asciiSet_contains (.n 128 c_strings_shouldUseASCIISet .e .e) .e))) (.n 157 c_strings_splitSeq_1 (.n 135 c_internal_stringslite_Index (.n 133 c_unicode_utf8_DecodeLastRuneInString (.n 131 c_strings_IndexByte .e .e) (.n 134 c_strings_ContainsRune .e .e)) (.n 155 c_internal_bytealg_Cutover (.n 154 c_unicode_utf8_ValidRune .e .e) .e)) (.n 163 c_internal_bytealg_IndexRabinKarp_string (.n 159 c_internal_stringslite_IndexByte (.n 158 c_unicode_utf8_DecodeRuneInString .e .e) (.n 162 c_unicode_utf8_RuneStart .e .e)) (.n 179 c_internal_bytealg_hashStr_string (.n 176 c_unicode_utf8_decodeRuneInStringSlow .e .e) .e)))))
def prog (n : Nat) : Option Fun := tab.get n
theorem p_touchstonelaw06_PathPlaces : prog f_touchstonelaw06_PathPlaces = some c_touchstonelaw06_PathPlaces := rfl
theorem p_touchstonelaw06_PathOrder : prog f_touchstonelaw06_PathOrder = some c_touchstonelaw06_PathOrder := rfl
theorem p_touchstonelaw06_PathNames : prog f_touchstonelaw06_PathNames = some c_touchstonelaw06_PathNames := rfl
theorem p_touchstonelaw06_long : prog f_touchstonelaw06_long = some c_touchstonelaw06_long := rfl
theorem p_touchstonelaw06_awake : prog f_touchstonelaw06_awake = some c_touchstonelaw06_awake := rfl
theorem p_path_Show : prog f_path_Show = some c_path_Show := rfl
theorem p_touchstoneref06_Show : prog f_touchstoneref06_Show = some c_touchstoneref06_Show := rfl
theorem p_path_Under : prog f_path_Under = some c_path_Under := rfl
theorem p_touchstoneref06_Under : prog f_touchstoneref06_Under = some c_touchstoneref06_Under := rfl
theorem p_path_Less : prog f_path_Less = some c_path_Less := rfl
theorem p_touchstoneref06_Less : prog f_touchstoneref06_Less = some c_touchstoneref06_Less := rfl
theorem p_touchstoneref06_Same : prog f_touchstoneref06_Same = some c_touchstoneref06_Same := rfl
theorem p_path_Name : prog f_path_Name = some c_path_Name := rfl
theorem p_path_Clean : prog f_path_Clean = some c_path_Clean := rfl
theorem p_path_Steps : prog f_path_Steps = some c_path_Steps := rfl
theorem p_path_Last : prog f_path_Last = some c_path_Last := rfl
theorem p_path_Dir : prog f_path_Dir = some c_path_Dir := rfl
theorem p_path_Check : prog f_path_Check = some c_path_Check := rfl
theorem p_strings_Join : prog f_strings_Join = some c_strings_Join := rfl
theorem p_slices_Equal_string_string : prog f_slices_Equal_string_string = some c_slices_Equal_string_string := rfl
theorem p_slices_Compare_string_string : prog f_slices_Compare_string_string = some c_slices_Compare_string_string := rfl
theorem p_strings_ContainsAny : prog f_strings_ContainsAny = some c_strings_ContainsAny := rfl
theorem p_path_steps : prog f_path_steps = some c_path_steps := rfl
theorem p_slices_Collect_string : prog f_slices_Collect_string = some c_slices_Collect_string := rfl
theorem p_strings_TrimRight : prog f_strings_TrimRight = some c_strings_TrimRight := rfl
theorem p_strings_LastIndexByte : prog f_strings_LastIndexByte = some c_strings_LastIndexByte := rfl
theorem p_strings_Contains : prog f_strings_Contains = some c_strings_Contains := rfl
theorem p_cmp_Compare_string : prog f_cmp_Compare_string = some c_cmp_Compare_string := rfl
theorem p_strings_IndexAny : prog f_strings_IndexAny = some c_strings_IndexAny := rfl
theorem p_path_steps_1 : prog f_path_steps_1 = some c_path_steps_1 := rfl
theorem p_strings_SplitSeq : prog f_strings_SplitSeq = some c_strings_SplitSeq := rfl
theorem p_slices_AppendSeq_string_string : prog f_slices_AppendSeq_string_string = some c_slices_AppendSeq_string_string := rfl
theorem p_strings_trimRightByte : prog f_strings_trimRightByte = some c_strings_trimRightByte := rfl
theorem p_strings_makeASCIISet : prog f_strings_makeASCIISet = some c_strings_makeASCIISet := rfl
theorem p_strings_trimRightASCII : prog f_strings_trimRightASCII = some c_strings_trimRightASCII := rfl
theorem p_strings_trimRightUnicode : prog f_strings_trimRightUnicode = some c_strings_trimRightUnicode := rfl
theorem p_internal_bytealg_LastIndexByteString : prog f_internal_bytealg_LastIndexByteString = some c_internal_bytealg_LastIndexByteString := rfl
theorem p_strings_Index : prog f_strings_Index = some c_strings_Index := rfl
theorem p_cmp_isNaN_string : prog f_cmp_isNaN_string = some c_cmp_isNaN_string := rfl
theorem p_strings_IndexRune : prog f_strings_IndexRune = some c_strings_IndexRune := rfl
theorem p_strings_shouldUseASCIISet : prog f_strings_shouldUseASCIISet = some c_strings_shouldUseASCIISet := rfl
theorem p_strings_asciiSet_contains : prog f_strings_asciiSet_contains = some c_strings_asciiSet_contains := rfl
theorem p_strings_splitSeq : prog f_strings_splitSeq = some c_strings_splitSeq := rfl
theorem p_strings_IndexByte : prog f_strings_IndexByte = some c_strings_IndexByte := rfl
theorem p_unicode_utf8_DecodeLastRuneInString : prog f_unicode_utf8_DecodeLastRuneInString = some c_unicode_utf8_DecodeLastRuneInString := rfl
theorem p_strings_ContainsRune : prog f_strings_ContainsRune = some c_strings_ContainsRune := rfl
theorem p_internal_stringslite_Index : prog f_internal_stringslite_Index = some c_internal_stringslite_Index := rfl
theorem p_unicode_utf8_ValidRune : prog f_unicode_utf8_ValidRune = some c_unicode_utf8_ValidRune := rfl
theorem p_internal_bytealg_Cutover : prog f_internal_bytealg_Cutover = some c_internal_bytealg_Cutover := rfl
theorem p_strings_splitSeq_1 : prog f_strings_splitSeq_1 = some c_strings_splitSeq_1 := rfl
theorem p_unicode_utf8_DecodeRuneInString : prog f_unicode_utf8_DecodeRuneInString = some c_unicode_utf8_DecodeRuneInString := rfl
theorem p_internal_stringslite_IndexByte : prog f_internal_stringslite_IndexByte = some c_internal_stringslite_IndexByte := rfl
theorem p_unicode_utf8_RuneStart : prog f_unicode_utf8_RuneStart = some c_unicode_utf8_RuneStart := rfl
theorem p_internal_bytealg_IndexRabinKarp_string : prog f_internal_bytealg_IndexRabinKarp_string = some c_internal_bytealg_IndexRabinKarp_string := rfl
theorem p_unicode_utf8_decodeRuneInStringSlow : prog f_unicode_utf8_decodeRuneInStringSlow = some c_unicode_utf8_decodeRuneInStringSlow := rfl
theorem p_internal_bytealg_hashStr_string : prog f_internal_bytealg_hashStr_string = some c_internal_bytealg_hashStr_string := rfl
end Go.Proofs.YtmeahkccilkofaaDoor
