/-
 The functions, as the abstract machine's: numbers and texts. By program.
-/
import Derived.Test.YtcdbpkfbnhjgdaaGreatDoorFns0
set_option linter.all false
set_option linter.unusedVariables false
set_option linter.unusedSimpArgs false
set_option linter.unusedSectionVars false
set_option maxRecDepth 100000
namespace Go.Proofs.YtcdbpkfbnhjgdaaGreatDoor
open Go.Proofs.YtcdbpkfbnhjgdaaGreatDoor.Am
def c_internal_stringslite_HasPrefix : Fun := { cin := [.id, .id], cout := [.id], ntmps := 18, keep := false, res := [(4, none)], body :=
 (.seq (.reg [⟨(some 4), .mv (.c (.b false)), none⟩])
 (.seq (.reg [⟨(some 5), .mv (.t 0), none⟩,
 ⟨(some 6), .len 0 (.t 5), none⟩,
 ⟨(some 7), .mv (.t 1), none⟩,
 ⟨(some 8), .len 0 (.t 7), none⟩,
 ⟨(some 9), .bin .geq (.t 6) (.t 8), none⟩,
 ⟨(some 10), .mv (.t 9), none⟩,
 ⟨(some 11), .mv (.t 0), (some (10, true))⟩,
 ⟨(some 12), .mv (.t 1), (some (10, true))⟩,
 ⟨(some 13), .len 0 (.t 12), (some (10, true))⟩,
 ⟨(some 14), .slS (.t 11) none (some (.t 13)), (some (10, true))⟩,
 ⟨(some 15), .mv (.t 1), (some (10, true))⟩,
 ⟨(some 16), .bin .eql (.t 14) (.t 15), (some (10, true))⟩,
 ⟨(some 17), .pick (.t 10) (.t 16) (.c (.b false)), none⟩,
 ⟨(some 4), .mv (.t 17), none⟩])
 .ret)) }
def c_math_bits_Len : Fun := { cin := [.id], cout := [.id], ntmps := 8, keep := false, res := [(2, none)], body :=
 (.seq (.reg [⟨(some 2), .mv (.c (.i .i64 0)), none⟩])
 (.seq (.cond (.c (.b false))
 (.seq (.reg [⟨(some 3), .mv (.t 0), none⟩,
 ⟨(some 4), .cvI .u32 (.t 3), none⟩,
 ⟨(some 5), .call f_math_bits_Len32 [(.t 4)], none⟩,
 ⟨(some 2), .mv (.t 5), none⟩])
 .ret)
 .skip)
 (.seq (.reg [⟨(some 6), .mv (.t 0), none⟩,
 ⟨(some 7), .call f_math_bits_Len64 [(.t 6)], none⟩,
 ⟨(some 2), .mv (.t 7), none⟩])
 .ret))) }
def c_slices_IndexFunc_int_int : Fun := { cin := [(.sl 1 .id), .id], cout := [.id], ntmps := 19, keep := false, res := [(4, none)], body :=
 (.seq (.reg [⟨(some 4), .mv (.c (.i .i64 0)), none⟩])
 (.seq (.seq (.reg [⟨(some 6), .mv (.t 0), none⟩,
 ⟨(some 7), .len 1 (.t 6), none⟩,
 ⟨(some 8), .mv (.c (.i .i64 0)), none⟩])
 (.blk 0 (.loop (.seq (.reg [⟨(some 9), .bin .lss (.t 8) (.t 7), none⟩])
 (.seq (.cond (.t 9)
 .skip
 (.exit 0))
 (.seq (.blk 1 (.seq (.reg [⟨(some 10), .mv (.t 8), none⟩,
 ⟨(some 5), .mv (.t 10), none⟩])
 (.seq (.reg [⟨(some 11), .mv (.t 1), none⟩,
 ⟨(some 12), .mv (.t 0), none⟩,
 ⟨(some 13), .mv (.t 5), none⟩,
 ⟨(some 14), .ia 1 (.t 12) (.t 13), none⟩,
 ⟨(some 15), .ld false 1 (.t 14), none⟩,
 ⟨(some 16), .callX (.t 11) [(.t 15)], none⟩])
 (.cond (.t 16)
 (.seq (.reg [⟨(some 17), .mv (.t 5), none⟩,
 ⟨(some 4), .mv (.t 17), none⟩])
 .ret)
 .skip))))
 (.reg [⟨(some 18), .bin .add (.t 8) (.c (.i .i64 1)), none⟩,
 ⟨(some 8), .mv (.t 18), none⟩])))))))
 (.seq (.reg [⟨(some 4), .mv (.c (.i .i64 (-1))), none⟩])
 .ret))) }
def c_sym_ref : Fun := { cin := [.id], cout := [(.agg [.id, .id, .id, .id, (.sl 1 .id), (.sl 6 (.agg [.id, .id, .id, .id, (.sl 1 .id), (.sl 6 (.agg [.id, .id, .id, .id, (.sl 1 .id), (.sl 6 .id)]))]))])], ntmps := 5, keep := false, res := [(2, some (true, 6))], body :=
 (.seq (.reg [⟨(some 2), .alloc 91 [(.i .i64 0), (.i .u8 0), (.s []), (.i .i64 0), .nsl, .nsl], none⟩])
 (.seq (.reg [⟨(some 3), .mv (.t 0), none⟩,
 ⟨(some 4), .build [(.i .i64 0), (.i .u8 0), (.s []), (.i .i64 0), .nsl, .nsl] [(0, 1, (.t 3)), (3, 1, (.c (.i .i64 (-1))))], none⟩,
 ⟨none, .st 6 (.t 2) (.t 4), none⟩])
 .ret)) }
def c_prim_put : Fun := { cin := [.id, (.sl 1 .id), (.agg [.id, .id, (.sl 1 .id), (.sl 4 (.agg [.id, .id, (.sl 1 .id), (.sl 4 (.agg [.id, .id, (.sl 1 .id), (.sl 4 .id)]))]))])], cout := [.id], ntmps := 12, keep := false, res := [(6, none)], body :=
 (.seq (.reg [⟨(some 3), .box 99 1 (.t 0), none⟩,
 ⟨(some 4), .box 22 1 (.t 1), none⟩,
 ⟨(some 5), .box 25 4 (.t 2), none⟩,
 ⟨(some 6), .mv (.c (.i .i64 0)), none⟩])
 (.seq (.reg [⟨(some 7), .ld false 1 (.t 3), none⟩,
 ⟨(some 8), .mkf f_prim_put_1 [(.t 5), (.t 3), (.t 4)], none⟩,
 ⟨(some 9), .ld false 1 (.t 4), none⟩,
 ⟨(some 10), .bsl 1 [(.t 9)], none⟩,
 ⟨(some 11), .call f_prim_at [(.t 7), (.t 8), (.t 10)], none⟩,
 ⟨(some 6), .mv (.t 11), none⟩])
 .ret)) }
def c_prim_remove : Fun := { cin := [.id, (.sl 1 .id), .id], cout := [.id], ntmps := 12, keep := false, res := [(6, none)], body :=
 (.seq (.reg [⟨(some 3), .box 99 1 (.t 0), none⟩,
 ⟨(some 4), .box 22 1 (.t 1), none⟩,
 ⟨(some 5), .box 275 1 (.t 2), none⟩,
 ⟨(some 6), .mv (.c (.i .i64 0)), none⟩])
 (.seq (.reg [⟨(some 7), .ld false 1 (.t 3), none⟩,
 ⟨(some 8), .mkf f_prim_remove_1 [(.t 3), (.t 4), (.t 5)], none⟩,
 ⟨(some 9), .ld false 1 (.t 4), none⟩,
 ⟨(some 10), .bsl 1 [(.t 9)], none⟩,
 ⟨(some 11), .call f_prim_at [(.t 7), (.t 8), (.t 10)], none⟩,
 ⟨(some 6), .mv (.t 11), none⟩])
 .ret)) }
def c_prim_at : Fun := { cin := [.id, .id, (.sl 1 (.sl 1 .id))], cout := [.id], ntmps := 24, keep := false, res := [(6, none)], body :=
 (.seq (.reg [⟨(some 6), .mv (.c (.i .i64 0)), none⟩])
 (.seq (.seq (.reg [⟨(some 9), .mv (.t 0), none⟩,
 ⟨(some 10), .eq .ifc false (.t 9) (.c .ni), none⟩])
 (.cond (.t 10)
 (.seq (.reg [⟨(some 6), .mv (.c (.i .i64 2)), none⟩])
 .ret)
 .skip))
 (.seq (.seq (.reg [⟨(some 11), .mv (.t 2), none⟩,
 ⟨(some 12), .len 1 (.t 11), none⟩,
 ⟨(some 13), .mv (.c (.i .i64 0)), none⟩])
 (.blk 0 (.loop (.seq (.reg [⟨(some 14), .bin .lss (.t 13) (.t 12), none⟩])
 (.seq (.cond (.t 14)
 .skip
 (.exit 0))
 (.seq (.blk 1 (.seq (.reg [⟨(some 15), .ia 1 (.t 11) (.t 13), none⟩,
 ⟨(some 16), .ld false 1 (.t 15), none⟩,
 ⟨(some 8), .mv (.t 16), none⟩])
 (.seq (.reg [⟨(some 17), .mv (.t 0), none⟩,
 ⟨(some 18), .mv (.t 8), none⟩,
 ⟨(some 19), .call f_prim_taken [(.t 17), (.t 18)], none⟩,
 ⟨(some 20), .un .not (.t 19), none⟩])
 (.cond (.t 20)
 (.seq (.reg [⟨(some 6), .mv (.c (.i .i64 5)), none⟩])
 .ret)
 .skip))))
 (.reg [⟨(some 21), .bin .add (.t 13) (.c (.i .i64 1)), none⟩,
 ⟨(some 13), .mv (.t 21), none⟩])))))))
 (.seq (.reg [⟨(some 22), .mv (.t 1), none⟩,
 ⟨(some 23), .callX (.t 22) [], none⟩,
 ⟨(some 6), .mv (.t 23), none⟩])
 .ret)))) }
def c_prim_Unlink_1 : Fun := { cin := [.id], cout := [.id], ntmps := 5, keep := false, res := [(2, none)], body :=
 (.seq (.reg [⟨(some 2), .mv (.c (.i .i64 0)), none⟩])
 (.seq (.seq (.reg [⟨(some 3), .mv (.t 0), none⟩,
 ⟨(some 4), .bin .eql (.t 3) (.c (.i .u8 2)), none⟩])
 (.cond (.t 4)
 (.seq (.reg [⟨(some 2), .mv (.c (.i .i64 55)), none⟩])
 .ret)
 .skip))
 (.seq (.reg [⟨(some 2), .mv (.c (.i .i64 0)), none⟩])
 .ret))) }
def c_strings_IndexRune : Fun := { cin := [.id, .id], cout := [.id], ntmps := 187, keep := false, res := [(4, none)], body :=
 (.seq (.reg [⟨(some 4), .mv (.c (.i .i64 0)), none⟩])
 (.blk 0 (.seq (.reg [⟨(some 161), .mv (.t 1), none⟩,
 ⟨(some 162), .bin .leq (.c (.i .i32 0)) (.t 161), none⟩,
 ⟨(some 163), .mv (.t 162), none⟩,
 ⟨(some 164), .mv (.t 1), (some (163, true))⟩,
 ⟨(some 165), .bin .lss (.t 164) (.c (.i .i32 128)), (some (163, true))⟩,
 ⟨(some 166), .pick (.t 163) (.t 165) (.c (.b false)), none⟩,
 ⟨(some 160), .mv (.t 166), none⟩])
 (.cond (.t 160)
 (.seq (.reg [⟨(some 167), .mv (.t 0), none⟩,
 ⟨(some 168), .mv (.t 1), none⟩,
 ⟨(some 169), .cvI .u8 (.t 168), none⟩,
 ⟨(some 170), .call f_strings_IndexByte [(.t 167), (.t 169)], none⟩,
 ⟨(some 4), .mv (.t 170), none⟩])
 .ret)
 (.seq (.reg [⟨(some 172), .mv (.t 1), none⟩,
 ⟨(some 173), .bin .eql (.t 172) (.c (.i .i32 65533)), none⟩,
 ⟨(some 171), .mv (.t 173), none⟩])
 (.cond (.t 171)
 (.seq (.seq (.reg [⟨(some 174), .mv (.t 0), none⟩,
 ⟨(some 175), .siter (.t 174), none⟩])
 (.blk 9 (.loop (.seq (.reg [⟨(some 176), .snext (.t 175), none⟩,
 ⟨(some 177), .ext (.t 176) 0, none⟩])
 (.seq (.cond (.t 177)
 .skip
 (.exit 9))
 (.blk 10 (.seq (.reg [⟨(some 178), .ext (.t 176) 1, none⟩,
 ⟨(some 179), .ext (.t 176) 2, none⟩,
 ⟨(some 5), .mv (.t 178), none⟩,
 ⟨(some 6), .mv (.t 179), none⟩])
 (.seq (.reg [⟨(some 180), .mv (.t 6), none⟩,
 ⟨(some 181), .bin .eql (.t 180) (.c (.i .i32 65533)), none⟩])
 (.cond (.t 181)
 (.seq (.reg [⟨(some 182), .mv (.t 5), none⟩,
 ⟨(some 4), .mv (.t 182), none⟩])
 .ret)
 .skip)))))))))
 (.seq (.reg [⟨(some 4), .mv (.c (.i .i64 (-1))), none⟩])
 .ret))
 (.seq (.reg [⟨(some 184), .mv (.t 1), none⟩,
 ⟨(some 185), .call f_unicode_utf8_ValidRune [(.t 184)], none⟩,
 ⟨(some 186), .un .not (.t 185), none⟩,
 ⟨(some 183), .mv (.t 186), none⟩])
 (.cond (.t 183)
 (.seq (.reg [⟨(some 4), .mv (.c (.i .i64 (-1))), none⟩])
 .ret)
 .bad)))))))) }
def c_strings_shouldUseASCIISet : Fun := { cin := [.id], cout := [.id], ntmps := 5, keep := false, res := [(2, none)], body :=
 (.seq (.reg [⟨(some 2), .mv (.c (.b false)), none⟩])
 (.seq (.reg [⟨(some 3), .mv (.t 0), none⟩,
 ⟨(some 4), .bin .gtr (.t 3) (.c (.i .i64 8)), none⟩,
 ⟨(some 2), .mv (.t 4), none⟩])
 .ret)) }
def c_strings_asciiSet_contains : Fun := { cin := [.id, .id], cout := [.id], ntmps := 10, keep := false, res := [(4, none)], body :=
 (.seq (.reg [⟨(some 4), .mv (.c (.b false)), none⟩])
 (.seq (.reg [⟨(some 5), .mv (.t 0), none⟩,
 ⟨(some 6), .mv (.t 1), none⟩,
 ⟨(some 7), .nck (.t 5), none⟩,
 ⟨(some 8), .iaA 256 1 (.t 7) (.t 6), none⟩,
 ⟨(some 9), .ld false 1 (.t 8), none⟩,
 ⟨(some 4), .mv (.t 9), none⟩])
 .ret)) }
def c_slices_AppendSeq_string_string : Fun := { cin := [], cout := [], ntmps := 13, keep := false, res := [(4, none)], body :=
 (.seq (.reg [⟨(some 2), .box 22 1 (.t 0), none⟩,
 ⟨(some 4), .mv (.c .nsl), none⟩])
 (.seq (.seq (.reg [⟨(some 6), .mv (.t 1), none⟩])
 (.blk 0 (.rf (.t 6) [7] (.reg [⟨(some 5), .mv (.t 7), none⟩])
 (.blk 1 (.reg [⟨(some 8), .ld false 1 (.t 2), none⟩,
 ⟨(some 9), .mv (.t 5), none⟩,
 ⟨(some 10), .bsl 1 [(.t 9)], none⟩,
 ⟨(some 11), .app 1 9 (.t 8) (.t 10), none⟩,
 ⟨none, .st 1 (.t 2) (.t 11), none⟩])))))
 (.seq (.reg [⟨(some 12), .ld false 1 (.t 2), none⟩,
 ⟨(some 4), .mv (.t 12), none⟩])
 .ret))) }
def c_walk_walker_below : Fun := { cin := [.id, .id], cout := [(.sl 1 .id)], ntmps := 21, keep := false, res := [(4, none)], body :=
 (.seq (.reg [⟨(some 4), .mv (.c .nsl), none⟩])
 (.seq (.reg [⟨(some 6), .mv (.t 0), none⟩,
 ⟨(some 7), .nck (.t 6), none⟩,
 ⟨(some 8), .fa 1 (.t 7), none⟩,
 ⟨(some 9), .ld false 1 (.t 8), none⟩,
 ⟨(some 10), .len 1 (.t 9), none⟩,
 ⟨(some 5), .mv (.t 10), none⟩])
 (.seq (.reg [⟨(some 11), .mv (.t 0), none⟩,
 ⟨(some 12), .nck (.t 11), none⟩,
 ⟨(some 13), .fa 1 (.t 12), none⟩,
 ⟨(some 14), .ld false 1 (.t 13), none⟩,
 ⟨(some 15), .mv (.t 5), none⟩,
 ⟨(some 16), .mv (.t 5), none⟩,
 ⟨(some 17), .slc false 1 (.t 14) none (some (.t 15)) (some (.t 16)), none⟩,
 ⟨(some 18), .mv (.t 1), none⟩,
 ⟨(some 19), .bsl 1 [(.t 18)], none⟩,
 ⟨(some 20), .app 1 9 (.t 17) (.t 19), none⟩,
 ⟨(some 4), .mv (.t 20), none⟩])
 .ret))) }
def c_walk_walker_follow : Fun := { cin := [.id, (.sl 1 .id)], cout := [.id], ntmps := 63, keep := false, res := [(4, none)], body :=
 (.seq (.reg [⟨(some 4), .mv (.c (.i .i64 0)), none⟩])
 (.seq (.reg [⟨(some 7), .mv (.t 0), none⟩,
 ⟨(some 8), .nck (.t 7), none⟩,
 ⟨(some 9), .fa 5 (.t 8), none⟩,
 ⟨(some 10), .ld false 1 (.t 9), none⟩,
 ⟨(some 11), .bin .add (.t 10) (.c (.i .i64 1)), none⟩,
 ⟨(some 12), .nck (.t 7), none⟩,
 ⟨(some 13), .fa 5 (.t 12), none⟩,
 ⟨none, .st 1 (.t 13) (.t 11), none⟩])
 (.seq (.seq (.reg [⟨(some 14), .mv (.t 0), none⟩,
 ⟨(some 15), .nck (.t 14), none⟩,
 ⟨(some 16), .fa 5 (.t 15), none⟩,
 ⟨(some 17), .ld false 1 (.t 16), none⟩,
 ⟨(some 18), .bin .gtr (.t 17) (.c (.i .i64 8)), none⟩])
 (.cond (.t 18)
 (.seq (.reg [⟨(some 4), .mv (.c (.i .i64 61)), none⟩])
 .ret)
 .skip))
 (.seq (.reg [⟨(some 19), .mv (.t 0), none⟩,
 ⟨(some 20), .nck (.t 19), none⟩,
 ⟨(some 21), .fa 0 (.t 20), none⟩,
 ⟨(some 22), .ld false 1 (.t 21), none⟩,
 ⟨(some 23), .mv (.t 1), none⟩,
 ⟨(some 24), .inv [(29, f_ftree_Tree_Text), (216, f_sym_Tree_Text)] (.t 22) [(.t 23)], none⟩,
 ⟨(some 5), .mv (.t 24), none⟩])
 (.seq (.seq (.reg [⟨(some 25), .mv (.t 0), none⟩,
 ⟨(some 26), .nck (.t 25), none⟩,
 ⟨(some 27), .fa 2 (.t 26), none⟩,
 ⟨(some 28), .ld false 1 (.t 27), none⟩,
 ⟨(some 29), .len 1 (.t 28), none⟩,
 ⟨(some 30), .bin .eql (.t 29) (.c (.i .i64 0)), none⟩])
 (.cond (.t 30)
 (.reg [⟨(some 31), .mv (.t 0), none⟩,
 ⟨(some 32), .mv (.t 0), none⟩,
 ⟨(some 33), .nck (.t 32), none⟩,
 ⟨(some 34), .fa 3 (.t 33), none⟩,
 ⟨(some 35), .ld false 1 (.t 34), none⟩,
 ⟨(some 36), .mv (.t 35), none⟩,
 ⟨(some 37), .mv (.t 5), (some (36, false))⟩,
 ⟨(some 38), .call f_path_Dir [(.t 37)], (some (36, false))⟩,
 ⟨(some 39), .pick (.t 36) (.c (.b true)) (.t 38), none⟩,
 ⟨(some 40), .nck (.t 31), none⟩,
 ⟨(some 41), .fa 3 (.t 40), none⟩,
 ⟨none, .st 1 (.t 41) (.t 39), none⟩])
 .skip))
 (.seq (.reg [⟨(some 42), .mv (.t 5), none⟩,
 ⟨(some 43), .call f_path_Steps [(.t 42)], none⟩,
 ⟨(some 6), .mv (.t 43), none⟩])
 (.seq (.regD [⟨(some 44), .mv (.t 0), none⟩,
 ⟨(some 45), .mv (.t 6), none⟩,
 ⟨(some 46), .mv (.t 6), none⟩,
 ⟨(some 47), .len 1 (.t 46), none⟩,
 ⟨(some 48), .mv (.t 6), none⟩,
 ⟨(some 49), .len 1 (.t 48), none⟩,
 ⟨(some 50), .slc false 1 (.t 45) none (some (.t 47)) (some (.t 49)), none⟩,
 ⟨(some 51), .mv (.t 0), none⟩,
 ⟨(some 52), .nck (.t 51), none⟩,
 ⟨(some 53), .fa 2 (.t 52), none⟩,
 ⟨(some 54), .ld false 1 (.t 53), none⟩,
 ⟨(some 55), .app 1 9 (.t 50) (.t 54), none⟩,
 ⟨(some 56), .nck (.t 44), none⟩,
 ⟨(some 57), .fa 2 (.t 56), none⟩,
 ⟨none, .st 1 (.t 57) (.t 55), none⟩] [])
 (.seq (.seq (.reg [⟨(some 58), .mv (.t 5), none⟩,
 ⟨(some 59), .call f_strings_HasPrefix [(.t 58), (.c (.s [47]))], none⟩])
 (.cond (.t 59)
 (.reg [⟨(some 60), .mv (.t 0), none⟩,
 ⟨(some 61), .nck (.t 60), none⟩,
 ⟨(some 62), .fa 1 (.t 61), none⟩,
 ⟨none, .st 1 (.t 62) (.c .nsl), none⟩])
 .skip))
 (.seq (.reg [⟨(some 4), .mv (.c (.i .i64 0)), none⟩])
 .ret))))))))) }
def c_internal_bytealg_Cutover : Fun := { cin := [.id], cout := [.id], ntmps := 6, keep := false, res := [(2, none)], body :=
 (.seq (.reg [⟨(some 2), .mv (.c (.i .i64 0)), none⟩])
 (.seq (.reg [⟨(some 3), .mv (.t 0), none⟩,
 ⟨(some 4), .bin .add (.t 3) (.c (.i .i64 16)), none⟩,
 ⟨(some 5), .bin .quo (.t 4) (.c (.i .i64 8)), none⟩,
 ⟨(some 2), .mv (.t 5), none⟩])
 .ret)) }
def c_internal_bytealg_IndexRabinKarp_string : Fun := { cin := [.id, .id], cout := [.id], ntmps := 81, keep := false, res := [(4, none)], body :=
 (.seq (.reg [⟨(some 4), .mv (.c (.i .i64 0)), none⟩])
 (.seq (.reg [⟨(some 12), .mv (.t 1), none⟩,
 ⟨(some 13), .call f_internal_bytealg_hashStr_string [(.t 12)], none⟩,
 ⟨(some 11), .mv (.t 13), none⟩,
 ⟨(some 14), .ext (.t 11) 0, none⟩,
 ⟨(some 15), .ext (.t 11) 1, none⟩,
 ⟨(some 5), .mv (.t 14), none⟩,
 ⟨(some 6), .mv (.t 15), none⟩])
 (.seq (.reg [⟨(some 16), .mv (.t 1), none⟩,
 ⟨(some 17), .len 0 (.t 16), none⟩,
 ⟨(some 7), .mv (.t 17), none⟩])
 (.seq (.reg [⟨(some 8), .mv (.c (.i .u32 0)), none⟩])
 (.seq (.seq (.reg [⟨(some 9), .mv (.c (.i .i64 0)), none⟩])
 (.blk 0 (.loop (.seq (.seq (.reg [⟨(some 18), .mv (.t 9), none⟩,
 ⟨(some 19), .mv (.t 7), none⟩,
 ⟨(some 20), .bin .lss (.t 18) (.t 19), none⟩])
 (.cond (.t 20)
 .skip
 (.exit 0)))
 (.seq (.blk 1 (.reg [⟨(some 23), .mv (.t 8), none⟩,
 ⟨(some 24), .bin .mul (.t 23) (.c (.i .u32 16777619)), none⟩,
 ⟨(some 25), .mv (.t 0), none⟩,
 ⟨(some 26), .mv (.t 9), none⟩,
 ⟨(some 27), .ixS (.t 25) (.t 26), none⟩,
 ⟨(some 28), .cvI .u32 (.t 27), none⟩,
 ⟨(some 29), .bin .add (.t 24) (.t 28), none⟩,
 ⟨(some 8), .mv (.t 29), none⟩]))
 (.reg [⟨(some 21), .mv (.t 9), none⟩,
 ⟨(some 22), .bin .add (.t 21) (.c (.i .i64 1)), none⟩,
 ⟨(some 9), .mv (.t 22), none⟩]))))))
 (.seq (.seq (.reg [⟨(some 30), .mv (.t 8), none⟩,
 ⟨(some 31), .mv (.t 5), none⟩,
 ⟨(some 32), .bin .eql (.t 30) (.t 31), none⟩,
 ⟨(some 33), .mv (.t 32), none⟩,
 ⟨(some 34), .mv (.t 0), (some (33, true))⟩,
 ⟨(some 35), .mv (.t 7), (some (33, true))⟩,
 ⟨(some 36), .slS (.t 34) none (some (.t 35)), (some (33, true))⟩,
 ⟨(some 37), .mv (.t 1), (some (33, true))⟩,
 ⟨(some 38), .bin .eql (.t 36) (.t 37), (some (33, true))⟩,
 ⟨(some 39), .pick (.t 33) (.t 38) (.c (.b false)), none⟩])
 (.cond (.t 39)
 (.seq (.reg [⟨(some 4), .mv (.c (.i .i64 0)), none⟩])
 .ret)
 .skip))
 (.seq (.seq (.reg [⟨(some 40), .mv (.t 7), none⟩,
 ⟨(some 10), .mv (.t 40), none⟩])
 (.blk 2 (.loop (.seq (.seq (.reg [⟨(some 41), .mv (.t 10), none⟩,
 ⟨(some 42), .mv (.t 0), none⟩,
 ⟨(some 43), .len 0 (.t 42), none⟩,
 ⟨(some 44), .bin .lss (.t 41) (.t 43), none⟩])
 (.cond (.t 44)
 .skip
 (.exit 2)))
 (.blk 3 (.seq (.reg [⟨(some 45), .mv (.t 8), none⟩,
 ⟨(some 46), .bin .mul (.t 45) (.c (.i .u32 16777619)), none⟩,
 ⟨(some 8), .mv (.t 46), none⟩])
 (.seq (.reg [⟨(some 47), .mv (.t 8), none⟩,
 ⟨(some 48), .mv (.t 0), none⟩,
 ⟨(some 49), .mv (.t 10), none⟩,
 ⟨(some 50), .ixS (.t 48) (.t 49), none⟩,
 ⟨(some 51), .cvI .u32 (.t 50), none⟩,
 ⟨(some 52), .bin .add (.t 47) (.t 51), none⟩,
 ⟨(some 8), .mv (.t 52), none⟩])
 (.seq (.reg [⟨(some 53), .mv (.t 8), none⟩,
 ⟨(some 54), .mv (.t 6), none⟩,
 ⟨(some 55), .mv (.t 0), none⟩,
 ⟨(some 56), .mv (.t 10), none⟩,
 ⟨(some 57), .mv (.t 7), none⟩,
 ⟨(some 58), .bin .sub (.t 56) (.t 57), none⟩,
 ⟨(some 59), .ixS (.t 55) (.t 58), none⟩,
 ⟨(some 60), .cvI .u32 (.t 59), none⟩,
 ⟨(some 61), .bin .mul (.t 54) (.t 60), none⟩,
 ⟨(some 62), .bin .sub (.t 53) (.t 61), none⟩,
 ⟨(some 8), .mv (.t 62), none⟩])
 (.seq (.reg [⟨(some 63), .mv (.t 10), none⟩,
 ⟨(some 64), .bin .add (.t 63) (.c (.i .i64 1)), none⟩,
 ⟨(some 10), .mv (.t 64), none⟩])
 (.seq (.reg [⟨(some 65), .mv (.t 8), none⟩,
 ⟨(some 66), .mv (.t 5), none⟩,
 ⟨(some 67), .bin .eql (.t 65) (.t 66), none⟩,
 ⟨(some 68), .mv (.t 67), none⟩,
 ⟨(some 69), .mv (.t 0), (some (68, true))⟩,
 ⟨(some 70), .mv (.t 10), (some (68, true))⟩,
 ⟨(some 71), .mv (.t 7), (some (68, true))⟩,
 ⟨(some 72), .bin .sub (.t 70) (.t 71), (some (68, true))⟩,
 ⟨(some 73), .mv (.t 10), (some (68, true))⟩,
 ⟨(some 74), .slS (.t 69) (some (.t 72)) (some (.t 73)), (some (68, true))⟩,
 ⟨(some 75), .mv (.t 1), (some (68, true))⟩,
 ⟨(some 76), .bin .eql (.t 74) (.t 75), (some (68, true))⟩,
 ⟨(some 77), .pick (.t 68) (.t 76) (.c (.b false)), none⟩])
 (.cond (.t 77)
 (.seq (.reg [⟨(some 78), .mv (.t 10), none⟩,
 ⟨(some 79), .mv (.t 7), none⟩,
 ⟨(some 80), .bin .sub (.t 78) (.t 79), none⟩,
 ⟨(some 4), .mv (.t 80), none⟩])
 .ret)
 .skip)))))))))))
 (.seq (.reg [⟨(some 4), .mv (.c (.i .i64 (-1))), none⟩])
 .ret)))))))) }
def c_strings_splitSeq_1 : Fun := { cin := [.id], cout := [], ntmps := 52, keep := false, res := [], body :=
 (.seq (.seq (.reg [⟨(some 9), .ld false 1 (.t 1), none⟩,
 ⟨(some 10), .len 0 (.t 9), none⟩,
 ⟨(some 11), .bin .eql (.t 10) (.c (.i .i64 0)), none⟩])
 (.cond (.t 11)
 (.seq (.blk 0 (.loop (.seq (.seq (.reg [⟨(some 12), .ld false 1 (.t 2), none⟩,
 ⟨(some 13), .len 0 (.t 12), none⟩,
 ⟨(some 14), .bin .gtr (.t 13) (.c (.i .i64 0)), none⟩])
 (.cond (.t 14)
 .skip
 (.exit 0)))
 (.blk 1 (.seq (.reg [⟨(some 16), .ld false 1 (.t 2), none⟩,
 ⟨(some 17), .call f_unicode_utf8_DecodeRuneInString [(.t 16)], none⟩,
 ⟨(some 15), .mv (.t 17), none⟩,
 ⟨(some 18), .ext (.t 15) 0, none⟩,
 ⟨(some 19), .ext (.t 15) 1, none⟩,
 ⟨(some 5), .mv (.t 18), none⟩,
 ⟨(some 6), .mv (.t 19), none⟩])
 (.seq (.seq (.reg [⟨(some 20), .mv (.t 0), none⟩,
 ⟨(some 21), .ld false 1 (.t 2), none⟩,
 ⟨(some 22), .mv (.t 6), none⟩,
 ⟨(some 23), .slS (.t 21) none (some (.t 22)), none⟩,
 ⟨(some 24), .callX (.t 20) [(.t 23)], none⟩,
 ⟨(some 25), .un .not (.t 24), none⟩])
 (.cond (.t 25)
 .ret
 .skip))
 (.reg [⟨(some 26), .ld false 1 (.t 2), none⟩,
 ⟨(some 27), .mv (.t 6), none⟩,
 ⟨(some 28), .slS (.t 26) (some (.t 27)) none, none⟩,
 ⟨none, .st 1 (.t 2) (.t 28), none⟩])))))))
 .ret)
 .skip))
 (.seq (.blk 2 (.loop (.blk 3 (.seq (.reg [⟨(some 29), .ld false 1 (.t 2), none⟩,
 ⟨(some 30), .ld false 1 (.t 1), none⟩,
 ⟨(some 31), .call f_strings_Index [(.t 29), (.t 30)], none⟩,
 ⟨(some 7), .mv (.t 31), none⟩])
 (.seq (.seq (.reg [⟨(some 32), .mv (.t 7), none⟩,
 ⟨(some 33), .bin .lss (.t 32) (.c (.i .i64 0)), none⟩])
 (.cond (.t 33)
 (.exit 2)
 .skip))
 (.seq (.reg [⟨(some 34), .ld false 1 (.t 2), none⟩,
 ⟨(some 35), .mv (.t 7), none⟩,
 ⟨(some 36), .ld false 1 (.t 3), none⟩,
 ⟨(some 37), .bin .add (.t 35) (.t 36), none⟩,
 ⟨(some 38), .slS (.t 34) none (some (.t 37)), none⟩,
 ⟨(some 8), .mv (.t 38), none⟩])
 (.seq (.seq (.reg [⟨(some 39), .mv (.t 0), none⟩,
 ⟨(some 40), .mv (.t 8), none⟩,
 ⟨(some 41), .callX (.t 39) [(.t 40)], none⟩,
 ⟨(some 42), .un .not (.t 41), none⟩])
 (.cond (.t 42)
 .ret
 .skip))
 (.reg [⟨(some 43), .ld false 1 (.t 2), none⟩,
 ⟨(some 44), .mv (.t 7), none⟩,
 ⟨(some 45), .ld false 1 (.t 1), none⟩,
 ⟨(some 46), .len 0 (.t 45), none⟩,
 ⟨(some 47), .bin .add (.t 44) (.t 46), none⟩,
 ⟨(some 48), .slS (.t 43) (some (.t 47)) none, none⟩,
 ⟨none, .st 1 (.t 2) (.t 48), none⟩]))))))))
 (.reg [⟨(some 49), .mv (.t 0), none⟩,
 ⟨(some 50), .ld false 1 (.t 2), none⟩,
 ⟨(some 51), .callX (.t 49) [(.t 50)], none⟩]))) }
def c_unicode_utf8_DecodeRuneInString : Fun := { cin := [.id], cout := [.id, .id], ntmps := 19, keep := false, res := [(2, none), (3, none)], body :=
 (.seq (.reg [⟨(some 2), .mv (.c (.i .i32 0)), none⟩,
 ⟨(some 3), .mv (.c (.i .i64 0)), none⟩])
 (.seq (.seq (.reg [⟨(some 4), .mv (.t 0), none⟩,
 ⟨(some 5), .bin .neq (.t 4) (.c (.s [])), none⟩,
 ⟨(some 6), .mv (.t 5), none⟩,
 ⟨(some 7), .mv (.t 0), (some (6, true))⟩,
 ⟨(some 8), .ixS (.t 7) (.c (.i .i64 0)), (some (6, true))⟩,
 ⟨(some 9), .bin .lss (.t 8) (.c (.i .u8 128)), (some (6, true))⟩,
 ⟨(some 10), .pick (.t 6) (.t 9) (.c (.b false)), none⟩])
 (.cond (.t 10)
 (.seq (.reg [⟨(some 11), .mv (.t 0), none⟩,
 ⟨(some 12), .ixS (.t 11) (.c (.i .i64 0)), none⟩,
 ⟨(some 13), .cvI .i32 (.t 12), none⟩,
 ⟨(some 2), .mv (.t 13), none⟩,
 ⟨(some 3), .mv (.c (.i .i64 1)), none⟩])
 .ret)
 (.reg [⟨(some 15), .mv (.t 0), none⟩,
 ⟨(some 16), .call f_unicode_utf8_decodeRuneInStringSlow [(.t 15)], none⟩,
 ⟨(some 14), .mv (.t 16), none⟩,
 ⟨(some 17), .ext (.t 14) 0, none⟩,
 ⟨(some 18), .ext (.t 14) 1, none⟩,
 ⟨(some 2), .mv (.t 17), none⟩,
 ⟨(some 3), .mv (.t 18), none⟩])))
 .ret)) }
def c_prim_Rename_1 : Fun := { cin := [], cout := [.id], ntmps := 49, keep := false, res := [(3, none)], body :=
 (.seq (.reg [⟨(some 3), .mv (.c (.i .i64 0)), none⟩])
 (.seq (.reg [⟨(some 6), .ld false 1 (.t 0), none⟩,
 ⟨(some 7), .ld false 1 (.t 1), none⟩,
 ⟨(some 8), .inv [(17, f_internal_abi_Type_Kind), (29, f_ftree_Tree_Kind), (216, f_sym_Tree_Kind)] (.t 6) [(.t 7)], none⟩,
 ⟨(some 4), .mv (.t 8), none⟩])
 (.seq (.blk 0 (.seq (.reg [⟨(some 10), .mv (.t 4), none⟩,
 ⟨(some 11), .bin .eql (.t 10) (.c (.i .u8 0)), none⟩,
 ⟨(some 9), .mv (.t 11), none⟩])
 (.cond (.t 9)
 (.seq (.reg [⟨(some 3), .mv (.c (.i .i64 5)), none⟩])
 .ret)
 (.seq (.reg [⟨(some 13), .ld false 1 (.t 1), none⟩,
 ⟨(some 14), .ld false 1 (.t 2), none⟩,
 ⟨(some 15), .call f_slices_Equal_string_string [(.t 13), (.t 14)], none⟩,
 ⟨(some 12), .mv (.t 15), none⟩])
 (.cond (.t 12)
 (.seq (.reg [⟨(some 3), .mv (.c (.i .i64 6)), none⟩])
 .ret)
 (.seq (.reg [⟨(some 17), .ld false 1 (.t 1), none⟩,
 ⟨(some 18), .len 1 (.t 17), none⟩,
 ⟨(some 19), .bin .eql (.t 18) (.c (.i .i64 0)), none⟩,
 ⟨(some 16), .mv (.t 19), none⟩])
 (.cond (.t 16)
 (.seq (.reg [⟨(some 3), .mv (.c (.i .i64 57)), none⟩])
 .ret)
 (.seq (.reg [⟨(some 21), .ld false 1 (.t 1), none⟩,
 ⟨(some 22), .ld false 1 (.t 2), none⟩,
 ⟨(some 23), .call f_path_Under [(.t 21), (.t 22)], none⟩,
 ⟨(some 20), .mv (.t 23), none⟩])
 (.cond (.t 20)
 (.seq (.reg [⟨(some 3), .mv (.c (.i .i64 58)), none⟩])
 .ret)
 .skip)))))))))
 (.seq (.seq (.reg [⟨(some 24), .ld false 1 (.t 0), none⟩,
 ⟨(some 25), .ld false 1 (.t 2), none⟩,
 ⟨(some 26), .inv [(17, f_internal_abi_Type_Kind), (29, f_ftree_Tree_Kind), (216, f_sym_Tree_Kind)] (.t 24) [(.t 25)], none⟩,
 ⟨(some 5), .mv (.t 26), none⟩])
 (.blk 1 (.seq (.reg [⟨(some 28), .mv (.t 5), none⟩,
 ⟨(some 29), .bin .eql (.t 28) (.c (.i .u8 0)), none⟩,
 ⟨(some 27), .mv (.t 29), none⟩])
 (.cond (.t 27)
 .skip
 (.seq (.reg [⟨(some 31), .mv (.t 4), none⟩,
 ⟨(some 32), .bin .eql (.t 31) (.c (.i .u8 2)), none⟩,
 ⟨(some 33), .mv (.t 5), none⟩,
 ⟨(some 34), .bin .eql (.t 33) (.c (.i .u8 2)), none⟩,
 ⟨(some 35), .eq .bool true (.t 32) (.t 34), none⟩,
 ⟨(some 30), .mv (.t 35), none⟩])
 (.cond (.t 30)
 (.seq (.reg [⟨(some 3), .mv (.c (.i .i64 55)), none⟩])
 .ret)
 (.seq (.reg [⟨(some 37), .mv (.t 5), none⟩,
 ⟨(some 38), .bin .eql (.t 37) (.c (.i .u8 2)), none⟩,
 ⟨(some 39), .mv (.t 38), none⟩,
 ⟨(some 40), .ld false 1 (.t 0), (some (39, true))⟩,
 ⟨(some 41), .ld false 1 (.t 2), (some (39, true))⟩,
 ⟨(some 42), .inv [(29, f_ftree_Tree_Empty), (216, f_sym_Tree_Empty)] (.t 40) [(.t 41)], (some (39, true))⟩,
 ⟨(some 43), .un .not (.t 42), (some (39, true))⟩,
 ⟨(some 44), .pick (.t 39) (.t 43) (.c (.b false)), none⟩,
 ⟨(some 36), .mv (.t 44), none⟩])
 (.cond (.t 36)
 (.seq (.reg [⟨(some 3), .mv (.c (.i .i64 57)), none⟩])
 .ret)
 .skip))))))))
 (.seq (.reg [⟨(some 45), .ld false 1 (.t 0), none⟩,
 ⟨(some 46), .ld false 1 (.t 1), none⟩,
 ⟨(some 47), .ld false 1 (.t 2), none⟩,
 ⟨(some 48), .inv [(29, f_ftree_Tree_Move), (216, f_sym_Tree_Move)] (.t 45) [(.t 46), (.t 47)], none⟩])
 (.seq (.reg [⟨(some 3), .mv (.c (.i .i64 0)), none⟩])
 .ret)))))) }
def c_slices_Equal_string_string : Fun := { cin := [(.sl 1 .id), (.sl 1 .id)], cout := [.id], ntmps := 26, keep := false, res := [(4, none)], body :=
 (.seq (.reg [⟨(some 4), .mv (.c (.b false)), none⟩])
 (.seq (.seq (.reg [⟨(some 6), .mv (.t 0), none⟩,
 ⟨(some 7), .len 1 (.t 6), none⟩,
 ⟨(some 8), .mv (.t 1), none⟩,
 ⟨(some 9), .len 1 (.t 8), none⟩,
 ⟨(some 10), .bin .neq (.t 7) (.t 9), none⟩])
 (.cond (.t 10)
 (.seq (.reg [⟨(some 4), .mv (.c (.b false)), none⟩])
 .ret)
 .skip))
 (.seq (.seq (.reg [⟨(some 11), .mv (.t 0), none⟩,
 ⟨(some 12), .len 1 (.t 11), none⟩,
 ⟨(some 13), .mv (.c (.i .i64 0)), none⟩])
 (.blk 0 (.loop (.seq (.reg [⟨(some 14), .bin .lss (.t 13) (.t 12), none⟩])
 (.seq (.cond (.t 14)
 .skip
 (.exit 0))
 (.seq (.blk 1 (.seq (.reg [⟨(some 15), .mv (.t 13), none⟩,
 ⟨(some 5), .mv (.t 15), none⟩])
 (.seq (.regD [⟨(some 16), .mv (.t 0), none⟩,
 ⟨(some 17), .mv (.t 5), none⟩,
 ⟨(some 18), .ia 1 (.t 16) (.t 17), none⟩,
 ⟨(some 19), .ld false 1 (.t 18), none⟩,
 ⟨(some 20), .mv (.t 1), none⟩,
 ⟨(some 21), .mv (.t 5), none⟩,
 ⟨(some 22), .ia 1 (.t 20) (.t 21), none⟩,
 ⟨(some 23), .ld false 1 (.t 22), none⟩,
 ⟨(some 24), .bin .neq (.t 19) (.t 23), none⟩] [])
 (.cond (.t 24)
 (.seq (.reg [⟨(some 4), .mv (.c (.b false)), none⟩])
 .ret)
 .skip))))
 (.reg [⟨(some 25), .bin .add (.t 13) (.c (.i .i64 1)), none⟩,
 ⟨(some 13), .mv (.t 25), none⟩])))))))
 (.seq (.reg [⟨(some 4), .mv (.c (.b true)), none⟩])
 .ret)))) }
def c_path_Under : Fun := { cin := [(.sl 1 .id), (.sl 1 .id)], cout := [.id], ntmps := 18, keep := false, res := [(4, none)], body :=
 (.seq (.reg [⟨(some 4), .mv (.c (.b false)), none⟩])
 (.seq (.reg [⟨(some 5), .mv (.t 0), none⟩,
 ⟨(some 6), .len 1 (.t 5), none⟩,
 ⟨(some 7), .mv (.t 1), none⟩,
 ⟨(some 8), .len 1 (.t 7), none⟩,
 ⟨(some 9), .bin .leq (.t 6) (.t 8), none⟩,
 ⟨(some 10), .mv (.t 9), none⟩,
 ⟨(some 11), .mv (.t 0), (some (10, true))⟩,
 ⟨(some 12), .mv (.t 1), (some (10, true))⟩,
 ⟨(some 13), .mv (.t 0), (some (10, true))⟩,
 ⟨(some 14), .len 1 (.t 13), (some (10, true))⟩,
 ⟨(some 15), .slc false 1 (.t 12) none (some (.t 14)) none, (some (10, true))⟩,
 ⟨(some 16), .call f_slices_Equal_string_string [(.t 11), (.t 15)], (some (10, true))⟩,
 ⟨(some 17), .pick (.t 10) (.t 16) (.c (.b false)), none⟩,
 ⟨(some 4), .mv (.t 17), none⟩])
 .ret)) }
def c_prim_Copy_1 : Fun := { cin := [], cout := [.id], ntmps := 44, keep := false, res := [(4, none)], body :=
 (.seq (.reg [⟨(some 4), .mv (.c (.i .i64 0)), none⟩])
 (.seq (.reg [⟨(some 7), .ld false 1 (.t 0), none⟩,
 ⟨(some 8), .ld false 1 (.t 1), none⟩,
 ⟨(some 9), .inv [(17, f_internal_abi_Type_Kind), (29, f_ftree_Tree_Kind), (216, f_sym_Tree_Kind)] (.t 7) [(.t 8)], none⟩,
 ⟨(some 5), .mv (.t 9), none⟩])
 (.seq (.blk 0 (.seq (.reg [⟨(some 11), .mv (.t 5), none⟩,
 ⟨(some 12), .bin .eql (.t 11) (.c (.i .u8 0)), none⟩,
 ⟨(some 10), .mv (.t 12), none⟩])
 (.cond (.t 10)
 (.seq (.reg [⟨(some 4), .mv (.c (.i .i64 5)), none⟩])
 .ret)
 (.seq (.reg [⟨(some 14), .ld false 1 (.t 1), none⟩,
 ⟨(some 15), .ld false 1 (.t 2), none⟩,
 ⟨(some 16), .call f_slices_Equal_string_string [(.t 14), (.t 15)], none⟩,
 ⟨(some 13), .mv (.t 16), none⟩])
 (.cond (.t 13)
 (.seq (.reg [⟨(some 4), .mv (.c (.i .i64 6)), none⟩])
 .ret)
 (.seq (.reg [⟨(some 18), .mv (.t 5), none⟩,
 ⟨(some 19), .bin .eql (.t 18) (.c (.i .u8 2)), none⟩,
 ⟨(some 20), .mv (.t 19), none⟩,
 ⟨(some 21), .ld false 1 (.t 3), (some (20, true))⟩,
 ⟨(some 22), .un .not (.t 21), (some (20, true))⟩,
 ⟨(some 23), .pick (.t 20) (.t 22) (.c (.b false)), none⟩,
 ⟨(some 17), .mv (.t 23), none⟩])
 (.cond (.t 17)
 (.seq (.reg [⟨(some 4), .mv (.c (.i .i64 55)), none⟩])
 .ret)
 (.seq (.reg [⟨(some 25), .ld false 1 (.t 1), none⟩,
 ⟨(some 26), .ld false 1 (.t 2), none⟩,
 ⟨(some 27), .call f_path_Under [(.t 25), (.t 26)], none⟩,
 ⟨(some 24), .mv (.t 27), none⟩])
 (.cond (.t 24)
 (.seq (.reg [⟨(some 4), .mv (.c (.i .i64 58)), none⟩])
 .ret)
 .skip)))))))))
 (.seq (.seq (.reg [⟨(some 28), .ld false 1 (.t 0), none⟩,
 ⟨(some 29), .ld false 1 (.t 2), none⟩,
 ⟨(some 30), .inv [(17, f_internal_abi_Type_Kind), (29, f_ftree_Tree_Kind), (216, f_sym_Tree_Kind)] (.t 28) [(.t 29)], none⟩,
 ⟨(some 6), .mv (.t 30), none⟩])
 (.blk 1 (.seq (.reg [⟨(some 32), .mv (.t 6), none⟩,
 ⟨(some 33), .bin .eql (.t 32) (.c (.i .u8 0)), none⟩,
 ⟨(some 31), .mv (.t 33), none⟩])
 (.cond (.t 31)
 .skip
 (.seq (.reg [⟨(some 35), .mv (.t 5), none⟩,
 ⟨(some 36), .bin .eql (.t 35) (.c (.i .u8 2)), none⟩,
 ⟨(some 34), .mv (.t 36), none⟩])
 (.cond (.t 34)
 (.seq (.reg [⟨(some 4), .mv (.c (.i .i64 6)), none⟩])
 .ret)
 (.seq (.reg [⟨(some 38), .mv (.t 6), none⟩,
 ⟨(some 39), .bin .neq (.t 38) (.c (.i .u8 1)), none⟩,
 ⟨(some 37), .mv (.t 39), none⟩])
 (.cond (.t 37)
 (.seq (.reg [⟨(some 4), .mv (.c (.i .i64 55)), none⟩])
 .ret)
 .skip))))))))
 (.seq (.reg [⟨(some 40), .ld false 1 (.t 0), none⟩,
 ⟨(some 41), .ld false 1 (.t 1), none⟩,
 ⟨(some 42), .ld false 1 (.t 2), none⟩,
 ⟨(some 43), .inv [(29, f_ftree_Tree_Copy), (216, f_sym_Tree_Copy)] (.t 40) [(.t 41), (.t 42)], none⟩])
 (.seq (.reg [⟨(some 4), .mv (.c (.i .i64 0)), none⟩])
 .ret)))))) }
def c_unicode_utf8_DecodeLastRuneInString : Fun := { cin := [.id], cout := [.id, .id], ntmps := 51, keep := false, res := [(2, none), (3, none)], body :=
 (.seq (.reg [⟨(some 2), .mv (.c (.i .i32 0)), none⟩,
 ⟨(some 3), .mv (.c (.i .i64 0)), none⟩])
 (.seq (.reg [⟨(some 7), .mv (.t 0), none⟩,
 ⟨(some 8), .len 0 (.t 7), none⟩,
 ⟨(some 4), .mv (.t 8), none⟩])
 (.seq (.seq (.reg [⟨(some 9), .mv (.t 4), none⟩,
 ⟨(some 10), .bin .eql (.t 9) (.c (.i .i64 0)), none⟩])
 (.cond (.t 10)
 (.seq (.reg [⟨(some 2), .mv (.c (.i .i32 65533)), none⟩,
 ⟨(some 3), .mv (.c (.i .i64 0)), none⟩])
 .ret)
 .skip))
 (.seq (.reg [⟨(some 11), .mv (.t 4), none⟩,
 ⟨(some 12), .bin .sub (.t 11) (.c (.i .i64 1)), none⟩,
 ⟨(some 5), .mv (.t 12), none⟩])
 (.seq (.reg [⟨(some 13), .mv (.t 0), none⟩,
 ⟨(some 14), .mv (.t 5), none⟩,
 ⟨(some 15), .ixS (.t 13) (.t 14), none⟩,
 ⟨(some 16), .cvI .i32 (.t 15), none⟩,
 ⟨(some 2), .mv (.t 16), none⟩])
 (.seq (.seq (.reg [⟨(some 17), .mv (.t 2), none⟩,
 ⟨(some 18), .bin .lss (.t 17) (.c (.i .i32 128)), none⟩])
 (.cond (.t 18)
 (.seq (.reg [⟨(some 19), .mv (.t 2), none⟩,
 ⟨(some 2), .mv (.t 19), none⟩,
 ⟨(some 3), .mv (.c (.i .i64 1)), none⟩])
 .ret)
 .skip))
 (.seq (.reg [⟨(some 20), .mv (.t 4), none⟩,
 ⟨(some 21), .bin .sub (.t 20) (.c (.i .i64 4)), none⟩,
 ⟨(some 22), .mm true (.t 21) (.c (.i .i64 0)), none⟩,
 ⟨(some 6), .mv (.t 22), none⟩])
 (.seq (.seq (.reg [⟨(some 23), .mv (.t 5), none⟩,
 ⟨(some 24), .bin .sub (.t 23) (.c (.i .i64 1)), none⟩,
 ⟨(some 5), .mv (.t 24), none⟩])
 (.blk 0 (.loop (.seq (.seq (.reg [⟨(some 25), .mv (.t 5), none⟩,
 ⟨(some 26), .mv (.t 6), none⟩,
 ⟨(some 27), .bin .geq (.t 25) (.t 26), none⟩])
 (.cond (.t 27)
 .skip
 (.exit 0)))
 (.seq (.blk 1 (.seq (.reg [⟨(some 30), .mv (.t 0), none⟩,
 ⟨(some 31), .mv (.t 5), none⟩,
 ⟨(some 32), .ixS (.t 30) (.t 31), none⟩,
 ⟨(some 33), .call f_unicode_utf8_RuneStart [(.t 32)], none⟩])
 (.cond (.t 33)
 (.exit 0)
 .skip)))
 (.reg [⟨(some 28), .mv (.t 5), none⟩,
 ⟨(some 29), .bin .sub (.t 28) (.c (.i .i64 1)), none⟩,
 ⟨(some 5), .mv (.t 29), none⟩]))))))
 (.seq (.seq (.reg [⟨(some 34), .mv (.t 5), none⟩,
 ⟨(some 35), .bin .lss (.t 34) (.c (.i .i64 0)), none⟩])
 (.cond (.t 35)
 (.reg [⟨(some 5), .mv (.c (.i .i64 0)), none⟩])
 .skip))
 (.seq (.reg [⟨(some 37), .mv (.t 0), none⟩,
 ⟨(some 38), .mv (.t 5), none⟩,
 ⟨(some 39), .mv (.t 4), none⟩,
 ⟨(some 40), .slS (.t 37) (some (.t 38)) (some (.t 39)), none⟩,
 ⟨(some 41), .call f_unicode_utf8_DecodeRuneInString [(.t 40)], none⟩,
 ⟨(some 36), .mv (.t 41), none⟩,
 ⟨(some 42), .ext (.t 36) 0, none⟩,
 ⟨(some 43), .ext (.t 36) 1, none⟩,
 ⟨(some 2), .mv (.t 42), none⟩,
 ⟨(some 3), .mv (.t 43), none⟩])
 (.seq (.seq (.reg [⟨(some 44), .mv (.t 5), none⟩,
 ⟨(some 45), .mv (.t 3), none⟩,
 ⟨(some 46), .bin .add (.t 44) (.t 45), none⟩,
 ⟨(some 47), .mv (.t 4), none⟩,
 ⟨(some 48), .bin .neq (.t 46) (.t 47), none⟩])
 (.cond (.t 48)
 (.seq (.reg [⟨(some 2), .mv (.c (.i .i32 65533)), none⟩,
 ⟨(some 3), .mv (.c (.i .i64 1)), none⟩])
 .ret)
 .skip))
 (.seq (.reg [⟨(some 49), .mv (.t 2), none⟩,
 ⟨(some 50), .mv (.t 3), none⟩,
 ⟨(some 2), .mv (.t 49), none⟩,
 ⟨(some 3), .mv (.t 50), none⟩])
 .ret)))))))))))) }
def c_strings_ContainsRune : Fun := { cin := [.id, .id], cout := [.id], ntmps := 9, keep := false, res := [(4, none)], body :=
 (.seq (.reg [⟨(some 4), .mv (.c (.b false)), none⟩])
 (.seq (.reg [⟨(some 5), .mv (.t 0), none⟩,
 ⟨(some 6), .mv (.t 1), none⟩,
 ⟨(some 7), .call f_strings_IndexRune [(.t 5), (.t 6)], none⟩,
 ⟨(some 8), .bin .geq (.t 7) (.c (.i .i64 0)), none⟩,
 ⟨(some 4), .mv (.t 8), none⟩])
 .ret)) }
def c_cmp_isNaN_string : Fun := { cin := [.id], cout := [.id], ntmps := 6, keep := false, res := [(2, none)], body :=
 (.seq (.reg [⟨(some 2), .mv (.c (.b false)), none⟩])
 (.seq (.reg [⟨(some 3), .mv (.t 0), none⟩,
 ⟨(some 4), .mv (.t 0), none⟩,
 ⟨(some 5), .bin .neq (.t 3) (.t 4), none⟩,
 ⟨(some 2), .mv (.t 5), none⟩])
 .ret)) }
def c_math_bits_Len32 : Fun := { cin := [.id], cout := [.id], ntmps := 19, keep := false, res := [(2, none)], body :=
 (.seq (.reg [⟨(some 2), .mv (.c (.i .i64 0)), none⟩])
 (.seq (.seq (.reg [⟨(some 3), .mv (.t 0), none⟩,
 ⟨(some 4), .bin .geq (.t 3) (.c (.i .u32 65536)), none⟩])
 (.cond (.t 4)
 (.seq (.reg [⟨(some 5), .mv (.t 0), none⟩,
 ⟨(some 6), .bin .shr (.t 5) (.c (.i .u64 16)), none⟩,
 ⟨(some 0), .mv (.t 6), none⟩])
 (.reg [⟨(some 2), .mv (.c (.i .i64 16)), none⟩]))
 .skip))
 (.seq (.seq (.reg [⟨(some 7), .mv (.t 0), none⟩,
 ⟨(some 8), .bin .geq (.t 7) (.c (.i .u32 256)), none⟩])
 (.cond (.t 8)
 (.seq (.reg [⟨(some 9), .mv (.t 0), none⟩,
 ⟨(some 10), .bin .shr (.t 9) (.c (.i .u64 8)), none⟩,
 ⟨(some 0), .mv (.t 10), none⟩])
 (.reg [⟨(some 11), .mv (.t 2), none⟩,
 ⟨(some 12), .bin .add (.t 11) (.c (.i .i64 8)), none⟩,
 ⟨(some 2), .mv (.t 12), none⟩]))
 .skip))
 (.seq (.reg [⟨(some 13), .mv (.t 2), none⟩,
 ⟨(some 14), .mv (.t 0), none⟩,
 ⟨(some 15), .cvI .u8 (.t 14), none⟩,
 ⟨(some 16), .ixS (.c (.s [0, 1, 2, 2, 3, 3, 3, 3, 4, 4, 4, 4, 4, 4, 4, 4, 5, 5, 5, 5, 5, 5, 5, 5, 5, 5, 5, 5, 5, 5, 5, 5, 6, 6, 6, 6, 6, 6, 6, 6, 6, 6, 6, 6, 6, 6, 6, 6, 6, 6, 6, 6, 6, 6, 6, 6, 6, 6, 6, 6, 6, 6, 6, 6, 7, 7, 7, 7, 7, 7, 7, 7, 7, 7, 7, 7, 7, 7, 7, 7, 7, 7, 7, 7, 7, 7, 7, 7, 7, 7, 7, 7, 7, 7, 7, 7, 7, 7, 7, 7, 7, 7, 7, 7, 7, 7, 7, 7, 7, 7, 7, 7, 7, 7, 7, 7, 7, 7, 7, 7, 7, 7, 7, 7, 7, 7, 7, 7, 8, 8, 8, 8, 8, 8, 8, 8, 8, 8, 8, 8, 8, 8, 8, 8, 8, 8, 8, 8, 8, 8, 8, 8, 8, 8, 8, 8, 8, 8, 8, 8, 8, 8, 8, 8, 8, 8, 8, 8, 8, 8, 8, 8, 8, 8, 8, 8, 8, 8, 8, 8, 8, 8, 8, 8, 8, 8, 8, 8, 8, 8, 8, 8, 8, 8, 8, 8, 8, 8, 8, 8, 8, 8, 8, 8, 8, 8, 8, 8, 8, 8, 8, 8, 8, 8, 8, 8, 8, 8, 8, 8, 8, 8, 8, 8, 8, 8, 8, 8, 8, 8, 8, 8, 8, 8, 8, 8, 8, 8, 8, 8, 8, 8, 8, 8, 8, 8, 8, 8, 8, 8, 8, 8, 8, 8, 8, 8])) (.t 15), none⟩,
 ⟨(some 17), .cvI .i64 (.t 16), none⟩,
 ⟨(some 18), .bin .add (.t 13) (.t 17), none⟩,
 ⟨(some 2), .mv (.t 18), none⟩])
 .ret)))) }
def c_math_bits_Len64 : Fun := { cin := [.id], cout := [.id], ntmps := 25, keep := false, res := [(2, none)], body :=
 (.seq (.reg [⟨(some 2), .mv (.c (.i .i64 0)), none⟩])
 (.seq (.seq (.reg [⟨(some 3), .mv (.t 0), none⟩,
 ⟨(some 4), .bin .geq (.t 3) (.c (.i .u64 4294967296)), none⟩])
 (.cond (.t 4)
 (.seq (.reg [⟨(some 5), .mv (.t 0), none⟩,
 ⟨(some 6), .bin .shr (.t 5) (.c (.i .u64 32)), none⟩,
 ⟨(some 0), .mv (.t 6), none⟩])
 (.reg [⟨(some 2), .mv (.c (.i .i64 32)), none⟩]))
 .skip))
 (.seq (.seq (.reg [⟨(some 7), .mv (.t 0), none⟩,
 ⟨(some 8), .bin .geq (.t 7) (.c (.i .u64 65536)), none⟩])
 (.cond (.t 8)
 (.seq (.reg [⟨(some 9), .mv (.t 0), none⟩,
 ⟨(some 10), .bin .shr (.t 9) (.c (.i .u64 16)), none⟩,
 ⟨(some 0), .mv (.t 10), none⟩])
 (.reg [⟨(some 11), .mv (.t 2), none⟩,
 ⟨(some 12), .bin .add (.t 11) (.c (.i .i64 16)), none⟩,
 ⟨(some 2), .mv (.t 12), none⟩]))
 .skip))
 (.seq (.seq (.reg [⟨(some 13), .mv (.t 0), none⟩,
 ⟨(some 14), .bin .geq (.t 13) (.c (.i .u64 256)), none⟩])
 (.cond (.t 14)
 (.seq (.reg [⟨(some 15), .mv (.t 0), none⟩,
 ⟨(some 16), .bin .shr (.t 15) (.c (.i .u64 8)), none⟩,
 ⟨(some 0), .mv (.t 16), none⟩])
 (.reg [⟨(some 17), .mv (.t 2), none⟩,
 ⟨(some 18), .bin .add (.t 17) (.c (.i .i64 8)), none⟩,
 ⟨(some 2), .mv (.t 18), none⟩]))
 .skip))
 (.seq (.reg [⟨(some 19), .mv (.t 2), none⟩,
 ⟨(some 20), .mv (.t 0), none⟩,
 ⟨(some 21), .cvI .u8 (.t 20), none⟩,
 ⟨(some 22), .ixS (.c (.s [0, 1, 2, 2, 3, 3, 3, 3, 4, 4, 4, 4, 4, 4, 4, 4, 5, 5, 5, 5, 5, 5, 5, 5, 5, 5, 5, 5, 5, 5, 5, 5, 6, 6, 6, 6, 6, 6, 6, 6, 6, 6, 6, 6, 6, 6, 6, 6, 6, 6, 6, 6, 6, 6, 6, 6, 6, 6, 6, 6, 6, 6, 6, 6, 7, 7, 7, 7, 7, 7, 7, 7, 7, 7, 7, 7, 7, 7, 7, 7, 7, 7, 7, 7, 7, 7, 7, 7, 7, 7, 7, 7, 7, 7, 7, 7, 7, 7, 7, 7, 7, 7, 7, 7, 7, 7, 7, 7, 7, 7, 7, 7, 7, 7, 7, 7, 7, 7, 7, 7, 7, 7, 7, 7, 7, 7, 7, 7, 8, 8, 8, 8, 8, 8, 8, 8, 8, 8, 8, 8, 8, 8, 8, 8, 8, 8, 8, 8, 8, 8, 8, 8, 8, 8, 8, 8, 8, 8, 8, 8, 8, 8, 8, 8, 8, 8, 8, 8, 8, 8, 8, 8, 8, 8, 8, 8, 8, 8, 8, 8, 8, 8, 8, 8, 8, 8, 8, 8, 8, 8, 8, 8, 8, 8, 8, 8, 8, 8, 8, 8, 8, 8, 8, 8, 8, 8, 8, 8, 8, 8, 8, 8, 8, 8, 8, 8, 8, 8, 8, 8, 8, 8, 8, 8, 8, 8, 8, 8, 8, 8, 8, 8, 8, 8, 8, 8, 8, 8, 8, 8, 8, 8, 8, 8, 8, 8, 8, 8, 8, 8, 8, 8, 8, 8, 8, 8])) (.t 21), none⟩,
 ⟨(some 23), .cvI .i64 (.t 22), none⟩,
 ⟨(some 24), .bin .add (.t 19) (.t 23), none⟩,
 ⟨(some 2), .mv (.t 24), none⟩])
 .ret))))) }
def c_slices_Clone_api_Fact_api_Fact : Fun := { cin := [(.sl 6 (.agg [.id, .id, (.sl 1 .id), (.sl 1 .id), .id, .id]))], cout := [], ntmps := 8, keep := true, res := [(2, none)], body :=
 (.seq (.reg [⟨(some 2), .mv (.c .nsl), none⟩])
 (.seq (.seq (.reg [⟨(some 3), .mv (.t 0), none⟩,
 ⟨(some 4), .eq .sl false (.t 3) (.c .nsl), none⟩])
 (.cond (.t 4)
 (.seq (.reg [⟨(some 2), .mv (.c .nsl), none⟩])
 .ret)
 .skip))
 (.seq (.reg [⟨(some 5), .bsl 6 [], none⟩,
 ⟨(some 6), .mv (.t 0), none⟩,
 ⟨(some 7), .app 6 84 (.t 5) (.t 6), none⟩,
 ⟨(some 2), .mv (.t 7), none⟩])
 .ret))) }
def c_slices_Clone_int_int : Fun := { cin := [(.sl 1 .id)], cout := [], ntmps := 8, keep := true, res := [(2, none)], body :=
 (.seq (.reg [⟨(some 2), .mv (.c .nsl), none⟩])
 (.seq (.seq (.reg [⟨(some 3), .mv (.t 0), none⟩,
 ⟨(some 4), .eq .sl false (.t 3) (.c .nsl), none⟩])
 (.cond (.t 4)
 (.seq (.reg [⟨(some 2), .mv (.c .nsl), none⟩])
 .ret)
 .skip))
 (.seq (.reg [⟨(some 5), .bsl 1 [], none⟩,
 ⟨(some 6), .mv (.t 0), none⟩,
 ⟨(some 7), .app 1 3 (.t 5) (.t 6), none⟩,
 ⟨(some 2), .mv (.t 7), none⟩])
 .ret))) }
def c_store_change : Fun := { cin := [(.sl 6 (.agg [.id, .id, (.sl 1 .id), (.sl 1 .id), .id, .id])), .id, .id, .id], cout := [(.sl 6 (.agg [.id, .id, (.sl 1 .id), (.sl 1 .id), .id, .id])), .id], ntmps := 42, keep := false, res := [(8, none), (9, none)], body :=
 (.seq (.reg [⟨(some 8), .mv (.c .nsl), none⟩,
 ⟨(some 9), .mv (.c (.i .i64 0)), none⟩])
 (.seq (.blk 0 (.seq (.reg [⟨(some 13), .mv (.t 0), none⟩,
 ⟨(some 14), .call f_pat_May [(.t 13)], none⟩,
 ⟨(some 15), .un .not (.t 14), none⟩,
 ⟨(some 12), .mv (.t 15), none⟩])
 (.cond (.t 12)
 (.seq (.reg [⟨(some 8), .mv (.c .nsl), none⟩,
 ⟨(some 9), .mv (.c (.i .i64 4)), none⟩])
 .ret)
 (.seq (.reg [⟨(some 17), .mv (.t 1), none⟩,
 ⟨(some 18), .bin .lss (.t 17) (.c (.i .i64 0)), none⟩,
 ⟨(some 19), .mv (.t 18), none⟩,
 ⟨(some 20), .mv (.t 1), (some (19, false))⟩,
 ⟨(some 21), .mv (.t 0), (some (19, false))⟩,
 ⟨(some 22), .len 1 (.t 21), (some (19, false))⟩,
 ⟨(some 23), .bin .geq (.t 20) (.t 22), (some (19, false))⟩,
 ⟨(some 24), .pick (.t 19) (.c (.b true)) (.t 23), none⟩,
 ⟨(some 16), .mv (.t 24), none⟩])
 (.cond (.t 16)
 (.seq (.reg [⟨(some 8), .mv (.c .nsl), none⟩,
 ⟨(some 9), .mv (.c (.i .i64 1)), none⟩])
 .ret)
 .skip)))))
 (.seq (.seq (.reg [⟨(some 25), .mv (.t 2), none⟩,
 ⟨(some 26), .mv (.t 0), none⟩,
 ⟨(some 27), .mv (.t 1), none⟩,
 ⟨(some 28), .ia 6 (.t 26) (.t 27), none⟩,
 ⟨(some 29), .ld true 6 (.t 28), none⟩,
 ⟨(some 30), .callX (.t 25) [(.t 29)], none⟩,
 ⟨(some 10), .mv (.t 30), none⟩])
 (.seq (.reg [⟨(some 31), .mv (.t 10), none⟩,
 ⟨(some 32), .bin .neq (.t 31) (.c (.i .i64 0)), none⟩])
 (.cond (.t 32)
 (.seq (.reg [⟨(some 33), .mv (.t 10), none⟩,
 ⟨(some 8), .mv (.c .nsl), none⟩,
 ⟨(some 9), .mv (.t 33), none⟩])
 .ret)
 .skip)))
 (.seq (.reg [⟨(some 34), .mv (.t 0), none⟩,
 ⟨(some 35), .call f_store_own [(.t 34)], none⟩,
 ⟨(some 11), .mv (.t 35), none⟩])
 (.seq (.seq (.thw 11)
 (.reg [⟨(some 36), .mv (.t 3), none⟩,
 ⟨(some 37), .mv (.t 11), none⟩,
 ⟨(some 38), .mv (.t 1), none⟩,
 ⟨(some 39), .ia 6 (.t 37) (.t 38), none⟩,
 ⟨(some 40), .callX (.t 36) [(.t 39)], none⟩]))
 (.seq (.reg [⟨(some 41), .mv (.t 11), none⟩,
 ⟨(some 8), .mv (.t 41), none⟩,
 ⟨(some 9), .mv (.c (.i .i64 0)), none⟩])
 .ret)))))) }
def c_store_dir : Fun := { cin := [(.agg [.id, .id, (.sl 1 .id), (.sl 1 .id), .id, .id])], cout := [.id], ntmps := 10, keep := false, res := [(2, none)], body :=
 (.seq (.reg [⟨(some 1), .box 84 6 (.t 0), none⟩,
 ⟨(some 2), .mv (.c (.b false)), none⟩])
 (.seq (.reg [⟨(some 3), .fa 0 (.t 1), none⟩,
 ⟨(some 4), .ld false 1 (.t 3), none⟩,
 ⟨(some 5), .mv (.t 4), none⟩,
 ⟨(some 6), .fa 1 (.t 1), (some (5, true))⟩,
 ⟨(some 7), .ld false 1 (.t 6), (some (5, true))⟩,
 ⟨(some 8), .bin .eql (.t 7) (.c (.i .u8 2)), (some (5, true))⟩,
 ⟨(some 9), .pick (.t 5) (.t 8) (.c (.b false)), none⟩,
 ⟨(some 2), .mv (.t 9), none⟩])
 .ret)) }
def c_prim_put_1 : Fun := { cin := [], cout := [.id], ntmps := 17, keep := false, res := [(3, none)], body :=
 (.seq (.reg [⟨(some 3), .mv (.c (.i .i64 0)), none⟩])
 (.seq (.blk 0 (.seq (.reg [⟨(some 5), .ld true 4 (.t 0), none⟩,
 ⟨(some 6), .call f_ftree_Well [(.t 5)], none⟩,
 ⟨(some 7), .un .not (.t 6), none⟩,
 ⟨(some 4), .mv (.t 7), none⟩])
 (.cond (.t 4)
 (.seq (.reg [⟨(some 3), .mv (.c (.i .i64 4)), none⟩])
 .ret)
 (.seq (.reg [⟨(some 9), .ld false 1 (.t 1), none⟩,
 ⟨(some 10), .ld false 1 (.t 2), none⟩,
 ⟨(some 11), .inv [(17, f_internal_abi_Type_Kind), (29, f_ftree_Tree_Kind), (216, f_sym_Tree_Kind)] (.t 9) [(.t 10)], none⟩,
 ⟨(some 12), .bin .neq (.t 11) (.c (.i .u8 0)), none⟩,
 ⟨(some 8), .mv (.t 12), none⟩])
 (.cond (.t 8)
 (.seq (.reg [⟨(some 3), .mv (.c (.i .i64 6)), none⟩])
 .ret)
 .skip)))))
 (.seq (.reg [⟨(some 13), .ld false 1 (.t 1), none⟩,
 ⟨(some 14), .ld false 1 (.t 2), none⟩,
 ⟨(some 15), .ld true 4 (.t 0), none⟩,
 ⟨(some 16), .inv [(29, f_ftree_Tree_Put), (216, f_sym_Tree_Put)] (.t 13) [(.t 14), (.t 15)], none⟩])
 (.seq (.reg [⟨(some 3), .mv (.c (.i .i64 0)), none⟩])
 .ret)))) }
def c_prim_remove_1 : Fun := { cin := [], cout := [.id], ntmps := 20, keep := false, res := [(3, none)], body :=
 (.seq (.reg [⟨(some 3), .mv (.c (.i .i64 0)), none⟩])
 (.seq (.reg [⟨(some 6), .ld false 1 (.t 0), none⟩,
 ⟨(some 7), .ld false 1 (.t 1), none⟩,
 ⟨(some 8), .inv [(17, f_internal_abi_Type_Kind), (29, f_ftree_Tree_Kind), (216, f_sym_Tree_Kind)] (.t 6) [(.t 7)], none⟩,
 ⟨(some 4), .mv (.t 8), none⟩])
 (.seq (.seq (.reg [⟨(some 9), .mv (.t 4), none⟩,
 ⟨(some 10), .bin .eql (.t 9) (.c (.i .u8 0)), none⟩])
 (.cond (.t 10)
 (.seq (.reg [⟨(some 3), .mv (.c (.i .i64 5)), none⟩])
 .ret)
 .skip))
 (.seq (.seq (.reg [⟨(some 11), .ld false 1 (.t 2), none⟩,
 ⟨(some 12), .mv (.t 4), none⟩,
 ⟨(some 13), .callX (.t 11) [(.t 12)], none⟩,
 ⟨(some 5), .mv (.t 13), none⟩])
 (.seq (.reg [⟨(some 14), .mv (.t 5), none⟩,
 ⟨(some 15), .bin .neq (.t 14) (.c (.i .i64 0)), none⟩])
 (.cond (.t 15)
 (.seq (.reg [⟨(some 16), .mv (.t 5), none⟩,
 ⟨(some 3), .mv (.t 16), none⟩])
 .ret)
 .skip)))
 (.seq (.reg [⟨(some 17), .ld false 1 (.t 0), none⟩,
 ⟨(some 18), .ld false 1 (.t 1), none⟩,
 ⟨(some 19), .inv [(29, f_ftree_Tree_Del), (216, f_sym_Tree_Del)] (.t 17) [(.t 18)], none⟩])
 (.seq (.reg [⟨(some 3), .mv (.c (.i .i64 0)), none⟩])
 .ret)))))) }
def c_prim_taken : Fun := { cin := [.id, (.sl 1 .id)], cout := [.id], ntmps := 29, keep := false, res := [(4, none)], body :=
 (.seq (.reg [⟨(some 4), .mv (.c (.b false)), none⟩])
 (.seq (.reg [⟨(some 6), .mv (.t 1), none⟩,
 ⟨(some 7), .len 1 (.t 6), none⟩,
 ⟨(some 8), .bin .sub (.t 7) (.c (.i .i64 1)), none⟩,
 ⟨(some 5), .mv (.t 8), none⟩])
 (.seq (.regD [⟨(some 9), .mv (.t 5), none⟩,
 ⟨(some 10), .bin .lss (.t 9) (.c (.i .i64 0)), none⟩,
 ⟨(some 11), .mv (.t 10), none⟩,
 ⟨(some 12), .mv (.t 1), (some (11, false))⟩,
 ⟨(some 13), .mv (.t 5), (some (11, false))⟩,
 ⟨(some 14), .ia 1 (.t 12) (.t 13), (some (11, false))⟩,
 ⟨(some 15), .ld false 1 (.t 14), (some (11, false))⟩,
 ⟨(some 16), .call f_path_Name [(.t 15)], (some (11, false))⟩,
 ⟨(some 17), .mv (.t 16), (some (11, false))⟩,
 ⟨(some 18), .mv (.t 0), (some (17, true))⟩,
 ⟨(some 19), .mv (.t 1), (some (17, true))⟩,
 ⟨(some 20), .mv (.t 5), (some (17, true))⟩,
 ⟨(some 21), .slc false 1 (.t 19) none (some (.t 20)) none, (some (17, true))⟩,
 ⟨(some 22), .mkM [75, 105, 110, 100] (.t 18), (some (17, true))⟩,
 ⟨(some 23), .nckM [75, 105, 110, 100] [(17, f_internal_abi_Type_Kind), (29, f_ftree_Tree_Kind), (216, f_sym_Tree_Kind)] (.t 22), (some (17, true))⟩,
 ⟨(some 24), .mv (.t 18), (some (17, true))⟩,
 ⟨(some 25), .inv [(17, f_internal_abi_Type_Kind), (29, f_ftree_Tree_Kind), (216, f_sym_Tree_Kind)] (.t 24) [(.t 21)], (some (17, true))⟩,
 ⟨(some 26), .bin .eql (.t 25) (.c (.i .u8 2)), (some (17, true))⟩,
 ⟨(some 27), .pick (.t 17) (.t 26) (.c (.b false)), (some (11, false))⟩,
 ⟨(some 28), .pick (.t 11) (.c (.b true)) (.t 27), none⟩,
 ⟨(some 4), .mv (.t 28), none⟩] [])
 .ret))) }
def c_unicode_utf8_ValidRune : Fun := { cin := [.id], cout := [.id], ntmps := 17, keep := false, res := [(2, none)], body :=
 (.seq (.reg [⟨(some 2), .mv (.c (.b false)), none⟩])
 (.seq (.blk 0 (.seq (.reg [⟨(some 4), .mv (.t 0), none⟩,
 ⟨(some 5), .bin .leq (.c (.i .i32 0)) (.t 4), none⟩,
 ⟨(some 6), .mv (.t 5), none⟩,
 ⟨(some 7), .mv (.t 0), (some (6, true))⟩,
 ⟨(some 8), .bin .lss (.t 7) (.c (.i .i32 55296)), (some (6, true))⟩,
 ⟨(some 9), .pick (.t 6) (.t 8) (.c (.b false)), none⟩,
 ⟨(some 3), .mv (.t 9), none⟩])
 (.cond (.t 3)
 (.seq (.reg [⟨(some 2), .mv (.c (.b true)), none⟩])
 .ret)
 (.seq (.reg [⟨(some 11), .mv (.t 0), none⟩,
 ⟨(some 12), .bin .lss (.c (.i .i32 57343)) (.t 11), none⟩,
 ⟨(some 13), .mv (.t 12), none⟩,
 ⟨(some 14), .mv (.t 0), (some (13, true))⟩,
 ⟨(some 15), .bin .leq (.t 14) (.c (.i .i32 1114111)), (some (13, true))⟩,
 ⟨(some 16), .pick (.t 13) (.t 15) (.c (.b false)), none⟩,
 ⟨(some 10), .mv (.t 16), none⟩])
 (.cond (.t 10)
 (.seq (.reg [⟨(some 2), .mv (.c (.b true)), none⟩])
 .ret)
 .skip)))))
 (.seq (.reg [⟨(some 2), .mv (.c (.b false)), none⟩])
 .ret))) }
def c_internal_bytealg_hashStr_string : Fun := { cin := [.id], cout := [.id, .id], ntmps := 39, keep := false, res := [(2, none), (3, none)], body :=
 (.seq (.reg [⟨(some 2), .mv (.c (.i .u32 0)), none⟩,
 ⟨(some 3), .mv (.c (.i .u32 0)), none⟩])
 (.seq (.reg [⟨(some 4), .mv (.c (.i .u32 0)), none⟩])
 (.seq (.seq (.reg [⟨(some 5), .mv (.c (.i .i64 0)), none⟩])
 (.blk 0 (.loop (.seq (.seq (.reg [⟨(some 9), .mv (.t 5), none⟩,
 ⟨(some 10), .mv (.t 0), none⟩,
 ⟨(some 11), .len 0 (.t 10), none⟩,
 ⟨(some 12), .bin .lss (.t 9) (.t 11), none⟩])
 (.cond (.t 12)
 .skip
 (.exit 0)))
 (.seq (.blk 1 (.reg [⟨(some 15), .mv (.t 4), none⟩,
 ⟨(some 16), .bin .mul (.t 15) (.c (.i .u32 16777619)), none⟩,
 ⟨(some 17), .mv (.t 0), none⟩,
 ⟨(some 18), .mv (.t 5), none⟩,
 ⟨(some 19), .ixS (.t 17) (.t 18), none⟩,
 ⟨(some 20), .cvI .u32 (.t 19), none⟩,
 ⟨(some 21), .bin .add (.t 16) (.t 20), none⟩,
 ⟨(some 4), .mv (.t 21), none⟩]))
 (.reg [⟨(some 13), .mv (.t 5), none⟩,
 ⟨(some 14), .bin .add (.t 13) (.c (.i .i64 1)), none⟩,
 ⟨(some 5), .mv (.t 14), none⟩]))))))
 (.seq (.reg [⟨(some 6), .mv (.c (.i .u32 1)), none⟩,
 ⟨(some 7), .mv (.c (.i .u32 16777619)), none⟩])
 (.seq (.seq (.reg [⟨(some 22), .mv (.t 0), none⟩,
 ⟨(some 23), .len 0 (.t 22), none⟩,
 ⟨(some 8), .mv (.t 23), none⟩])
 (.blk 2 (.loop (.seq (.seq (.reg [⟨(some 24), .mv (.t 8), none⟩,
 ⟨(some 25), .bin .gtr (.t 24) (.c (.i .i64 0)), none⟩])
 (.cond (.t 25)
 .skip
 (.exit 2)))
 (.seq (.blk 3 (.seq (.seq (.reg [⟨(some 28), .mv (.t 8), none⟩,
 ⟨(some 29), .bin .and (.t 28) (.c (.i .i64 1)), none⟩,
 ⟨(some 30), .bin .neq (.t 29) (.c (.i .i64 0)), none⟩])
 (.cond (.t 30)
 (.reg [⟨(some 31), .mv (.t 6), none⟩,
 ⟨(some 32), .mv (.t 7), none⟩,
 ⟨(some 33), .bin .mul (.t 31) (.t 32), none⟩,
 ⟨(some 6), .mv (.t 33), none⟩])
 .skip))
 (.reg [⟨(some 34), .mv (.t 7), none⟩,
 ⟨(some 35), .mv (.t 7), none⟩,
 ⟨(some 36), .bin .mul (.t 34) (.t 35), none⟩,
 ⟨(some 7), .mv (.t 36), none⟩])))
 (.reg [⟨(some 26), .mv (.t 8), none⟩,
 ⟨(some 27), .bin .shr (.t 26) (.c (.i .u64 1)), none⟩,
 ⟨(some 8), .mv (.t 27), none⟩]))))))
 (.seq (.reg [⟨(some 37), .mv (.t 4), none⟩,
 ⟨(some 38), .mv (.t 6), none⟩,
 ⟨(some 2), .mv (.t 37), none⟩,
 ⟨(some 3), .mv (.t 38), none⟩])
 .ret)))))) }
def c_unicode_utf8_decodeRuneInStringSlow : Fun := { cin := [.id], cout := [.id, .id], ntmps := 117, keep := false, res := [(2, none), (3, none)], body :=
 (.seq (.reg [⟨(some 2), .mv (.c (.i .i32 0)), none⟩,
 ⟨(some 3), .mv (.c (.i .i64 0)), none⟩])
 (.seq (.reg [⟨(some 13), .mv (.t 0), none⟩,
 ⟨(some 14), .len 0 (.t 13), none⟩,
 ⟨(some 4), .mv (.t 14), none⟩])
 (.seq (.seq (.reg [⟨(some 15), .mv (.t 4), none⟩,
 ⟨(some 16), .bin .lss (.t 15) (.c (.i .i64 1)), none⟩])
 (.cond (.t 16)
 (.seq (.reg [⟨(some 2), .mv (.c (.i .i32 65533)), none⟩,
 ⟨(some 3), .mv (.c (.i .i64 0)), none⟩])
 .ret)
 .skip))
 (.seq (.reg [⟨(some 17), .mv (.t 0), none⟩,
 ⟨(some 18), .ixS (.t 17) (.c (.i .i64 0)), none⟩,
 ⟨(some 5), .mv (.t 18), none⟩])
 (.seq (.reg [⟨(some 19), .mv (.t 5), none⟩,
 ⟨(some 20), .bad, none⟩,
 ⟨(some 21), .ld false 1 (.t 20), none⟩,
 ⟨(some 6), .mv (.t 21), none⟩])
 (.seq (.seq (.reg [⟨(some 22), .mv (.t 6), none⟩,
 ⟨(some 23), .bin .geq (.t 22) (.c (.i .u8 240)), none⟩])
 (.cond (.t 23)
 (.seq (.reg [⟨(some 24), .mv (.t 6), none⟩,
 ⟨(some 25), .cvI .i32 (.t 24), none⟩,
 ⟨(some 26), .bin .shl (.t 25) (.c (.i .u64 31)), none⟩,
 ⟨(some 27), .bin .shr (.t 26) (.c (.i .u64 31)), none⟩,
 ⟨(some 7), .mv (.t 27), none⟩])
 (.seq (.reg [⟨(some 28), .mv (.t 0), none⟩,
 ⟨(some 29), .ixS (.t 28) (.c (.i .i64 0)), none⟩,
 ⟨(some 30), .cvI .i32 (.t 29), none⟩,
 ⟨(some 31), .mv (.t 7), none⟩,
 ⟨(some 32), .bin .andNot (.t 30) (.t 31), none⟩,
 ⟨(some 33), .mv (.t 7), none⟩,
 ⟨(some 34), .bin .and (.c (.i .i32 65533)) (.t 33), none⟩,
 ⟨(some 35), .bin .or (.t 32) (.t 34), none⟩,
 ⟨(some 2), .mv (.t 35), none⟩,
 ⟨(some 3), .mv (.c (.i .i64 1)), none⟩])
 .ret))
 .skip))
 (.seq (.reg [⟨(some 36), .mv (.t 6), none⟩,
 ⟨(some 37), .bin .and (.t 36) (.c (.i .u8 7)), none⟩,
 ⟨(some 38), .cvI .i64 (.t 37), none⟩,
 ⟨(some 8), .mv (.t 38), none⟩])
 (.seq (.reg [⟨(some 39), .mv (.t 6), none⟩,
 ⟨(some 40), .bin .shr (.t 39) (.c (.i .u64 4)), none⟩,
 ⟨(some 41), .bad, none⟩,
 ⟨(some 42), .ld true 2 (.t 41), none⟩,
 ⟨(some 9), .alloc 330 [(.i .u8 0), (.i .u8 0)], none⟩,
 ⟨none, .st 2 (.t 9) (.t 42), none⟩])
 (.seq (.seq (.reg [⟨(some 43), .mv (.t 4), none⟩,
 ⟨(some 44), .mv (.t 8), none⟩,
 ⟨(some 45), .bin .lss (.t 43) (.t 44), none⟩])
 (.cond (.t 45)
 (.seq (.reg [⟨(some 2), .mv (.c (.i .i32 65533)), none⟩,
 ⟨(some 3), .mv (.c (.i .i64 1)), none⟩])
 .ret)
 .skip))
 (.seq (.reg [⟨(some 46), .mv (.t 0), none⟩,
 ⟨(some 47), .ixS (.t 46) (.c (.i .i64 1)), none⟩,
 ⟨(some 10), .mv (.t 47), none⟩])
 (.seq (.seq (.reg [⟨(some 48), .mv (.t 10), none⟩,
 ⟨(some 49), .fa 0 (.t 9), none⟩,
 ⟨(some 50), .ld false 1 (.t 49), none⟩,
 ⟨(some 51), .bin .lss (.t 48) (.t 50), none⟩,
 ⟨(some 52), .mv (.t 51), none⟩,
 ⟨(some 53), .fa 1 (.t 9), (some (52, false))⟩,
 ⟨(some 54), .ld false 1 (.t 53), (some (52, false))⟩,
 ⟨(some 55), .mv (.t 10), (some (52, false))⟩,
 ⟨(some 56), .bin .lss (.t 54) (.t 55), (some (52, false))⟩,
 ⟨(some 57), .pick (.t 52) (.c (.b true)) (.t 56), none⟩])
 (.cond (.t 57)
 (.seq (.reg [⟨(some 2), .mv (.c (.i .i32 65533)), none⟩,
 ⟨(some 3), .mv (.c (.i .i64 1)), none⟩])
 .ret)
 .skip))
 (.seq (.seq (.reg [⟨(some 58), .mv (.t 8), none⟩,
 ⟨(some 59), .bin .leq (.t 58) (.c (.i .i64 2)), none⟩])
 (.cond (.t 59)
 (.seq (.reg [⟨(some 60), .mv (.t 5), none⟩,
 ⟨(some 61), .bin .and (.t 60) (.c (.i .u8 31)), none⟩,
 ⟨(some 62), .cvI .i32 (.t 61), none⟩,
 ⟨(some 63), .bin .shl (.t 62) (.c (.i .u64 6)), none⟩,
 ⟨(some 64), .mv (.t 10), none⟩,
 ⟨(some 65), .bin .and (.t 64) (.c (.i .u8 63)), none⟩,
 ⟨(some 66), .cvI .i32 (.t 65), none⟩,
 ⟨(some 67), .bin .or (.t 63) (.t 66), none⟩,
 ⟨(some 2), .mv (.t 67), none⟩,
 ⟨(some 3), .mv (.c (.i .i64 2)), none⟩])
 .ret)
 .skip))
 (.seq (.reg [⟨(some 68), .mv (.t 0), none⟩,
 ⟨(some 69), .ixS (.t 68) (.c (.i .i64 2)), none⟩,
 ⟨(some 11), .mv (.t 69), none⟩])
 (.seq (.seq (.reg [⟨(some 70), .mv (.t 11), none⟩,
 ⟨(some 71), .bin .lss (.t 70) (.c (.i .u8 128)), none⟩,
 ⟨(some 72), .mv (.t 71), none⟩,
 ⟨(some 73), .mv (.t 11), (some (72, false))⟩,
 ⟨(some 74), .bin .lss (.c (.i .u8 191)) (.t 73), (some (72, false))⟩,
 ⟨(some 75), .pick (.t 72) (.c (.b true)) (.t 74), none⟩])
 (.cond (.t 75)
 (.seq (.reg [⟨(some 2), .mv (.c (.i .i32 65533)), none⟩,
 ⟨(some 3), .mv (.c (.i .i64 1)), none⟩])
 .ret)
 .skip))
 (.seq (.seq (.reg [⟨(some 76), .mv (.t 8), none⟩,
 ⟨(some 77), .bin .leq (.t 76) (.c (.i .i64 3)), none⟩])
 (.cond (.t 77)
 (.seq (.reg [⟨(some 78), .mv (.t 5), none⟩,
 ⟨(some 79), .bin .and (.t 78) (.c (.i .u8 15)), none⟩,
 ⟨(some 80), .cvI .i32 (.t 79), none⟩,
 ⟨(some 81), .bin .shl (.t 80) (.c (.i .u64 12)), none⟩,
 ⟨(some 82), .mv (.t 10), none⟩,
 ⟨(some 83), .bin .and (.t 82) (.c (.i .u8 63)), none⟩,
 ⟨(some 84), .cvI .i32 (.t 83), none⟩,
 ⟨(some 85), .bin .shl (.t 84) (.c (.i .u64 6)), none⟩,
 ⟨(some 86), .bin .or (.t 81) (.t 85), none⟩,
 ⟨(some 87), .mv (.t 11), none⟩,
 ⟨(some 88), .bin .and (.t 87) (.c (.i .u8 63)), none⟩,
 ⟨(some 89), .cvI .i32 (.t 88), none⟩,
 ⟨(some 90), .bin .or (.t 86) (.t 89), none⟩,
 ⟨(some 2), .mv (.t 90), none⟩,
 ⟨(some 3), .mv (.c (.i .i64 3)), none⟩])
 .ret)
 .skip))
 (.seq (.reg [⟨(some 91), .mv (.t 0), none⟩,
 ⟨(some 92), .ixS (.t 91) (.c (.i .i64 3)), none⟩,
 ⟨(some 12), .mv (.t 92), none⟩])
 (.seq (.seq (.reg [⟨(some 93), .mv (.t 12), none⟩,
 ⟨(some 94), .bin .lss (.t 93) (.c (.i .u8 128)), none⟩,
 ⟨(some 95), .mv (.t 94), none⟩,
 ⟨(some 96), .mv (.t 12), (some (95, false))⟩,
 ⟨(some 97), .bin .lss (.c (.i .u8 191)) (.t 96), (some (95, false))⟩,
 ⟨(some 98), .pick (.t 95) (.c (.b true)) (.t 97), none⟩])
 (.cond (.t 98)
 (.seq (.reg [⟨(some 2), .mv (.c (.i .i32 65533)), none⟩,
 ⟨(some 3), .mv (.c (.i .i64 1)), none⟩])
 .ret)
 .skip))
 (.seq (.reg [⟨(some 99), .mv (.t 5), none⟩,
 ⟨(some 100), .bin .and (.t 99) (.c (.i .u8 7)), none⟩,
 ⟨(some 101), .cvI .i32 (.t 100), none⟩,
 ⟨(some 102), .bin .shl (.t 101) (.c (.i .u64 18)), none⟩,
 ⟨(some 103), .mv (.t 10), none⟩,
 ⟨(some 104), .bin .and (.t 103) (.c (.i .u8 63)), none⟩,
 ⟨(some 105), .cvI .i32 (.t 104), none⟩,
 ⟨(some 106), .bin .shl (.t 105) (.c (.i .u64 12)), none⟩,
 ⟨(some 107), .bin .or (.t 102) (.t 106), none⟩,
 ⟨(some 108), .mv (.t 11), none⟩,
 ⟨(some 109), .bin .and (.t 108) (.c (.i .u8 63)), none⟩,
 ⟨(some 110), .cvI .i32 (.t 109), none⟩,
 ⟨(some 111), .bin .shl (.t 110) (.c (.i .u64 6)), none⟩,
 ⟨(some 112), .bin .or (.t 107) (.t 111), none⟩,
 ⟨(some 113), .mv (.t 12), none⟩,
 ⟨(some 114), .bin .and (.t 113) (.c (.i .u8 63)), none⟩,
 ⟨(some 115), .cvI .i32 (.t 114), none⟩,
 ⟨(some 116), .bin .or (.t 112) (.t 115), none⟩,
 ⟨(some 2), .mv (.t 116), none⟩,
 ⟨(some 3), .mv (.c (.i .i64 4)), none⟩])
 .ret)))))))))))))))))) }
def c_unicode_utf8_RuneStart : Fun := { cin := [.id], cout := [.id], ntmps := 6, keep := false, res := [(2, none)], body :=
 (.seq (.reg [⟨(some 2), .mv (.c (.b false)), none⟩])
 (.seq (.reg [⟨(some 3), .mv (.t 0), none⟩,
 ⟨(some 4), .bin .and (.t 3) (.c (.i .u8 192)), none⟩,
 ⟨(some 5), .bin .neq (.t 4) (.c (.i .u8 128)), none⟩,
 ⟨(some 2), .mv (.t 5), none⟩])
 .ret)) }
def c_slices_nextPowerOfTwo : Fun := { cin := [.id], cout := [.id], ntmps := 7, keep := false, res := [(2, none)], body :=
 (.seq (.reg [⟨(some 2), .mv (.c (.i .u64 0)), none⟩])
 (.seq (.reg [⟨(some 3), .mv (.t 0), none⟩,
 ⟨(some 4), .cvI .u64 (.t 3), none⟩,
 ⟨(some 5), .call f_math_bits_Len [(.t 4)], none⟩,
 ⟨(some 6), .bin .shl (.c (.i .u64 1)) (.t 5), none⟩,
 ⟨(some 2), .mv (.t 6), none⟩])
 .ret)) }
def c_slices_xorshift_Next : Fun := { cin := [.id], cout := [.id], ntmps := 33, keep := false, res := [(2, none)], body :=
 (.seq (.reg [⟨(some 2), .mv (.c (.i .u64 0)), none⟩])
 (.seq (.regD [⟨(some 3), .mv (.t 0), none⟩,
 ⟨(some 4), .nck (.t 3), none⟩,
 ⟨(some 5), .ld false 1 (.t 4), none⟩,
 ⟨(some 6), .mv (.t 0), none⟩,
 ⟨(some 7), .nck (.t 6), none⟩,
 ⟨(some 8), .ld false 1 (.t 7), none⟩,
 ⟨(some 9), .bin .shl (.t 8) (.c (.i .u64 13)), none⟩,
 ⟨(some 10), .bin .xor (.t 5) (.t 9), none⟩,
 ⟨(some 11), .nck (.t 3), none⟩,
 ⟨none, .st 1 (.t 11) (.t 10), none⟩] [])
 (.seq (.regD [⟨(some 12), .mv (.t 0), none⟩,
 ⟨(some 13), .nck (.t 12), none⟩,
 ⟨(some 14), .ld false 1 (.t 13), none⟩,
 ⟨(some 15), .mv (.t 0), none⟩,
 ⟨(some 16), .nck (.t 15), none⟩,
 ⟨(some 17), .ld false 1 (.t 16), none⟩,
 ⟨(some 18), .bin .shr (.t 17) (.c (.i .u64 7)), none⟩,
 ⟨(some 19), .bin .xor (.t 14) (.t 18), none⟩,
 ⟨(some 20), .nck (.t 12), none⟩,
 ⟨none, .st 1 (.t 20) (.t 19), none⟩] [])
 (.seq (.regD [⟨(some 21), .mv (.t 0), none⟩,
 ⟨(some 22), .nck (.t 21), none⟩,
 ⟨(some 23), .ld false 1 (.t 22), none⟩,
 ⟨(some 24), .mv (.t 0), none⟩,
 ⟨(some 25), .nck (.t 24), none⟩,
 ⟨(some 26), .ld false 1 (.t 25), none⟩,
 ⟨(some 27), .bin .shl (.t 26) (.c (.i .u64 17)), none⟩,
 ⟨(some 28), .bin .xor (.t 23) (.t 27), none⟩,
 ⟨(some 29), .nck (.t 21), none⟩,
 ⟨none, .st 1 (.t 29) (.t 28), none⟩] [])
 (.seq (.reg [⟨(some 30), .mv (.t 0), none⟩,
 ⟨(some 31), .nck (.t 30), none⟩,
 ⟨(some 32), .ld false 1 (.t 31), none⟩,
 ⟨(some 2), .mv (.t 32), none⟩])
 .ret))))) }
def c_store_own : Fun := { cin := [(.sl 6 (.agg [.id, .id, (.sl 1 .id), (.sl 1 .id), .id, .id]))], cout := [], ntmps := 31, keep := true, res := [(2, none)], body :=
 (.seq (.reg [⟨(some 2), .mv (.c .nsl), none⟩])
 (.seq (.reg [⟨(some 6), .mv (.t 0), none⟩,
 ⟨(some 7), .call f_slices_Clone_api_Fact_api_Fact [(.t 6)], none⟩,
 ⟨(some 3), .mv (.t 7), none⟩])
 (.seq (.seq (.reg [⟨(some 8), .mv (.t 0), none⟩,
 ⟨(some 9), .len 1 (.t 8), none⟩,
 ⟨(some 10), .mv (.c (.i .i64 0)), none⟩])
 (.blk 0 (.loop (.seq (.reg [⟨(some 11), .bin .lss (.t 10) (.t 9), none⟩])
 (.seq (.cond (.t 11)
 .skip
 (.exit 0))
 (.seq (.blk 1 (.seq (.reg [⟨(some 12), .mv (.t 10), none⟩,
 ⟨(some 13), .ia 6 (.t 8) (.t 10), none⟩,
 ⟨(some 14), .ld true 6 (.t 13), none⟩,
 ⟨(some 5), .alloc 84 [(.b false), (.i .u8 0), .nsl, .nsl, (.i .i64 0), (.i .i64 0)], none⟩,
 ⟨(some 4), .mv (.t 12), none⟩,
 ⟨none, .st 6 (.t 5) (.t 14), none⟩])
 (.seq (.thw 3)
 (.regD [⟨(some 15), .mv (.t 3), none⟩,
 ⟨(some 16), .mv (.t 4), none⟩,
 ⟨(some 17), .mv (.t 3), none⟩,
 ⟨(some 18), .mv (.t 4), none⟩,
 ⟨(some 19), .fa 2 (.t 5), none⟩,
 ⟨(some 20), .ld false 1 (.t 19), none⟩,
 ⟨(some 21), .call f_slices_Clone_string_string [(.t 20)], none⟩,
 ⟨(some 22), .fa 3 (.t 5), none⟩,
 ⟨(some 23), .ld false 1 (.t 22), none⟩,
 ⟨(some 24), .call f_slices_Clone_int_int [(.t 23)], none⟩,
 ⟨(some 25), .ia 6 (.t 15) (.t 16), none⟩,
 ⟨(some 26), .fa 2 (.t 25), none⟩,
 ⟨none, .st 1 (.t 26) (.t 21), none⟩,
 ⟨(some 27), .ia 6 (.t 17) (.t 18), none⟩,
 ⟨(some 28), .fa 3 (.t 27), none⟩,
 ⟨none, .st 1 (.t 28) (.t 24), none⟩] [(8, (6, 8))]))))
 (.reg [⟨(some 29), .bin .add (.t 10) (.c (.i .i64 1)), none⟩,
 ⟨(some 10), .mv (.t 29), none⟩])))))))
 (.seq (.reg [⟨(some 30), .mv (.t 3), none⟩,
 ⟨(some 2), .mv (.t 30), none⟩])
 .ret)))) }
def c_slices_Sorted_int : Fun := { cin := [.id], cout := [(.sl 1 .id)], ntmps := 9, keep := false, res := [(2, none)], body :=
 (.seq (.reg [⟨(some 2), .mv (.c .nsl), none⟩])
 (.seq (.reg [⟨(some 4), .mv (.t 0), none⟩,
 ⟨(some 5), .call f_slices_Collect_int [(.t 4)], none⟩,
 ⟨(some 3), .mv (.t 5), none⟩])
 (.seq (.seq (.thw 3)
 (.reg [⟨(some 6), .mv (.t 3), none⟩,
 ⟨(some 7), .call f_slices_Sort_int_int [(.t 6)], none⟩]))
 (.seq (.reg [⟨(some 8), .mv (.t 3), none⟩,
 ⟨(some 2), .mv (.t 8), none⟩])
 .ret)))) }
def c_slices_Values_int_int : Fun := { cin := [(.sl 1 .id)], cout := [.id], ntmps := 4, keep := false, res := [(2, none)], body :=
 (.seq (.reg [⟨(some 1), .box 82 1 (.t 0), none⟩,
 ⟨(some 2), .mv (.c .nf), none⟩])
 (.seq (.reg [⟨(some 3), .mkf f_slices_Values_int_int_1 [(.t 1)], none⟩,
 ⟨(some 2), .mv (.t 3), none⟩])
 .ret)) }
def c_sym_Same : Fun := { cin := [(.agg [.id, .id, .id, .id, (.sl 1 .id), (.sl 6 (.agg [.id, .id, .id, .id, (.sl 1 .id), (.sl 6 (.agg [.id, .id, .id, .id, (.sl 1 .id), (.sl 6 .id)]))]))]), (.agg [.id, .id, .id, .id, (.sl 1 .id), (.sl 6 (.agg [.id, .id, .id, .id, (.sl 1 .id), (.sl 6 (.agg [.id, .id, .id, .id, (.sl 1 .id), (.sl 6 .id)]))]))])], cout := [.id], ntmps := 45, keep := false, res := [(4, none)], body :=
 (.seq (.reg [⟨(some 2), .box 91 6 (.t 0), none⟩,
 ⟨(some 3), .box 91 6 (.t 1), none⟩,
 ⟨(some 4), .mv (.c (.b false)), none⟩])
 (.seq (.reg [⟨(some 5), .fa 0 (.t 2), none⟩,
 ⟨(some 6), .ld false 1 (.t 5), none⟩,
 ⟨(some 7), .fa 0 (.t 3), none⟩,
 ⟨(some 8), .ld false 1 (.t 7), none⟩,
 ⟨(some 9), .bin .eql (.t 6) (.t 8), none⟩,
 ⟨(some 10), .mv (.t 9), none⟩,
 ⟨(some 11), .fa 1 (.t 2), (some (10, true))⟩,
 ⟨(some 12), .ld false 1 (.t 11), (some (10, true))⟩,
 ⟨(some 13), .fa 1 (.t 3), (some (10, true))⟩,
 ⟨(some 14), .ld false 1 (.t 13), (some (10, true))⟩,
 ⟨(some 15), .bin .eql (.t 12) (.t 14), (some (10, true))⟩,
 ⟨(some 16), .pick (.t 10) (.t 15) (.c (.b false)), none⟩,
 ⟨(some 17), .mv (.t 16), none⟩,
 ⟨(some 18), .fa 2 (.t 2), (some (17, true))⟩,
 ⟨(some 19), .ld false 1 (.t 18), (some (17, true))⟩,
 ⟨(some 20), .fa 2 (.t 3), (some (17, true))⟩,
 ⟨(some 21), .ld false 1 (.t 20), (some (17, true))⟩,
 ⟨(some 22), .bin .eql (.t 19) (.t 21), (some (17, true))⟩,
 ⟨(some 23), .pick (.t 17) (.t 22) (.c (.b false)), none⟩,
 ⟨(some 24), .mv (.t 23), none⟩,
 ⟨(some 25), .fa 3 (.t 2), (some (24, true))⟩,
 ⟨(some 26), .ld false 1 (.t 25), (some (24, true))⟩,
 ⟨(some 27), .fa 3 (.t 3), (some (24, true))⟩,
 ⟨(some 28), .ld false 1 (.t 27), (some (24, true))⟩,
 ⟨(some 29), .bin .eql (.t 26) (.t 28), (some (24, true))⟩,
 ⟨(some 30), .pick (.t 24) (.t 29) (.c (.b false)), none⟩,
 ⟨(some 31), .mv (.t 30), none⟩,
 ⟨(some 32), .fa 4 (.t 2), (some (31, true))⟩,
 ⟨(some 33), .ld false 1 (.t 32), (some (31, true))⟩,
 ⟨(some 34), .fa 4 (.t 3), (some (31, true))⟩,
 ⟨(some 35), .ld false 1 (.t 34), (some (31, true))⟩,
 ⟨(some 36), .call f_slices_Equal_string_string [(.t 33), (.t 35)], (some (31, true))⟩,
 ⟨(some 37), .pick (.t 31) (.t 36) (.c (.b false)), none⟩,
 ⟨(some 38), .mv (.t 37), none⟩,
 ⟨(some 39), .fa 5 (.t 2), (some (38, true))⟩,
 ⟨(some 40), .ld false 1 (.t 39), (some (38, true))⟩,
 ⟨(some 41), .fa 5 (.t 3), (some (38, true))⟩,
 ⟨(some 42), .ld false 1 (.t 41), (some (38, true))⟩,
 ⟨(some 43), .call f_slices_EqualFunc_api_Term_api_Term_api_Term_api_Term [(.t 40), (.t 42), (.c (.fn f_sym_Same []))], (some (38, true))⟩,
 ⟨(some 44), .pick (.t 38) (.t 43) (.c (.b false)), none⟩,
 ⟨(some 4), .mv (.t 44), none⟩])
 .ret)) }
def c_sym_absent : Fun := { cin := [], cout := [(.agg [.id, .id, .id, .id, (.sl 1 .id), (.sl 6 (.agg [.id, .id, .id, .id, (.sl 1 .id), (.sl 6 (.agg [.id, .id, .id, .id, (.sl 1 .id), (.sl 6 .id)]))]))])], ntmps := 2, keep := false, res := [(0, some (true, 6))], body :=
 (.seq (.reg [⟨(some 0), .alloc 91 [(.i .i64 0), (.i .u8 0), (.s []), (.i .i64 0), .nsl, .nsl], none⟩])
 (.seq (.reg [⟨(some 1), .build [(.i .i64 0), (.i .u8 0), (.s []), (.i .i64 0), .nsl, .nsl] [(0, 1, (.c (.i .i64 (-1)))), (3, 1, (.c (.i .i64 (-1))))], none⟩,
 ⟨none, .st 6 (.t 0) (.t 1), none⟩])
 .ret)) }
def c_slices_Collect_int : Fun := { cin := [.id], cout := [(.sl 1 .id)], ntmps := 5, keep := false, res := [(2, none)], body :=
 (.seq (.reg [⟨(some 2), .mv (.c .nsl), none⟩])
 (.seq (.reg [⟨(some 3), .mv (.t 0), none⟩,
 ⟨(some 4), .call f_slices_AppendSeq_int_int [(.c .nsl), (.t 3)], none⟩,
 ⟨(some 2), .mv (.t 4), none⟩])
 .ret)) }
def c_slices_Sort_int_int : Fun := { cin := [(.sl 1 .id)], cout := [], ntmps := 11, keep := false, res := [], body :=
 (.seq (.reg [⟨(some 3), .mv (.t 0), none⟩,
 ⟨(some 4), .len 1 (.t 3), none⟩,
 ⟨(some 2), .mv (.t 4), none⟩])
 (.reg [⟨(some 5), .mv (.t 0), none⟩,
 ⟨(some 6), .mv (.t 2), none⟩,
 ⟨(some 7), .mv (.t 2), none⟩,
 ⟨(some 8), .cvI .u64 (.t 7), none⟩,
 ⟨(some 9), .call f_math_bits_Len [(.t 8)], none⟩,
 ⟨(some 10), .call f_slices_pdqsortOrdered_int [(.t 5), (.c (.i .i64 0)), (.t 6), (.t 9)], none⟩])) }
def c_slices_Values_int_int_1 : Fun := { cin := [.id], cout := [], ntmps := 16, keep := false, res := [], body :=
 (.seq (.reg [⟨(some 5), .ld false 1 (.t 1), none⟩,
 ⟨(some 6), .len 1 (.t 5), none⟩,
 ⟨(some 7), .mv (.c (.i .i64 0)), none⟩])
 (.blk 0 (.loop (.seq (.reg [⟨(some 8), .bin .lss (.t 7) (.t 6), none⟩])
 (.seq (.cond (.t 8)
 .skip
 (.exit 0))
 (.seq (.blk 1 (.seq (.reg [⟨(some 9), .ia 1 (.t 5) (.t 7), none⟩,
 ⟨(some 10), .ld false 1 (.t 9), none⟩,
 ⟨(some 4), .mv (.t 10), none⟩])
 (.seq (.reg [⟨(some 11), .mv (.t 0), none⟩,
 ⟨(some 12), .mv (.t 4), none⟩,
 ⟨(some 13), .callX (.t 11) [(.t 12)], none⟩,
 ⟨(some 14), .un .not (.t 13), none⟩])
 (.cond (.t 14)
 .ret
 .skip))))
 (.reg [⟨(some 15), .bin .add (.t 7) (.c (.i .i64 1)), none⟩,
 ⟨(some 7), .mv (.t 15), none⟩]))))))) }
def c_slices_EqualFunc_api_Term_api_Term_api_Term_api_Term : Fun := { cin := [(.sl 6 (.agg [.id, .id, .id, .id, (.sl 1 .id), (.sl 6 (.agg [.id, .id, .id, .id, (.sl 1 .id), (.sl 6 (.agg [.id, .id, .id, .id, .id, .id]))]))])), (.sl 6 (.agg [.id, .id, .id, .id, (.sl 1 .id), (.sl 6 (.agg [.id, .id, .id, .id, (.sl 1 .id), (.sl 6 (.agg [.id, .id, .id, .id, .id, .id]))]))])), .id], cout := [.id], ntmps := 32, keep := false, res := [(6, none)], body :=
 (.seq (.reg [⟨(some 6), .mv (.c (.b false)), none⟩])
 (.seq (.seq (.reg [⟨(some 10), .mv (.t 0), none⟩,
 ⟨(some 11), .len 1 (.t 10), none⟩,
 ⟨(some 12), .mv (.t 1), none⟩,
 ⟨(some 13), .len 1 (.t 12), none⟩,
 ⟨(some 14), .bin .neq (.t 11) (.t 13), none⟩])
 (.cond (.t 14)
 (.seq (.reg [⟨(some 6), .mv (.c (.b false)), none⟩])
 .ret)
 .skip))
 (.seq (.seq (.reg [⟨(some 15), .mv (.t 0), none⟩,
 ⟨(some 16), .len 1 (.t 15), none⟩,
 ⟨(some 17), .mv (.c (.i .i64 0)), none⟩])
 (.blk 0 (.loop (.seq (.reg [⟨(some 18), .bin .lss (.t 17) (.t 16), none⟩])
 (.seq (.cond (.t 18)
 .skip
 (.exit 0))
 (.seq (.blk 1 (.seq (.reg [⟨(some 19), .mv (.t 17), none⟩,
 ⟨(some 20), .ia 6 (.t 15) (.t 17), none⟩,
 ⟨(some 21), .ld true 6 (.t 20), none⟩,
 ⟨(some 8), .alloc 91 [(.i .i64 0), (.i .u8 0), (.s []), (.i .i64 0), .nsl, .nsl], none⟩,
 ⟨(some 7), .mv (.t 19), none⟩,
 ⟨none, .st 6 (.t 8) (.t 21), none⟩])
 (.seq (.reg [⟨(some 22), .mv (.t 1), none⟩,
 ⟨(some 23), .mv (.t 7), none⟩,
 ⟨(some 24), .ia 6 (.t 22) (.t 23), none⟩,
 ⟨(some 25), .ld true 6 (.t 24), none⟩,
 ⟨(some 9), .alloc 91 [(.i .i64 0), (.i .u8 0), (.s []), (.i .i64 0), .nsl, .nsl], none⟩,
 ⟨none, .st 6 (.t 9) (.t 25), none⟩])
 (.seq (.reg [⟨(some 26), .mv (.t 2), none⟩,
 ⟨(some 27), .ld true 6 (.t 8), none⟩,
 ⟨(some 28), .ld true 6 (.t 9), none⟩,
 ⟨(some 29), .callX (.t 26) [(.t 27), (.t 28)], none⟩,
 ⟨(some 30), .un .not (.t 29), none⟩])
 (.cond (.t 30)
 (.seq (.reg [⟨(some 6), .mv (.c (.b false)), none⟩])
 .ret)
 .skip)))))
 (.reg [⟨(some 31), .bin .add (.t 17) (.c (.i .i64 1)), none⟩,
 ⟨(some 17), .mv (.t 31), none⟩])))))))
 (.seq (.reg [⟨(some 6), .mv (.c (.b true)), none⟩])
 .ret)))) }
def c_slices_AppendSeq_int_int : Fun := { cin := [], cout := [], ntmps := 13, keep := false, res := [(4, none)], body :=
 (.seq (.reg [⟨(some 2), .box 82 1 (.t 0), none⟩,
 ⟨(some 4), .mv (.c .nsl), none⟩])
 (.seq (.seq (.reg [⟨(some 6), .mv (.t 1), none⟩])
 (.blk 0 (.rf (.t 6) [7] (.reg [⟨(some 5), .mv (.t 7), none⟩])
 (.blk 1 (.reg [⟨(some 8), .ld false 1 (.t 2), none⟩,
 ⟨(some 9), .mv (.t 5), none⟩,
 ⟨(some 10), .bsl 1 [(.t 9)], none⟩,
 ⟨(some 11), .app 1 3 (.t 8) (.t 10), none⟩,
 ⟨none, .st 1 (.t 2) (.t 11), none⟩])))))
 (.seq (.reg [⟨(some 12), .ld false 1 (.t 2), none⟩,
 ⟨(some 4), .mv (.t 12), none⟩])
 .ret))) }
def c_slices_pdqsortOrdered_int : Fun := { cin := [(.sl 1 .id), .id, .id, .id], cout := [], ntmps := 134, keep := false, res := [], body :=
 (.seq (.reg [⟨(some 8), .mv (.c (.b true)), none⟩])
 (.seq (.reg [⟨(some 9), .mv (.c (.b true)), none⟩])
 (.blk 0 (.loop (.blk 1 (.seq (.reg [⟨(some 19), .mv (.t 2), none⟩,
 ⟨(some 20), .mv (.t 1), none⟩,
 ⟨(some 21), .bin .sub (.t 19) (.t 20), none⟩,
 ⟨(some 10), .mv (.t 21), none⟩])
 (.seq (.seq (.reg [⟨(some 22), .mv (.t 10), none⟩,
 ⟨(some 23), .bin .leq (.t 22) (.c (.i .i64 12)), none⟩])
 (.cond (.t 23)
 (.seq (.reg [⟨(some 24), .mv (.t 0), none⟩,
 ⟨(some 25), .mv (.t 1), none⟩,
 ⟨(some 26), .mv (.t 2), none⟩,
 ⟨(some 27), .call f_slices_insertionSortOrdered_int [(.t 24), (.t 25), (.t 26)], none⟩])
 .ret)
 .skip))
 (.seq (.seq (.reg [⟨(some 28), .mv (.t 3), none⟩,
 ⟨(some 29), .bin .eql (.t 28) (.c (.i .i64 0)), none⟩])
 (.cond (.t 29)
 (.seq (.reg [⟨(some 30), .mv (.t 0), none⟩,
 ⟨(some 31), .mv (.t 1), none⟩,
 ⟨(some 32), .mv (.t 2), none⟩,
 ⟨(some 33), .call f_slices_heapSortOrdered_int [(.t 30), (.t 31), (.t 32)], none⟩])
 .ret)
 .skip))
 (.seq (.seq (.reg [⟨(some 34), .mv (.t 8), none⟩,
 ⟨(some 35), .un .not (.t 34), none⟩])
 (.cond (.t 35)
 (.seq (.reg [⟨(some 36), .mv (.t 0), none⟩,
 ⟨(some 37), .mv (.t 1), none⟩,
 ⟨(some 38), .mv (.t 2), none⟩,
 ⟨(some 39), .call f_slices_breakPatternsOrdered_int [(.t 36), (.t 37), (.t 38)], none⟩])
 (.reg [⟨(some 40), .mv (.t 3), none⟩,
 ⟨(some 41), .bin .sub (.t 40) (.c (.i .i64 1)), none⟩,
 ⟨(some 3), .mv (.t 41), none⟩]))
 .skip))
 (.seq (.reg [⟨(some 43), .mv (.t 0), none⟩,
 ⟨(some 44), .mv (.t 1), none⟩,
 ⟨(some 45), .mv (.t 2), none⟩,
 ⟨(some 46), .call f_slices_choosePivotOrdered_int [(.t 43), (.t 44), (.t 45)], none⟩,
 ⟨(some 42), .mv (.t 46), none⟩,
 ⟨(some 47), .ext (.t 42) 0, none⟩,
 ⟨(some 48), .ext (.t 42) 1, none⟩,
 ⟨(some 11), .mv (.t 47), none⟩,
 ⟨(some 12), .mv (.t 48), none⟩])
 (.seq (.seq (.reg [⟨(some 49), .mv (.t 12), none⟩,
 ⟨(some 50), .bin .eql (.t 49) (.c (.i .i64 2)), none⟩])
 (.cond (.t 50)
 (.seq (.reg [⟨(some 51), .mv (.t 0), none⟩,
 ⟨(some 52), .mv (.t 1), none⟩,
 ⟨(some 53), .mv (.t 2), none⟩,
 ⟨(some 54), .call f_slices_reverseRangeOrdered_int [(.t 51), (.t 52), (.t 53)], none⟩])
 (.seq (.reg [⟨(some 55), .mv (.t 2), none⟩,
 ⟨(some 56), .bin .sub (.t 55) (.c (.i .i64 1)), none⟩,
 ⟨(some 57), .mv (.t 11), none⟩,
 ⟨(some 58), .mv (.t 1), none⟩,
 ⟨(some 59), .bin .sub (.t 57) (.t 58), none⟩,
 ⟨(some 60), .bin .sub (.t 56) (.t 59), none⟩,
 ⟨(some 11), .mv (.t 60), none⟩])
 (.reg [⟨(some 12), .mv (.c (.i .i64 1)), none⟩])))
 .skip))
 (.seq (.seq (.reg [⟨(some 61), .mv (.t 8), none⟩,
 ⟨(some 62), .mv (.t 61), none⟩,
 ⟨(some 63), .mv (.t 9), (some (62, true))⟩,
 ⟨(some 64), .pick (.t 62) (.t 63) (.c (.b false)), none⟩,
 ⟨(some 65), .mv (.t 64), none⟩,
 ⟨(some 66), .mv (.t 12), (some (65, true))⟩,
 ⟨(some 67), .bin .eql (.t 66) (.c (.i .i64 1)), (some (65, true))⟩,
 ⟨(some 68), .pick (.t 65) (.t 67) (.c (.b false)), none⟩])
 (.cond (.t 68)
 (.seq (.reg [⟨(some 69), .mv (.t 0), none⟩,
 ⟨(some 70), .mv (.t 1), none⟩,
 ⟨(some 71), .mv (.t 2), none⟩,
 ⟨(some 72), .call f_slices_partialInsertionSortOrdered_int [(.t 69), (.t 70), (.t 71)], none⟩])
 (.cond (.t 72)
 .ret
 .skip))
 .skip))
 (.seq (.seq (.regD [⟨(some 73), .mv (.t 1), none⟩,
 ⟨(some 74), .bin .gtr (.t 73) (.c (.i .i64 0)), none⟩,
 ⟨(some 75), .mv (.t 74), none⟩,
 ⟨(some 76), .mv (.t 0), (some (75, true))⟩,
 ⟨(some 77), .mv (.t 1), (some (75, true))⟩,
 ⟨(some 78), .bin .sub (.t 77) (.c (.i .i64 1)), (some (75, true))⟩,
 ⟨(some 79), .ia 1 (.t 76) (.t 78), (some (75, true))⟩,
 ⟨(some 80), .ld false 1 (.t 79), (some (75, true))⟩,
 ⟨(some 81), .mv (.t 0), (some (75, true))⟩,
 ⟨(some 82), .mv (.t 11), (some (75, true))⟩,
 ⟨(some 83), .ia 1 (.t 81) (.t 82), (some (75, true))⟩,
 ⟨(some 84), .ld false 1 (.t 83), (some (75, true))⟩,
 ⟨(some 85), .call f_cmp_Less_int [(.t 80), (.t 84)], (some (75, true))⟩,
 ⟨(some 86), .un .not (.t 85), (some (75, true))⟩,
 ⟨(some 87), .pick (.t 75) (.t 86) (.c (.b false)), none⟩] [])
 (.cond (.t 87)
 (.seq (.reg [⟨(some 88), .mv (.t 0), none⟩,
 ⟨(some 89), .mv (.t 1), none⟩,
 ⟨(some 90), .mv (.t 2), none⟩,
 ⟨(some 91), .mv (.t 11), none⟩,
 ⟨(some 92), .call f_slices_partitionEqualOrdered_int [(.t 88), (.t 89), (.t 90), (.t 91)], none⟩,
 ⟨(some 13), .mv (.t 92), none⟩])
 (.seq (.reg [⟨(some 93), .mv (.t 13), none⟩,
 ⟨(some 1), .mv (.t 93), none⟩])
 (.exit 1)))
 .skip))
 (.seq (.reg [⟨(some 95), .mv (.t 0), none⟩,
 ⟨(some 96), .mv (.t 1), none⟩,
 ⟨(some 97), .mv (.t 2), none⟩,
 ⟨(some 98), .mv (.t 11), none⟩,
 ⟨(some 99), .call f_slices_partitionOrdered_int [(.t 95), (.t 96), (.t 97), (.t 98)], none⟩,
 ⟨(some 94), .mv (.t 99), none⟩,
 ⟨(some 100), .ext (.t 94) 0, none⟩,
 ⟨(some 101), .ext (.t 94) 1, none⟩,
 ⟨(some 14), .mv (.t 100), none⟩,
 ⟨(some 15), .mv (.t 101), none⟩])
 (.seq (.reg [⟨(some 102), .mv (.t 15), none⟩,
 ⟨(some 9), .mv (.t 102), none⟩])
 (.seq (.reg [⟨(some 103), .mv (.t 14), none⟩,
 ⟨(some 104), .mv (.t 1), none⟩,
 ⟨(some 105), .bin .sub (.t 103) (.t 104), none⟩,
 ⟨(some 106), .mv (.t 2), none⟩,
 ⟨(some 107), .mv (.t 14), none⟩,
 ⟨(some 108), .bin .sub (.t 106) (.t 107), none⟩,
 ⟨(some 16), .mv (.t 105), none⟩,
 ⟨(some 17), .mv (.t 108), none⟩])
 (.seq (.reg [⟨(some 109), .mv (.t 10), none⟩,
 ⟨(some 110), .bin .quo (.t 109) (.c (.i .i64 8)), none⟩,
 ⟨(some 18), .mv (.t 110), none⟩])
 (.seq (.reg [⟨(some 111), .mv (.t 16), none⟩,
 ⟨(some 112), .mv (.t 17), none⟩,
 ⟨(some 113), .bin .lss (.t 111) (.t 112), none⟩])
 (.cond (.t 113)
 (.seq (.reg [⟨(some 114), .mv (.t 16), none⟩,
 ⟨(some 115), .mv (.t 18), none⟩,
 ⟨(some 116), .bin .geq (.t 114) (.t 115), none⟩,
 ⟨(some 8), .mv (.t 116), none⟩])
 (.seq (.reg [⟨(some 117), .mv (.t 0), none⟩,
 ⟨(some 118), .mv (.t 1), none⟩,
 ⟨(some 119), .mv (.t 14), none⟩,
 ⟨(some 120), .mv (.t 3), none⟩,
 ⟨(some 121), .call f_slices_pdqsortOrdered_int [(.t 117), (.t 118), (.t 119), (.t 120)], none⟩])
 (.reg [⟨(some 122), .mv (.t 14), none⟩,
 ⟨(some 123), .bin .add (.t 122) (.c (.i .i64 1)), none⟩,
 ⟨(some 1), .mv (.t 123), none⟩])))
 (.seq (.reg [⟨(some 124), .mv (.t 17), none⟩,
 ⟨(some 125), .mv (.t 18), none⟩,
 ⟨(some 126), .bin .geq (.t 124) (.t 125), none⟩,
 ⟨(some 8), .mv (.t 126), none⟩])
 (.seq (.reg [⟨(some 127), .mv (.t 0), none⟩,
 ⟨(some 128), .mv (.t 14), none⟩,
 ⟨(some 129), .bin .add (.t 128) (.c (.i .i64 1)), none⟩,
 ⟨(some 130), .mv (.t 2), none⟩,
 ⟨(some 131), .mv (.t 3), none⟩,
 ⟨(some 132), .call f_slices_pdqsortOrdered_int [(.t 127), (.t 129), (.t 130), (.t 131)], none⟩])
 (.reg [⟨(some 133), .mv (.t 14), none⟩,
 ⟨(some 2), .mv (.t 133), none⟩])))))))))))))))))))))) }
def c_slices_insertionSortOrdered_int : Fun := { cin := [(.sl 1 .id), .id, .id], cout := [], ntmps := 49, keep := false, res := [], body :=
 (.seq (.reg [⟨(some 8), .mv (.t 1), none⟩,
 ⟨(some 9), .bin .add (.t 8) (.c (.i .i64 1)), none⟩,
 ⟨(some 6), .mv (.t 9), none⟩])
 (.blk 0 (.loop (.seq (.seq (.reg [⟨(some 10), .mv (.t 6), none⟩,
 ⟨(some 11), .mv (.t 2), none⟩,
 ⟨(some 12), .bin .lss (.t 10) (.t 11), none⟩])
 (.cond (.t 12)
 .skip
 (.exit 0)))
 (.seq (.blk 1 (.seq (.reg [⟨(some 15), .mv (.t 6), none⟩,
 ⟨(some 7), .mv (.t 15), none⟩])
 (.blk 2 (.loop (.seq (.seq (.regD [⟨(some 16), .mv (.t 7), none⟩,
 ⟨(some 17), .mv (.t 1), none⟩,
 ⟨(some 18), .bin .gtr (.t 16) (.t 17), none⟩,
 ⟨(some 19), .mv (.t 18), none⟩,
 ⟨(some 20), .mv (.t 0), (some (19, true))⟩,
 ⟨(some 21), .mv (.t 7), (some (19, true))⟩,
 ⟨(some 22), .ia 1 (.t 20) (.t 21), (some (19, true))⟩,
 ⟨(some 23), .ld false 1 (.t 22), (some (19, true))⟩,
 ⟨(some 24), .mv (.t 0), (some (19, true))⟩,
 ⟨(some 25), .mv (.t 7), (some (19, true))⟩,
 ⟨(some 26), .bin .sub (.t 25) (.c (.i .i64 1)), (some (19, true))⟩,
 ⟨(some 27), .ia 1 (.t 24) (.t 26), (some (19, true))⟩,
 ⟨(some 28), .ld false 1 (.t 27), (some (19, true))⟩,
 ⟨(some 29), .call f_cmp_Less_int [(.t 23), (.t 28)], (some (19, true))⟩,
 ⟨(some 30), .pick (.t 19) (.t 29) (.c (.b false)), none⟩] [])
 (.cond (.t 30)
 .skip
 (.exit 2)))
 (.seq (.blk 3 (.seq (.thw 0)
 (.regD [⟨(some 33), .mv (.t 0), none⟩,
 ⟨(some 34), .mv (.t 7), none⟩,
 ⟨(some 35), .mv (.t 0), none⟩,
 ⟨(some 36), .mv (.t 7), none⟩,
 ⟨(some 37), .bin .sub (.t 36) (.c (.i .i64 1)), none⟩,
 ⟨(some 38), .mv (.t 0), none⟩,
 ⟨(some 39), .mv (.t 7), none⟩,
 ⟨(some 40), .bin .sub (.t 39) (.c (.i .i64 1)), none⟩,
 ⟨(some 41), .ia 1 (.t 38) (.t 40), none⟩,
 ⟨(some 42), .ld false 1 (.t 41), none⟩,
 ⟨(some 43), .mv (.t 0), none⟩,
 ⟨(some 44), .mv (.t 7), none⟩,
 ⟨(some 45), .ia 1 (.t 43) (.t 44), none⟩,
 ⟨(some 46), .ld false 1 (.t 45), none⟩,
 ⟨(some 47), .ia 1 (.t 33) (.t 34), none⟩,
 ⟨none, .st 1 (.t 47) (.t 42), none⟩,
 ⟨(some 48), .ia 1 (.t 35) (.t 37), none⟩,
 ⟨none, .st 1 (.t 48) (.t 46), none⟩] [])))
 (.reg [⟨(some 31), .mv (.t 7), none⟩,
 ⟨(some 32), .bin .sub (.t 31) (.c (.i .i64 1)), none⟩,
 ⟨(some 7), .mv (.t 32), none⟩])))))))
 (.reg [⟨(some 13), .mv (.t 6), none⟩,
 ⟨(some 14), .bin .add (.t 13) (.c (.i .i64 1)), none⟩,
 ⟨(some 6), .mv (.t 14), none⟩])))))) }
def c_slices_heapSortOrdered_int : Fun := { cin := [(.sl 1 .id), .id, .id], cout := [], ntmps := 56, keep := false, res := [], body :=
 (.seq (.reg [⟨(some 11), .mv (.t 1), none⟩,
 ⟨(some 6), .mv (.t 11), none⟩])
 (.seq (.reg [⟨(some 7), .mv (.c (.i .i64 0)), none⟩])
 (.seq (.reg [⟨(some 12), .mv (.t 2), none⟩,
 ⟨(some 13), .mv (.t 1), none⟩,
 ⟨(some 14), .bin .sub (.t 12) (.t 13), none⟩,
 ⟨(some 8), .mv (.t 14), none⟩])
 (.seq (.seq (.reg [⟨(some 15), .mv (.t 8), none⟩,
 ⟨(some 16), .bin .sub (.t 15) (.c (.i .i64 1)), none⟩,
 ⟨(some 17), .bin .quo (.t 16) (.c (.i .i64 2)), none⟩,
 ⟨(some 9), .mv (.t 17), none⟩])
 (.blk 0 (.loop (.seq (.seq (.reg [⟨(some 18), .mv (.t 9), none⟩,
 ⟨(some 19), .bin .geq (.t 18) (.c (.i .i64 0)), none⟩])
 (.cond (.t 19)
 .skip
 (.exit 0)))
 (.seq (.blk 1 (.reg [⟨(some 22), .mv (.t 0), none⟩,
 ⟨(some 23), .mv (.t 9), none⟩,
 ⟨(some 24), .mv (.t 8), none⟩,
 ⟨(some 25), .mv (.t 6), none⟩,
 ⟨(some 26), .call f_slices_siftDownOrdered_int [(.t 22), (.t 23), (.t 24), (.t 25)], none⟩]))
 (.reg [⟨(some 20), .mv (.t 9), none⟩,
 ⟨(some 21), .bin .sub (.t 20) (.c (.i .i64 1)), none⟩,
 ⟨(some 9), .mv (.t 21), none⟩]))))))
 (.seq (.reg [⟨(some 27), .mv (.t 8), none⟩,
 ⟨(some 28), .bin .sub (.t 27) (.c (.i .i64 1)), none⟩,
 ⟨(some 10), .mv (.t 28), none⟩])
 (.blk 2 (.loop (.seq (.seq (.reg [⟨(some 29), .mv (.t 10), none⟩,
 ⟨(some 30), .bin .geq (.t 29) (.c (.i .i64 0)), none⟩])
 (.cond (.t 30)
 .skip
 (.exit 2)))
 (.seq (.blk 3 (.seq (.seq (.thw 0)
 (.regD [⟨(some 33), .mv (.t 0), none⟩,
 ⟨(some 34), .mv (.t 6), none⟩,
 ⟨(some 35), .mv (.t 0), none⟩,
 ⟨(some 36), .mv (.t 6), none⟩,
 ⟨(some 37), .mv (.t 10), none⟩,
 ⟨(some 38), .bin .add (.t 36) (.t 37), none⟩,
 ⟨(some 39), .mv (.t 0), none⟩,
 ⟨(some 40), .mv (.t 6), none⟩,
 ⟨(some 41), .mv (.t 10), none⟩,
 ⟨(some 42), .bin .add (.t 40) (.t 41), none⟩,
 ⟨(some 43), .ia 1 (.t 39) (.t 42), none⟩,
 ⟨(some 44), .ld false 1 (.t 43), none⟩,
 ⟨(some 45), .mv (.t 0), none⟩,
 ⟨(some 46), .mv (.t 6), none⟩,
 ⟨(some 47), .ia 1 (.t 45) (.t 46), none⟩,
 ⟨(some 48), .ld false 1 (.t 47), none⟩,
 ⟨(some 49), .ia 1 (.t 33) (.t 34), none⟩,
 ⟨none, .st 1 (.t 49) (.t 44), none⟩,
 ⟨(some 50), .ia 1 (.t 35) (.t 38), none⟩,
 ⟨none, .st 1 (.t 50) (.t 48), none⟩] []))
 (.reg [⟨(some 51), .mv (.t 0), none⟩,
 ⟨(some 52), .mv (.t 7), none⟩,
 ⟨(some 53), .mv (.t 10), none⟩,
 ⟨(some 54), .mv (.t 6), none⟩,
 ⟨(some 55), .call f_slices_siftDownOrdered_int [(.t 51), (.t 52), (.t 53), (.t 54)], none⟩])))
 (.reg [⟨(some 31), .mv (.t 10), none⟩,
 ⟨(some 32), .bin .sub (.t 31) (.c (.i .i64 1)), none⟩,
 ⟨(some 10), .mv (.t 32), none⟩])))))))))) }
def c_slices_breakPatternsOrdered_int : Fun := { cin := [(.sl 1 .id), .id, .id], cout := [], ntmps := 65, keep := false, res := [], body :=
 (.seq (.reg [⟨(some 11), .mv (.t 2), none⟩,
 ⟨(some 12), .mv (.t 1), none⟩,
 ⟨(some 13), .bin .sub (.t 11) (.t 12), none⟩,
 ⟨(some 6), .mv (.t 13), none⟩])
 (.seq (.reg [⟨(some 14), .mv (.t 6), none⟩,
 ⟨(some 15), .bin .geq (.t 14) (.c (.i .i64 8)), none⟩])
 (.cond (.t 15)
 (.seq (.reg [⟨(some 16), .mv (.t 6), none⟩,
 ⟨(some 17), .cvI .u64 (.t 16), none⟩,
 ⟨(some 7), .alloc 313 [(.i .u64 0)], none⟩,
 ⟨none, .st 1 (.t 7) (.t 17), none⟩])
 (.seq (.reg [⟨(some 18), .mv (.t 6), none⟩,
 ⟨(some 19), .call f_slices_nextPowerOfTwo [(.t 18)], none⟩,
 ⟨(some 8), .mv (.t 19), none⟩])
 (.seq (.reg [⟨(some 20), .mv (.t 1), none⟩,
 ⟨(some 21), .mv (.t 6), none⟩,
 ⟨(some 22), .bin .quo (.t 21) (.c (.i .i64 4)), none⟩,
 ⟨(some 23), .bin .mul (.t 22) (.c (.i .i64 2)), none⟩,
 ⟨(some 24), .bin .add (.t 20) (.t 23), none⟩,
 ⟨(some 25), .bin .sub (.t 24) (.c (.i .i64 1)), none⟩,
 ⟨(some 9), .mv (.t 25), none⟩])
 (.blk 0 (.loop (.seq (.seq (.reg [⟨(some 26), .mv (.t 9), none⟩,
 ⟨(some 27), .mv (.t 1), none⟩,
 ⟨(some 28), .mv (.t 6), none⟩,
 ⟨(some 29), .bin .quo (.t 28) (.c (.i .i64 4)), none⟩,
 ⟨(some 30), .bin .mul (.t 29) (.c (.i .i64 2)), none⟩,
 ⟨(some 31), .bin .add (.t 27) (.t 30), none⟩,
 ⟨(some 32), .bin .add (.t 31) (.c (.i .i64 1)), none⟩,
 ⟨(some 33), .bin .leq (.t 26) (.t 32), none⟩])
 (.cond (.t 33)
 .skip
 (.exit 0)))
 (.seq (.blk 1 (.seq (.reg [⟨(some 36), .call f_slices_xorshift_Next [(.t 7)], none⟩,
 ⟨(some 37), .mv (.t 8), none⟩,
 ⟨(some 38), .bin .sub (.t 37) (.c (.i .u64 1)), none⟩,
 ⟨(some 39), .bin .and (.t 36) (.t 38), none⟩,
 ⟨(some 40), .cvI .i64 (.t 39), none⟩,
 ⟨(some 10), .mv (.t 40), none⟩])
 (.seq (.seq (.reg [⟨(some 41), .mv (.t 10), none⟩,
 ⟨(some 42), .mv (.t 6), none⟩,
 ⟨(some 43), .bin .geq (.t 41) (.t 42), none⟩])
 (.cond (.t 43)
 (.reg [⟨(some 44), .mv (.t 10), none⟩,
 ⟨(some 45), .mv (.t 6), none⟩,
 ⟨(some 46), .bin .sub (.t 44) (.t 45), none⟩,
 ⟨(some 10), .mv (.t 46), none⟩])
 .skip))
 (.seq (.thw 0)
 (.regD [⟨(some 47), .mv (.t 0), none⟩,
 ⟨(some 48), .mv (.t 9), none⟩,
 ⟨(some 49), .mv (.t 0), none⟩,
 ⟨(some 50), .mv (.t 1), none⟩,
 ⟨(some 51), .mv (.t 10), none⟩,
 ⟨(some 52), .bin .add (.t 50) (.t 51), none⟩,
 ⟨(some 53), .mv (.t 0), none⟩,
 ⟨(some 54), .mv (.t 1), none⟩,
 ⟨(some 55), .mv (.t 10), none⟩,
 ⟨(some 56), .bin .add (.t 54) (.t 55), none⟩,
 ⟨(some 57), .ia 1 (.t 53) (.t 56), none⟩,
 ⟨(some 58), .ld false 1 (.t 57), none⟩,
 ⟨(some 59), .mv (.t 0), none⟩,
 ⟨(some 60), .mv (.t 9), none⟩,
 ⟨(some 61), .ia 1 (.t 59) (.t 60), none⟩,
 ⟨(some 62), .ld false 1 (.t 61), none⟩,
 ⟨(some 63), .ia 1 (.t 47) (.t 48), none⟩,
 ⟨none, .st 1 (.t 63) (.t 58), none⟩,
 ⟨(some 64), .ia 1 (.t 49) (.t 52), none⟩,
 ⟨none, .st 1 (.t 64) (.t 62), none⟩] [])))))
 (.reg [⟨(some 34), .mv (.t 9), none⟩,
 ⟨(some 35), .bin .add (.t 34) (.c (.i .i64 1)), none⟩,
 ⟨(some 9), .mv (.t 35), none⟩]))))))))
 .skip))) }
def c_slices_choosePivotOrdered_int : Fun := { cin := [(.sl 1 .id), .id, .id], cout := [.id, .id], ntmps := 57, keep := false, res := [(6, none), (7, none)], body :=
 (.seq (.reg [⟨(some 6), .mv (.c (.i .i64 0)), none⟩,
 ⟨(some 7), .mv (.c (.i .i64 0)), none⟩])
 (.seq (.reg [⟨(some 13), .mv (.t 2), none⟩,
 ⟨(some 14), .mv (.t 1), none⟩,
 ⟨(some 15), .bin .sub (.t 13) (.t 14), none⟩,
 ⟨(some 8), .mv (.t 15), none⟩])
 (.seq (.reg [⟨(some 9), .alloc 3 [(.i .i64 0)], none⟩])
 (.seq (.reg [⟨(some 16), .mv (.t 1), none⟩,
 ⟨(some 17), .mv (.t 8), none⟩,
 ⟨(some 18), .bin .quo (.t 17) (.c (.i .i64 4)), none⟩,
 ⟨(some 19), .bin .mul (.t 18) (.c (.i .i64 1)), none⟩,
 ⟨(some 20), .bin .add (.t 16) (.t 19), none⟩,
 ⟨(some 10), .mv (.t 20), none⟩])
 (.seq (.reg [⟨(some 21), .mv (.t 1), none⟩,
 ⟨(some 22), .mv (.t 8), none⟩,
 ⟨(some 23), .bin .quo (.t 22) (.c (.i .i64 4)), none⟩,
 ⟨(some 24), .bin .mul (.t 23) (.c (.i .i64 2)), none⟩,
 ⟨(some 25), .bin .add (.t 21) (.t 24), none⟩,
 ⟨(some 11), .mv (.t 25), none⟩])
 (.seq (.reg [⟨(some 26), .mv (.t 1), none⟩,
 ⟨(some 27), .mv (.t 8), none⟩,
 ⟨(some 28), .bin .quo (.t 27) (.c (.i .i64 4)), none⟩,
 ⟨(some 29), .bin .mul (.t 28) (.c (.i .i64 3)), none⟩,
 ⟨(some 30), .bin .add (.t 26) (.t 29), none⟩,
 ⟨(some 12), .mv (.t 30), none⟩])
 (.seq (.seq (.reg [⟨(some 31), .mv (.t 8), none⟩,
 ⟨(some 32), .bin .geq (.t 31) (.c (.i .i64 8)), none⟩])
 (.cond (.t 32)
 (.seq (.seq (.reg [⟨(some 33), .mv (.t 8), none⟩,
 ⟨(some 34), .bin .geq (.t 33) (.c (.i .i64 50)), none⟩])
 (.cond (.t 34)
 (.seq (.reg [⟨(some 35), .mv (.t 0), none⟩,
 ⟨(some 36), .mv (.t 10), none⟩,
 ⟨(some 37), .call f_slices_medianAdjacentOrdered_int [(.t 35), (.t 36), (.t 9)], none⟩,
 ⟨(some 10), .mv (.t 37), none⟩])
 (.seq (.reg [⟨(some 38), .mv (.t 0), none⟩,
 ⟨(some 39), .mv (.t 11), none⟩,
 ⟨(some 40), .call f_slices_medianAdjacentOrdered_int [(.t 38), (.t 39), (.t 9)], none⟩,
 ⟨(some 11), .mv (.t 40), none⟩])
 (.reg [⟨(some 41), .mv (.t 0), none⟩,
 ⟨(some 42), .mv (.t 12), none⟩,
 ⟨(some 43), .call f_slices_medianAdjacentOrdered_int [(.t 41), (.t 42), (.t 9)], none⟩,
 ⟨(some 12), .mv (.t 43), none⟩])))
 .skip))
 (.reg [⟨(some 44), .mv (.t 0), none⟩,
 ⟨(some 45), .mv (.t 10), none⟩,
 ⟨(some 46), .mv (.t 11), none⟩,
 ⟨(some 47), .mv (.t 12), none⟩,
 ⟨(some 48), .call f_slices_medianOrdered_int [(.t 44), (.t 45), (.t 46), (.t 47), (.t 9)], none⟩,
 ⟨(some 11), .mv (.t 48), none⟩]))
 .skip))
 (.seq (.reg [⟨(some 49), .ld false 1 (.t 9), none⟩])
 (.blk 0 (.seq (.reg [⟨(some 52), .bin .eql (.t 49) (.c (.i .i64 0)), none⟩,
 ⟨(some 51), .mv (.t 52), none⟩])
 (.cond (.t 51)
 (.seq (.reg [⟨(some 53), .mv (.t 11), none⟩,
 ⟨(some 6), .mv (.t 53), none⟩,
 ⟨(some 7), .mv (.c (.i .i64 1)), none⟩])
 .ret)
 (.seq (.reg [⟨(some 55), .bin .eql (.t 49) (.c (.i .i64 12)), none⟩,
 ⟨(some 54), .mv (.t 55), none⟩])
 (.cond (.t 54)
 (.seq (.reg [⟨(some 56), .mv (.t 11), none⟩,
 ⟨(some 6), .mv (.t 56), none⟩,
 ⟨(some 7), .mv (.c (.i .i64 2)), none⟩])
 .ret)
 (.seq (.reg [⟨(some 50), .mv (.t 11), none⟩,
 ⟨(some 6), .mv (.t 50), none⟩,
 ⟨(some 7), .mv (.c (.i .i64 0)), none⟩])
 .ret)))))))))))))) }
def c_slices_reverseRangeOrdered_int : Fun := { cin := [(.sl 1 .id), .id, .id], cout := [], ntmps := 32, keep := false, res := [], body :=
 (.seq (.reg [⟨(some 8), .mv (.t 1), none⟩,
 ⟨(some 6), .mv (.t 8), none⟩])
 (.seq (.reg [⟨(some 9), .mv (.t 2), none⟩,
 ⟨(some 10), .bin .sub (.t 9) (.c (.i .i64 1)), none⟩,
 ⟨(some 7), .mv (.t 10), none⟩])
 (.blk 0 (.loop (.seq (.seq (.reg [⟨(some 11), .mv (.t 6), none⟩,
 ⟨(some 12), .mv (.t 7), none⟩,
 ⟨(some 13), .bin .lss (.t 11) (.t 12), none⟩])
 (.cond (.t 13)
 .skip
 (.exit 0)))
 (.blk 1 (.seq (.seq (.thw 0)
 (.regD [⟨(some 14), .mv (.t 0), none⟩,
 ⟨(some 15), .mv (.t 6), none⟩,
 ⟨(some 16), .mv (.t 0), none⟩,
 ⟨(some 17), .mv (.t 7), none⟩,
 ⟨(some 18), .mv (.t 0), none⟩,
 ⟨(some 19), .mv (.t 7), none⟩,
 ⟨(some 20), .ia 1 (.t 18) (.t 19), none⟩,
 ⟨(some 21), .ld false 1 (.t 20), none⟩,
 ⟨(some 22), .mv (.t 0), none⟩,
 ⟨(some 23), .mv (.t 6), none⟩,
 ⟨(some 24), .ia 1 (.t 22) (.t 23), none⟩,
 ⟨(some 25), .ld false 1 (.t 24), none⟩,
 ⟨(some 26), .ia 1 (.t 14) (.t 15), none⟩,
 ⟨none, .st 1 (.t 26) (.t 21), none⟩,
 ⟨(some 27), .ia 1 (.t 16) (.t 17), none⟩,
 ⟨none, .st 1 (.t 27) (.t 25), none⟩] []))
 (.seq (.reg [⟨(some 28), .mv (.t 6), none⟩,
 ⟨(some 29), .bin .add (.t 28) (.c (.i .i64 1)), none⟩,
 ⟨(some 6), .mv (.t 29), none⟩])
 (.reg [⟨(some 30), .mv (.t 7), none⟩,
 ⟨(some 31), .bin .sub (.t 30) (.c (.i .i64 1)), none⟩,
 ⟨(some 7), .mv (.t 31), none⟩]))))))))) }
def c_slices_partialInsertionSortOrdered_int : Fun := { cin := [(.sl 1 .id), .id, .id], cout := [.id], ntmps := 133, keep := false, res := [(6, none)], body :=
 (.seq (.reg [⟨(some 6), .mv (.c (.b false)), none⟩])
 (.seq (.reg [⟨(some 11), .mv (.t 1), none⟩,
 ⟨(some 12), .bin .add (.t 11) (.c (.i .i64 1)), none⟩,
 ⟨(some 7), .mv (.t 12), none⟩])
 (.seq (.seq (.reg [⟨(some 8), .mv (.c (.i .i64 0)), none⟩])
 (.blk 0 (.loop (.seq (.seq (.reg [⟨(some 13), .mv (.t 8), none⟩,
 ⟨(some 14), .bin .lss (.t 13) (.c (.i .i64 5)), none⟩])
 (.cond (.t 14)
 .skip
 (.exit 0)))
 (.seq (.blk 1 (.seq (.blk 2 (.loop (.seq (.seq (.regD [⟨(some 17), .mv (.t 7), none⟩,
 ⟨(some 18), .mv (.t 2), none⟩,
 ⟨(some 19), .bin .lss (.t 17) (.t 18), none⟩,
 ⟨(some 20), .mv (.t 19), none⟩,
 ⟨(some 21), .mv (.t 0), (some (20, true))⟩,
 ⟨(some 22), .mv (.t 7), (some (20, true))⟩,
 ⟨(some 23), .ia 1 (.t 21) (.t 22), (some (20, true))⟩,
 ⟨(some 24), .ld false 1 (.t 23), (some (20, true))⟩,
 ⟨(some 25), .mv (.t 0), (some (20, true))⟩,
 ⟨(some 26), .mv (.t 7), (some (20, true))⟩,
 ⟨(some 27), .bin .sub (.t 26) (.c (.i .i64 1)), (some (20, true))⟩,
 ⟨(some 28), .ia 1 (.t 25) (.t 27), (some (20, true))⟩,
 ⟨(some 29), .ld false 1 (.t 28), (some (20, true))⟩,
 ⟨(some 30), .call f_cmp_Less_int [(.t 24), (.t 29)], (some (20, true))⟩,
 ⟨(some 31), .un .not (.t 30), (some (20, true))⟩,
 ⟨(some 32), .pick (.t 20) (.t 31) (.c (.b false)), none⟩] [])
 (.cond (.t 32)
 .skip
 (.exit 2)))
 (.blk 3 (.reg [⟨(some 33), .mv (.t 7), none⟩,
 ⟨(some 34), .bin .add (.t 33) (.c (.i .i64 1)), none⟩,
 ⟨(some 7), .mv (.t 34), none⟩])))))
 (.seq (.seq (.reg [⟨(some 35), .mv (.t 7), none⟩,
 ⟨(some 36), .mv (.t 2), none⟩,
 ⟨(some 37), .bin .eql (.t 35) (.t 36), none⟩])
 (.cond (.t 37)
 (.seq (.reg [⟨(some 6), .mv (.c (.b true)), none⟩])
 .ret)
 .skip))
 (.seq (.seq (.reg [⟨(some 38), .mv (.t 2), none⟩,
 ⟨(some 39), .mv (.t 1), none⟩,
 ⟨(some 40), .bin .sub (.t 38) (.t 39), none⟩,
 ⟨(some 41), .bin .lss (.t 40) (.c (.i .i64 50)), none⟩])
 (.cond (.t 41)
 (.seq (.reg [⟨(some 6), .mv (.c (.b false)), none⟩])
 .ret)
 .skip))
 (.seq (.seq (.thw 0)
 (.regD [⟨(some 42), .mv (.t 0), none⟩,
 ⟨(some 43), .mv (.t 7), none⟩,
 ⟨(some 44), .mv (.t 0), none⟩,
 ⟨(some 45), .mv (.t 7), none⟩,
 ⟨(some 46), .bin .sub (.t 45) (.c (.i .i64 1)), none⟩,
 ⟨(some 47), .mv (.t 0), none⟩,
 ⟨(some 48), .mv (.t 7), none⟩,
 ⟨(some 49), .bin .sub (.t 48) (.c (.i .i64 1)), none⟩,
 ⟨(some 50), .ia 1 (.t 47) (.t 49), none⟩,
 ⟨(some 51), .ld false 1 (.t 50), none⟩,
 ⟨(some 52), .mv (.t 0), none⟩,
 ⟨(some 53), .mv (.t 7), none⟩,
 ⟨(some 54), .ia 1 (.t 52) (.t 53), none⟩,
 ⟨(some 55), .ld false 1 (.t 54), none⟩,
 ⟨(some 56), .ia 1 (.t 42) (.t 43), none⟩,
 ⟨none, .st 1 (.t 56) (.t 51), none⟩,
 ⟨(some 57), .ia 1 (.t 44) (.t 46), none⟩,
 ⟨none, .st 1 (.t 57) (.t 55), none⟩] []))
 (.seq (.seq (.reg [⟨(some 58), .mv (.t 7), none⟩,
 ⟨(some 59), .mv (.t 1), none⟩,
 ⟨(some 60), .bin .sub (.t 58) (.t 59), none⟩,
 ⟨(some 61), .bin .geq (.t 60) (.c (.i .i64 2)), none⟩])
 (.cond (.t 61)
 (.seq (.reg [⟨(some 62), .mv (.t 7), none⟩,
 ⟨(some 63), .bin .sub (.t 62) (.c (.i .i64 1)), none⟩,
 ⟨(some 9), .mv (.t 63), none⟩])
 (.blk 4 (.loop (.seq (.seq (.reg [⟨(some 64), .mv (.t 9), none⟩,
 ⟨(some 65), .bin .geq (.t 64) (.c (.i .i64 1)), none⟩])
 (.cond (.t 65)
 .skip
 (.exit 4)))
 (.seq (.blk 5 (.seq (.seq (.regD [⟨(some 68), .mv (.t 0), none⟩,
 ⟨(some 69), .mv (.t 9), none⟩,
 ⟨(some 70), .ia 1 (.t 68) (.t 69), none⟩,
 ⟨(some 71), .ld false 1 (.t 70), none⟩,
 ⟨(some 72), .mv (.t 0), none⟩,
 ⟨(some 73), .mv (.t 9), none⟩,
 ⟨(some 74), .bin .sub (.t 73) (.c (.i .i64 1)), none⟩,
 ⟨(some 75), .ia 1 (.t 72) (.t 74), none⟩,
 ⟨(some 76), .ld false 1 (.t 75), none⟩,
 ⟨(some 77), .call f_cmp_Less_int [(.t 71), (.t 76)], none⟩,
 ⟨(some 78), .un .not (.t 77), none⟩] [])
 (.cond (.t 78)
 (.exit 4)
 .skip))
 (.seq (.thw 0)
 (.regD [⟨(some 79), .mv (.t 0), none⟩,
 ⟨(some 80), .mv (.t 9), none⟩,
 ⟨(some 81), .mv (.t 0), none⟩,
 ⟨(some 82), .mv (.t 9), none⟩,
 ⟨(some 83), .bin .sub (.t 82) (.c (.i .i64 1)), none⟩,
 ⟨(some 84), .mv (.t 0), none⟩,
 ⟨(some 85), .mv (.t 9), none⟩,
 ⟨(some 86), .bin .sub (.t 85) (.c (.i .i64 1)), none⟩,
 ⟨(some 87), .ia 1 (.t 84) (.t 86), none⟩,
 ⟨(some 88), .ld false 1 (.t 87), none⟩,
 ⟨(some 89), .mv (.t 0), none⟩,
 ⟨(some 90), .mv (.t 9), none⟩,
 ⟨(some 91), .ia 1 (.t 89) (.t 90), none⟩,
 ⟨(some 92), .ld false 1 (.t 91), none⟩,
 ⟨(some 93), .ia 1 (.t 79) (.t 80), none⟩,
 ⟨none, .st 1 (.t 93) (.t 88), none⟩,
 ⟨(some 94), .ia 1 (.t 81) (.t 83), none⟩,
 ⟨none, .st 1 (.t 94) (.t 92), none⟩] []))))
 (.reg [⟨(some 66), .mv (.t 9), none⟩,
 ⟨(some 67), .bin .sub (.t 66) (.c (.i .i64 1)), none⟩,
 ⟨(some 9), .mv (.t 67), none⟩]))))))
 .skip))
 (.seq (.reg [⟨(some 95), .mv (.t 2), none⟩,
 ⟨(some 96), .mv (.t 7), none⟩,
 ⟨(some 97), .bin .sub (.t 95) (.t 96), none⟩,
 ⟨(some 98), .bin .geq (.t 97) (.c (.i .i64 2)), none⟩])
 (.cond (.t 98)
 (.seq (.reg [⟨(some 99), .mv (.t 7), none⟩,
 ⟨(some 100), .bin .add (.t 99) (.c (.i .i64 1)), none⟩,
 ⟨(some 10), .mv (.t 100), none⟩])
 (.blk 6 (.loop (.seq (.seq (.reg [⟨(some 101), .mv (.t 10), none⟩,
 ⟨(some 102), .mv (.t 2), none⟩,
 ⟨(some 103), .bin .lss (.t 101) (.t 102), none⟩])
 (.cond (.t 103)
 .skip
 (.exit 6)))
 (.seq (.blk 7 (.seq (.seq (.regD [⟨(some 106), .mv (.t 0), none⟩,
 ⟨(some 107), .mv (.t 10), none⟩,
 ⟨(some 108), .ia 1 (.t 106) (.t 107), none⟩,
 ⟨(some 109), .ld false 1 (.t 108), none⟩,
 ⟨(some 110), .mv (.t 0), none⟩,
 ⟨(some 111), .mv (.t 10), none⟩,
 ⟨(some 112), .bin .sub (.t 111) (.c (.i .i64 1)), none⟩,
 ⟨(some 113), .ia 1 (.t 110) (.t 112), none⟩,
 ⟨(some 114), .ld false 1 (.t 113), none⟩,
 ⟨(some 115), .call f_cmp_Less_int [(.t 109), (.t 114)], none⟩,
 ⟨(some 116), .un .not (.t 115), none⟩] [])
 (.cond (.t 116)
 (.exit 6)
 .skip))
 (.seq (.thw 0)
 (.regD [⟨(some 117), .mv (.t 0), none⟩,
 ⟨(some 118), .mv (.t 10), none⟩,
 ⟨(some 119), .mv (.t 0), none⟩,
 ⟨(some 120), .mv (.t 10), none⟩,
 ⟨(some 121), .bin .sub (.t 120) (.c (.i .i64 1)), none⟩,
 ⟨(some 122), .mv (.t 0), none⟩,
 ⟨(some 123), .mv (.t 10), none⟩,
 ⟨(some 124), .bin .sub (.t 123) (.c (.i .i64 1)), none⟩,
 ⟨(some 125), .ia 1 (.t 122) (.t 124), none⟩,
 ⟨(some 126), .ld false 1 (.t 125), none⟩,
 ⟨(some 127), .mv (.t 0), none⟩,
 ⟨(some 128), .mv (.t 10), none⟩,
 ⟨(some 129), .ia 1 (.t 127) (.t 128), none⟩,
 ⟨(some 130), .ld false 1 (.t 129), none⟩,
 ⟨(some 131), .ia 1 (.t 117) (.t 118), none⟩,
 ⟨none, .st 1 (.t 131) (.t 126), none⟩,
 ⟨(some 132), .ia 1 (.t 119) (.t 121), none⟩,
 ⟨none, .st 1 (.t 132) (.t 130), none⟩] []))))
 (.reg [⟨(some 104), .mv (.t 10), none⟩,
 ⟨(some 105), .bin .add (.t 104) (.c (.i .i64 1)), none⟩,
 ⟨(some 10), .mv (.t 105), none⟩]))))))
 .skip))))))))
 (.reg [⟨(some 15), .mv (.t 8), none⟩,
 ⟨(some 16), .bin .add (.t 15) (.c (.i .i64 1)), none⟩,
 ⟨(some 8), .mv (.t 16), none⟩]))))))
 (.seq (.reg [⟨(some 6), .mv (.c (.b false)), none⟩])
 .ret)))) }
def c_cmp_Less_int : Fun := { cin := [.id, .id], cout := [.id], ntmps := 17, keep := false, res := [(4, none)], body :=
 (.seq (.reg [⟨(some 4), .mv (.c (.b false)), none⟩])
 (.seq (.reg [⟨(some 5), .mv (.t 0), none⟩,
 ⟨(some 6), .call f_cmp_isNaN_int [(.t 5)], none⟩,
 ⟨(some 7), .mv (.t 6), none⟩,
 ⟨(some 8), .mv (.t 1), (some (7, true))⟩,
 ⟨(some 9), .call f_cmp_isNaN_int [(.t 8)], (some (7, true))⟩,
 ⟨(some 10), .un .not (.t 9), (some (7, true))⟩,
 ⟨(some 11), .pick (.t 7) (.t 10) (.c (.b false)), none⟩,
 ⟨(some 12), .mv (.t 11), none⟩,
 ⟨(some 13), .mv (.t 0), (some (12, false))⟩,
 ⟨(some 14), .mv (.t 1), (some (12, false))⟩,
 ⟨(some 15), .bin .lss (.t 13) (.t 14), (some (12, false))⟩,
 ⟨(some 16), .pick (.t 12) (.c (.b true)) (.t 15), none⟩,
 ⟨(some 4), .mv (.t 16), none⟩])
 .ret)) }
def c_slices_partitionEqualOrdered_int : Fun := { cin := [(.sl 1 .id), .id, .id, .id], cout := [.id], ntmps := 84, keep := false, res := [(8, none)], body :=
 (.seq (.reg [⟨(some 8), .mv (.c (.i .i64 0)), none⟩])
 (.seq (.seq (.thw 0)
 (.regD [⟨(some 11), .mv (.t 0), none⟩,
 ⟨(some 12), .mv (.t 1), none⟩,
 ⟨(some 13), .mv (.t 0), none⟩,
 ⟨(some 14), .mv (.t 3), none⟩,
 ⟨(some 15), .mv (.t 0), none⟩,
 ⟨(some 16), .mv (.t 3), none⟩,
 ⟨(some 17), .ia 1 (.t 15) (.t 16), none⟩,
 ⟨(some 18), .ld false 1 (.t 17), none⟩,
 ⟨(some 19), .mv (.t 0), none⟩,
 ⟨(some 20), .mv (.t 1), none⟩,
 ⟨(some 21), .ia 1 (.t 19) (.t 20), none⟩,
 ⟨(some 22), .ld false 1 (.t 21), none⟩,
 ⟨(some 23), .ia 1 (.t 11) (.t 12), none⟩,
 ⟨none, .st 1 (.t 23) (.t 18), none⟩,
 ⟨(some 24), .ia 1 (.t 13) (.t 14), none⟩,
 ⟨none, .st 1 (.t 24) (.t 22), none⟩] []))
 (.seq (.reg [⟨(some 25), .mv (.t 1), none⟩,
 ⟨(some 26), .bin .add (.t 25) (.c (.i .i64 1)), none⟩,
 ⟨(some 27), .mv (.t 2), none⟩,
 ⟨(some 28), .bin .sub (.t 27) (.c (.i .i64 1)), none⟩,
 ⟨(some 9), .mv (.t 26), none⟩,
 ⟨(some 10), .mv (.t 28), none⟩])
 (.seq (.blk 0 (.loop (.blk 1 (.seq (.blk 2 (.loop (.seq (.seq (.regD [⟨(some 29), .mv (.t 9), none⟩,
 ⟨(some 30), .mv (.t 10), none⟩,
 ⟨(some 31), .bin .leq (.t 29) (.t 30), none⟩,
 ⟨(some 32), .mv (.t 31), none⟩,
 ⟨(some 33), .mv (.t 0), (some (32, true))⟩,
 ⟨(some 34), .mv (.t 1), (some (32, true))⟩,
 ⟨(some 35), .ia 1 (.t 33) (.t 34), (some (32, true))⟩,
 ⟨(some 36), .ld false 1 (.t 35), (some (32, true))⟩,
 ⟨(some 37), .mv (.t 0), (some (32, true))⟩,
 ⟨(some 38), .mv (.t 9), (some (32, true))⟩,
 ⟨(some 39), .ia 1 (.t 37) (.t 38), (some (32, true))⟩,
 ⟨(some 40), .ld false 1 (.t 39), (some (32, true))⟩,
 ⟨(some 41), .call f_cmp_Less_int [(.t 36), (.t 40)], (some (32, true))⟩,
 ⟨(some 42), .un .not (.t 41), (some (32, true))⟩,
 ⟨(some 43), .pick (.t 32) (.t 42) (.c (.b false)), none⟩] [])
 (.cond (.t 43)
 .skip
 (.exit 2)))
 (.blk 3 (.reg [⟨(some 44), .mv (.t 9), none⟩,
 ⟨(some 45), .bin .add (.t 44) (.c (.i .i64 1)), none⟩,
 ⟨(some 9), .mv (.t 45), none⟩])))))
 (.seq (.blk 4 (.loop (.seq (.seq (.regD [⟨(some 46), .mv (.t 9), none⟩,
 ⟨(some 47), .mv (.t 10), none⟩,
 ⟨(some 48), .bin .leq (.t 46) (.t 47), none⟩,
 ⟨(some 49), .mv (.t 48), none⟩,
 ⟨(some 50), .mv (.t 0), (some (49, true))⟩,
 ⟨(some 51), .mv (.t 1), (some (49, true))⟩,
 ⟨(some 52), .ia 1 (.t 50) (.t 51), (some (49, true))⟩,
 ⟨(some 53), .ld false 1 (.t 52), (some (49, true))⟩,
 ⟨(some 54), .mv (.t 0), (some (49, true))⟩,
 ⟨(some 55), .mv (.t 10), (some (49, true))⟩,
 ⟨(some 56), .ia 1 (.t 54) (.t 55), (some (49, true))⟩,
 ⟨(some 57), .ld false 1 (.t 56), (some (49, true))⟩,
 ⟨(some 58), .call f_cmp_Less_int [(.t 53), (.t 57)], (some (49, true))⟩,
 ⟨(some 59), .pick (.t 49) (.t 58) (.c (.b false)), none⟩] [])
 (.cond (.t 59)
 .skip
 (.exit 4)))
 (.blk 5 (.reg [⟨(some 60), .mv (.t 10), none⟩,
 ⟨(some 61), .bin .sub (.t 60) (.c (.i .i64 1)), none⟩,
 ⟨(some 10), .mv (.t 61), none⟩])))))
 (.seq (.seq (.reg [⟨(some 62), .mv (.t 9), none⟩,
 ⟨(some 63), .mv (.t 10), none⟩,
 ⟨(some 64), .bin .gtr (.t 62) (.t 63), none⟩])
 (.cond (.t 64)
 (.exit 0)
 .skip))
 (.seq (.seq (.thw 0)
 (.regD [⟨(some 65), .mv (.t 0), none⟩,
 ⟨(some 66), .mv (.t 9), none⟩,
 ⟨(some 67), .mv (.t 0), none⟩,
 ⟨(some 68), .mv (.t 10), none⟩,
 ⟨(some 69), .mv (.t 0), none⟩,
 ⟨(some 70), .mv (.t 10), none⟩,
 ⟨(some 71), .ia 1 (.t 69) (.t 70), none⟩,
 ⟨(some 72), .ld false 1 (.t 71), none⟩,
 ⟨(some 73), .mv (.t 0), none⟩,
 ⟨(some 74), .mv (.t 9), none⟩,
 ⟨(some 75), .ia 1 (.t 73) (.t 74), none⟩,
 ⟨(some 76), .ld false 1 (.t 75), none⟩,
 ⟨(some 77), .ia 1 (.t 65) (.t 66), none⟩,
 ⟨none, .st 1 (.t 77) (.t 72), none⟩,
 ⟨(some 78), .ia 1 (.t 67) (.t 68), none⟩,
 ⟨none, .st 1 (.t 78) (.t 76), none⟩] []))
 (.seq (.reg [⟨(some 79), .mv (.t 9), none⟩,
 ⟨(some 80), .bin .add (.t 79) (.c (.i .i64 1)), none⟩,
 ⟨(some 9), .mv (.t 80), none⟩])
 (.reg [⟨(some 81), .mv (.t 10), none⟩,
 ⟨(some 82), .bin .sub (.t 81) (.c (.i .i64 1)), none⟩,
 ⟨(some 10), .mv (.t 82), none⟩])))))))))
 (.seq (.reg [⟨(some 83), .mv (.t 9), none⟩,
 ⟨(some 8), .mv (.t 83), none⟩])
 .ret))))) }
def c_slices_partitionOrdered_int : Fun := { cin := [(.sl 1 .id), .id, .id, .id], cout := [.id, .id], ntmps := 168, keep := false, res := [(8, none), (9, none)], body :=
 (.seq (.reg [⟨(some 8), .mv (.c (.i .i64 0)), none⟩,
 ⟨(some 9), .mv (.c (.b false)), none⟩])
 (.seq (.seq (.thw 0)
 (.regD [⟨(some 12), .mv (.t 0), none⟩,
 ⟨(some 13), .mv (.t 1), none⟩,
 ⟨(some 14), .mv (.t 0), none⟩,
 ⟨(some 15), .mv (.t 3), none⟩,
 ⟨(some 16), .mv (.t 0), none⟩,
 ⟨(some 17), .mv (.t 3), none⟩,
 ⟨(some 18), .ia 1 (.t 16) (.t 17), none⟩,
 ⟨(some 19), .ld false 1 (.t 18), none⟩,
 ⟨(some 20), .mv (.t 0), none⟩,
 ⟨(some 21), .mv (.t 1), none⟩,
 ⟨(some 22), .ia 1 (.t 20) (.t 21), none⟩,
 ⟨(some 23), .ld false 1 (.t 22), none⟩,
 ⟨(some 24), .ia 1 (.t 12) (.t 13), none⟩,
 ⟨none, .st 1 (.t 24) (.t 19), none⟩,
 ⟨(some 25), .ia 1 (.t 14) (.t 15), none⟩,
 ⟨none, .st 1 (.t 25) (.t 23), none⟩] []))
 (.seq (.reg [⟨(some 26), .mv (.t 1), none⟩,
 ⟨(some 27), .bin .add (.t 26) (.c (.i .i64 1)), none⟩,
 ⟨(some 28), .mv (.t 2), none⟩,
 ⟨(some 29), .bin .sub (.t 28) (.c (.i .i64 1)), none⟩,
 ⟨(some 10), .mv (.t 27), none⟩,
 ⟨(some 11), .mv (.t 29), none⟩])
 (.seq (.blk 0 (.loop (.seq (.seq (.regD [⟨(some 30), .mv (.t 10), none⟩,
 ⟨(some 31), .mv (.t 11), none⟩,
 ⟨(some 32), .bin .leq (.t 30) (.t 31), none⟩,
 ⟨(some 33), .mv (.t 32), none⟩,
 ⟨(some 34), .mv (.t 0), (some (33, true))⟩,
 ⟨(some 35), .mv (.t 10), (some (33, true))⟩,
 ⟨(some 36), .ia 1 (.t 34) (.t 35), (some (33, true))⟩,
 ⟨(some 37), .ld false 1 (.t 36), (some (33, true))⟩,
 ⟨(some 38), .mv (.t 0), (some (33, true))⟩,
 ⟨(some 39), .mv (.t 1), (some (33, true))⟩,
 ⟨(some 40), .ia 1 (.t 38) (.t 39), (some (33, true))⟩,
 ⟨(some 41), .ld false 1 (.t 40), (some (33, true))⟩,
 ⟨(some 42), .call f_cmp_Less_int [(.t 37), (.t 41)], (some (33, true))⟩,
 ⟨(some 43), .pick (.t 33) (.t 42) (.c (.b false)), none⟩] [])
 (.cond (.t 43)
 .skip
 (.exit 0)))
 (.blk 1 (.reg [⟨(some 44), .mv (.t 10), none⟩,
 ⟨(some 45), .bin .add (.t 44) (.c (.i .i64 1)), none⟩,
 ⟨(some 10), .mv (.t 45), none⟩])))))
 (.seq (.blk 2 (.loop (.seq (.seq (.regD [⟨(some 46), .mv (.t 10), none⟩,
 ⟨(some 47), .mv (.t 11), none⟩,
 ⟨(some 48), .bin .leq (.t 46) (.t 47), none⟩,
 ⟨(some 49), .mv (.t 48), none⟩,
 ⟨(some 50), .mv (.t 0), (some (49, true))⟩,
 ⟨(some 51), .mv (.t 11), (some (49, true))⟩,
 ⟨(some 52), .ia 1 (.t 50) (.t 51), (some (49, true))⟩,
 ⟨(some 53), .ld false 1 (.t 52), (some (49, true))⟩,
 ⟨(some 54), .mv (.t 0), (some (49, true))⟩,
 ⟨(some 55), .mv (.t 1), (some (49, true))⟩,
 ⟨(some 56), .ia 1 (.t 54) (.t 55), (some (49, true))⟩,
 ⟨(some 57), .ld false 1 (.t 56), (some (49, true))⟩,
 ⟨(some 58), .call f_cmp_Less_int [(.t 53), (.t 57)], (some (49, true))⟩,
 ⟨(some 59), .un .not (.t 58), (some (49, true))⟩,
 ⟨(some 60), .pick (.t 49) (.t 59) (.c (.b false)), none⟩] [])
 (.cond (.t 60)
 .skip
 (.exit 2)))
 (.blk 3 (.reg [⟨(some 61), .mv (.t 11), none⟩,
 ⟨(some 62), .bin .sub (.t 61) (.c (.i .i64 1)), none⟩,
 ⟨(some 11), .mv (.t 62), none⟩])))))
 (.seq (.seq (.reg [⟨(some 63), .mv (.t 10), none⟩,
 ⟨(some 64), .mv (.t 11), none⟩,
 ⟨(some 65), .bin .gtr (.t 63) (.t 64), none⟩])
 (.cond (.t 65)
 (.seq (.seq (.thw 0)
 (.regD [⟨(some 66), .mv (.t 0), none⟩,
 ⟨(some 67), .mv (.t 11), none⟩,
 ⟨(some 68), .mv (.t 0), none⟩,
 ⟨(some 69), .mv (.t 1), none⟩,
 ⟨(some 70), .mv (.t 0), none⟩,
 ⟨(some 71), .mv (.t 1), none⟩,
 ⟨(some 72), .ia 1 (.t 70) (.t 71), none⟩,
 ⟨(some 73), .ld false 1 (.t 72), none⟩,
 ⟨(some 74), .mv (.t 0), none⟩,
 ⟨(some 75), .mv (.t 11), none⟩,
 ⟨(some 76), .ia 1 (.t 74) (.t 75), none⟩,
 ⟨(some 77), .ld false 1 (.t 76), none⟩,
 ⟨(some 78), .ia 1 (.t 66) (.t 67), none⟩,
 ⟨none, .st 1 (.t 78) (.t 73), none⟩,
 ⟨(some 79), .ia 1 (.t 68) (.t 69), none⟩,
 ⟨none, .st 1 (.t 79) (.t 77), none⟩] []))
 (.seq (.reg [⟨(some 80), .mv (.t 11), none⟩,
 ⟨(some 8), .mv (.t 80), none⟩,
 ⟨(some 9), .mv (.c (.b true)), none⟩])
 .ret))
 .skip))
 (.seq (.seq (.thw 0)
 (.regD [⟨(some 81), .mv (.t 0), none⟩,
 ⟨(some 82), .mv (.t 10), none⟩,
 ⟨(some 83), .mv (.t 0), none⟩,
 ⟨(some 84), .mv (.t 11), none⟩,
 ⟨(some 85), .mv (.t 0), none⟩,
 ⟨(some 86), .mv (.t 11), none⟩,
 ⟨(some 87), .ia 1 (.t 85) (.t 86), none⟩,
 ⟨(some 88), .ld false 1 (.t 87), none⟩,
 ⟨(some 89), .mv (.t 0), none⟩,
 ⟨(some 90), .mv (.t 10), none⟩,
 ⟨(some 91), .ia 1 (.t 89) (.t 90), none⟩,
 ⟨(some 92), .ld false 1 (.t 91), none⟩,
 ⟨(some 93), .ia 1 (.t 81) (.t 82), none⟩,
 ⟨none, .st 1 (.t 93) (.t 88), none⟩,
 ⟨(some 94), .ia 1 (.t 83) (.t 84), none⟩,
 ⟨none, .st 1 (.t 94) (.t 92), none⟩] []))
 (.seq (.reg [⟨(some 95), .mv (.t 10), none⟩,
 ⟨(some 96), .bin .add (.t 95) (.c (.i .i64 1)), none⟩,
 ⟨(some 10), .mv (.t 96), none⟩])
 (.seq (.reg [⟨(some 97), .mv (.t 11), none⟩,
 ⟨(some 98), .bin .sub (.t 97) (.c (.i .i64 1)), none⟩,
 ⟨(some 11), .mv (.t 98), none⟩])
 (.seq (.blk 4 (.loop (.blk 5 (.seq (.blk 6 (.loop (.seq (.seq (.regD [⟨(some 99), .mv (.t 10), none⟩,
 ⟨(some 100), .mv (.t 11), none⟩,
 ⟨(some 101), .bin .leq (.t 99) (.t 100), none⟩,
 ⟨(some 102), .mv (.t 101), none⟩,
 ⟨(some 103), .mv (.t 0), (some (102, true))⟩,
 ⟨(some 104), .mv (.t 10), (some (102, true))⟩,
 ⟨(some 105), .ia 1 (.t 103) (.t 104), (some (102, true))⟩,
 ⟨(some 106), .ld false 1 (.t 105), (some (102, true))⟩,
 ⟨(some 107), .mv (.t 0), (some (102, true))⟩,
 ⟨(some 108), .mv (.t 1), (some (102, true))⟩,
 ⟨(some 109), .ia 1 (.t 107) (.t 108), (some (102, true))⟩,
 ⟨(some 110), .ld false 1 (.t 109), (some (102, true))⟩,
 ⟨(some 111), .call f_cmp_Less_int [(.t 106), (.t 110)], (some (102, true))⟩,
 ⟨(some 112), .pick (.t 102) (.t 111) (.c (.b false)), none⟩] [])
 (.cond (.t 112)
 .skip
 (.exit 6)))
 (.blk 7 (.reg [⟨(some 113), .mv (.t 10), none⟩,
 ⟨(some 114), .bin .add (.t 113) (.c (.i .i64 1)), none⟩,
 ⟨(some 10), .mv (.t 114), none⟩])))))
 (.seq (.blk 8 (.loop (.seq (.seq (.regD [⟨(some 115), .mv (.t 10), none⟩,
 ⟨(some 116), .mv (.t 11), none⟩,
 ⟨(some 117), .bin .leq (.t 115) (.t 116), none⟩,
 ⟨(some 118), .mv (.t 117), none⟩,
 ⟨(some 119), .mv (.t 0), (some (118, true))⟩,
 ⟨(some 120), .mv (.t 11), (some (118, true))⟩,
 ⟨(some 121), .ia 1 (.t 119) (.t 120), (some (118, true))⟩,
 ⟨(some 122), .ld false 1 (.t 121), (some (118, true))⟩,
 ⟨(some 123), .mv (.t 0), (some (118, true))⟩,
 ⟨(some 124), .mv (.t 1), (some (118, true))⟩,
 ⟨(some 125), .ia 1 (.t 123) (.t 124), (some (118, true))⟩,
 ⟨(some 126), .ld false 1 (.t 125), (some (118, true))⟩,
 ⟨(some 127), .call f_cmp_Less_int [(.t 122), (.t 126)], (some (118, true))⟩,
 ⟨(some 128), .un .not (.t 127), (some (118, true))⟩,
 ⟨(some 129), .pick (.t 118) (.t 128) (.c (.b false)), none⟩] [])
 (.cond (.t 129)
 .skip
 (.exit 8)))
 (.blk 9 (.reg [⟨(some 130), .mv (.t 11), none⟩,
 ⟨(some 131), .bin .sub (.t 130) (.c (.i .i64 1)), none⟩,
 ⟨(some 11), .mv (.t 131), none⟩])))))
 (.seq (.seq (.reg [⟨(some 132), .mv (.t 10), none⟩,
 ⟨(some 133), .mv (.t 11), none⟩,
 ⟨(some 134), .bin .gtr (.t 132) (.t 133), none⟩])
 (.cond (.t 134)
 (.exit 4)
 .skip))
 (.seq (.seq (.thw 0)
 (.regD [⟨(some 135), .mv (.t 0), none⟩,
 ⟨(some 136), .mv (.t 10), none⟩,
 ⟨(some 137), .mv (.t 0), none⟩,
 ⟨(some 138), .mv (.t 11), none⟩,
 ⟨(some 139), .mv (.t 0), none⟩,
 ⟨(some 140), .mv (.t 11), none⟩,
 ⟨(some 141), .ia 1 (.t 139) (.t 140), none⟩,
 ⟨(some 142), .ld false 1 (.t 141), none⟩,
 ⟨(some 143), .mv (.t 0), none⟩,
 ⟨(some 144), .mv (.t 10), none⟩,
 ⟨(some 145), .ia 1 (.t 143) (.t 144), none⟩,
 ⟨(some 146), .ld false 1 (.t 145), none⟩,
 ⟨(some 147), .ia 1 (.t 135) (.t 136), none⟩,
 ⟨none, .st 1 (.t 147) (.t 142), none⟩,
 ⟨(some 148), .ia 1 (.t 137) (.t 138), none⟩,
 ⟨none, .st 1 (.t 148) (.t 146), none⟩] []))
 (.seq (.reg [⟨(some 149), .mv (.t 10), none⟩,
 ⟨(some 150), .bin .add (.t 149) (.c (.i .i64 1)), none⟩,
 ⟨(some 10), .mv (.t 150), none⟩])
 (.reg [⟨(some 151), .mv (.t 11), none⟩,
 ⟨(some 152), .bin .sub (.t 151) (.c (.i .i64 1)), none⟩,
 ⟨(some 11), .mv (.t 152), none⟩])))))))))
 (.seq (.seq (.thw 0)
 (.regD [⟨(some 153), .mv (.t 0), none⟩,
 ⟨(some 154), .mv (.t 11), none⟩,
 ⟨(some 155), .mv (.t 0), none⟩,
 ⟨(some 156), .mv (.t 1), none⟩,
 ⟨(some 157), .mv (.t 0), none⟩,
 ⟨(some 158), .mv (.t 1), none⟩,
 ⟨(some 159), .ia 1 (.t 157) (.t 158), none⟩,
 ⟨(some 160), .ld false 1 (.t 159), none⟩,
 ⟨(some 161), .mv (.t 0), none⟩,
 ⟨(some 162), .mv (.t 11), none⟩,
 ⟨(some 163), .ia 1 (.t 161) (.t 162), none⟩,
 ⟨(some 164), .ld false 1 (.t 163), none⟩,
 ⟨(some 165), .ia 1 (.t 153) (.t 154), none⟩,
 ⟨none, .st 1 (.t 165) (.t 160), none⟩,
 ⟨(some 166), .ia 1 (.t 155) (.t 156), none⟩,
 ⟨none, .st 1 (.t 166) (.t 164), none⟩] []))
 (.seq (.reg [⟨(some 167), .mv (.t 11), none⟩,
 ⟨(some 8), .mv (.t 167), none⟩,
 ⟨(some 9), .mv (.c (.b false)), none⟩])
 .ret)))))))))))) }
def c_slices_siftDownOrdered_int : Fun := { cin := [(.sl 1 .id), .id, .id, .id], cout := [], ntmps := 76, keep := false, res := [], body :=
 (.seq (.reg [⟨(some 10), .mv (.t 1), none⟩,
 ⟨(some 8), .mv (.t 10), none⟩])
 (.blk 0 (.loop (.blk 1 (.seq (.reg [⟨(some 11), .mv (.t 8), none⟩,
 ⟨(some 12), .bin .mul (.c (.i .i64 2)) (.t 11), none⟩,
 ⟨(some 13), .bin .add (.t 12) (.c (.i .i64 1)), none⟩,
 ⟨(some 9), .mv (.t 13), none⟩])
 (.seq (.seq (.reg [⟨(some 14), .mv (.t 9), none⟩,
 ⟨(some 15), .mv (.t 2), none⟩,
 ⟨(some 16), .bin .geq (.t 14) (.t 15), none⟩])
 (.cond (.t 16)
 (.exit 0)
 .skip))
 (.seq (.seq (.regD [⟨(some 17), .mv (.t 9), none⟩,
 ⟨(some 18), .bin .add (.t 17) (.c (.i .i64 1)), none⟩,
 ⟨(some 19), .mv (.t 2), none⟩,
 ⟨(some 20), .bin .lss (.t 18) (.t 19), none⟩,
 ⟨(some 21), .mv (.t 20), none⟩,
 ⟨(some 22), .mv (.t 0), (some (21, true))⟩,
 ⟨(some 23), .mv (.t 3), (some (21, true))⟩,
 ⟨(some 24), .mv (.t 9), (some (21, true))⟩,
 ⟨(some 25), .bin .add (.t 23) (.t 24), (some (21, true))⟩,
 ⟨(some 26), .ia 1 (.t 22) (.t 25), (some (21, true))⟩,
 ⟨(some 27), .ld false 1 (.t 26), (some (21, true))⟩,
 ⟨(some 28), .mv (.t 0), (some (21, true))⟩,
 ⟨(some 29), .mv (.t 3), (some (21, true))⟩,
 ⟨(some 30), .mv (.t 9), (some (21, true))⟩,
 ⟨(some 31), .bin .add (.t 29) (.t 30), (some (21, true))⟩,
 ⟨(some 32), .bin .add (.t 31) (.c (.i .i64 1)), (some (21, true))⟩,
 ⟨(some 33), .ia 1 (.t 28) (.t 32), (some (21, true))⟩,
 ⟨(some 34), .ld false 1 (.t 33), (some (21, true))⟩,
 ⟨(some 35), .call f_cmp_Less_int [(.t 27), (.t 34)], (some (21, true))⟩,
 ⟨(some 36), .pick (.t 21) (.t 35) (.c (.b false)), none⟩] [])
 (.cond (.t 36)
 (.reg [⟨(some 37), .mv (.t 9), none⟩,
 ⟨(some 38), .bin .add (.t 37) (.c (.i .i64 1)), none⟩,
 ⟨(some 9), .mv (.t 38), none⟩])
 .skip))
 (.seq (.seq (.regD [⟨(some 39), .mv (.t 0), none⟩,
 ⟨(some 40), .mv (.t 3), none⟩,
 ⟨(some 41), .mv (.t 8), none⟩,
 ⟨(some 42), .bin .add (.t 40) (.t 41), none⟩,
 ⟨(some 43), .ia 1 (.t 39) (.t 42), none⟩,
 ⟨(some 44), .ld false 1 (.t 43), none⟩,
 ⟨(some 45), .mv (.t 0), none⟩,
 ⟨(some 46), .mv (.t 3), none⟩,
 ⟨(some 47), .mv (.t 9), none⟩,
 ⟨(some 48), .bin .add (.t 46) (.t 47), none⟩,
 ⟨(some 49), .ia 1 (.t 45) (.t 48), none⟩,
 ⟨(some 50), .ld false 1 (.t 49), none⟩,
 ⟨(some 51), .call f_cmp_Less_int [(.t 44), (.t 50)], none⟩,
 ⟨(some 52), .un .not (.t 51), none⟩] [])
 (.cond (.t 52)
 .ret
 .skip))
 (.seq (.seq (.thw 0)
 (.regD [⟨(some 53), .mv (.t 0), none⟩,
 ⟨(some 54), .mv (.t 3), none⟩,
 ⟨(some 55), .mv (.t 8), none⟩,
 ⟨(some 56), .bin .add (.t 54) (.t 55), none⟩,
 ⟨(some 57), .mv (.t 0), none⟩,
 ⟨(some 58), .mv (.t 3), none⟩,
 ⟨(some 59), .mv (.t 9), none⟩,
 ⟨(some 60), .bin .add (.t 58) (.t 59), none⟩,
 ⟨(some 61), .mv (.t 0), none⟩,
 ⟨(some 62), .mv (.t 3), none⟩,
 ⟨(some 63), .mv (.t 9), none⟩,
 ⟨(some 64), .bin .add (.t 62) (.t 63), none⟩,
 ⟨(some 65), .ia 1 (.t 61) (.t 64), none⟩,
 ⟨(some 66), .ld false 1 (.t 65), none⟩,
 ⟨(some 67), .mv (.t 0), none⟩,
 ⟨(some 68), .mv (.t 3), none⟩,
 ⟨(some 69), .mv (.t 8), none⟩,
 ⟨(some 70), .bin .add (.t 68) (.t 69), none⟩,
 ⟨(some 71), .ia 1 (.t 67) (.t 70), none⟩,
 ⟨(some 72), .ld false 1 (.t 71), none⟩,
 ⟨(some 73), .ia 1 (.t 53) (.t 56), none⟩,
 ⟨none, .st 1 (.t 73) (.t 66), none⟩,
 ⟨(some 74), .ia 1 (.t 57) (.t 60), none⟩,
 ⟨none, .st 1 (.t 74) (.t 72), none⟩] []))
 (.reg [⟨(some 75), .mv (.t 9), none⟩,
 ⟨(some 8), .mv (.t 75), none⟩])))))))))) }
def c_slices_medianAdjacentOrdered_int : Fun := { cin := [(.sl 1 .id), .id, .id], cout := [.id], ntmps := 15, keep := false, res := [(6, none)], body :=
 (.seq (.reg [⟨(some 6), .mv (.c (.i .i64 0)), none⟩])
 (.seq (.reg [⟨(some 7), .mv (.t 0), none⟩,
 ⟨(some 8), .mv (.t 1), none⟩,
 ⟨(some 9), .bin .sub (.t 8) (.c (.i .i64 1)), none⟩,
 ⟨(some 10), .mv (.t 1), none⟩,
 ⟨(some 11), .mv (.t 1), none⟩,
 ⟨(some 12), .bin .add (.t 11) (.c (.i .i64 1)), none⟩,
 ⟨(some 13), .mv (.t 2), none⟩,
 ⟨(some 14), .call f_slices_medianOrdered_int [(.t 7), (.t 9), (.t 10), (.t 12), (.t 13)], none⟩,
 ⟨(some 6), .mv (.t 14), none⟩])
 .ret)) }
def c_slices_medianOrdered_int : Fun := { cin := [(.sl 1 .id), .id, .id, .id, .id], cout := [.id], ntmps := 36, keep := false, res := [(10, none)], body :=
 (.seq (.reg [⟨(some 10), .mv (.c (.i .i64 0)), none⟩])
 (.seq (.reg [⟨(some 12), .mv (.t 0), none⟩,
 ⟨(some 13), .mv (.t 1), none⟩,
 ⟨(some 14), .mv (.t 2), none⟩,
 ⟨(some 15), .mv (.t 4), none⟩,
 ⟨(some 16), .call f_slices_order2Ordered_int [(.t 12), (.t 13), (.t 14), (.t 15)], none⟩,
 ⟨(some 11), .mv (.t 16), none⟩,
 ⟨(some 17), .ext (.t 11) 0, none⟩,
 ⟨(some 18), .ext (.t 11) 1, none⟩,
 ⟨(some 1), .mv (.t 17), none⟩,
 ⟨(some 2), .mv (.t 18), none⟩])
 (.seq (.reg [⟨(some 20), .mv (.t 0), none⟩,
 ⟨(some 21), .mv (.t 2), none⟩,
 ⟨(some 22), .mv (.t 3), none⟩,
 ⟨(some 23), .mv (.t 4), none⟩,
 ⟨(some 24), .call f_slices_order2Ordered_int [(.t 20), (.t 21), (.t 22), (.t 23)], none⟩,
 ⟨(some 19), .mv (.t 24), none⟩,
 ⟨(some 25), .ext (.t 19) 0, none⟩,
 ⟨(some 26), .ext (.t 19) 1, none⟩,
 ⟨(some 2), .mv (.t 25), none⟩,
 ⟨(some 3), .mv (.t 26), none⟩])
 (.seq (.reg [⟨(some 28), .mv (.t 0), none⟩,
 ⟨(some 29), .mv (.t 1), none⟩,
 ⟨(some 30), .mv (.t 2), none⟩,
 ⟨(some 31), .mv (.t 4), none⟩,
 ⟨(some 32), .call f_slices_order2Ordered_int [(.t 28), (.t 29), (.t 30), (.t 31)], none⟩,
 ⟨(some 27), .mv (.t 32), none⟩,
 ⟨(some 33), .ext (.t 27) 0, none⟩,
 ⟨(some 34), .ext (.t 27) 1, none⟩,
 ⟨(some 1), .mv (.t 33), none⟩,
 ⟨(some 2), .mv (.t 34), none⟩])
 (.seq (.reg [⟨(some 35), .mv (.t 2), none⟩,
 ⟨(some 10), .mv (.t 35), none⟩])
 .ret))))) }
def c_cmp_isNaN_int : Fun := { cin := [.id], cout := [.id], ntmps := 6, keep := false, res := [(2, none)], body :=
 (.seq (.reg [⟨(some 2), .mv (.c (.b false)), none⟩])
 (.seq (.reg [⟨(some 3), .mv (.t 0), none⟩,
 ⟨(some 4), .mv (.t 0), none⟩,
 ⟨(some 5), .bin .neq (.t 3) (.t 4), none⟩,
 ⟨(some 2), .mv (.t 5), none⟩])
 .ret)) }
def c_slices_order2Ordered_int : Fun := { cin := [(.sl 1 .id), .id, .id, .id], cout := [.id, .id], ntmps := 28, keep := false, res := [(8, none), (9, none)], body :=
 (.seq (.reg [⟨(some 8), .mv (.c (.i .i64 0)), none⟩,
 ⟨(some 9), .mv (.c (.i .i64 0)), none⟩])
 (.seq (.seq (.regD [⟨(some 10), .mv (.t 0), none⟩,
 ⟨(some 11), .mv (.t 2), none⟩,
 ⟨(some 12), .ia 1 (.t 10) (.t 11), none⟩,
 ⟨(some 13), .ld false 1 (.t 12), none⟩,
 ⟨(some 14), .mv (.t 0), none⟩,
 ⟨(some 15), .mv (.t 1), none⟩,
 ⟨(some 16), .ia 1 (.t 14) (.t 15), none⟩,
 ⟨(some 17), .ld false 1 (.t 16), none⟩,
 ⟨(some 18), .call f_cmp_Less_int [(.t 13), (.t 17)], none⟩] [])
 (.cond (.t 18)
 (.seq (.reg [⟨(some 19), .mv (.t 3), none⟩,
 ⟨(some 20), .nck (.t 19), none⟩,
 ⟨(some 21), .ld false 1 (.t 20), none⟩,
 ⟨(some 22), .bin .add (.t 21) (.c (.i .i64 1)), none⟩,
 ⟨(some 23), .nck (.t 19), none⟩,
 ⟨none, .st 1 (.t 23) (.t 22), none⟩])
 (.seq (.reg [⟨(some 24), .mv (.t 2), none⟩,
 ⟨(some 25), .mv (.t 1), none⟩,
 ⟨(some 8), .mv (.t 24), none⟩,
 ⟨(some 9), .mv (.t 25), none⟩])
 .ret))
 .skip))
 (.seq (.reg [⟨(some 26), .mv (.t 1), none⟩,
 ⟨(some 27), .mv (.t 2), none⟩,
 ⟨(some 8), .mv (.t 26), none⟩,
 ⟨(some 9), .mv (.t 27), none⟩])
 .ret))) }
def c_ftree_Tree_Copy : Fun := { cin := [.id, (.sl 1 .id), (.sl 1 .id)], cout := [], ntmps := 16, keep := false, res := [], body :=
 (.seq (.reg [⟨(some 6), .mv (.t 0), none⟩,
 ⟨(some 7), .mv (.t 1), none⟩,
 ⟨(some 8), .mv (.t 2), none⟩,
 ⟨(some 9), .call f_ftree_Tree_apart [(.t 6), (.t 7), (.t 8)], none⟩])
 (.cond (.t 9)
 (.reg [⟨(some 10), .mv (.t 0), none⟩,
 ⟨(some 11), .mv (.t 2), none⟩,
 ⟨(some 12), .mv (.t 0), none⟩,
 ⟨(some 13), .mv (.t 1), none⟩,
 ⟨(some 14), .call f_ftree_Tree_at [(.t 12), (.t 13)], none⟩,
 ⟨(some 15), .call f_ftree_Tree_set [(.t 10), (.t 11), (.t 14)], none⟩])
 .skip)) }
def c_ftree_Tree_Del : Fun := { cin := [.id, (.sl 1 .id)], cout := [], ntmps := 22, keep := false, res := [], body :=
 (.seq (.seq (.reg [⟨(some 4), .mv (.t 1), none⟩,
 ⟨(some 5), .len 1 (.t 4), none⟩,
 ⟨(some 6), .bin .eql (.t 5) (.c (.i .i64 0)), none⟩,
 ⟨(some 7), .mv (.t 6), none⟩,
 ⟨(some 8), .mv (.t 0), (some (7, false))⟩,
 ⟨(some 9), .mv (.t 1), (some (7, false))⟩,
 ⟨(some 10), .call f_ftree_Tree_Kind [(.t 8), (.t 9)], (some (7, false))⟩,
 ⟨(some 11), .bin .eql (.t 10) (.c (.i .u8 0)), (some (7, false))⟩,
 ⟨(some 12), .pick (.t 7) (.c (.b true)) (.t 11), none⟩])
 (.cond (.t 12)
 .ret
 .skip))
 (.reg [⟨(some 13), .mv (.t 0), none⟩,
 ⟨(some 14), .mv (.t 0), none⟩,
 ⟨(some 15), .nck (.t 14), none⟩,
 ⟨(some 16), .fa 0 (.t 15), none⟩,
 ⟨(some 17), .ld true 4 (.t 16), none⟩,
 ⟨(some 18), .mv (.t 1), none⟩,
 ⟨(some 19), .call f_ftree_change [(.t 17), (.t 18), (.c (.fn f_ftree_Tree_Del_1 []))], none⟩,
 ⟨(some 20), .nck (.t 13), none⟩,
 ⟨(some 21), .fa 0 (.t 20), none⟩,
 ⟨none, .st 4 (.t 21) (.t 19), none⟩])) }
def c_ftree_Tree_Empty : Fun := { cin := [.id, (.sl 1 .id)], cout := [.id], ntmps := 18, keep := false, res := [(4, none)], body :=
 (.seq (.reg [⟨(some 4), .mv (.c (.b false)), none⟩])
 (.seq (.reg [⟨(some 6), .mv (.t 0), none⟩,
 ⟨(some 7), .mv (.t 1), none⟩,
 ⟨(some 8), .call f_ftree_Tree_at [(.t 6), (.t 7)], none⟩,
 ⟨(some 5), .alloc 25 [(.i .u8 0), (.s []), .nsl, .nsl], none⟩,
 ⟨none, .st 4 (.t 5) (.t 8), none⟩])
 (.seq (.reg [⟨(some 9), .fa 0 (.t 5), none⟩,
 ⟨(some 10), .ld false 1 (.t 9), none⟩,
 ⟨(some 11), .bin .eql (.t 10) (.c (.i .u8 2)), none⟩,
 ⟨(some 12), .mv (.t 11), none⟩,
 ⟨(some 13), .fa 2 (.t 5), (some (12, true))⟩,
 ⟨(some 14), .ld false 1 (.t 13), (some (12, true))⟩,
 ⟨(some 15), .len 1 (.t 14), (some (12, true))⟩,
 ⟨(some 16), .bin .eql (.t 15) (.c (.i .i64 0)), (some (12, true))⟩,
 ⟨(some 17), .pick (.t 12) (.t 16) (.c (.b false)), none⟩,
 ⟨(some 4), .mv (.t 17), none⟩])
 .ret))) }
def c_ftree_Tree_Move : Fun := { cin := [.id, (.sl 1 .id), (.sl 1 .id)], cout := [], ntmps := 21, keep := false, res := [], body :=
 (.seq (.reg [⟨(some 7), .mv (.t 0), none⟩,
 ⟨(some 8), .mv (.t 1), none⟩,
 ⟨(some 9), .mv (.t 2), none⟩,
 ⟨(some 10), .call f_ftree_Tree_apart [(.t 7), (.t 8), (.t 9)], none⟩])
 (.cond (.t 10)
 (.seq (.reg [⟨(some 11), .mv (.t 0), none⟩,
 ⟨(some 12), .mv (.t 1), none⟩,
 ⟨(some 13), .call f_ftree_Tree_at [(.t 11), (.t 12)], none⟩,
 ⟨(some 6), .alloc 25 [(.i .u8 0), (.s []), .nsl, .nsl], none⟩,
 ⟨none, .st 4 (.t 6) (.t 13), none⟩])
 (.seq (.reg [⟨(some 14), .mv (.t 0), none⟩,
 ⟨(some 15), .mv (.t 2), none⟩,
 ⟨(some 16), .ld true 4 (.t 6), none⟩,
 ⟨(some 17), .call f_ftree_Tree_set [(.t 14), (.t 15), (.t 16)], none⟩])
 (.reg [⟨(some 18), .mv (.t 0), none⟩,
 ⟨(some 19), .mv (.t 1), none⟩,
 ⟨(some 20), .call f_ftree_Tree_Del [(.t 18), (.t 19)], none⟩])))
 .skip)) }
def c_ftree_Tree_Put : Fun := { cin := [.id, (.sl 1 .id), (.agg [.id, .id, (.sl 1 .id), (.sl 4 (.agg [.id, .id, (.sl 1 .id), (.sl 4 (.agg [.id, .id, (.sl 1 .id), (.sl 4 .id)]))]))])], cout := [], ntmps := 18, keep := false, res := [], body :=
 (.seq (.reg [⟨(some 5), .box 25 4 (.t 2), none⟩])
 (.seq (.reg [⟨(some 6), .ld true 4 (.t 5), none⟩,
 ⟨(some 7), .call f_ftree_Well [(.t 6)], none⟩,
 ⟨(some 8), .mv (.t 7), none⟩,
 ⟨(some 9), .mv (.t 0), (some (8, true))⟩,
 ⟨(some 10), .mv (.t 1), (some (8, true))⟩,
 ⟨(some 11), .call f_ftree_Tree_open [(.t 9), (.t 10)], (some (8, true))⟩,
 ⟨(some 12), .pick (.t 8) (.t 11) (.c (.b false)), none⟩])
 (.cond (.t 12)
 (.reg [⟨(some 13), .mv (.t 0), none⟩,
 ⟨(some 14), .mv (.t 1), none⟩,
 ⟨(some 15), .ld true 4 (.t 5), none⟩,
 ⟨(some 16), .call f_ftree_own [(.t 15)], none⟩,
 ⟨(some 17), .call f_ftree_Tree_set [(.t 13), (.t 14), (.t 16)], none⟩])
 .skip))) }
def c_ftree_Tree_Text : Fun := { cin := [.id, (.sl 1 .id)], cout := [.id], ntmps := 9, keep := false, res := [(4, none)], body :=
 (.seq (.reg [⟨(some 4), .mv (.c (.s [])), none⟩])
 (.seq (.reg [⟨(some 5), .mv (.t 0), none⟩,
 ⟨(some 6), .mv (.t 1), none⟩,
 ⟨(some 7), .call f_ftree_Tree_at [(.t 5), (.t 6)], none⟩,
 ⟨(some 8), .fld false 1 1 (.t 7), none⟩,
 ⟨(some 4), .mv (.t 8), none⟩])
 .ret)) }
def c_ftree_Tree_apart : Fun := { cin := [.id, (.sl 1 .id), (.sl 1 .id)], cout := [.id], ntmps := 33, keep := false, res := [(6, none)], body :=
 (.seq (.reg [⟨(some 6), .mv (.c (.b false)), none⟩])
 (.seq (.reg [⟨(some 7), .mv (.t 1), none⟩,
 ⟨(some 8), .len 1 (.t 7), none⟩,
 ⟨(some 9), .bin .gtr (.t 8) (.c (.i .i64 0)), none⟩,
 ⟨(some 10), .mv (.t 9), none⟩,
 ⟨(some 11), .mv (.t 0), (some (10, true))⟩,
 ⟨(some 12), .mv (.t 1), (some (10, true))⟩,
 ⟨(some 13), .call f_ftree_Tree_Kind [(.t 11), (.t 12)], (some (10, true))⟩,
 ⟨(some 14), .bin .neq (.t 13) (.c (.i .u8 0)), (some (10, true))⟩,
 ⟨(some 15), .pick (.t 10) (.t 14) (.c (.b false)), none⟩,
 ⟨(some 16), .mv (.t 15), none⟩,
 ⟨(some 17), .mv (.t 0), (some (16, true))⟩,
 ⟨(some 18), .mv (.t 2), (some (16, true))⟩,
 ⟨(some 19), .call f_ftree_Tree_open [(.t 17), (.t 18)], (some (16, true))⟩,
 ⟨(some 20), .pick (.t 16) (.t 19) (.c (.b false)), none⟩,
 ⟨(some 21), .mv (.t 20), none⟩,
 ⟨(some 22), .mv (.t 1), (some (21, true))⟩,
 ⟨(some 23), .mv (.t 2), (some (21, true))⟩,
 ⟨(some 24), .call f_ftree_begins [(.t 22), (.t 23)], (some (21, true))⟩,
 ⟨(some 25), .un .not (.t 24), (some (21, true))⟩,
 ⟨(some 26), .pick (.t 21) (.t 25) (.c (.b false)), none⟩,
 ⟨(some 27), .mv (.t 26), none⟩,
 ⟨(some 28), .mv (.t 2), (some (27, true))⟩,
 ⟨(some 29), .mv (.t 1), (some (27, true))⟩,
 ⟨(some 30), .call f_ftree_begins [(.t 28), (.t 29)], (some (27, true))⟩,
 ⟨(some 31), .un .not (.t 30), (some (27, true))⟩,
 ⟨(some 32), .pick (.t 27) (.t 31) (.c (.b false)), none⟩,
 ⟨(some 6), .mv (.t 32), none⟩])
 .ret)) }
def c_ftree_Tree_set : Fun := { cin := [.id, (.sl 1 .id), (.agg [.id, .id, (.sl 1 .id), (.sl 4 (.agg [.id, .id, (.sl 1 .id), (.sl 4 (.agg [.id, .id, (.sl 1 .id), (.sl 4 .id)]))]))])], cout := [], ntmps := 23, keep := false, res := [], body :=
 (.seq (.reg [⟨(some 5), .box 25 4 (.t 2), none⟩])
 (.seq (.reg [⟨(some 7), .mv (.t 1), none⟩,
 ⟨(some 8), .mv (.t 1), none⟩,
 ⟨(some 9), .len 1 (.t 8), none⟩,
 ⟨(some 10), .bin .sub (.t 9) (.c (.i .i64 1)), none⟩,
 ⟨(some 11), .ia 1 (.t 7) (.t 10), none⟩,
 ⟨(some 12), .ld false 1 (.t 11), none⟩,
 ⟨(some 6), .alloc 9 [(.s [])], none⟩,
 ⟨none, .st 1 (.t 6) (.t 12), none⟩])
 (.reg [⟨(some 13), .mv (.t 0), none⟩,
 ⟨(some 14), .mv (.t 0), none⟩,
 ⟨(some 15), .nck (.t 14), none⟩,
 ⟨(some 16), .fa 0 (.t 15), none⟩,
 ⟨(some 17), .ld true 4 (.t 16), none⟩,
 ⟨(some 18), .mv (.t 1), none⟩,
 ⟨(some 19), .mkf f_ftree_Tree_set_1 [(.t 5), (.t 6)], none⟩,
 ⟨(some 20), .call f_ftree_change [(.t 17), (.t 18), (.t 19)], none⟩,
 ⟨(some 21), .nck (.t 13), none⟩,
 ⟨(some 22), .fa 0 (.t 21), none⟩,
 ⟨none, .st 4 (.t 22) (.t 20), none⟩]))) }
def c_ftree_change : Fun := { cin := [(.agg [.id, .id, (.sl 1 .id), (.sl 4 (.agg [.id, .id, (.sl 1 .id), (.sl 4 (.agg [.id, .id, (.sl 1 .id), (.sl 4 .id)]))]))]), (.sl 1 .id), .id], cout := [(.agg [.id, .id, (.sl 1 .id), (.sl 4 (.agg [.id, .id, (.sl 1 .id), (.sl 4 (.agg [.id, .id, (.sl 1 .id), (.sl 4 .id)]))]))])], ntmps := 56, keep := false, res := [(6, some (true, 4))], body :=
 (.seq (.reg [⟨(some 3), .box 25 4 (.t 0), none⟩,
 ⟨(some 6), .alloc 25 [(.i .u8 0), (.s []), .nsl, .nsl], none⟩])
 (.seq (.regD [⟨(some 10), .fa 2 (.t 3), none⟩,
 ⟨(some 11), .ld false 1 (.t 10), none⟩,
 ⟨(some 12), .mv (.t 1), none⟩,
 ⟨(some 13), .ia 1 (.t 12) (.c (.i .i64 0)), none⟩,
 ⟨(some 14), .ld false 1 (.t 13), none⟩,
 ⟨(some 15), .call f_slices_BinarySearch_string_string [(.t 11), (.t 14)], none⟩,
 ⟨(some 9), .mv (.t 15), none⟩,
 ⟨(some 16), .ext (.t 9) 0, none⟩,
 ⟨(some 17), .ext (.t 9) 1, none⟩,
 ⟨(some 7), .mv (.t 16), none⟩,
 ⟨(some 8), .mv (.t 17), none⟩] [])
 (.seq (.seq (.reg [⟨(some 18), .mv (.t 1), none⟩,
 ⟨(some 19), .len 1 (.t 18), none⟩,
 ⟨(some 20), .bin .eql (.t 19) (.c (.i .i64 1)), none⟩])
 (.cond (.t 20)
 (.seq (.reg [⟨(some 21), .mv (.t 2), none⟩,
 ⟨(some 22), .ld true 4 (.t 3), none⟩,
 ⟨(some 23), .mv (.t 7), none⟩,
 ⟨(some 24), .mv (.t 8), none⟩,
 ⟨(some 25), .callX (.t 21) [(.t 22), (.t 23), (.t 24)], none⟩,
 ⟨none, .st 4 (.t 6) (.t 25), none⟩])
 .ret)
 .skip))
 (.seq (.seq (.reg [⟨(some 26), .mv (.t 8), none⟩,
 ⟨(some 27), .un .not (.t 26), none⟩,
 ⟨(some 28), .mv (.t 27), none⟩,
 ⟨(some 29), .fa 3 (.t 3), (some (28, false))⟩,
 ⟨(some 30), .ld false 1 (.t 29), (some (28, false))⟩,
 ⟨(some 31), .mv (.t 7), (some (28, false))⟩,
 ⟨(some 32), .ia 4 (.t 30) (.t 31), (some (28, false))⟩,
 ⟨(some 33), .fa 0 (.t 32), (some (28, false))⟩,
 ⟨(some 34), .ld false 1 (.t 33), (some (28, false))⟩,
 ⟨(some 35), .bin .neq (.t 34) (.c (.i .u8 2)), (some (28, false))⟩,
 ⟨(some 36), .pick (.t 28) (.c (.b true)) (.t 35), none⟩])
 (.cond (.t 36)
 (.seq (.reg [⟨(some 37), .ld true 4 (.t 3), none⟩,
 ⟨none, .st 4 (.t 6) (.t 37), none⟩])
 .ret)
 .skip))
 (.seq (.reg [⟨(some 38), .fa 3 (.t 3), none⟩,
 ⟨(some 39), .ld false 1 (.t 38), none⟩,
 ⟨(some 40), .callQ true f_slices_Clone_api_Node_api_Node [(.t 39)], none⟩,
 ⟨(some 41), .fa 3 (.t 3), none⟩,
 ⟨none, .st 1 (.t 41) (.t 40), none⟩])
 (.seq (.regD [⟨(some 42), .fa 3 (.t 3), none⟩,
 ⟨(some 43), .ld false 1 (.t 42), none⟩,
 ⟨(some 44), .mv (.t 7), none⟩,
 ⟨(some 45), .fa 3 (.t 3), none⟩,
 ⟨(some 46), .ld false 1 (.t 45), none⟩,
 ⟨(some 47), .mv (.t 7), none⟩,
 ⟨(some 48), .ia 4 (.t 46) (.t 47), none⟩,
 ⟨(some 49), .ld true 4 (.t 48), none⟩,
 ⟨(some 50), .mv (.t 1), none⟩,
 ⟨(some 51), .slc false 1 (.t 50) (some (.c (.i .i64 1))) none none, none⟩,
 ⟨(some 52), .mv (.t 2), none⟩,
 ⟨(some 53), .call f_ftree_change [(.t 49), (.t 51), (.t 52)], none⟩,
 ⟨(some 54), .ia 4 (.t 43) (.t 44), none⟩,
 ⟨none, .st 4 (.t 54) (.t 53), none⟩] [(1, (1, 12))])
 (.seq (.reg [⟨(some 55), .ld true 4 (.t 3), none⟩,
 ⟨none, .st 4 (.t 6) (.t 55), none⟩])
 .ret))))))) }
def c_ftree_Tree_Del_1 : Fun := { cin := [(.agg [.id, .id, (.sl 1 .id), (.sl 4 (.agg [.id, .id, (.sl 1 .id), (.sl 4 (.agg [.id, .id, (.sl 1 .id), (.sl 4 .id)]))]))]), .id, .id], cout := [(.agg [.id, .id, (.sl 1 .id), (.sl 4 (.agg [.id, .id, (.sl 1 .id), (.sl 4 (.agg [.id, .id, (.sl 1 .id), (.sl 4 .id)]))]))])], ntmps := 25, keep := false, res := [(6, some (true, 4))], body :=
 (.seq (.reg [⟨(some 3), .box 25 4 (.t 0), none⟩,
 ⟨(some 6), .alloc 25 [(.i .u8 0), (.s []), .nsl, .nsl], none⟩])
 (.seq (.seq (.reg [⟨(some 7), .mv (.t 2), none⟩])
 (.cond (.t 7)
 (.seq (.reg [⟨(some 8), .fa 2 (.t 3), none⟩,
 ⟨(some 9), .ld false 1 (.t 8), none⟩,
 ⟨(some 10), .callQ true f_slices_Clone_string_string [(.t 9)], none⟩,
 ⟨(some 11), .mv (.t 1), none⟩,
 ⟨(some 12), .mv (.t 1), none⟩,
 ⟨(some 13), .bin .add (.t 12) (.c (.i .i64 1)), none⟩,
 ⟨(some 14), .callQ true f_slices_Delete_string_string [(.t 10), (.t 11), (.t 13)], none⟩,
 ⟨(some 15), .fa 2 (.t 3), none⟩,
 ⟨none, .st 1 (.t 15) (.t 14), none⟩])
 (.reg [⟨(some 16), .fa 3 (.t 3), none⟩,
 ⟨(some 17), .ld false 1 (.t 16), none⟩,
 ⟨(some 18), .callQ true f_slices_Clone_api_Node_api_Node [(.t 17)], none⟩,
 ⟨(some 19), .mv (.t 1), none⟩,
 ⟨(some 20), .mv (.t 1), none⟩,
 ⟨(some 21), .bin .add (.t 20) (.c (.i .i64 1)), none⟩,
 ⟨(some 22), .callQ true f_slices_Delete_api_Node_api_Node [(.t 18), (.t 19), (.t 21)], none⟩,
 ⟨(some 23), .fa 3 (.t 3), none⟩,
 ⟨none, .st 1 (.t 23) (.t 22), none⟩]))
 .skip))
 (.seq (.reg [⟨(some 24), .ld true 4 (.t 3), none⟩,
 ⟨none, .st 4 (.t 6) (.t 24), none⟩])
 .ret))) }
def c_slices_Delete_string_string : Fun := { cin := [(.sl 1 .id), .id, .id], cout := [(.sl 1 .id)], ntmps := 33, keep := false, res := [(6, none)], body :=
 (.seq (.reg [⟨(some 6), .mv (.c .nsl), none⟩])
 (.seq (.reg [⟨(some 8), .mv (.t 0), none⟩,
 ⟨(some 9), .mv (.t 1), none⟩,
 ⟨(some 10), .mv (.t 2), none⟩,
 ⟨(some 11), .mv (.t 0), none⟩,
 ⟨(some 12), .len 1 (.t 11), none⟩,
 ⟨(some 13), .slc false 1 (.t 8) (some (.t 9)) (some (.t 10)) (some (.t 12)), none⟩])
 (.seq (.seq (.reg [⟨(some 14), .mv (.t 1), none⟩,
 ⟨(some 15), .mv (.t 2), none⟩,
 ⟨(some 16), .bin .eql (.t 14) (.t 15), none⟩])
 (.cond (.t 16)
 (.seq (.reg [⟨(some 17), .mv (.t 0), none⟩,
 ⟨(some 6), .mv (.t 17), none⟩])
 .ret)
 .skip))
 (.seq (.reg [⟨(some 18), .mv (.t 0), none⟩,
 ⟨(some 19), .len 1 (.t 18), none⟩,
 ⟨(some 7), .mv (.t 19), none⟩])
 (.seq (.regD [⟨(some 20), .mv (.t 0), none⟩,
 ⟨(some 21), .mv (.t 1), none⟩,
 ⟨(some 22), .slc false 1 (.t 20) none (some (.t 21)) none, none⟩,
 ⟨(some 23), .mv (.t 0), none⟩,
 ⟨(some 24), .mv (.t 2), none⟩,
 ⟨(some 25), .slc false 1 (.t 23) (some (.t 24)) none none, none⟩,
 ⟨(some 26), .app 1 9 (.t 22) (.t 25), none⟩,
 ⟨(some 0), .mv (.t 26), none⟩] [])
 (.seq (.reg [⟨(some 27), .mv (.t 0), none⟩,
 ⟨(some 28), .mv (.t 0), none⟩,
 ⟨(some 29), .len 1 (.t 28), none⟩,
 ⟨(some 30), .mv (.t 7), none⟩,
 ⟨(some 31), .slc false 1 (.t 27) (some (.t 29)) (some (.t 30)) none, none⟩,
 ⟨none, .clr 1 [(.s [])] (.t 31), none⟩])
 (.seq (.reg [⟨(some 32), .mv (.t 0), none⟩,
 ⟨(some 6), .mv (.t 32), none⟩])
 .ret))))))) }
def c_slices_Delete_api_Node_api_Node : Fun := { cin := [(.sl 4 (.agg [.id, .id, (.sl 1 .id), (.sl 4 (.agg [.id, .id, (.sl 1 .id), (.sl 4 (.agg [.id, .id, .id, .id]))]))])), .id, .id], cout := [(.sl 4 (.agg [.id, .id, (.sl 1 .id), (.sl 4 (.agg [.id, .id, (.sl 1 .id), (.sl 4 (.agg [.id, .id, .id, .id]))]))]))], ntmps := 33, keep := false, res := [(6, none)], body :=
 (.seq (.reg [⟨(some 6), .mv (.c .nsl), none⟩])
 (.seq (.reg [⟨(some 8), .mv (.t 0), none⟩,
 ⟨(some 9), .mv (.t 1), none⟩,
 ⟨(some 10), .mv (.t 2), none⟩,
 ⟨(some 11), .mv (.t 0), none⟩,
 ⟨(some 12), .len 1 (.t 11), none⟩,
 ⟨(some 13), .slc false 4 (.t 8) (some (.t 9)) (some (.t 10)) (some (.t 12)), none⟩])
 (.seq (.seq (.reg [⟨(some 14), .mv (.t 1), none⟩,
 ⟨(some 15), .mv (.t 2), none⟩,
 ⟨(some 16), .bin .eql (.t 14) (.t 15), none⟩])
 (.cond (.t 16)
 (.seq (.reg [⟨(some 17), .mv (.t 0), none⟩,
 ⟨(some 6), .mv (.t 17), none⟩])
 .ret)
 .skip))
 (.seq (.reg [⟨(some 18), .mv (.t 0), none⟩,
 ⟨(some 19), .len 1 (.t 18), none⟩,
 ⟨(some 7), .mv (.t 19), none⟩])
 (.seq (.regD [⟨(some 20), .mv (.t 0), none⟩,
 ⟨(some 21), .mv (.t 1), none⟩,
 ⟨(some 22), .slc false 4 (.t 20) none (some (.t 21)) none, none⟩,
 ⟨(some 23), .mv (.t 0), none⟩,
 ⟨(some 24), .mv (.t 2), none⟩,
 ⟨(some 25), .slc false 4 (.t 23) (some (.t 24)) none none, none⟩,
 ⟨(some 26), .app 4 25 (.t 22) (.t 25), none⟩,
 ⟨(some 0), .mv (.t 26), none⟩] [])
 (.seq (.reg [⟨(some 27), .mv (.t 0), none⟩,
 ⟨(some 28), .mv (.t 0), none⟩,
 ⟨(some 29), .len 1 (.t 28), none⟩,
 ⟨(some 30), .mv (.t 7), none⟩,
 ⟨(some 31), .slc false 4 (.t 27) (some (.t 29)) (some (.t 30)) none, none⟩,
 ⟨none, .clr 4 [(.i .u8 0), (.s []), .nsl, .nsl] (.t 31), none⟩])
 (.seq (.reg [⟨(some 32), .mv (.t 0), none⟩,
 ⟨(some 6), .mv (.t 32), none⟩])
 .ret))))))) }
def c_slices_Clone_api_Node_api_Node : Fun := { cin := [(.sl 4 (.agg [.id, .id, (.sl 1 .id), (.sl 4 (.agg [.id, .id, (.sl 1 .id), (.sl 4 (.agg [.id, .id, .id, .id]))]))]))], cout := [], ntmps := 8, keep := true, res := [(2, none)], body :=
 (.seq (.reg [⟨(some 2), .mv (.c .nsl), none⟩])
 (.seq (.seq (.reg [⟨(some 3), .mv (.t 0), none⟩,
 ⟨(some 4), .eq .sl false (.t 3) (.c .nsl), none⟩])
 (.cond (.t 4)
 (.seq (.reg [⟨(some 2), .mv (.c .nsl), none⟩])
 .ret)
 .skip))
 (.seq (.reg [⟨(some 5), .bsl 4 [], none⟩,
 ⟨(some 6), .mv (.t 0), none⟩,
 ⟨(some 7), .app 4 25 (.t 5) (.t 6), none⟩,
 ⟨(some 2), .mv (.t 7), none⟩])
 .ret))) }
def c_ftree_Tree_open : Fun := { cin := [.id, (.sl 1 .id)], cout := [.id], ntmps := 28, keep := false, res := [(4, none)], body :=
 (.seq (.reg [⟨(some 4), .mv (.c (.b false)), none⟩])
 (.seq (.reg [⟨(some 6), .mv (.t 1), none⟩,
 ⟨(some 7), .len 1 (.t 6), none⟩,
 ⟨(some 8), .bin .sub (.t 7) (.c (.i .i64 1)), none⟩,
 ⟨(some 5), .mv (.t 8), none⟩])
 (.seq (.reg [⟨(some 9), .mv (.t 5), none⟩,
 ⟨(some 10), .bin .geq (.t 9) (.c (.i .i64 0)), none⟩,
 ⟨(some 11), .mv (.t 10), none⟩,
 ⟨(some 12), .mv (.t 1), (some (11, true))⟩,
 ⟨(some 13), .mv (.t 5), (some (11, true))⟩,
 ⟨(some 14), .ia 1 (.t 12) (.t 13), (some (11, true))⟩,
 ⟨(some 15), .ld false 1 (.t 14), (some (11, true))⟩,
 ⟨(some 16), .call f_path_Name [(.t 15)], (some (11, true))⟩,
 ⟨(some 17), .pick (.t 11) (.t 16) (.c (.b false)), none⟩,
 ⟨(some 18), .mv (.t 17), none⟩,
 ⟨(some 19), .mv (.t 0), (some (18, true))⟩,
 ⟨(some 20), .mv (.t 1), (some (18, true))⟩,
 ⟨(some 21), .mv (.t 5), (some (18, true))⟩,
 ⟨(some 22), .mv (.t 5), (some (18, true))⟩,
 ⟨(some 23), .slc false 1 (.t 20) none (some (.t 21)) (some (.t 22)), (some (18, true))⟩,
 ⟨(some 24), .call f_ftree_Tree_at [(.t 19), (.t 23)], (some (18, true))⟩,
 ⟨(some 25), .fld false 0 1 (.t 24), (some (18, true))⟩,
 ⟨(some 26), .bin .eql (.t 25) (.c (.i .u8 2)), (some (18, true))⟩,
 ⟨(some 27), .pick (.t 18) (.t 26) (.c (.b false)), none⟩,
 ⟨(some 4), .mv (.t 27), none⟩])
 .ret))) }
def c_ftree_begins : Fun := { cin := [(.sl 1 .id), (.sl 1 .id)], cout := [.id], ntmps := 18, keep := false, res := [(4, none)], body :=
 (.seq (.reg [⟨(some 4), .mv (.c (.b false)), none⟩])
 (.seq (.reg [⟨(some 5), .mv (.t 0), none⟩,
 ⟨(some 6), .len 1 (.t 5), none⟩,
 ⟨(some 7), .mv (.t 1), none⟩,
 ⟨(some 8), .len 1 (.t 7), none⟩,
 ⟨(some 9), .bin .geq (.t 6) (.t 8), none⟩,
 ⟨(some 10), .mv (.t 9), none⟩,
 ⟨(some 11), .mv (.t 0), (some (10, true))⟩,
 ⟨(some 12), .mv (.t 1), (some (10, true))⟩,
 ⟨(some 13), .len 1 (.t 12), (some (10, true))⟩,
 ⟨(some 14), .slc false 1 (.t 11) none (some (.t 13)) none, (some (10, true))⟩,
 ⟨(some 15), .mv (.t 1), (some (10, true))⟩,
 ⟨(some 16), .call f_slices_Equal_string_string [(.t 14), (.t 15)], (some (10, true))⟩,
 ⟨(some 17), .pick (.t 10) (.t 16) (.c (.b false)), none⟩,
 ⟨(some 4), .mv (.t 17), none⟩])
 .ret)) }
def c_ftree_Tree_set_1 : Fun := { cin := [(.agg [.id, .id, (.sl 1 .id), (.sl 4 (.agg [.id, .id, (.sl 1 .id), (.sl 4 (.agg [.id, .id, (.sl 1 .id), (.sl 4 .id)]))]))]), .id, .id], cout := [(.agg [.id, .id, (.sl 1 .id), (.sl 4 (.agg [.id, .id, (.sl 1 .id), (.sl 4 (.agg [.id, .id, (.sl 1 .id), (.sl 4 .id)]))]))])], ntmps := 37, keep := false, res := [(8, some (true, 4))], body :=
 (.seq (.reg [⟨(some 5), .box 25 4 (.t 0), none⟩,
 ⟨(some 8), .alloc 25 [(.i .u8 0), (.s []), .nsl, .nsl], none⟩])
 (.seq (.seq (.reg [⟨(some 9), .mv (.t 2), none⟩])
 (.cond (.t 9)
 (.seq (.reg [⟨(some 10), .fa 3 (.t 5), none⟩,
 ⟨(some 11), .ld false 1 (.t 10), none⟩,
 ⟨(some 12), .callQ true f_slices_Clone_api_Node_api_Node [(.t 11)], none⟩,
 ⟨(some 13), .fa 3 (.t 5), none⟩,
 ⟨none, .st 1 (.t 13) (.t 12), none⟩])
 (.seq (.reg [⟨(some 14), .fa 3 (.t 5), none⟩,
 ⟨(some 15), .ld false 1 (.t 14), none⟩,
 ⟨(some 16), .mv (.t 1), none⟩,
 ⟨(some 17), .ld true 4 (.t 3), none⟩,
 ⟨(some 18), .ia 4 (.t 15) (.t 16), none⟩,
 ⟨none, .st 4 (.t 18) (.t 17), none⟩])
 (.seq (.reg [⟨(some 19), .ld true 4 (.t 5), none⟩,
 ⟨none, .st 4 (.t 8) (.t 19), none⟩])
 .ret)))
 .skip))
 (.seq (.regD [⟨(some 20), .fa 2 (.t 5), none⟩,
 ⟨(some 21), .ld false 1 (.t 20), none⟩,
 ⟨(some 22), .callI f_slices_Clone_string_string [(.t 21)], none⟩,
 ⟨(some 23), .mv (.t 1), none⟩,
 ⟨(some 24), .ld false 1 (.t 4), none⟩,
 ⟨(some 25), .bsl 1 [(.t 24)], none⟩,
 ⟨(some 26), .callI f_slices_Insert_string_string [(.t 22), (.t 23), (.t 25)], none⟩,
 ⟨(some 27), .fa 2 (.t 5), none⟩,
 ⟨none, .st 1 (.t 27) (.t 26), none⟩] [(4, (2, 4))])
 (.seq (.regD [⟨(some 28), .fa 3 (.t 5), none⟩,
 ⟨(some 29), .ld false 1 (.t 28), none⟩,
 ⟨(some 30), .callI f_slices_Clone_api_Node_api_Node [(.t 29)], none⟩,
 ⟨(some 31), .mv (.t 1), none⟩,
 ⟨(some 32), .ld true 4 (.t 3), none⟩,
 ⟨(some 33), .bsl 4 [(.t 32)], none⟩,
 ⟨(some 34), .callI f_slices_Insert_api_Node_api_Node [(.t 30), (.t 31), (.t 33)], none⟩,
 ⟨(some 35), .fa 3 (.t 5), none⟩,
 ⟨none, .st 1 (.t 35) (.t 34), none⟩] [(4, (2, 4))])
 (.seq (.reg [⟨(some 36), .ld true 4 (.t 5), none⟩,
 ⟨none, .st 4 (.t 8) (.t 36), none⟩])
 .ret))))) }
def c_slices_Insert_string_string : Fun := { cin := [], cout := [], ntmps := 95, keep := false, res := [(6, none)], body :=
 (.seq (.reg [⟨(some 6), .mv (.c .nsl), none⟩])
 (.seq (.reg [⟨(some 10), .mv (.t 0), none⟩,
 ⟨(some 11), .mv (.t 1), none⟩,
 ⟨(some 12), .slc false 1 (.t 10) (some (.t 11)) none none, none⟩])
 (.seq (.reg [⟨(some 13), .mv (.t 2), none⟩,
 ⟨(some 14), .len 1 (.t 13), none⟩,
 ⟨(some 7), .mv (.t 14), none⟩])
 (.seq (.seq (.reg [⟨(some 15), .mv (.t 7), none⟩,
 ⟨(some 16), .bin .eql (.t 15) (.c (.i .i64 0)), none⟩])
 (.cond (.t 16)
 (.seq (.reg [⟨(some 17), .mv (.t 0), none⟩,
 ⟨(some 6), .mv (.t 17), none⟩])
 .ret)
 .skip))
 (.seq (.reg [⟨(some 18), .mv (.t 0), none⟩,
 ⟨(some 19), .len 1 (.t 18), none⟩,
 ⟨(some 8), .mv (.t 19), none⟩])
 (.seq (.seq (.reg [⟨(some 20), .mv (.t 1), none⟩,
 ⟨(some 21), .mv (.t 8), none⟩,
 ⟨(some 22), .bin .eql (.t 20) (.t 21), none⟩])
 (.cond (.t 22)
 (.seq (.reg [⟨(some 23), .mv (.t 0), none⟩,
 ⟨(some 24), .mv (.t 2), none⟩,
 ⟨(some 25), .app 1 9 (.t 23) (.t 24), none⟩,
 ⟨(some 6), .mv (.t 25), none⟩])
 .ret)
 .skip))
 (.seq (.seq (.reg [⟨(some 26), .mv (.t 8), none⟩,
 ⟨(some 27), .mv (.t 7), none⟩,
 ⟨(some 28), .bin .add (.t 26) (.t 27), none⟩,
 ⟨(some 29), .mv (.t 0), none⟩,
 ⟨(some 30), .cap (.t 29), none⟩,
 ⟨(some 31), .bin .gtr (.t 28) (.t 30), none⟩])
 (.cond (.t 31)
 (.seq (.reg [⟨(some 32), .mv (.t 0), none⟩,
 ⟨(some 33), .mv (.t 1), none⟩,
 ⟨(some 34), .slc false 1 (.t 32) none (some (.t 33)) none, none⟩,
 ⟨(some 35), .mv (.t 8), none⟩,
 ⟨(some 36), .mv (.t 7), none⟩,
 ⟨(some 37), .bin .add (.t 35) (.t 36), none⟩,
 ⟨(some 38), .mv (.t 1), none⟩,
 ⟨(some 39), .bin .sub (.t 37) (.t 38), none⟩,
 ⟨(some 40), .apz 1 9 [(.s [])] (.t 34) (.t 39), none⟩,
 ⟨(some 9), .mv (.t 40), none⟩])
 (.seq (.seq (.thw 9)
 (.reg [⟨(some 41), .mv (.t 9), none⟩,
 ⟨(some 42), .mv (.t 1), none⟩,
 ⟨(some 43), .slc false 1 (.t 41) (some (.t 42)) none none, none⟩,
 ⟨(some 44), .mv (.t 2), none⟩,
 ⟨(some 45), .cp0 1 (.t 43) (.t 44), none⟩]))
 (.seq (.seq (.thw 9)
 (.regD [⟨(some 46), .mv (.t 9), none⟩,
 ⟨(some 47), .mv (.t 1), none⟩,
 ⟨(some 48), .mv (.t 7), none⟩,
 ⟨(some 49), .bin .add (.t 47) (.t 48), none⟩,
 ⟨(some 50), .slc false 1 (.t 46) (some (.t 49)) none none, none⟩,
 ⟨(some 51), .mv (.t 0), none⟩,
 ⟨(some 52), .mv (.t 1), none⟩,
 ⟨(some 53), .slc false 1 (.t 51) (some (.t 52)) none none, none⟩,
 ⟨(some 54), .cp0 1 (.t 50) (.t 53), none⟩] []))
 (.seq (.reg [⟨(some 55), .mv (.t 9), none⟩,
 ⟨(some 6), .mv (.t 55), none⟩])
 .ret))))
 .skip))
 (.seq (.reg [⟨(some 56), .mv (.t 0), none⟩,
 ⟨(some 57), .mv (.t 8), none⟩,
 ⟨(some 58), .mv (.t 7), none⟩,
 ⟨(some 59), .bin .add (.t 57) (.t 58), none⟩,
 ⟨(some 60), .slc true 1 (.t 56) none (some (.t 59)) none, none⟩,
 ⟨(some 0), .mv (.t 60), none⟩])
 (.seq (.seq (.reg [⟨(some 61), .mv (.t 2), none⟩,
 ⟨(some 62), .mv (.t 0), none⟩,
 ⟨(some 63), .mv (.t 1), none⟩,
 ⟨(some 64), .mv (.t 7), none⟩,
 ⟨(some 65), .bin .add (.t 63) (.t 64), none⟩,
 ⟨(some 66), .slc false 1 (.t 62) (some (.t 65)) none none, none⟩,
 ⟨(some 67), .ovl 1 (.t 61) (.t 66), none⟩,
 ⟨(some 68), .un .not (.t 67), none⟩])
 (.cond (.t 68)
 (.seq (.seq (.thw 0)
 (.regD [⟨(some 69), .mv (.t 0), none⟩,
 ⟨(some 70), .mv (.t 1), none⟩,
 ⟨(some 71), .mv (.t 7), none⟩,
 ⟨(some 72), .bin .add (.t 70) (.t 71), none⟩,
 ⟨(some 73), .slc false 1 (.t 69) (some (.t 72)) none none, none⟩,
 ⟨(some 74), .mv (.t 0), none⟩,
 ⟨(some 75), .mv (.t 1), none⟩,
 ⟨(some 76), .slc false 1 (.t 74) (some (.t 75)) none none, none⟩,
 ⟨(some 77), .cp0 1 (.t 73) (.t 76), none⟩] []))
 (.seq (.seq (.thw 0)
 (.reg [⟨(some 78), .mv (.t 0), none⟩,
 ⟨(some 79), .mv (.t 1), none⟩,
 ⟨(some 80), .slc false 1 (.t 78) (some (.t 79)) none none, none⟩,
 ⟨(some 81), .mv (.t 2), none⟩,
 ⟨(some 82), .cp0 1 (.t 80) (.t 81), none⟩]))
 (.seq (.reg [⟨(some 83), .mv (.t 0), none⟩,
 ⟨(some 6), .mv (.t 83), none⟩])
 .ret)))
 .skip))
 (.seq (.seq (.thw 0)
 (.reg [⟨(some 84), .mv (.t 0), none⟩,
 ⟨(some 85), .mv (.t 8), none⟩,
 ⟨(some 86), .slc false 1 (.t 84) (some (.t 85)) none none, none⟩,
 ⟨(some 87), .mv (.t 2), none⟩,
 ⟨(some 88), .cp0 1 (.t 86) (.t 87), none⟩]))
 (.seq (.reg [⟨(some 89), .mv (.t 0), none⟩,
 ⟨(some 90), .mv (.t 1), none⟩,
 ⟨(some 91), .slc false 1 (.t 89) (some (.t 90)) none none, none⟩,
 ⟨(some 92), .mv (.t 7), none⟩,
 ⟨(some 93), .call f_slices_rotateRight_string [(.t 91), (.t 92)], none⟩])
 (.seq (.reg [⟨(some 94), .mv (.t 0), none⟩,
 ⟨(some 6), .mv (.t 94), none⟩])
 .ret)))))))))))) }
def c_slices_Insert_api_Node_api_Node : Fun := { cin := [], cout := [], ntmps := 95, keep := false, res := [(6, none)], body :=
 (.seq (.reg [⟨(some 6), .mv (.c .nsl), none⟩])
 (.seq (.reg [⟨(some 10), .mv (.t 0), none⟩,
 ⟨(some 11), .mv (.t 1), none⟩,
 ⟨(some 12), .slc false 4 (.t 10) (some (.t 11)) none none, none⟩])
 (.seq (.reg [⟨(some 13), .mv (.t 2), none⟩,
 ⟨(some 14), .len 1 (.t 13), none⟩,
 ⟨(some 7), .mv (.t 14), none⟩])
 (.seq (.seq (.reg [⟨(some 15), .mv (.t 7), none⟩,
 ⟨(some 16), .bin .eql (.t 15) (.c (.i .i64 0)), none⟩])
 (.cond (.t 16)
 (.seq (.reg [⟨(some 17), .mv (.t 0), none⟩,
 ⟨(some 6), .mv (.t 17), none⟩])
 .ret)
 .skip))
 (.seq (.reg [⟨(some 18), .mv (.t 0), none⟩,
 ⟨(some 19), .len 1 (.t 18), none⟩,
 ⟨(some 8), .mv (.t 19), none⟩])
 (.seq (.seq (.reg [⟨(some 20), .mv (.t 1), none⟩,
 ⟨(some 21), .mv (.t 8), none⟩,
 ⟨(some 22), .bin .eql (.t 20) (.t 21), none⟩])
 (.cond (.t 22)
 (.seq (.reg [⟨(some 23), .mv (.t 0), none⟩,
 ⟨(some 24), .mv (.t 2), none⟩,
 ⟨(some 25), .app 4 25 (.t 23) (.t 24), none⟩,
 ⟨(some 6), .mv (.t 25), none⟩])
 .ret)
 .skip))
 (.seq (.seq (.reg [⟨(some 26), .mv (.t 8), none⟩,
 ⟨(some 27), .mv (.t 7), none⟩,
 ⟨(some 28), .bin .add (.t 26) (.t 27), none⟩,
 ⟨(some 29), .mv (.t 0), none⟩,
 ⟨(some 30), .cap (.t 29), none⟩,
 ⟨(some 31), .bin .gtr (.t 28) (.t 30), none⟩])
 (.cond (.t 31)
 (.seq (.reg [⟨(some 32), .mv (.t 0), none⟩,
 ⟨(some 33), .mv (.t 1), none⟩,
 ⟨(some 34), .slc false 4 (.t 32) none (some (.t 33)) none, none⟩,
 ⟨(some 35), .mv (.t 8), none⟩,
 ⟨(some 36), .mv (.t 7), none⟩,
 ⟨(some 37), .bin .add (.t 35) (.t 36), none⟩,
 ⟨(some 38), .mv (.t 1), none⟩,
 ⟨(some 39), .bin .sub (.t 37) (.t 38), none⟩,
 ⟨(some 40), .apz 4 25 [(.i .u8 0), (.s []), .nsl, .nsl] (.t 34) (.t 39), none⟩,
 ⟨(some 9), .mv (.t 40), none⟩])
 (.seq (.seq (.thw 9)
 (.reg [⟨(some 41), .mv (.t 9), none⟩,
 ⟨(some 42), .mv (.t 1), none⟩,
 ⟨(some 43), .slc false 4 (.t 41) (some (.t 42)) none none, none⟩,
 ⟨(some 44), .mv (.t 2), none⟩,
 ⟨(some 45), .cp0 4 (.t 43) (.t 44), none⟩]))
 (.seq (.seq (.thw 9)
 (.regD [⟨(some 46), .mv (.t 9), none⟩,
 ⟨(some 47), .mv (.t 1), none⟩,
 ⟨(some 48), .mv (.t 7), none⟩,
 ⟨(some 49), .bin .add (.t 47) (.t 48), none⟩,
 ⟨(some 50), .slc false 4 (.t 46) (some (.t 49)) none none, none⟩,
 ⟨(some 51), .mv (.t 0), none⟩,
 ⟨(some 52), .mv (.t 1), none⟩,
 ⟨(some 53), .slc false 4 (.t 51) (some (.t 52)) none none, none⟩,
 ⟨(some 54), .cp0 4 (.t 50) (.t 53), none⟩] []))
 (.seq (.reg [⟨(some 55), .mv (.t 9), none⟩,
 ⟨(some 6), .mv (.t 55), none⟩])
 .ret))))
 .skip))
 (.seq (.reg [⟨(some 56), .mv (.t 0), none⟩,
 ⟨(some 57), .mv (.t 8), none⟩,
 ⟨(some 58), .mv (.t 7), none⟩,
 ⟨(some 59), .bin .add (.t 57) (.t 58), none⟩,
 ⟨(some 60), .slc true 4 (.t 56) none (some (.t 59)) none, none⟩,
 ⟨(some 0), .mv (.t 60), none⟩])
 (.seq (.seq (.reg [⟨(some 61), .mv (.t 2), none⟩,
 ⟨(some 62), .mv (.t 0), none⟩,
 ⟨(some 63), .mv (.t 1), none⟩,
 ⟨(some 64), .mv (.t 7), none⟩,
 ⟨(some 65), .bin .add (.t 63) (.t 64), none⟩,
 ⟨(some 66), .slc false 4 (.t 62) (some (.t 65)) none none, none⟩,
 ⟨(some 67), .ovl 4 (.t 61) (.t 66), none⟩,
 ⟨(some 68), .un .not (.t 67), none⟩])
 (.cond (.t 68)
 (.seq (.seq (.thw 0)
 (.regD [⟨(some 69), .mv (.t 0), none⟩,
 ⟨(some 70), .mv (.t 1), none⟩,
 ⟨(some 71), .mv (.t 7), none⟩,
 ⟨(some 72), .bin .add (.t 70) (.t 71), none⟩,
 ⟨(some 73), .slc false 4 (.t 69) (some (.t 72)) none none, none⟩,
 ⟨(some 74), .mv (.t 0), none⟩,
 ⟨(some 75), .mv (.t 1), none⟩,
 ⟨(some 76), .slc false 4 (.t 74) (some (.t 75)) none none, none⟩,
 ⟨(some 77), .cp0 4 (.t 73) (.t 76), none⟩] []))
 (.seq (.seq (.thw 0)
 (.reg [⟨(some 78), .mv (.t 0), none⟩,
 ⟨(some 79), .mv (.t 1), none⟩,
 ⟨(some 80), .slc false 4 (.t 78) (some (.t 79)) none none, none⟩,
 ⟨(some 81), .mv (.t 2), none⟩,
 ⟨(some 82), .cp0 4 (.t 80) (.t 81), none⟩]))
 (.seq (.reg [⟨(some 83), .mv (.t 0), none⟩,
 ⟨(some 6), .mv (.t 83), none⟩])
 .ret)))
 .skip))
 (.seq (.seq (.thw 0)
 (.reg [⟨(some 84), .mv (.t 0), none⟩,
 ⟨(some 85), .mv (.t 8), none⟩,
 ⟨(some 86), .slc false 4 (.t 84) (some (.t 85)) none none, none⟩,
 ⟨(some 87), .mv (.t 2), none⟩,
 ⟨(some 88), .cp0 4 (.t 86) (.t 87), none⟩]))
 (.seq (.reg [⟨(some 89), .mv (.t 0), none⟩,
 ⟨(some 90), .mv (.t 1), none⟩,
 ⟨(some 91), .slc false 4 (.t 89) (some (.t 90)) none none, none⟩,
 ⟨(some 92), .mv (.t 7), none⟩,
 ⟨(some 93), .call f_slices_rotateRight_api_Node [(.t 91), (.t 92)], none⟩])
 (.seq (.reg [⟨(some 94), .mv (.t 0), none⟩,
 ⟨(some 6), .mv (.t 94), none⟩])
 .ret)))))))))))) }
def c_slices_rotateRight_string : Fun := { cin := [(.sl 1 .id), .id], cout := [], ntmps := 10, keep := false, res := [], body :=
 (.reg [⟨(some 4), .mv (.t 0), none⟩,
 ⟨(some 5), .mv (.t 0), none⟩,
 ⟨(some 6), .len 1 (.t 5), none⟩,
 ⟨(some 7), .mv (.t 1), none⟩,
 ⟨(some 8), .bin .sub (.t 6) (.t 7), none⟩,
 ⟨(some 9), .call f_slices_rotateLeft_string [(.t 4), (.t 8)], none⟩]) }
def c_slices_rotateRight_api_Node : Fun := { cin := [(.sl 4 (.agg [.id, .id, (.sl 1 .id), (.sl 4 (.agg [.id, .id, (.sl 1 .id), (.sl 4 (.agg [.id, .id, .id, .id]))]))])), .id], cout := [], ntmps := 10, keep := false, res := [], body :=
 (.reg [⟨(some 4), .mv (.t 0), none⟩,
 ⟨(some 5), .mv (.t 0), none⟩,
 ⟨(some 6), .len 1 (.t 5), none⟩,
 ⟨(some 7), .mv (.t 1), none⟩,
 ⟨(some 8), .bin .sub (.t 6) (.t 7), none⟩,
 ⟨(some 9), .call f_slices_rotateLeft_api_Node [(.t 4), (.t 8)], none⟩]) }
def c_slices_rotateLeft_string : Fun := { cin := [(.sl 1 .id), .id], cout := [], ntmps := 14, keep := false, res := [], body :=
 (.seq (.reg [⟨(some 4), .mv (.t 0), none⟩,
 ⟨(some 5), .mv (.t 1), none⟩,
 ⟨(some 6), .slc false 1 (.t 4) none (some (.t 5)) none, none⟩,
 ⟨(some 7), .call f_slices_Reverse_string_string [(.t 6)], none⟩])
 (.seq (.reg [⟨(some 8), .mv (.t 0), none⟩,
 ⟨(some 9), .mv (.t 1), none⟩,
 ⟨(some 10), .slc false 1 (.t 8) (some (.t 9)) none none, none⟩,
 ⟨(some 11), .call f_slices_Reverse_string_string [(.t 10)], none⟩])
 (.seq (.thw 0)
 (.reg [⟨(some 12), .mv (.t 0), none⟩,
 ⟨(some 13), .call f_slices_Reverse_string_string [(.t 12)], none⟩])))) }
def c_slices_rotateLeft_api_Node : Fun := { cin := [(.sl 4 (.agg [.id, .id, (.sl 1 .id), (.sl 4 (.agg [.id, .id, (.sl 1 .id), (.sl 4 (.agg [.id, .id, .id, .id]))]))])), .id], cout := [], ntmps := 14, keep := false, res := [], body :=
 (.seq (.reg [⟨(some 4), .mv (.t 0), none⟩,
 ⟨(some 5), .mv (.t 1), none⟩,
 ⟨(some 6), .slc false 4 (.t 4) none (some (.t 5)) none, none⟩,
 ⟨(some 7), .call f_slices_Reverse_api_Node_api_Node [(.t 6)], none⟩])
 (.seq (.reg [⟨(some 8), .mv (.t 0), none⟩,
 ⟨(some 9), .mv (.t 1), none⟩,
 ⟨(some 10), .slc false 4 (.t 8) (some (.t 9)) none none, none⟩,
 ⟨(some 11), .call f_slices_Reverse_api_Node_api_Node [(.t 10)], none⟩])
 (.seq (.thw 0)
 (.reg [⟨(some 12), .mv (.t 0), none⟩,
 ⟨(some 13), .call f_slices_Reverse_api_Node_api_Node [(.t 12)], none⟩])))) }
def c_slices_Reverse_string_string : Fun := { cin := [(.sl 1 .id)], cout := [], ntmps := 28, keep := false, res := [], body :=
 (.seq (.reg [⟨(some 4), .mv (.t 0), none⟩,
 ⟨(some 5), .len 1 (.t 4), none⟩,
 ⟨(some 6), .bin .sub (.t 5) (.c (.i .i64 1)), none⟩,
 ⟨(some 2), .mv (.c (.i .i64 0)), none⟩,
 ⟨(some 3), .mv (.t 6), none⟩])
 (.blk 0 (.loop (.seq (.seq (.reg [⟨(some 7), .mv (.t 2), none⟩,
 ⟨(some 8), .mv (.t 3), none⟩,
 ⟨(some 9), .bin .lss (.t 7) (.t 8), none⟩])
 (.cond (.t 9)
 .skip
 (.exit 0)))
 (.seq (.blk 1 (.seq (.thw 0)
 (.regD [⟨(some 14), .mv (.t 0), none⟩,
 ⟨(some 15), .mv (.t 2), none⟩,
 ⟨(some 16), .mv (.t 0), none⟩,
 ⟨(some 17), .mv (.t 3), none⟩,
 ⟨(some 18), .mv (.t 0), none⟩,
 ⟨(some 19), .mv (.t 3), none⟩,
 ⟨(some 20), .ia 1 (.t 18) (.t 19), none⟩,
 ⟨(some 21), .ld false 1 (.t 20), none⟩,
 ⟨(some 22), .mv (.t 0), none⟩,
 ⟨(some 23), .mv (.t 2), none⟩,
 ⟨(some 24), .ia 1 (.t 22) (.t 23), none⟩,
 ⟨(some 25), .ld false 1 (.t 24), none⟩,
 ⟨(some 26), .ia 1 (.t 14) (.t 15), none⟩,
 ⟨none, .st 1 (.t 26) (.t 21), none⟩,
 ⟨(some 27), .ia 1 (.t 16) (.t 17), none⟩,
 ⟨none, .st 1 (.t 27) (.t 25), none⟩] [])))
 (.reg [⟨(some 10), .mv (.t 2), none⟩,
 ⟨(some 11), .bin .add (.t 10) (.c (.i .i64 1)), none⟩,
 ⟨(some 12), .mv (.t 3), none⟩,
 ⟨(some 13), .bin .sub (.t 12) (.c (.i .i64 1)), none⟩,
 ⟨(some 2), .mv (.t 11), none⟩,
 ⟨(some 3), .mv (.t 13), none⟩])))))) }
def c_slices_Reverse_api_Node_api_Node : Fun := { cin := [(.sl 4 (.agg [.id, .id, (.sl 1 .id), (.sl 4 (.agg [.id, .id, (.sl 1 .id), (.sl 4 (.agg [.id, .id, .id, .id]))]))]))], cout := [], ntmps := 28, keep := false, res := [], body :=
 (.seq (.reg [⟨(some 4), .mv (.t 0), none⟩,
 ⟨(some 5), .len 1 (.t 4), none⟩,
 ⟨(some 6), .bin .sub (.t 5) (.c (.i .i64 1)), none⟩,
 ⟨(some 2), .mv (.c (.i .i64 0)), none⟩,
 ⟨(some 3), .mv (.t 6), none⟩])
 (.blk 0 (.loop (.seq (.seq (.reg [⟨(some 7), .mv (.t 2), none⟩,
 ⟨(some 8), .mv (.t 3), none⟩,
 ⟨(some 9), .bin .lss (.t 7) (.t 8), none⟩])
 (.cond (.t 9)
 .skip
 (.exit 0)))
 (.seq (.blk 1 (.seq (.thw 0)
 (.regD [⟨(some 14), .mv (.t 0), none⟩,
 ⟨(some 15), .mv (.t 2), none⟩,
 ⟨(some 16), .mv (.t 0), none⟩,
 ⟨(some 17), .mv (.t 3), none⟩,
 ⟨(some 18), .mv (.t 0), none⟩,
 ⟨(some 19), .mv (.t 3), none⟩,
 ⟨(some 20), .ia 4 (.t 18) (.t 19), none⟩,
 ⟨(some 21), .ld true 4 (.t 20), none⟩,
 ⟨(some 22), .mv (.t 0), none⟩,
 ⟨(some 23), .mv (.t 2), none⟩,
 ⟨(some 24), .ia 4 (.t 22) (.t 23), none⟩,
 ⟨(some 25), .ld true 4 (.t 24), none⟩,
 ⟨(some 26), .ia 4 (.t 14) (.t 15), none⟩,
 ⟨none, .st 4 (.t 26) (.t 21), none⟩,
 ⟨(some 27), .ia 4 (.t 16) (.t 17), none⟩,
 ⟨none, .st 4 (.t 27) (.t 25), none⟩] [])))
 (.reg [⟨(some 10), .mv (.t 2), none⟩,
 ⟨(some 11), .bin .add (.t 10) (.c (.i .i64 1)), none⟩,
 ⟨(some 12), .mv (.t 3), none⟩,
 ⟨(some 13), .bin .sub (.t 12) (.c (.i .i64 1)), none⟩,
 ⟨(some 2), .mv (.t 11), none⟩,
 ⟨(some 3), .mv (.t 13), none⟩])))))) }
def c_sym_Tree_Copy : Fun := { cin := [.id, (.sl 1 .id), (.sl 1 .id)], cout := [], ntmps := 23, keep := false, res := [], body :=
 (.seq (.reg [⟨(some 6), .mv (.t 0), none⟩,
 ⟨(some 7), .mv (.t 1), none⟩,
 ⟨(some 8), .mv (.t 2), none⟩,
 ⟨(some 9), .call f_sym_Tree_apart [(.t 6), (.t 7), (.t 8)], none⟩])
 (.cond (.t 9)
 (.regD [⟨(some 10), .mv (.t 0), none⟩,
 ⟨(some 11), .mv (.t 0), none⟩,
 ⟨(some 12), .mv (.t 0), none⟩,
 ⟨(some 13), .nck (.t 12), none⟩,
 ⟨(some 14), .fa 1 (.t 13), none⟩,
 ⟨(some 15), .ld true 6 (.t 14), none⟩,
 ⟨(some 16), .mv (.t 2), none⟩,
 ⟨(some 17), .mv (.t 0), none⟩,
 ⟨(some 18), .mv (.t 1), none⟩,
 ⟨(some 19), .call f_sym_Tree_at [(.t 17), (.t 18)], none⟩,
 ⟨(some 20), .call f_sym_Tree_set [(.t 11), (.t 15), (.t 16), (.t 19)], none⟩,
 ⟨(some 21), .nck (.t 10), none⟩,
 ⟨(some 22), .fa 1 (.t 21), none⟩,
 ⟨none, .st 6 (.t 22) (.t 20), none⟩] [(5, (5, 10))])
 .skip)) }
def c_sym_Tree_Del : Fun := { cin := [.id, (.sl 1 .id)], cout := [], ntmps := 28, keep := false, res := [], body :=
 (.seq (.reg [⟨(some 4), .mv (.t 0), none⟩,
 ⟨(some 5), .eq .ptr true (.t 4) (.c .np), none⟩,
 ⟨(some 6), .mv (.t 5), none⟩,
 ⟨(some 7), .mv (.t 1), (some (6, true))⟩,
 ⟨(some 8), .len 1 (.t 7), (some (6, true))⟩,
 ⟨(some 9), .bin .gtr (.t 8) (.c (.i .i64 0)), (some (6, true))⟩,
 ⟨(some 10), .pick (.t 6) (.t 9) (.c (.b false)), none⟩,
 ⟨(some 11), .mv (.t 10), none⟩,
 ⟨(some 12), .mv (.t 0), (some (11, true))⟩,
 ⟨(some 13), .mv (.t 1), (some (11, true))⟩,
 ⟨(some 14), .call f_sym_Tree_Kind [(.t 12), (.t 13)], (some (11, true))⟩,
 ⟨(some 15), .bin .neq (.t 14) (.c (.i .u8 0)), (some (11, true))⟩,
 ⟨(some 16), .pick (.t 11) (.t 15) (.c (.b false)), none⟩])
 (.cond (.t 16)
 (.regD [⟨(some 17), .mv (.t 0), none⟩,
 ⟨(some 18), .mv (.t 0), none⟩,
 ⟨(some 19), .mv (.t 0), none⟩,
 ⟨(some 20), .nck (.t 19), none⟩,
 ⟨(some 21), .fa 1 (.t 20), none⟩,
 ⟨(some 22), .ld true 6 (.t 21), none⟩,
 ⟨(some 23), .mv (.t 1), none⟩,
 ⟨(some 24), .call f_sym_absent [], none⟩,
 ⟨(some 25), .call f_sym_Tree_set [(.t 18), (.t 22), (.t 23), (.t 24)], none⟩,
 ⟨(some 26), .nck (.t 17), none⟩,
 ⟨(some 27), .fa 1 (.t 26), none⟩,
 ⟨none, .st 6 (.t 27) (.t 25), none⟩] [(5, (5, 8))])
 .skip)) }
def c_sym_Tree_Empty : Fun := { cin := [.id, (.sl 1 .id)], cout := [.id], ntmps := 39, keep := false, res := [(4, none)], body :=
 (.seq (.reg [⟨(some 4), .mv (.c (.b false)), none⟩])
 (.seq (.seq (.reg [⟨(some 8), .mv (.t 0), none⟩,
 ⟨(some 9), .eq .ptr false (.t 8) (.c .np), none⟩])
 (.cond (.t 9)
 (.seq (.reg [⟨(some 4), .mv (.c (.b false)), none⟩])
 .ret)
 .skip))
 (.seq (.reg [⟨(some 10), .mv (.t 0), none⟩,
 ⟨(some 11), .mv (.t 1), none⟩,
 ⟨(some 12), .call f_sym_Tree_at [(.t 10), (.t 11)], none⟩,
 ⟨(some 5), .alloc 91 [(.i .i64 0), (.i .u8 0), (.s []), (.i .i64 0), .nsl, .nsl], none⟩,
 ⟨none, .st 6 (.t 5) (.t 12), none⟩])
 (.seq (.seq (.reg [⟨(some 13), .mv (.t 0), none⟩,
 ⟨(some 14), .ld true 6 (.t 5), none⟩,
 ⟨(some 15), .call f_sym_Tree_kind [(.t 13), (.t 14)], none⟩,
 ⟨(some 16), .bin .neq (.t 15) (.c (.i .u8 2)), none⟩])
 (.cond (.t 16)
 (.seq (.reg [⟨(some 4), .mv (.c (.b false)), none⟩])
 .ret)
 .skip))
 (.seq (.seq (.reg [⟨(some 17), .fa 5 (.t 5), none⟩,
 ⟨(some 18), .ld false 1 (.t 17), none⟩,
 ⟨(some 19), .len 1 (.t 18), none⟩,
 ⟨(some 20), .mv (.c (.i .i64 0)), none⟩])
 (.blk 0 (.loop (.seq (.reg [⟨(some 21), .bin .lss (.t 20) (.t 19), none⟩])
 (.seq (.cond (.t 21)
 .skip
 (.exit 0))
 (.seq (.blk 1 (.seq (.reg [⟨(some 22), .ia 6 (.t 18) (.t 20), none⟩,
 ⟨(some 23), .ld true 6 (.t 22), none⟩,
 ⟨(some 7), .alloc 91 [(.i .i64 0), (.i .u8 0), (.s []), (.i .i64 0), .nsl, .nsl], none⟩,
 ⟨none, .st 6 (.t 7) (.t 23), none⟩])
 (.seq (.reg [⟨(some 24), .mv (.t 0), none⟩,
 ⟨(some 25), .ld true 6 (.t 7), none⟩,
 ⟨(some 26), .call f_sym_Tree_kind [(.t 24), (.t 25)], none⟩,
 ⟨(some 27), .bin .neq (.t 26) (.c (.i .u8 0)), none⟩])
 (.cond (.t 27)
 (.seq (.reg [⟨(some 4), .mv (.c (.b false)), none⟩])
 .ret)
 .skip))))
 (.reg [⟨(some 28), .bin .add (.t 20) (.c (.i .i64 1)), none⟩,
 ⟨(some 20), .mv (.t 28), none⟩])))))))
 (.seq (.regD [⟨(some 29), .ld true 6 (.t 5), none⟩,
 ⟨(some 30), .call f_sym_base [(.t 29)], none⟩,
 ⟨(some 31), .bin .lss (.t 30) (.c (.i .i64 0)), none⟩,
 ⟨(some 32), .mv (.t 31), none⟩,
 ⟨(some 33), .mv (.t 0), (some (32, false))⟩,
 ⟨(some 34), .ld true 6 (.t 5), (some (32, false))⟩,
 ⟨(some 35), .ld true 6 (.t 5), (some (32, false))⟩,
 ⟨(some 36), .call f_sym_base [(.t 35)], (some (32, false))⟩,
 ⟨(some 37), .call f_sym_Tree_bare [(.t 33), (.t 34), (.t 36)], (some (32, false))⟩,
 ⟨(some 38), .pick (.t 32) (.c (.b true)) (.t 37), none⟩,
 ⟨(some 4), .mv (.t 38), none⟩] [(5, (5, 8))])
 .ret)))))) }
def c_sym_Tree_Kind : Fun := { cin := [.id, (.sl 1 .id)], cout := [.id], ntmps := 12, keep := false, res := [(4, none)], body :=
 (.seq (.reg [⟨(some 4), .mv (.c (.i .u8 0)), none⟩])
 (.seq (.seq (.reg [⟨(some 5), .mv (.t 0), none⟩,
 ⟨(some 6), .eq .ptr false (.t 5) (.c .np), none⟩])
 (.cond (.t 6)
 (.seq (.reg [⟨(some 4), .mv (.c (.i .u8 0)), none⟩])
 .ret)
 .skip))
 (.seq (.reg [⟨(some 7), .mv (.t 0), none⟩,
 ⟨(some 8), .mv (.t 0), none⟩,
 ⟨(some 9), .mv (.t 1), none⟩,
 ⟨(some 10), .call f_sym_Tree_at [(.t 8), (.t 9)], none⟩,
 ⟨(some 11), .call f_sym_Tree_kind [(.t 7), (.t 10)], none⟩,
 ⟨(some 4), .mv (.t 11), none⟩])
 .ret))) }
def c_sym_Tree_Move : Fun := { cin := [.id, (.sl 1 .id), (.sl 1 .id)], cout := [], ntmps := 34, keep := false, res := [], body :=
 (.seq (.reg [⟨(some 6), .mv (.t 0), none⟩,
 ⟨(some 7), .mv (.t 1), none⟩,
 ⟨(some 8), .mv (.t 2), none⟩,
 ⟨(some 9), .call f_sym_Tree_apart [(.t 6), (.t 7), (.t 8)], none⟩])
 (.cond (.t 9)
 (.seq (.regD [⟨(some 10), .mv (.t 0), none⟩,
 ⟨(some 11), .mv (.t 0), none⟩,
 ⟨(some 12), .mv (.t 0), none⟩,
 ⟨(some 13), .nck (.t 12), none⟩,
 ⟨(some 14), .fa 1 (.t 13), none⟩,
 ⟨(some 15), .ld true 6 (.t 14), none⟩,
 ⟨(some 16), .mv (.t 2), none⟩,
 ⟨(some 17), .mv (.t 0), none⟩,
 ⟨(some 18), .mv (.t 1), none⟩,
 ⟨(some 19), .call f_sym_Tree_at [(.t 17), (.t 18)], none⟩,
 ⟨(some 20), .call f_sym_Tree_set [(.t 11), (.t 15), (.t 16), (.t 19)], none⟩,
 ⟨(some 21), .nck (.t 10), none⟩,
 ⟨(some 22), .fa 1 (.t 21), none⟩,
 ⟨none, .st 6 (.t 22) (.t 20), none⟩] [(5, (5, 10))])
 (.regD [⟨(some 23), .mv (.t 0), none⟩,
 ⟨(some 24), .mv (.t 0), none⟩,
 ⟨(some 25), .mv (.t 0), none⟩,
 ⟨(some 26), .nck (.t 25), none⟩,
 ⟨(some 27), .fa 1 (.t 26), none⟩,
 ⟨(some 28), .ld true 6 (.t 27), none⟩,
 ⟨(some 29), .mv (.t 1), none⟩,
 ⟨(some 30), .call f_sym_absent [], none⟩,
 ⟨(some 31), .call f_sym_Tree_set [(.t 24), (.t 28), (.t 29), (.t 30)], none⟩,
 ⟨(some 32), .nck (.t 23), none⟩,
 ⟨(some 33), .fa 1 (.t 32), none⟩,
 ⟨none, .st 6 (.t 33) (.t 31), none⟩] [(5, (5, 8))]))
 .skip)) }
def c_sym_Tree_Put : Fun := { cin := [.id, (.sl 1 .id), (.agg [.id, .id, (.sl 1 .id), (.sl 4 (.agg [.id, .id, (.sl 1 .id), (.sl 4 (.agg [.id, .id, (.sl 1 .id), (.sl 4 .id)]))]))])], cout := [], ntmps := 29, keep := false, res := [], body :=
 (.seq (.reg [⟨(some 5), .box 25 4 (.t 2), none⟩])
 (.seq (.reg [⟨(some 6), .mv (.t 0), none⟩,
 ⟨(some 7), .eq .ptr true (.t 6) (.c .np), none⟩,
 ⟨(some 8), .mv (.t 7), none⟩,
 ⟨(some 9), .ld true 4 (.t 5), (some (8, true))⟩,
 ⟨(some 10), .call f_ftree_Well [(.t 9)], (some (8, true))⟩,
 ⟨(some 11), .pick (.t 8) (.t 10) (.c (.b false)), none⟩,
 ⟨(some 12), .mv (.t 11), none⟩,
 ⟨(some 13), .mv (.t 0), (some (12, true))⟩,
 ⟨(some 14), .mv (.t 1), (some (12, true))⟩,
 ⟨(some 15), .call f_sym_Tree_open [(.t 13), (.t 14)], (some (12, true))⟩,
 ⟨(some 16), .pick (.t 12) (.t 15) (.c (.b false)), none⟩])
 (.cond (.t 16)
 (.regD [⟨(some 17), .mv (.t 0), none⟩,
 ⟨(some 18), .mv (.t 0), none⟩,
 ⟨(some 19), .mv (.t 0), none⟩,
 ⟨(some 20), .nck (.t 19), none⟩,
 ⟨(some 21), .fa 1 (.t 20), none⟩,
 ⟨(some 22), .ld true 6 (.t 21), none⟩,
 ⟨(some 23), .mv (.t 1), none⟩,
 ⟨(some 24), .ld true 4 (.t 5), none⟩,
 ⟨(some 25), .call f_sym_made [(.t 24)], none⟩,
 ⟨(some 26), .call f_sym_Tree_set [(.t 18), (.t 22), (.t 23), (.t 25)], none⟩,
 ⟨(some 27), .nck (.t 17), none⟩,
 ⟨(some 28), .fa 1 (.t 27), none⟩,
 ⟨none, .st 6 (.t 28) (.t 26), none⟩] [(5, (5, 9))])
 .skip))) }
def c_sym_Tree_Text : Fun := { cin := [.id, (.sl 1 .id)], cout := [.id], ntmps := 28, keep := false, res := [(4, none)], body :=
 (.seq (.reg [⟨(some 4), .mv (.c (.s [])), none⟩])
 (.seq (.seq (.reg [⟨(some 7), .mv (.t 0), none⟩,
 ⟨(some 8), .eq .ptr false (.t 7) (.c .np), none⟩])
 (.cond (.t 8)
 (.seq (.reg [⟨(some 4), .mv (.c (.s [])), none⟩])
 .ret)
 .skip))
 (.seq (.reg [⟨(some 9), .mv (.t 0), none⟩,
 ⟨(some 10), .mv (.t 1), none⟩,
 ⟨(some 11), .call f_sym_Tree_at [(.t 9), (.t 10)], none⟩,
 ⟨(some 5), .alloc 91 [(.i .i64 0), (.i .u8 0), (.s []), (.i .i64 0), .nsl, .nsl], none⟩,
 ⟨none, .st 6 (.t 5) (.t 11), none⟩])
 (.seq (.seq (.reg [⟨(some 12), .mv (.t 0), none⟩,
 ⟨(some 13), .ld true 6 (.t 5), none⟩,
 ⟨(some 14), .call f_sym_Tree_kind [(.t 12), (.t 13)], none⟩,
 ⟨(some 6), .mv (.t 14), none⟩])
 (.seq (.reg [⟨(some 15), .mv (.t 6), none⟩,
 ⟨(some 16), .bin .neq (.t 15) (.c (.i .u8 1)), none⟩,
 ⟨(some 17), .mv (.t 16), none⟩,
 ⟨(some 18), .mv (.t 6), (some (17, true))⟩,
 ⟨(some 19), .bin .neq (.t 18) (.c (.i .u8 3)), (some (17, true))⟩,
 ⟨(some 20), .pick (.t 17) (.t 19) (.c (.b false)), none⟩])
 (.cond (.t 20)
 (.seq (.reg [⟨(some 4), .mv (.c (.s [])), none⟩])
 .ret)
 .skip)))
 (.seq (.seq (.reg [⟨(some 21), .fa 0 (.t 5), none⟩,
 ⟨(some 22), .ld false 1 (.t 21), none⟩,
 ⟨(some 23), .bin .geq (.t 22) (.c (.i .i64 0)), none⟩])
 (.cond (.t 23)
 (.reg [⟨(some 24), .build [] [], none⟩,
 ⟨(some 25), .mki 262 (.t 24), none⟩,
 ⟨none, .bad, none⟩])
 .skip))
 (.seq (.reg [⟨(some 26), .fa 2 (.t 5), none⟩,
 ⟨(some 27), .ld false 1 (.t 26), none⟩,
 ⟨(some 4), .mv (.t 27), none⟩])
 .ret)))))) }
def c_sym_Tree_apart : Fun := { cin := [.id, (.sl 1 .id), (.sl 1 .id)], cout := [.id], ntmps := 37, keep := false, res := [(6, none)], body :=
 (.seq (.reg [⟨(some 6), .mv (.c (.b false)), none⟩])
 (.seq (.reg [⟨(some 7), .mv (.t 0), none⟩,
 ⟨(some 8), .eq .ptr true (.t 7) (.c .np), none⟩,
 ⟨(some 9), .mv (.t 8), none⟩,
 ⟨(some 10), .mv (.t 1), (some (9, true))⟩,
 ⟨(some 11), .len 1 (.t 10), (some (9, true))⟩,
 ⟨(some 12), .bin .gtr (.t 11) (.c (.i .i64 0)), (some (9, true))⟩,
 ⟨(some 13), .pick (.t 9) (.t 12) (.c (.b false)), none⟩,
 ⟨(some 14), .mv (.t 13), none⟩,
 ⟨(some 15), .mv (.t 0), (some (14, true))⟩,
 ⟨(some 16), .mv (.t 1), (some (14, true))⟩,
 ⟨(some 17), .call f_sym_Tree_Kind [(.t 15), (.t 16)], (some (14, true))⟩,
 ⟨(some 18), .bin .neq (.t 17) (.c (.i .u8 0)), (some (14, true))⟩,
 ⟨(some 19), .pick (.t 14) (.t 18) (.c (.b false)), none⟩,
 ⟨(some 20), .mv (.t 19), none⟩,
 ⟨(some 21), .mv (.t 0), (some (20, true))⟩,
 ⟨(some 22), .mv (.t 2), (some (20, true))⟩,
 ⟨(some 23), .call f_sym_Tree_open [(.t 21), (.t 22)], (some (20, true))⟩,
 ⟨(some 24), .pick (.t 20) (.t 23) (.c (.b false)), none⟩,
 ⟨(some 25), .mv (.t 24), none⟩,
 ⟨(some 26), .mv (.t 1), (some (25, true))⟩,
 ⟨(some 27), .mv (.t 2), (some (25, true))⟩,
 ⟨(some 28), .call f_path_Under [(.t 26), (.t 27)], (some (25, true))⟩,
 ⟨(some 29), .un .not (.t 28), (some (25, true))⟩,
 ⟨(some 30), .pick (.t 25) (.t 29) (.c (.b false)), none⟩,
 ⟨(some 31), .mv (.t 30), none⟩,
 ⟨(some 32), .mv (.t 2), (some (31, true))⟩,
 ⟨(some 33), .mv (.t 1), (some (31, true))⟩,
 ⟨(some 34), .call f_path_Under [(.t 32), (.t 33)], (some (31, true))⟩,
 ⟨(some 35), .un .not (.t 34), (some (31, true))⟩,
 ⟨(some 36), .pick (.t 31) (.t 35) (.c (.b false)), none⟩,
 ⟨(some 6), .mv (.t 36), none⟩])
 .ret)) }
def c_sym_Tree_set : Fun := { cin := [.id, (.agg [.id, .id, .id, .id, (.sl 1 .id), (.sl 6 (.agg [.id, .id, .id, .id, (.sl 1 .id), (.sl 6 (.agg [.id, .id, .id, .id, (.sl 1 .id), (.sl 6 .id)]))]))]), (.sl 1 .id), (.agg [.id, .id, .id, .id, (.sl 1 .id), (.sl 6 (.agg [.id, .id, .id, .id, (.sl 1 .id), (.sl 6 (.agg [.id, .id, .id, .id, (.sl 1 .id), (.sl 6 .id)]))]))])], cout := [(.agg [.id, .id, .id, .id, (.sl 1 .id), (.sl 6 (.agg [.id, .id, .id, .id, (.sl 1 .id), (.sl 6 (.agg [.id, .id, .id, .id, (.sl 1 .id), (.sl 6 .id)]))]))])], ntmps := 34, keep := false, res := [(8, some (true, 6))], body :=
 (.seq (.reg [⟨(some 5), .box 91 6 (.t 1), none⟩,
 ⟨(some 7), .box 91 6 (.t 3), none⟩,
 ⟨(some 8), .alloc 91 [(.i .i64 0), (.i .u8 0), (.s []), (.i .i64 0), .nsl, .nsl], none⟩])
 (.seq (.seq (.reg [⟨(some 9), .mv (.t 2), none⟩,
 ⟨(some 10), .len 1 (.t 9), none⟩,
 ⟨(some 11), .bin .eql (.t 10) (.c (.i .i64 1)), none⟩])
 (.cond (.t 11)
 (.seq (.regD [⟨(some 12), .ld true 6 (.t 5), none⟩,
 ⟨(some 13), .mv (.t 2), none⟩,
 ⟨(some 14), .ia 1 (.t 13) (.c (.i .i64 0)), none⟩,
 ⟨(some 15), .ld false 1 (.t 14), none⟩,
 ⟨(some 16), .ld true 6 (.t 7), none⟩,
 ⟨(some 17), .call f_sym_with [(.t 12), (.t 15), (.t 16)], none⟩,
 ⟨none, .st 6 (.t 8) (.t 17), none⟩] [])
 .ret)
 .skip))
 (.seq (.regD [⟨(some 18), .ld true 6 (.t 5), none⟩,
 ⟨(some 19), .mv (.t 2), none⟩,
 ⟨(some 20), .ia 1 (.t 19) (.c (.i .i64 0)), none⟩,
 ⟨(some 21), .ld false 1 (.t 20), none⟩,
 ⟨(some 22), .mv (.t 0), none⟩,
 ⟨(some 23), .mv (.t 0), none⟩,
 ⟨(some 24), .ld true 6 (.t 5), none⟩,
 ⟨(some 25), .mv (.t 2), none⟩,
 ⟨(some 26), .ia 1 (.t 25) (.c (.i .i64 0)), none⟩,
 ⟨(some 27), .ld false 1 (.t 26), none⟩,
 ⟨(some 28), .call f_sym_Tree_kid [(.t 23), (.t 24), (.t 27)], none⟩,
 ⟨(some 29), .mv (.t 2), none⟩,
 ⟨(some 30), .slc false 1 (.t 29) (some (.c (.i .i64 1))) none none, none⟩,
 ⟨(some 31), .ld true 6 (.t 7), none⟩,
 ⟨(some 32), .call f_sym_Tree_set [(.t 22), (.t 28), (.t 30), (.t 31)], none⟩,
 ⟨(some 33), .call f_sym_with [(.t 18), (.t 21), (.t 32)], none⟩,
 ⟨none, .st 6 (.t 8) (.t 33), none⟩] [(0, (0, 15)), (3, (3, 15)), (13, (10, 13))])
 .ret))) }
def c_sym_Tree_at : Fun := { cin := [.id, (.sl 1 .id)], cout := [(.agg [.id, .id, .id, .id, (.sl 1 .id), (.sl 6 (.agg [.id, .id, .id, .id, (.sl 1 .id), (.sl 6 (.agg [.id, .id, .id, .id, (.sl 1 .id), (.sl 6 .id)]))]))])], ntmps := 34, keep := false, res := [(4, some (true, 6))], body :=
 (.seq (.reg [⟨(some 4), .alloc 91 [(.i .i64 0), (.i .u8 0), (.s []), (.i .i64 0), .nsl, .nsl], none⟩])
 (.seq (.reg [⟨(some 8), .mv (.t 0), none⟩,
 ⟨(some 9), .nck (.t 8), none⟩,
 ⟨(some 10), .fa 1 (.t 9), none⟩,
 ⟨(some 11), .ld true 6 (.t 10), none⟩,
 ⟨(some 5), .alloc 91 [(.i .i64 0), (.i .u8 0), (.s []), (.i .i64 0), .nsl, .nsl], none⟩,
 ⟨none, .st 6 (.t 5) (.t 11), none⟩])
 (.seq (.seq (.reg [⟨(some 12), .mv (.t 1), none⟩,
 ⟨(some 13), .len 1 (.t 12), none⟩,
 ⟨(some 14), .mv (.c (.i .i64 0)), none⟩])
 (.blk 0 (.loop (.seq (.reg [⟨(some 15), .bin .lss (.t 14) (.t 13), none⟩])
 (.seq (.cond (.t 15)
 .skip
 (.exit 0))
 (.seq (.blk 1 (.seq (.reg [⟨(some 16), .ia 1 (.t 12) (.t 14), none⟩,
 ⟨(some 17), .ld false 1 (.t 16), none⟩,
 ⟨(some 7), .mv (.t 17), none⟩])
 (.seq (.seq (.reg [⟨(some 18), .mv (.t 0), none⟩,
 ⟨(some 19), .ld true 6 (.t 5), none⟩,
 ⟨(some 20), .call f_sym_Tree_kind [(.t 18), (.t 19)], none⟩,
 ⟨(some 21), .bin .neq (.t 20) (.c (.i .u8 2)), none⟩,
 ⟨(some 22), .mv (.t 21), none⟩,
 ⟨(some 23), .mv (.t 7), (some (22, false))⟩,
 ⟨(some 24), .call f_path_Name [(.t 23)], (some (22, false))⟩,
 ⟨(some 25), .un .not (.t 24), (some (22, false))⟩,
 ⟨(some 26), .pick (.t 22) (.c (.b true)) (.t 25), none⟩])
 (.cond (.t 26)
 (.seq (.reg [⟨(some 27), .call f_sym_absent [], none⟩,
 ⟨none, .st 6 (.t 4) (.t 27), none⟩])
 .ret)
 .skip))
 (.reg [⟨(some 28), .mv (.t 0), none⟩,
 ⟨(some 29), .ld true 6 (.t 5), none⟩,
 ⟨(some 30), .mv (.t 7), none⟩,
 ⟨(some 31), .call f_sym_Tree_kid [(.t 28), (.t 29), (.t 30)], none⟩,
 ⟨none, .st 6 (.t 5) (.t 31), none⟩]))))
 (.reg [⟨(some 32), .bin .add (.t 14) (.c (.i .i64 1)), none⟩,
 ⟨(some 14), .mv (.t 32), none⟩])))))))
 (.seq (.reg [⟨(some 33), .ld true 6 (.t 5), none⟩,
 ⟨none, .st 6 (.t 4) (.t 33), none⟩])
 .ret)))) }
def c_sym_Tree_kind : Fun := { cin := [.id, (.agg [.id, .id, .id, .id, (.sl 1 .id), (.sl 6 (.agg [.id, .id, .id, .id, (.sl 1 .id), (.sl 6 (.agg [.id, .id, .id, .id, (.sl 1 .id), (.sl 6 .id)]))]))])], cout := [.id], ntmps := 33, keep := false, res := [(4, none)], body :=
 (.seq (.reg [⟨(some 3), .box 91 6 (.t 1), none⟩,
 ⟨(some 4), .mv (.c (.i .u8 0)), none⟩])
 (.seq (.seq (.reg [⟨(some 5), .fa 0 (.t 3), none⟩,
 ⟨(some 6), .ld false 1 (.t 5), none⟩,
 ⟨(some 7), .bin .lss (.t 6) (.c (.i .i64 0)), none⟩])
 (.cond (.t 7)
 (.seq (.reg [⟨(some 8), .fa 1 (.t 3), none⟩,
 ⟨(some 9), .ld false 1 (.t 8), none⟩,
 ⟨(some 4), .mv (.t 9), none⟩])
 .ret)
 .skip))
 (.seq (.seq (.regD [⟨(some 10), .mv (.t 0), none⟩,
 ⟨(some 11), .nck (.t 10), none⟩,
 ⟨(some 12), .fa 0 (.t 11), none⟩,
 ⟨(some 13), .ld false 1 (.t 12), none⟩,
 ⟨(some 14), .fa 0 (.t 3), none⟩,
 ⟨(some 15), .ld false 1 (.t 14), none⟩,
 ⟨(some 16), .ia 6 (.t 13) (.t 15), none⟩,
 ⟨(some 17), .fa 0 (.t 16), none⟩,
 ⟨(some 18), .ld false 1 (.t 17), none⟩,
 ⟨(some 19), .un .not (.t 18), none⟩] [])
 (.cond (.t 19)
 (.reg [⟨(some 20), .fa 0 (.t 3), none⟩,
 ⟨(some 21), .ld false 1 (.t 20), none⟩,
 ⟨(some 22), .build [(.i .i64 0), (.b false)] [(0, 1, (.t 21))], none⟩,
 ⟨(some 23), .mki 168 (.t 22), none⟩,
 ⟨none, .bad, none⟩])
 .skip))
 (.seq (.regD [⟨(some 24), .mv (.t 0), none⟩,
 ⟨(some 25), .nck (.t 24), none⟩,
 ⟨(some 26), .fa 0 (.t 25), none⟩,
 ⟨(some 27), .ld false 1 (.t 26), none⟩,
 ⟨(some 28), .fa 0 (.t 3), none⟩,
 ⟨(some 29), .ld false 1 (.t 28), none⟩,
 ⟨(some 30), .ia 6 (.t 27) (.t 29), none⟩,
 ⟨(some 31), .fa 1 (.t 30), none⟩,
 ⟨(some 32), .ld false 1 (.t 31), none⟩,
 ⟨(some 4), .mv (.t 32), none⟩] [])
 .ret)))) }
def c_sym_base : Fun := { cin := [(.agg [.id, .id, .id, .id, (.sl 1 .id), (.sl 6 (.agg [.id, .id, .id, .id, (.sl 1 .id), (.sl 6 (.agg [.id, .id, .id, .id, (.sl 1 .id), (.sl 6 .id)]))]))])], cout := [.id], ntmps := 8, keep := false, res := [(2, none)], body :=
 (.seq (.reg [⟨(some 1), .box 91 6 (.t 0), none⟩,
 ⟨(some 2), .mv (.c (.i .i64 0)), none⟩])
 (.seq (.reg [⟨(some 3), .fa 0 (.t 1), none⟩,
 ⟨(some 4), .ld false 1 (.t 3), none⟩,
 ⟨(some 5), .fa 3 (.t 1), none⟩,
 ⟨(some 6), .ld false 1 (.t 5), none⟩,
 ⟨(some 7), .mm true (.t 4) (.t 6), none⟩,
 ⟨(some 2), .mv (.t 7), none⟩])
 .ret)) }
def c_sym_Tree_bare : Fun := { cin := [.id, (.agg [.id, .id, .id, .id, (.sl 1 .id), (.sl 6 (.agg [.id, .id, .id, .id, (.sl 1 .id), (.sl 6 (.agg [.id, .id, .id, .id, (.sl 1 .id), (.sl 6 .id)]))]))]), .id], cout := [.id], ntmps := 48, keep := false, res := [(6, some (false, 1))], body :=
 (.seq (.reg [⟨(some 3), .box 216 1 (.t 0), none⟩,
 ⟨(some 4), .box 91 6 (.t 1), none⟩,
 ⟨(some 6), .alloc 4 [(.b false)], none⟩])
 (.seq (.reg [⟨(some 12), .ld false 1 (.t 3), none⟩,
 ⟨(some 13), .nck (.t 12), none⟩,
 ⟨(some 14), .fa 0 (.t 13), none⟩,
 ⟨(some 15), .ld false 1 (.t 14), none⟩,
 ⟨(some 16), .mv (.t 2), none⟩,
 ⟨(some 17), .ia 6 (.t 15) (.t 16), none⟩,
 ⟨(some 18), .ld true 6 (.t 17), none⟩,
 ⟨(some 7), .alloc 84 [(.b false), (.i .u8 0), .nsl, .nsl, (.i .i64 0), (.i .i64 0)], none⟩,
 ⟨none, .st 6 (.t 7) (.t 18), none⟩])
 (.seq (.reg [⟨(some 19), .mkf f_sym_Tree_bare_1 [(.t 7), (.t 4), (.t 3)], none⟩,
 ⟨(some 8), .mv (.t 19), none⟩])
 (.seq (.seq (.reg [⟨(some 20), .mv (.t 8), none⟩])
 (.blk 0 (.rf (.t 20) [21, 22] (.reg [⟨(some 9), .alloc 84 [(.b false), (.i .u8 0), .nsl, .nsl, (.i .i64 0), (.i .i64 0)], none⟩,
 ⟨none, .st 6 (.t 9) (.t 21), none⟩])
 (.blk 1 (.seq (.reg [⟨(some 23), .fa 1 (.t 9), none⟩,
 ⟨(some 24), .ld false 1 (.t 23), none⟩,
 ⟨(some 25), .bin .neq (.t 24) (.c (.i .u8 0)), none⟩])
 (.cond (.t 25)
 (.seq (.reg [⟨none, .st 1 (.t 6) (.c (.b false)), none⟩])
 .ret)
 .skip))))))
 (.seq (.seq (.reg [⟨(some 26), .mv (.t 8), none⟩])
 (.blk 2 (.rf (.t 26) [27, 28] (.seq (.reg [⟨(some 10), .alloc 84 [(.b false), (.i .u8 0), .nsl, .nsl, (.i .i64 0), (.i .i64 0)], none⟩,
 ⟨none, .st 6 (.t 10) (.t 27), none⟩])
 (.reg [⟨(some 11), .mv (.t 28), none⟩]))
 (.blk 3 (.seq (.reg [⟨(some 29), .fa 0 (.t 10), none⟩,
 ⟨(some 30), .ld false 1 (.t 29), none⟩,
 ⟨(some 31), .un .not (.t 30), none⟩])
 (.cond (.t 31)
 (.reg [⟨(some 32), .mv (.t 11), none⟩,
 ⟨(some 33), .build [(.i .i64 0), (.b false)] [(0, 1, (.t 32))], none⟩,
 ⟨(some 34), .mki 168 (.t 33), none⟩,
 ⟨none, .bad, none⟩])
 .skip))))))
 (.seq (.seq (.reg [⟨(some 35), .fa 4 (.t 7), none⟩,
 ⟨(some 36), .ld false 1 (.t 35), none⟩])
 (.blk 4 (.seq (.reg [⟨(some 38), .bin .eql (.t 36) (.c (.i .i64 1)), none⟩,
 ⟨(some 37), .mv (.t 38), none⟩])
 (.cond (.t 37)
 (.seq (.reg [⟨none, .st 1 (.t 6) (.c (.b true)), none⟩])
 .ret)
 (.seq (.reg [⟨(some 40), .bin .eql (.t 36) (.c (.i .i64 2)), none⟩,
 ⟨(some 39), .mv (.t 40), none⟩])
 (.cond (.t 39)
 (.seq (.reg [⟨(some 41), .ld false 1 (.t 3), none⟩,
 ⟨(some 42), .ld true 6 (.t 7), none⟩,
 ⟨(some 43), .call f_sym_Tree_beside [(.t 41), (.t 42)], none⟩,
 ⟨(some 44), .un .not (.t 43), none⟩])
 (.cond (.t 44)
 (.seq (.reg [⟨none, .st 1 (.t 6) (.c (.b false)), none⟩])
 .ret)
 .skip))
 .skip))))))
 (.reg [⟨(some 45), .mv (.t 2), none⟩,
 ⟨(some 46), .build [(.i .i64 0), (.b false)] [(0, 1, (.t 45)), (1, 1, (.c (.b true)))], none⟩,
 ⟨(some 47), .mki 168 (.t 46), none⟩,
 ⟨none, .bad, none⟩]))))))) }
def c_sym_Tree_open : Fun := { cin := [.id, (.sl 1 .id)], cout := [.id], ntmps := 27, keep := false, res := [(4, none)], body :=
 (.seq (.reg [⟨(some 4), .mv (.c (.b false)), none⟩])
 (.seq (.reg [⟨(some 6), .mv (.t 1), none⟩,
 ⟨(some 7), .len 1 (.t 6), none⟩,
 ⟨(some 8), .bin .sub (.t 7) (.c (.i .i64 1)), none⟩,
 ⟨(some 5), .mv (.t 8), none⟩])
 (.seq (.reg [⟨(some 9), .mv (.t 5), none⟩,
 ⟨(some 10), .bin .geq (.t 9) (.c (.i .i64 0)), none⟩,
 ⟨(some 11), .mv (.t 10), none⟩,
 ⟨(some 12), .mv (.t 1), (some (11, true))⟩,
 ⟨(some 13), .mv (.t 5), (some (11, true))⟩,
 ⟨(some 14), .ia 1 (.t 12) (.t 13), (some (11, true))⟩,
 ⟨(some 15), .ld false 1 (.t 14), (some (11, true))⟩,
 ⟨(some 16), .call f_path_Name [(.t 15)], (some (11, true))⟩,
 ⟨(some 17), .pick (.t 11) (.t 16) (.c (.b false)), none⟩,
 ⟨(some 18), .mv (.t 17), none⟩,
 ⟨(some 19), .mv (.t 0), (some (18, true))⟩,
 ⟨(some 20), .mv (.t 1), (some (18, true))⟩,
 ⟨(some 21), .mv (.t 5), (some (18, true))⟩,
 ⟨(some 22), .mv (.t 5), (some (18, true))⟩,
 ⟨(some 23), .slc false 1 (.t 20) none (some (.t 21)) (some (.t 22)), (some (18, true))⟩,
 ⟨(some 24), .call f_sym_Tree_Kind [(.t 19), (.t 23)], (some (18, true))⟩,
 ⟨(some 25), .bin .eql (.t 24) (.c (.i .u8 2)), (some (18, true))⟩,
 ⟨(some 26), .pick (.t 18) (.t 25) (.c (.b false)), none⟩,
 ⟨(some 4), .mv (.t 26), none⟩])
 .ret))) }
def c_sym_made : Fun := { cin := [(.agg [.id, .id, (.sl 1 .id), (.sl 4 (.agg [.id, .id, (.sl 1 .id), (.sl 4 (.agg [.id, .id, (.sl 1 .id), (.sl 4 .id)]))]))])], cout := [(.agg [.id, .id, .id, .id, (.sl 1 .id), (.sl 6 (.agg [.id, .id, .id, .id, (.sl 1 .id), (.sl 6 (.agg [.id, .id, .id, .id, (.sl 1 .id), (.sl 6 .id)]))]))])], ntmps := 30, keep := false, res := [(2, some (true, 6))], body :=
 (.seq (.reg [⟨(some 1), .box 25 4 (.t 0), none⟩,
 ⟨(some 2), .alloc 91 [(.i .i64 0), (.i .u8 0), (.s []), (.i .i64 0), .nsl, .nsl], none⟩])
 (.seq (.regD [⟨(some 6), .fa 0 (.t 1), none⟩,
 ⟨(some 7), .ld false 1 (.t 6), none⟩,
 ⟨(some 8), .fa 1 (.t 1), none⟩,
 ⟨(some 9), .ld false 1 (.t 8), none⟩,
 ⟨(some 10), .fa 2 (.t 1), none⟩,
 ⟨(some 11), .ld false 1 (.t 10), none⟩,
 ⟨(some 12), .callQ false f_slices_Clone_string_string [(.t 11)], none⟩,
 ⟨(some 13), .build [(.i .i64 0), (.i .u8 0), (.s []), (.i .i64 0), .nsl, .nsl] [(0, 1, (.c (.i .i64 (-1)))), (1, 1, (.t 7)), (2, 1, (.t 9)), (3, 1, (.c (.i .i64 (-1)))), (4, 1, (.t 12))], none⟩,
 ⟨none, .mv (.c (.tup [])), none⟩,
 ⟨(some 3), .adp 91 [(.i .i64 0), (.i .u8 0), (.s []), (.i .i64 0), .nsl, .nsl] 6 (.t 13), none⟩] [(1, (1, 7)), (3, (3, 7))])
 (.seq (.seq (.reg [⟨(some 14), .fa 3 (.t 1), none⟩,
 ⟨(some 15), .ld false 1 (.t 14), none⟩,
 ⟨(some 16), .len 1 (.t 15), none⟩,
 ⟨(some 17), .mv (.c (.i .i64 0)), none⟩])
 (.blk 0 (.loop (.seq (.reg [⟨(some 18), .bin .lss (.t 17) (.t 16), none⟩])
 (.seq (.cond (.t 18)
 .skip
 (.exit 0))
 (.seq (.blk 1 (.seq (.reg [⟨(some 19), .ia 4 (.t 15) (.t 17), none⟩,
 ⟨(some 20), .ld true 4 (.t 19), none⟩,
 ⟨(some 5), .alloc 25 [(.i .u8 0), (.s []), .nsl, .nsl], none⟩,
 ⟨none, .st 4 (.t 5) (.t 20), none⟩])
 (.regD [⟨(some 21), .fa 5 (.t 3), none⟩,
 ⟨(some 22), .ld false 1 (.t 21), none⟩,
 ⟨(some 23), .ld true 4 (.t 5), none⟩,
 ⟨(some 24), .callQ false f_sym_made [(.t 23)], none⟩,
 ⟨(some 25), .bsl 6 [(.t 24)], none⟩,
 ⟨(some 26), .app 6 91 (.t 22) (.t 25), none⟩,
 ⟨(some 27), .fa 5 (.t 3), none⟩,
 ⟨none, .st 1 (.t 27) (.t 26), none⟩] [(1, (1, 4))])))
 (.reg [⟨(some 28), .bin .add (.t 17) (.c (.i .i64 1)), none⟩,
 ⟨(some 17), .mv (.t 28), none⟩])))))))
 (.seq (.reg [⟨(some 29), .ld true 6 (.t 3), none⟩,
 ⟨none, .st 6 (.t 2) (.t 29), none⟩])
 .ret)))) }
def c_sym_with : Fun := { cin := [(.agg [.id, .id, .id, .id, (.sl 1 .id), (.sl 6 (.agg [.id, .id, .id, .id, (.sl 1 .id), (.sl 6 (.agg [.id, .id, .id, .id, (.sl 1 .id), (.sl 6 .id)]))]))]), .id, (.agg [.id, .id, .id, .id, (.sl 1 .id), (.sl 6 (.agg [.id, .id, .id, .id, (.sl 1 .id), (.sl 6 (.agg [.id, .id, .id, .id, (.sl 1 .id), (.sl 6 .id)]))]))])], cout := [(.agg [.id, .id, .id, .id, (.sl 1 .id), (.sl 6 (.agg [.id, .id, .id, .id, (.sl 1 .id), (.sl 6 (.agg [.id, .id, .id, .id, (.sl 1 .id), (.sl 6 .id)]))]))])], ntmps := 79, keep := false, res := [(6, some (true, 6))], body :=
 (.seq (.reg [⟨(some 3), .box 91 6 (.t 0), none⟩,
 ⟨(some 5), .box 91 6 (.t 2), none⟩,
 ⟨(some 6), .alloc 91 [(.i .i64 0), (.i .u8 0), (.s []), (.i .i64 0), .nsl, .nsl], none⟩])
 (.seq (.regD [⟨(some 11), .ld true 6 (.t 3), none⟩,
 ⟨(some 12), .callQ false f_sym_base [(.t 11)], none⟩,
 ⟨(some 13), .fa 4 (.t 3), none⟩,
 ⟨(some 14), .ld false 1 (.t 13), none⟩,
 ⟨(some 15), .callQ false f_slices_Clone_string_string [(.t 14)], none⟩,
 ⟨(some 16), .fa 5 (.t 3), none⟩,
 ⟨(some 17), .ld false 1 (.t 16), none⟩,
 ⟨(some 18), .callQ false f_slices_Clone_api_Term_api_Term [(.t 17)], none⟩,
 ⟨(some 19), .build [(.i .i64 0), (.i .u8 0), (.s []), (.i .i64 0), .nsl, .nsl] [(0, 1, (.c (.i .i64 (-1)))), (1, 1, (.c (.i .u8 2))), (3, 1, (.t 12)), (4, 1, (.t 15)), (5, 1, (.t 18))], none⟩,
 ⟨none, .mv (.c (.tup [])), none⟩,
 ⟨(some 7), .adp 91 [(.i .i64 0), (.i .u8 0), (.s []), (.i .i64 0), .nsl, .nsl] 6 (.t 19), none⟩] [(3, (1, 3)), (6, (1, 6))])
 (.seq (.reg [⟨(some 21), .fa 4 (.t 7), none⟩,
 ⟨(some 22), .ld false 1 (.t 21), none⟩,
 ⟨(some 23), .mv (.t 1), none⟩,
 ⟨(some 24), .call f_slices_BinarySearch_string_string [(.t 22), (.t 23)], none⟩,
 ⟨(some 20), .mv (.t 24), none⟩,
 ⟨(some 25), .ext (.t 20) 0, none⟩,
 ⟨(some 26), .ext (.t 20) 1, none⟩,
 ⟨(some 8), .mv (.t 25), none⟩,
 ⟨(some 9), .mv (.t 26), none⟩])
 (.seq (.regD [⟨(some 27), .ld true 6 (.t 5), none⟩,
 ⟨(some 28), .call f_sym_absent [], none⟩,
 ⟨(some 29), .call f_sym_Same [(.t 27), (.t 28)], none⟩,
 ⟨(some 30), .mv (.t 29), none⟩,
 ⟨(some 31), .fa 3 (.t 7), (some (30, true))⟩,
 ⟨(some 32), .ld false 1 (.t 31), (some (30, true))⟩,
 ⟨(some 33), .bin .lss (.t 32) (.c (.i .i64 0)), (some (30, true))⟩,
 ⟨(some 34), .pick (.t 30) (.t 33) (.c (.b false)), none⟩,
 ⟨(some 10), .mv (.t 34), none⟩] [(0, (0, 2))])
 (.seq (.blk 0 (.seq (.reg [⟨(some 36), .mv (.t 9), none⟩,
 ⟨(some 37), .mv (.t 36), none⟩,
 ⟨(some 38), .mv (.t 10), (some (37, true))⟩,
 ⟨(some 39), .pick (.t 37) (.t 38) (.c (.b false)), none⟩,
 ⟨(some 35), .mv (.t 39), none⟩])
 (.cond (.t 35)
 (.regD [⟨(some 40), .fa 4 (.t 7), none⟩,
 ⟨(some 41), .ld false 1 (.t 40), none⟩,
 ⟨(some 42), .mv (.t 8), none⟩,
 ⟨(some 43), .mv (.t 8), none⟩,
 ⟨(some 44), .bin .add (.t 43) (.c (.i .i64 1)), none⟩,
 ⟨(some 45), .call f_slices_Delete_string_string [(.t 41), (.t 42), (.t 44)], none⟩,
 ⟨(some 46), .fa 5 (.t 7), none⟩,
 ⟨(some 47), .ld false 1 (.t 46), none⟩,
 ⟨(some 48), .mv (.t 8), none⟩,
 ⟨(some 49), .mv (.t 8), none⟩,
 ⟨(some 50), .bin .add (.t 49) (.c (.i .i64 1)), none⟩,
 ⟨(some 51), .call f_slices_Delete_api_Term_api_Term [(.t 47), (.t 48), (.t 50)], none⟩,
 ⟨(some 52), .fa 4 (.t 7), none⟩,
 ⟨none, .st 1 (.t 52) (.t 45), none⟩,
 ⟨(some 53), .fa 5 (.t 7), none⟩,
 ⟨none, .st 1 (.t 53) (.t 51), none⟩] [(7, (5, 7))])
 (.seq (.reg [⟨(some 55), .mv (.t 9), none⟩,
 ⟨(some 54), .mv (.t 55), none⟩])
 (.cond (.t 54)
 (.reg [⟨(some 56), .fa 5 (.t 7), none⟩,
 ⟨(some 57), .ld false 1 (.t 56), none⟩,
 ⟨(some 58), .mv (.t 8), none⟩,
 ⟨(some 59), .ld true 6 (.t 5), none⟩,
 ⟨(some 60), .ia 6 (.t 57) (.t 58), none⟩,
 ⟨none, .st 6 (.t 60) (.t 59), none⟩])
 (.seq (.reg [⟨(some 62), .mv (.t 10), none⟩,
 ⟨(some 63), .un .not (.t 62), none⟩,
 ⟨(some 61), .mv (.t 63), none⟩])
 (.cond (.t 61)
 (.regD [⟨(some 64), .fa 4 (.t 7), none⟩,
 ⟨(some 65), .ld false 1 (.t 64), none⟩,
 ⟨(some 66), .mv (.t 8), none⟩,
 ⟨(some 67), .mv (.t 1), none⟩,
 ⟨(some 68), .bsl 1 [(.t 67)], none⟩,
 ⟨(some 69), .callI f_slices_Insert_string_string [(.t 65), (.t 66), (.t 68)], none⟩,
 ⟨(some 70), .fa 5 (.t 7), none⟩,
 ⟨(some 71), .ld false 1 (.t 70), none⟩,
 ⟨(some 72), .mv (.t 8), none⟩,
 ⟨(some 73), .ld true 6 (.t 5), none⟩,
 ⟨(some 74), .bsl 6 [(.t 73)], none⟩,
 ⟨(some 75), .callI f_slices_Insert_api_Term_api_Term [(.t 71), (.t 72), (.t 74)], none⟩,
 ⟨(some 76), .fa 4 (.t 7), none⟩,
 ⟨none, .st 1 (.t 76) (.t 69), none⟩,
 ⟨(some 77), .fa 5 (.t 7), none⟩,
 ⟨none, .st 1 (.t 77) (.t 75), none⟩] [(7, (5, 7)), (9, (5, 9))])
 .skip)))))))
 (.seq (.reg [⟨(some 78), .ld true 6 (.t 7), none⟩,
 ⟨none, .st 6 (.t 6) (.t 78), none⟩])
 .ret)))))) }
def c_sym_Tree_kid : Fun := { cin := [.id, (.agg [.id, .id, .id, .id, (.sl 1 .id), (.sl 6 (.agg [.id, .id, .id, .id, (.sl 1 .id), (.sl 6 (.agg [.id, .id, .id, .id, (.sl 1 .id), (.sl 6 .id)]))]))]), .id], cout := [(.agg [.id, .id, .id, .id, (.sl 1 .id), (.sl 6 (.agg [.id, .id, .id, .id, (.sl 1 .id), (.sl 6 (.agg [.id, .id, .id, .id, (.sl 1 .id), (.sl 6 .id)]))]))])], ntmps := 54, keep := false, res := [(6, some (true, 6))], body :=
 (.seq (.reg [⟨(some 4), .box 91 6 (.t 1), none⟩,
 ⟨(some 6), .alloc 91 [(.i .i64 0), (.i .u8 0), (.s []), (.i .i64 0), .nsl, .nsl], none⟩])
 (.seq (.seq (.reg [⟨(some 13), .fa 4 (.t 4), none⟩,
 ⟨(some 14), .ld false 1 (.t 13), none⟩,
 ⟨(some 15), .mv (.t 2), none⟩,
 ⟨(some 16), .call f_slices_BinarySearch_string_string [(.t 14), (.t 15)], none⟩,
 ⟨(some 12), .mv (.t 16), none⟩,
 ⟨(some 17), .ext (.t 12) 0, none⟩,
 ⟨(some 18), .ext (.t 12) 1, none⟩,
 ⟨(some 7), .mv (.t 17), none⟩,
 ⟨(some 8), .mv (.t 18), none⟩])
 (.seq (.reg [⟨(some 19), .mv (.t 8), none⟩])
 (.cond (.t 19)
 (.seq (.reg [⟨(some 20), .fa 5 (.t 4), none⟩,
 ⟨(some 21), .ld false 1 (.t 20), none⟩,
 ⟨(some 22), .mv (.t 7), none⟩,
 ⟨(some 23), .ia 6 (.t 21) (.t 22), none⟩,
 ⟨(some 24), .ld true 6 (.t 23), none⟩,
 ⟨none, .st 6 (.t 6) (.t 24), none⟩])
 .ret)
 .skip)))
 (.seq (.seq (.reg [⟨(some 25), .ld true 6 (.t 4), none⟩,
 ⟨(some 26), .call f_sym_base [(.t 25)], none⟩,
 ⟨(some 27), .bin .lss (.t 26) (.c (.i .i64 0)), none⟩])
 (.cond (.t 27)
 (.seq (.reg [⟨(some 28), .call f_sym_absent [], none⟩,
 ⟨none, .st 6 (.t 6) (.t 28), none⟩])
 .ret)
 .skip))
 (.seq (.regD [⟨(some 30), .mv (.t 0), none⟩,
 ⟨(some 31), .nck (.t 30), none⟩,
 ⟨(some 32), .fa 0 (.t 31), none⟩,
 ⟨(some 33), .ld false 1 (.t 32), none⟩,
 ⟨(some 34), .ld true 6 (.t 4), none⟩,
 ⟨(some 35), .call f_sym_base [(.t 34)], none⟩,
 ⟨(some 36), .mv (.t 2), none⟩,
 ⟨(some 37), .call f_store_Ask [(.t 33), (.t 35), (.t 36)], none⟩,
 ⟨(some 29), .mv (.t 37), none⟩,
 ⟨(some 38), .ext (.t 29) 0, none⟩,
 ⟨(some 39), .ext (.t 29) 1, none⟩,
 ⟨(some 40), .ext (.t 29) 2, none⟩,
 ⟨(some 9), .mv (.t 38), none⟩,
 ⟨(some 10), .mv (.t 39), none⟩,
 ⟨(some 11), .mv (.t 40), none⟩] [(3, (3, 6))])
 (.seq (.seq (.reg [⟨(some 41), .mv (.t 11), none⟩,
 ⟨(some 42), .bin .neq (.t 41) (.c (.i .i64 0)), none⟩,
 ⟨(some 43), .mv (.t 42), none⟩,
 ⟨(some 44), .mv (.t 10), (some (43, false))⟩,
 ⟨(some 45), .bin .lss (.t 44) (.c (.i .i64 0)), (some (43, false))⟩,
 ⟨(some 46), .pick (.t 43) (.c (.b true)) (.t 45), none⟩])
 (.cond (.t 46)
 (.seq (.reg [⟨(some 47), .call f_sym_absent [], none⟩,
 ⟨none, .st 6 (.t 6) (.t 47), none⟩])
 .ret)
 .skip))
 (.seq (.reg [⟨(some 48), .mv (.t 0), none⟩,
 ⟨(some 49), .mv (.t 9), none⟩,
 ⟨(some 50), .nck (.t 48), none⟩,
 ⟨(some 51), .fa 0 (.t 50), none⟩,
 ⟨none, .st 1 (.t 51) (.t 49), none⟩])
 (.seq (.reg [⟨(some 52), .mv (.t 10), none⟩,
 ⟨(some 53), .call f_sym_ref [(.t 52)], none⟩,
 ⟨none, .st 6 (.t 6) (.t 53), none⟩])
 .ret))))))) }
def c_sym_Tree_bare_1 : Fun := { cin := [.id], cout := [], ntmps := 42, keep := false, res := [], body :=
 (.seq (.reg [⟨(some 7), .fa 2 (.t 1), none⟩,
 ⟨(some 8), .ld false 1 (.t 7), none⟩,
 ⟨(some 9), .len 1 (.t 8), none⟩,
 ⟨(some 10), .mv (.c (.i .i64 0)), none⟩])
 (.blk 0 (.loop (.seq (.reg [⟨(some 11), .bin .lss (.t 10) (.t 9), none⟩])
 (.seq (.cond (.t 11)
 .skip
 (.exit 0))
 (.seq (.blk 1 (.seq (.reg [⟨(some 12), .mv (.t 10), none⟩,
 ⟨(some 13), .ia 1 (.t 8) (.t 10), none⟩,
 ⟨(some 14), .ld false 1 (.t 13), none⟩,
 ⟨(some 5), .mv (.t 12), none⟩,
 ⟨(some 6), .mv (.t 14), none⟩])
 (.seq (.regD [⟨(some 15), .fa 4 (.t 2), none⟩,
 ⟨(some 16), .ld false 1 (.t 15), none⟩,
 ⟨(some 17), .mv (.t 6), none⟩,
 ⟨(some 18), .call f_slices_Contains_string_string [(.t 16), (.t 17)], none⟩,
 ⟨(some 19), .un .not (.t 18), none⟩,
 ⟨(some 20), .mv (.t 19), none⟩,
 ⟨(some 21), .mv (.t 0), (some (20, true))⟩,
 ⟨(some 22), .ld false 1 (.t 3), (some (20, true))⟩,
 ⟨(some 23), .nck (.t 22), (some (20, true))⟩,
 ⟨(some 24), .fa 0 (.t 23), (some (20, true))⟩,
 ⟨(some 25), .ld false 1 (.t 24), (some (20, true))⟩,
 ⟨(some 26), .fa 3 (.t 1), (some (20, true))⟩,
 ⟨(some 27), .ld false 1 (.t 26), (some (20, true))⟩,
 ⟨(some 28), .mv (.t 5), (some (20, true))⟩,
 ⟨(some 29), .ia 1 (.t 27) (.t 28), (some (20, true))⟩,
 ⟨(some 30), .ld false 1 (.t 29), (some (20, true))⟩,
 ⟨(some 31), .ia 6 (.t 25) (.t 30), (some (20, true))⟩,
 ⟨(some 32), .ld true 6 (.t 31), (some (20, true))⟩,
 ⟨(some 33), .fa 3 (.t 1), (some (20, true))⟩,
 ⟨(some 34), .ld false 1 (.t 33), (some (20, true))⟩,
 ⟨(some 35), .mv (.t 5), (some (20, true))⟩,
 ⟨(some 36), .ia 1 (.t 34) (.t 35), (some (20, true))⟩,
 ⟨(some 37), .ld false 1 (.t 36), (some (20, true))⟩,
 ⟨(some 38), .callX (.t 21) [(.t 32), (.t 37)], (some (20, true))⟩,
 ⟨(some 39), .un .not (.t 38), (some (20, true))⟩,
 ⟨(some 40), .pick (.t 20) (.t 39) (.c (.b false)), none⟩] [])
 (.cond (.t 40)
 .ret
 .skip))))
 (.reg [⟨(some 41), .bin .add (.t 10) (.c (.i .i64 1)), none⟩,
 ⟨(some 10), .mv (.t 41), none⟩]))))))) }
def c_slices_Contains_string_string : Fun := { cin := [(.sl 1 .id), .id], cout := [.id], ntmps := 9, keep := false, res := [(4, none)], body :=
 (.seq (.reg [⟨(some 4), .mv (.c (.b false)), none⟩])
 (.seq (.reg [⟨(some 5), .mv (.t 0), none⟩,
 ⟨(some 6), .mv (.t 1), none⟩,
 ⟨(some 7), .call f_slices_Index_string_string [(.t 5), (.t 6)], none⟩,
 ⟨(some 8), .bin .geq (.t 7) (.c (.i .i64 0)), none⟩,
 ⟨(some 4), .mv (.t 8), none⟩])
 .ret)) }
def c_sym_Tree_beside : Fun := { cin := [.id, (.agg [.id, .id, (.sl 1 .id), (.sl 1 .id), .id, .id])], cout := [.id], ntmps := 36, keep := false, res := [(4, none)], body :=
 (.seq (.reg [⟨(some 3), .box 84 6 (.t 1), none⟩,
 ⟨(some 4), .mv (.c (.b false)), none⟩])
 (.seq (.regD [⟨(some 9), .fa 3 (.t 3), none⟩,
 ⟨(some 10), .ld false 1 (.t 9), none⟩,
 ⟨(some 11), .call f_slices_Values_int_int [(.t 10)], none⟩,
 ⟨(some 12), .call f_slices_Sorted_int [(.t 11)], none⟩,
 ⟨(some 13), .fa 5 (.t 3), none⟩,
 ⟨(some 14), .ld false 1 (.t 13), none⟩,
 ⟨(some 15), .slc false 1 (.t 12) (some (.t 14)) none none, none⟩,
 ⟨(some 5), .mv (.t 15), none⟩] [(5, (2, 5))])
 (.seq (.reg [⟨(some 6), .mv (.c (.b false)), none⟩])
 (.seq (.seq (.reg [⟨(some 16), .fa 3 (.t 3), none⟩,
 ⟨(some 17), .ld false 1 (.t 16), none⟩,
 ⟨(some 18), .len 1 (.t 17), none⟩,
 ⟨(some 19), .mv (.c (.i .i64 0)), none⟩])
 (.blk 0 (.loop (.seq (.reg [⟨(some 20), .bin .lss (.t 19) (.t 18), none⟩])
 (.seq (.cond (.t 20)
 .skip
 (.exit 0))
 (.seq (.blk 1 (.seq (.reg [⟨(some 21), .ia 1 (.t 17) (.t 19), none⟩,
 ⟨(some 22), .ld false 1 (.t 21), none⟩,
 ⟨(some 8), .mv (.t 22), none⟩])
 (.seq (.reg [⟨(some 23), .mv (.t 5), none⟩,
 ⟨(some 24), .mv (.t 8), none⟩,
 ⟨(some 25), .call f_slices_Contains_int_int [(.t 23), (.t 24)], none⟩])
 (.cond (.t 25)
 (.reg [⟨(some 26), .mv (.t 0), none⟩,
 ⟨(some 27), .mv (.t 8), none⟩,
 ⟨(some 28), .call f_sym_ref [(.t 27)], none⟩,
 ⟨(some 29), .call f_sym_Tree_kind [(.t 26), (.t 28)], none⟩,
 ⟨(some 30), .bin .neq (.t 29) (.c (.i .u8 0)), none⟩,
 ⟨(some 31), .mv (.t 30), none⟩,
 ⟨(some 32), .mv (.t 6), (some (31, false))⟩,
 ⟨(some 33), .pick (.t 31) (.c (.b true)) (.t 32), none⟩,
 ⟨(some 6), .mv (.t 33), none⟩])
 .skip))))
 (.reg [⟨(some 34), .bin .add (.t 19) (.c (.i .i64 1)), none⟩,
 ⟨(some 19), .mv (.t 34), none⟩])))))))
 (.seq (.reg [⟨(some 35), .mv (.t 6), none⟩,
 ⟨(some 4), .mv (.t 35), none⟩])
 .ret))))) }
end Go.Proofs.YtcdbpkfbnhjgdaaGreatDoor
