/-
 The functions, as the abstract machine's: numbers and texts. By program.
-/
import Derived.Test.YtcdbpkfbnhjgdaaGreatDoorFns1
set_option linter.all false
set_option linter.unusedVariables false
set_option linter.unusedSimpArgs false
set_option linter.unusedSectionVars false
set_option maxRecDepth 100000
namespace Go.Proofs.YtcdbpkfbnhjgdaaGreatDoor
open Go.Proofs.YtcdbpkfbnhjgdaaGreatDoor.Am
def c_slices_Clone_api_Term_api_Term : Fun := { cin := [(.sl 6 (.agg [.id, .id, .id, .id, (.sl 1 .id), (.sl 6 (.agg [.id, .id, .id, .id, (.sl 1 .id), (.sl 6 (.agg [.id, .id, .id, .id, .id, .id]))]))]))], cout := [], ntmps := 8, keep := true, res := [(2, none)], body :=
 (.seq (.reg [⟨(some 2), .mv (.c .nsl), none⟩])
 (.seq (.seq (.reg [⟨(some 3), .mv (.t 0), none⟩,
 ⟨(some 4), .eq .sl false (.t 3) (.c .nsl), none⟩])
 (.cond (.t 4)
 (.seq (.reg [⟨(some 2), .mv (.c .nsl), none⟩])
 .ret)
 .skip))
 (.seq (.reg [⟨(some 5), .bsl 6 [], none⟩,
 ⟨(some 6), .mv (.t 0), none⟩,
 ⟨(some 7), .app 6 91 (.t 5) (.t 6), none⟩,
 ⟨(some 2), .mv (.t 7), none⟩])
 .ret))) }
def c_slices_Delete_api_Term_api_Term : Fun := { cin := [(.sl 6 (.agg [.id, .id, .id, .id, (.sl 1 .id), (.sl 6 (.agg [.id, .id, .id, .id, (.sl 1 .id), (.sl 6 (.agg [.id, .id, .id, .id, .id, .id]))]))])), .id, .id], cout := [(.sl 6 (.agg [.id, .id, .id, .id, (.sl 1 .id), (.sl 6 (.agg [.id, .id, .id, .id, (.sl 1 .id), (.sl 6 (.agg [.id, .id, .id, .id, .id, .id]))]))]))], ntmps := 33, keep := false, res := [(6, none)], body :=
 (.seq (.reg [⟨(some 6), .mv (.c .nsl), none⟩])
 (.seq (.reg [⟨(some 8), .mv (.t 0), none⟩,
 ⟨(some 9), .mv (.t 1), none⟩,
 ⟨(some 10), .mv (.t 2), none⟩,
 ⟨(some 11), .mv (.t 0), none⟩,
 ⟨(some 12), .len 1 (.t 11), none⟩,
 ⟨(some 13), .slc false 6 (.t 8) (some (.t 9)) (some (.t 10)) (some (.t 12)), none⟩])
 (.seq (.seq (.reg [⟨(some 14), .mv (.t 1), none⟩,
 ⟨(some 15), .mv (.t 2), none⟩,
 ⟨(some 16), .bin .eql (.t 14) (.t 15), none⟩])
 (.cond (.t 16)
 (.seq (.reg [⟨(some 17), .mv (.t 0), none⟩,
 ⟨(some 6), .mv (.t 17), none⟩])
 .ret)
 .skip))
 (.seq (.reg [⟨(some 18), .mv (.t 0), none⟩,
 ⟨(some 19), .len 1 (.t 18), none⟩,
 ⟨(some 7), .mv (.t 19), none⟩])
 (.seq (.regD [⟨(some 20), .mv (.t 0), none⟩,
 ⟨(some 21), .mv (.t 1), none⟩,
 ⟨(some 22), .slc false 6 (.t 20) none (some (.t 21)) none, none⟩,
 ⟨(some 23), .mv (.t 0), none⟩,
 ⟨(some 24), .mv (.t 2), none⟩,
 ⟨(some 25), .slc false 6 (.t 23) (some (.t 24)) none none, none⟩,
 ⟨(some 26), .app 6 91 (.t 22) (.t 25), none⟩,
 ⟨(some 0), .mv (.t 26), none⟩] [])
 (.seq (.reg [⟨(some 27), .mv (.t 0), none⟩,
 ⟨(some 28), .mv (.t 0), none⟩,
 ⟨(some 29), .len 1 (.t 28), none⟩,
 ⟨(some 30), .mv (.t 7), none⟩,
 ⟨(some 31), .slc false 6 (.t 27) (some (.t 29)) (some (.t 30)) none, none⟩,
 ⟨none, .clr 6 [(.i .i64 0), (.i .u8 0), (.s []), (.i .i64 0), .nsl, .nsl] (.t 31), none⟩])
 (.seq (.reg [⟨(some 32), .mv (.t 0), none⟩,
 ⟨(some 6), .mv (.t 32), none⟩])
 .ret))))))) }
def c_slices_Insert_api_Term_api_Term : Fun := { cin := [], cout := [], ntmps := 95, keep := false, res := [(6, none)], body :=
 (.seq (.reg [⟨(some 6), .mv (.c .nsl), none⟩])
 (.seq (.reg [⟨(some 10), .mv (.t 0), none⟩,
 ⟨(some 11), .mv (.t 1), none⟩,
 ⟨(some 12), .slc false 6 (.t 10) (some (.t 11)) none none, none⟩])
 (.seq (.reg [⟨(some 13), .mv (.t 2), none⟩,
 ⟨(some 14), .len 1 (.t 13), none⟩,
 ⟨(some 7), .mv (.t 14), none⟩])
 (.seq (.seq (.reg [⟨(some 15), .mv (.t 7), none⟩,
 ⟨(some 16), .bin .eql (.t 15) (.c (.i .i64 0)), none⟩])
 (.cond (.t 16)
 (.seq (.reg [⟨(some 17), .mv (.t 0), none⟩,
 ⟨(some 6), .mv (.t 17), none⟩])
 .ret)
 .skip))
 (.seq (.reg [⟨(some 18), .mv (.t 0), none⟩,
 ⟨(some 19), .len 1 (.t 18), none⟩,
 ⟨(some 8), .mv (.t 19), none⟩])
 (.seq (.seq (.reg [⟨(some 20), .mv (.t 1), none⟩,
 ⟨(some 21), .mv (.t 8), none⟩,
 ⟨(some 22), .bin .eql (.t 20) (.t 21), none⟩])
 (.cond (.t 22)
 (.seq (.reg [⟨(some 23), .mv (.t 0), none⟩,
 ⟨(some 24), .mv (.t 2), none⟩,
 ⟨(some 25), .app 6 91 (.t 23) (.t 24), none⟩,
 ⟨(some 6), .mv (.t 25), none⟩])
 .ret)
 .skip))
 (.seq (.seq (.reg [⟨(some 26), .mv (.t 8), none⟩,
 ⟨(some 27), .mv (.t 7), none⟩,
 ⟨(some 28), .bin .add (.t 26) (.t 27), none⟩,
 ⟨(some 29), .mv (.t 0), none⟩,
 ⟨(some 30), .cap (.t 29), none⟩,
 ⟨(some 31), .bin .gtr (.t 28) (.t 30), none⟩])
 (.cond (.t 31)
 (.seq (.reg [⟨(some 32), .mv (.t 0), none⟩,
 ⟨(some 33), .mv (.t 1), none⟩,
 ⟨(some 34), .slc false 6 (.t 32) none (some (.t 33)) none, none⟩,
 ⟨(some 35), .mv (.t 8), none⟩,
 ⟨(some 36), .mv (.t 7), none⟩,
 ⟨(some 37), .bin .add (.t 35) (.t 36), none⟩,
 ⟨(some 38), .mv (.t 1), none⟩,
 ⟨(some 39), .bin .sub (.t 37) (.t 38), none⟩,
 ⟨(some 40), .apz 6 91 [(.i .i64 0), (.i .u8 0), (.s []), (.i .i64 0), .nsl, .nsl] (.t 34) (.t 39), none⟩,
 ⟨(some 9), .mv (.t 40), none⟩])
 (.seq (.seq (.thw 9)
 (.reg [⟨(some 41), .mv (.t 9), none⟩,
 ⟨(some 42), .mv (.t 1), none⟩,
 ⟨(some 43), .slc false 6 (.t 41) (some (.t 42)) none none, none⟩,
 ⟨(some 44), .mv (.t 2), none⟩,
 ⟨(some 45), .cp0 6 (.t 43) (.t 44), none⟩]))
 (.seq (.seq (.thw 9)
 (.regD [⟨(some 46), .mv (.t 9), none⟩,
 ⟨(some 47), .mv (.t 1), none⟩,
 ⟨(some 48), .mv (.t 7), none⟩,
 ⟨(some 49), .bin .add (.t 47) (.t 48), none⟩,
 ⟨(some 50), .slc false 6 (.t 46) (some (.t 49)) none none, none⟩,
 ⟨(some 51), .mv (.t 0), none⟩,
 ⟨(some 52), .mv (.t 1), none⟩,
 ⟨(some 53), .slc false 6 (.t 51) (some (.t 52)) none none, none⟩,
 ⟨(some 54), .cp0 6 (.t 50) (.t 53), none⟩] []))
 (.seq (.reg [⟨(some 55), .mv (.t 9), none⟩,
 ⟨(some 6), .mv (.t 55), none⟩])
 .ret))))
 .skip))
 (.seq (.reg [⟨(some 56), .mv (.t 0), none⟩,
 ⟨(some 57), .mv (.t 8), none⟩,
 ⟨(some 58), .mv (.t 7), none⟩,
 ⟨(some 59), .bin .add (.t 57) (.t 58), none⟩,
 ⟨(some 60), .slc true 6 (.t 56) none (some (.t 59)) none, none⟩,
 ⟨(some 0), .mv (.t 60), none⟩])
 (.seq (.seq (.reg [⟨(some 61), .mv (.t 2), none⟩,
 ⟨(some 62), .mv (.t 0), none⟩,
 ⟨(some 63), .mv (.t 1), none⟩,
 ⟨(some 64), .mv (.t 7), none⟩,
 ⟨(some 65), .bin .add (.t 63) (.t 64), none⟩,
 ⟨(some 66), .slc false 6 (.t 62) (some (.t 65)) none none, none⟩,
 ⟨(some 67), .ovl 6 (.t 61) (.t 66), none⟩,
 ⟨(some 68), .un .not (.t 67), none⟩])
 (.cond (.t 68)
 (.seq (.seq (.thw 0)
 (.regD [⟨(some 69), .mv (.t 0), none⟩,
 ⟨(some 70), .mv (.t 1), none⟩,
 ⟨(some 71), .mv (.t 7), none⟩,
 ⟨(some 72), .bin .add (.t 70) (.t 71), none⟩,
 ⟨(some 73), .slc false 6 (.t 69) (some (.t 72)) none none, none⟩,
 ⟨(some 74), .mv (.t 0), none⟩,
 ⟨(some 75), .mv (.t 1), none⟩,
 ⟨(some 76), .slc false 6 (.t 74) (some (.t 75)) none none, none⟩,
 ⟨(some 77), .cp0 6 (.t 73) (.t 76), none⟩] []))
 (.seq (.seq (.thw 0)
 (.reg [⟨(some 78), .mv (.t 0), none⟩,
 ⟨(some 79), .mv (.t 1), none⟩,
 ⟨(some 80), .slc false 6 (.t 78) (some (.t 79)) none none, none⟩,
 ⟨(some 81), .mv (.t 2), none⟩,
 ⟨(some 82), .cp0 6 (.t 80) (.t 81), none⟩]))
 (.seq (.reg [⟨(some 83), .mv (.t 0), none⟩,
 ⟨(some 6), .mv (.t 83), none⟩])
 .ret)))
 .skip))
 (.seq (.seq (.thw 0)
 (.reg [⟨(some 84), .mv (.t 0), none⟩,
 ⟨(some 85), .mv (.t 8), none⟩,
 ⟨(some 86), .slc false 6 (.t 84) (some (.t 85)) none none, none⟩,
 ⟨(some 87), .mv (.t 2), none⟩,
 ⟨(some 88), .cp0 6 (.t 86) (.t 87), none⟩]))
 (.seq (.reg [⟨(some 89), .mv (.t 0), none⟩,
 ⟨(some 90), .mv (.t 1), none⟩,
 ⟨(some 91), .slc false 6 (.t 89) (some (.t 90)) none none, none⟩,
 ⟨(some 92), .mv (.t 7), none⟩,
 ⟨(some 93), .call f_slices_rotateRight_api_Term [(.t 91), (.t 92)], none⟩])
 (.seq (.reg [⟨(some 94), .mv (.t 0), none⟩,
 ⟨(some 6), .mv (.t 94), none⟩])
 .ret)))))))))))) }
def c_store_Ask : Fun := { cin := [(.sl 6 (.agg [.id, .id, (.sl 1 .id), (.sl 1 .id), .id, .id])), .id, .id], cout := [(.sl 6 (.agg [.id, .id, (.sl 1 .id), (.sl 1 .id), .id, .id])), .id, .id], ntmps := 38, keep := false, res := [(6, none), (7, none), (8, none)], body :=
 (.seq (.reg [⟨(some 3), .box 85 1 (.t 0), none⟩,
 ⟨(some 5), .box 9 1 (.t 2), none⟩,
 ⟨(some 6), .mv (.c .nsl), none⟩,
 ⟨(some 7), .mv (.c (.i .i64 0)), none⟩,
 ⟨(some 8), .mv (.c (.i .i64 0)), none⟩])
 (.seq (.reg [⟨(some 9), .alloc 3 [(.i .i64 0)], none⟩,
 ⟨none, .st 1 (.t 9) (.c (.i .i64 (-1))), none⟩])
 (.seq (.reg [⟨(some 13), .ld false 1 (.t 3), none⟩,
 ⟨(some 14), .mv (.t 1), none⟩,
 ⟨(some 15), .mkf f_store_Ask_1 [(.t 5)], none⟩,
 ⟨(some 16), .mkf f_store_Ask_2 [(.t 5), (.t 9), (.t 3)], none⟩,
 ⟨(some 17), .call f_store_change [(.t 13), (.t 14), (.t 15), (.t 16)], none⟩,
 ⟨(some 12), .mv (.t 17), none⟩,
 ⟨(some 18), .ext (.t 12) 0, none⟩,
 ⟨(some 19), .ext (.t 12) 1, none⟩,
 ⟨(some 10), .mv (.t 18), none⟩,
 ⟨(some 11), .mv (.t 19), none⟩])
 (.seq (.seq (.reg [⟨(some 20), .mv (.t 11), none⟩,
 ⟨(some 21), .bin .neq (.t 20) (.c (.i .i64 0)), none⟩])
 (.cond (.t 21)
 (.seq (.reg [⟨(some 22), .mv (.t 11), none⟩,
 ⟨(some 6), .mv (.c .nsl), none⟩,
 ⟨(some 7), .mv (.c (.i .i64 0)), none⟩,
 ⟨(some 8), .mv (.t 22), none⟩])
 .ret)
 .skip))
 (.seq (.seq (.reg [⟨(some 23), .ld false 1 (.t 9), none⟩,
 ⟨(some 24), .ld false 1 (.t 3), none⟩,
 ⟨(some 25), .len 1 (.t 24), none⟩,
 ⟨(some 26), .bin .eql (.t 23) (.t 25), none⟩])
 (.cond (.t 26)
 (.reg [⟨(some 27), .mv (.t 10), none⟩,
 ⟨(some 28), .mv (.t 10), none⟩,
 ⟨(some 29), .len 1 (.t 28), none⟩,
 ⟨(some 30), .mv (.t 10), none⟩,
 ⟨(some 31), .len 1 (.t 30), none⟩,
 ⟨(some 32), .slc false 6 (.t 27) none (some (.t 29)) (some (.t 31)), none⟩,
 ⟨(some 33), .build [(.b false), (.i .u8 0), .nsl, .nsl, (.i .i64 0), (.i .i64 0)] [], none⟩,
 ⟨(some 34), .bsl 6 [(.t 33)], none⟩,
 ⟨(some 35), .app 6 84 (.t 32) (.t 34), none⟩,
 ⟨(some 10), .mv (.t 35), none⟩])
 .skip))
 (.seq (.regD [⟨(some 36), .mv (.t 10), none⟩,
 ⟨(some 37), .ld false 1 (.t 9), none⟩,
 ⟨(some 6), .mv (.t 36), none⟩,
 ⟨(some 7), .mv (.t 37), none⟩,
 ⟨(some 8), .mv (.c (.i .i64 0)), none⟩] [])
 .ret)))))) }
def c_slices_Index_string_string : Fun := { cin := [(.sl 1 .id), .id], cout := [.id], ntmps := 19, keep := false, res := [(4, none)], body :=
 (.seq (.reg [⟨(some 4), .mv (.c (.i .i64 0)), none⟩])
 (.seq (.seq (.reg [⟨(some 6), .mv (.t 0), none⟩,
 ⟨(some 7), .len 1 (.t 6), none⟩,
 ⟨(some 8), .mv (.c (.i .i64 0)), none⟩])
 (.blk 0 (.loop (.seq (.reg [⟨(some 9), .bin .lss (.t 8) (.t 7), none⟩])
 (.seq (.cond (.t 9)
 .skip
 (.exit 0))
 (.seq (.blk 1 (.seq (.reg [⟨(some 10), .mv (.t 8), none⟩,
 ⟨(some 5), .mv (.t 10), none⟩])
 (.seq (.reg [⟨(some 11), .mv (.t 1), none⟩,
 ⟨(some 12), .mv (.t 0), none⟩,
 ⟨(some 13), .mv (.t 5), none⟩,
 ⟨(some 14), .ia 1 (.t 12) (.t 13), none⟩,
 ⟨(some 15), .ld false 1 (.t 14), none⟩,
 ⟨(some 16), .bin .eql (.t 11) (.t 15), none⟩])
 (.cond (.t 16)
 (.seq (.reg [⟨(some 17), .mv (.t 5), none⟩,
 ⟨(some 4), .mv (.t 17), none⟩])
 .ret)
 .skip))))
 (.reg [⟨(some 18), .bin .add (.t 8) (.c (.i .i64 1)), none⟩,
 ⟨(some 8), .mv (.t 18), none⟩])))))))
 (.seq (.reg [⟨(some 4), .mv (.c (.i .i64 (-1))), none⟩])
 .ret))) }
def c_slices_Contains_int_int : Fun := { cin := [(.sl 1 .id), .id], cout := [.id], ntmps := 9, keep := false, res := [(4, none)], body :=
 (.seq (.reg [⟨(some 4), .mv (.c (.b false)), none⟩])
 (.seq (.reg [⟨(some 5), .mv (.t 0), none⟩,
 ⟨(some 6), .mv (.t 1), none⟩,
 ⟨(some 7), .call f_slices_Index_int_int [(.t 5), (.t 6)], none⟩,
 ⟨(some 8), .bin .geq (.t 7) (.c (.i .i64 0)), none⟩,
 ⟨(some 4), .mv (.t 8), none⟩])
 .ret)) }
def c_slices_rotateRight_api_Term : Fun := { cin := [(.sl 6 (.agg [.id, .id, .id, .id, (.sl 1 .id), (.sl 6 (.agg [.id, .id, .id, .id, (.sl 1 .id), (.sl 6 (.agg [.id, .id, .id, .id, .id, .id]))]))])), .id], cout := [], ntmps := 10, keep := false, res := [], body :=
 (.reg [⟨(some 4), .mv (.t 0), none⟩,
 ⟨(some 5), .mv (.t 0), none⟩,
 ⟨(some 6), .len 1 (.t 5), none⟩,
 ⟨(some 7), .mv (.t 1), none⟩,
 ⟨(some 8), .bin .sub (.t 6) (.t 7), none⟩,
 ⟨(some 9), .call f_slices_rotateLeft_api_Term [(.t 4), (.t 8)], none⟩]) }
def c_store_Ask_1 : Fun := { cin := [(.agg [.id, .id, (.sl 1 .id), (.sl 1 .id), .id, .id])], cout := [.id], ntmps := 12, keep := false, res := [(3, none)], body :=
 (.seq (.reg [⟨(some 2), .box 84 6 (.t 0), none⟩,
 ⟨(some 3), .mv (.c (.i .i64 0)), none⟩])
 (.seq (.seq (.reg [⟨(some 4), .ld true 6 (.t 2), none⟩,
 ⟨(some 5), .call f_store_dir [(.t 4)], none⟩,
 ⟨(some 6), .un .not (.t 5), none⟩,
 ⟨(some 7), .mv (.t 6), none⟩,
 ⟨(some 8), .ld false 1 (.t 1), (some (7, false))⟩,
 ⟨(some 9), .call f_path_Name [(.t 8)], (some (7, false))⟩,
 ⟨(some 10), .un .not (.t 9), (some (7, false))⟩,
 ⟨(some 11), .pick (.t 7) (.c (.b true)) (.t 10), none⟩])
 (.cond (.t 11)
 (.seq (.reg [⟨(some 3), .mv (.c (.i .i64 1)), none⟩])
 .ret)
 .skip))
 (.seq (.reg [⟨(some 3), .mv (.c (.i .i64 0)), none⟩])
 .ret))) }
def c_store_Ask_2 : Fun := { cin := [.id], cout := [], ntmps := 55, keep := false, res := [], body :=
 (.seq (.regD [⟨(some 8), .mv (.t 0), none⟩,
 ⟨(some 9), .nck (.t 8), none⟩,
 ⟨(some 10), .fa 2 (.t 9), none⟩,
 ⟨(some 11), .ld false 1 (.t 10), none⟩,
 ⟨(some 12), .ld false 1 (.t 1), none⟩,
 ⟨(some 13), .call f_slices_BinarySearch_string_string [(.t 11), (.t 12)], none⟩,
 ⟨(some 7), .mv (.t 13), none⟩,
 ⟨(some 14), .ext (.t 7) 0, none⟩,
 ⟨(some 15), .ext (.t 7) 1, none⟩,
 ⟨(some 5), .mv (.t 14), none⟩,
 ⟨(some 6), .mv (.t 15), none⟩] [])
 (.blk 0 (.seq (.reg [⟨(some 17), .mv (.t 6), none⟩,
 ⟨(some 16), .mv (.t 17), none⟩])
 (.cond (.t 16)
 (.reg [⟨(some 18), .mv (.t 0), none⟩,
 ⟨(some 19), .nck (.t 18), none⟩,
 ⟨(some 20), .fa 3 (.t 19), none⟩,
 ⟨(some 21), .ld false 1 (.t 20), none⟩,
 ⟨(some 22), .mv (.t 5), none⟩,
 ⟨(some 23), .ia 1 (.t 21) (.t 22), none⟩,
 ⟨(some 24), .ld false 1 (.t 23), none⟩,
 ⟨none, .st 1 (.t 2) (.t 24), none⟩])
 (.seq (.reg [⟨(some 26), .mv (.t 0), none⟩,
 ⟨(some 27), .nck (.t 26), none⟩,
 ⟨(some 28), .fa 4 (.t 27), none⟩,
 ⟨(some 29), .ld false 1 (.t 28), none⟩,
 ⟨(some 30), .bin .neq (.t 29) (.c (.i .i64 1)), none⟩,
 ⟨(some 25), .mv (.t 30), none⟩])
 (.cond (.t 25)
 (.seq (.reg [⟨(some 31), .ld false 1 (.t 3), none⟩,
 ⟨(some 32), .len 1 (.t 31), none⟩,
 ⟨none, .st 1 (.t 2) (.t 32), none⟩])
 (.seq (.regD [⟨(some 33), .mv (.t 0), none⟩,
 ⟨(some 34), .mv (.t 0), none⟩,
 ⟨(some 35), .nck (.t 34), none⟩,
 ⟨(some 36), .fa 2 (.t 35), none⟩,
 ⟨(some 37), .ld false 1 (.t 36), none⟩,
 ⟨(some 38), .mv (.t 5), none⟩,
 ⟨(some 39), .ld false 1 (.t 1), none⟩,
 ⟨(some 40), .bsl 1 [(.t 39)], none⟩,
 ⟨(some 41), .callI f_slices_Insert_string_string [(.t 37), (.t 38), (.t 40)], none⟩,
 ⟨(some 42), .nck (.t 33), none⟩,
 ⟨(some 43), .fa 2 (.t 42), none⟩,
 ⟨none, .st 1 (.t 43) (.t 41), none⟩] [])
 (.regD [⟨(some 44), .mv (.t 0), none⟩,
 ⟨(some 45), .mv (.t 0), none⟩,
 ⟨(some 46), .nck (.t 45), none⟩,
 ⟨(some 47), .fa 3 (.t 46), none⟩,
 ⟨(some 48), .ld false 1 (.t 47), none⟩,
 ⟨(some 49), .mv (.t 5), none⟩,
 ⟨(some 50), .ld false 1 (.t 2), none⟩,
 ⟨(some 51), .bsl 1 [(.t 50)], none⟩,
 ⟨(some 52), .callI f_slices_Insert_int_int [(.t 48), (.t 49), (.t 51)], none⟩,
 ⟨(some 53), .nck (.t 44), none⟩,
 ⟨(some 54), .fa 3 (.t 53), none⟩,
 ⟨none, .st 1 (.t 54) (.t 52), none⟩] [])))
 .skip)))))) }
def c_slices_Insert_int_int : Fun := { cin := [], cout := [], ntmps := 95, keep := false, res := [(6, none)], body :=
 (.seq (.reg [⟨(some 6), .mv (.c .nsl), none⟩])
 (.seq (.reg [⟨(some 10), .mv (.t 0), none⟩,
 ⟨(some 11), .mv (.t 1), none⟩,
 ⟨(some 12), .slc false 1 (.t 10) (some (.t 11)) none none, none⟩])
 (.seq (.reg [⟨(some 13), .mv (.t 2), none⟩,
 ⟨(some 14), .len 1 (.t 13), none⟩,
 ⟨(some 7), .mv (.t 14), none⟩])
 (.seq (.seq (.reg [⟨(some 15), .mv (.t 7), none⟩,
 ⟨(some 16), .bin .eql (.t 15) (.c (.i .i64 0)), none⟩])
 (.cond (.t 16)
 (.seq (.reg [⟨(some 17), .mv (.t 0), none⟩,
 ⟨(some 6), .mv (.t 17), none⟩])
 .ret)
 .skip))
 (.seq (.reg [⟨(some 18), .mv (.t 0), none⟩,
 ⟨(some 19), .len 1 (.t 18), none⟩,
 ⟨(some 8), .mv (.t 19), none⟩])
 (.seq (.seq (.reg [⟨(some 20), .mv (.t 1), none⟩,
 ⟨(some 21), .mv (.t 8), none⟩,
 ⟨(some 22), .bin .eql (.t 20) (.t 21), none⟩])
 (.cond (.t 22)
 (.seq (.reg [⟨(some 23), .mv (.t 0), none⟩,
 ⟨(some 24), .mv (.t 2), none⟩,
 ⟨(some 25), .app 1 3 (.t 23) (.t 24), none⟩,
 ⟨(some 6), .mv (.t 25), none⟩])
 .ret)
 .skip))
 (.seq (.seq (.reg [⟨(some 26), .mv (.t 8), none⟩,
 ⟨(some 27), .mv (.t 7), none⟩,
 ⟨(some 28), .bin .add (.t 26) (.t 27), none⟩,
 ⟨(some 29), .mv (.t 0), none⟩,
 ⟨(some 30), .cap (.t 29), none⟩,
 ⟨(some 31), .bin .gtr (.t 28) (.t 30), none⟩])
 (.cond (.t 31)
 (.seq (.reg [⟨(some 32), .mv (.t 0), none⟩,
 ⟨(some 33), .mv (.t 1), none⟩,
 ⟨(some 34), .slc false 1 (.t 32) none (some (.t 33)) none, none⟩,
 ⟨(some 35), .mv (.t 8), none⟩,
 ⟨(some 36), .mv (.t 7), none⟩,
 ⟨(some 37), .bin .add (.t 35) (.t 36), none⟩,
 ⟨(some 38), .mv (.t 1), none⟩,
 ⟨(some 39), .bin .sub (.t 37) (.t 38), none⟩,
 ⟨(some 40), .apz 1 3 [(.i .i64 0)] (.t 34) (.t 39), none⟩,
 ⟨(some 9), .mv (.t 40), none⟩])
 (.seq (.seq (.thw 9)
 (.reg [⟨(some 41), .mv (.t 9), none⟩,
 ⟨(some 42), .mv (.t 1), none⟩,
 ⟨(some 43), .slc false 1 (.t 41) (some (.t 42)) none none, none⟩,
 ⟨(some 44), .mv (.t 2), none⟩,
 ⟨(some 45), .cp0 1 (.t 43) (.t 44), none⟩]))
 (.seq (.seq (.thw 9)
 (.regD [⟨(some 46), .mv (.t 9), none⟩,
 ⟨(some 47), .mv (.t 1), none⟩,
 ⟨(some 48), .mv (.t 7), none⟩,
 ⟨(some 49), .bin .add (.t 47) (.t 48), none⟩,
 ⟨(some 50), .slc false 1 (.t 46) (some (.t 49)) none none, none⟩,
 ⟨(some 51), .mv (.t 0), none⟩,
 ⟨(some 52), .mv (.t 1), none⟩,
 ⟨(some 53), .slc false 1 (.t 51) (some (.t 52)) none none, none⟩,
 ⟨(some 54), .cp0 1 (.t 50) (.t 53), none⟩] []))
 (.seq (.reg [⟨(some 55), .mv (.t 9), none⟩,
 ⟨(some 6), .mv (.t 55), none⟩])
 .ret))))
 .skip))
 (.seq (.reg [⟨(some 56), .mv (.t 0), none⟩,
 ⟨(some 57), .mv (.t 8), none⟩,
 ⟨(some 58), .mv (.t 7), none⟩,
 ⟨(some 59), .bin .add (.t 57) (.t 58), none⟩,
 ⟨(some 60), .slc true 1 (.t 56) none (some (.t 59)) none, none⟩,
 ⟨(some 0), .mv (.t 60), none⟩])
 (.seq (.seq (.reg [⟨(some 61), .mv (.t 2), none⟩,
 ⟨(some 62), .mv (.t 0), none⟩,
 ⟨(some 63), .mv (.t 1), none⟩,
 ⟨(some 64), .mv (.t 7), none⟩,
 ⟨(some 65), .bin .add (.t 63) (.t 64), none⟩,
 ⟨(some 66), .slc false 1 (.t 62) (some (.t 65)) none none, none⟩,
 ⟨(some 67), .ovl 1 (.t 61) (.t 66), none⟩,
 ⟨(some 68), .un .not (.t 67), none⟩])
 (.cond (.t 68)
 (.seq (.seq (.thw 0)
 (.regD [⟨(some 69), .mv (.t 0), none⟩,
 ⟨(some 70), .mv (.t 1), none⟩,
 ⟨(some 71), .mv (.t 7), none⟩,
 ⟨(some 72), .bin .add (.t 70) (.t 71), none⟩,
 ⟨(some 73), .slc false 1 (.t 69) (some (.t 72)) none none, none⟩,
 ⟨(some 74), .mv (.t 0), none⟩,
 ⟨(some 75), .mv (.t 1), none⟩,
 ⟨(some 76), .slc false 1 (.t 74) (some (.t 75)) none none, none⟩,
 ⟨(some 77), .cp0 1 (.t 73) (.t 76), none⟩] []))
 (.seq (.seq (.thw 0)
 (.reg [⟨(some 78), .mv (.t 0), none⟩,
 ⟨(some 79), .mv (.t 1), none⟩,
 ⟨(some 80), .slc false 1 (.t 78) (some (.t 79)) none none, none⟩,
 ⟨(some 81), .mv (.t 2), none⟩,
 ⟨(some 82), .cp0 1 (.t 80) (.t 81), none⟩]))
 (.seq (.reg [⟨(some 83), .mv (.t 0), none⟩,
 ⟨(some 6), .mv (.t 83), none⟩])
 .ret)))
 .skip))
 (.seq (.seq (.thw 0)
 (.reg [⟨(some 84), .mv (.t 0), none⟩,
 ⟨(some 85), .mv (.t 8), none⟩,
 ⟨(some 86), .slc false 1 (.t 84) (some (.t 85)) none none, none⟩,
 ⟨(some 87), .mv (.t 2), none⟩,
 ⟨(some 88), .cp0 1 (.t 86) (.t 87), none⟩]))
 (.seq (.reg [⟨(some 89), .mv (.t 0), none⟩,
 ⟨(some 90), .mv (.t 1), none⟩,
 ⟨(some 91), .slc false 1 (.t 89) (some (.t 90)) none none, none⟩,
 ⟨(some 92), .mv (.t 7), none⟩,
 ⟨(some 93), .call f_slices_rotateRight_int [(.t 91), (.t 92)], none⟩])
 (.seq (.reg [⟨(some 94), .mv (.t 0), none⟩,
 ⟨(some 6), .mv (.t 94), none⟩])
 .ret)))))))))))) }
def c_slices_Index_int_int : Fun := { cin := [(.sl 1 .id), .id], cout := [.id], ntmps := 19, keep := false, res := [(4, none)], body :=
 (.seq (.reg [⟨(some 4), .mv (.c (.i .i64 0)), none⟩])
 (.seq (.seq (.reg [⟨(some 6), .mv (.t 0), none⟩,
 ⟨(some 7), .len 1 (.t 6), none⟩,
 ⟨(some 8), .mv (.c (.i .i64 0)), none⟩])
 (.blk 0 (.loop (.seq (.reg [⟨(some 9), .bin .lss (.t 8) (.t 7), none⟩])
 (.seq (.cond (.t 9)
 .skip
 (.exit 0))
 (.seq (.blk 1 (.seq (.reg [⟨(some 10), .mv (.t 8), none⟩,
 ⟨(some 5), .mv (.t 10), none⟩])
 (.seq (.reg [⟨(some 11), .mv (.t 1), none⟩,
 ⟨(some 12), .mv (.t 0), none⟩,
 ⟨(some 13), .mv (.t 5), none⟩,
 ⟨(some 14), .ia 1 (.t 12) (.t 13), none⟩,
 ⟨(some 15), .ld false 1 (.t 14), none⟩,
 ⟨(some 16), .bin .eql (.t 11) (.t 15), none⟩])
 (.cond (.t 16)
 (.seq (.reg [⟨(some 17), .mv (.t 5), none⟩,
 ⟨(some 4), .mv (.t 17), none⟩])
 .ret)
 .skip))))
 (.reg [⟨(some 18), .bin .add (.t 8) (.c (.i .i64 1)), none⟩,
 ⟨(some 8), .mv (.t 18), none⟩])))))))
 (.seq (.reg [⟨(some 4), .mv (.c (.i .i64 (-1))), none⟩])
 .ret))) }
def c_slices_rotateLeft_api_Term : Fun := { cin := [(.sl 6 (.agg [.id, .id, .id, .id, (.sl 1 .id), (.sl 6 (.agg [.id, .id, .id, .id, (.sl 1 .id), (.sl 6 (.agg [.id, .id, .id, .id, .id, .id]))]))])), .id], cout := [], ntmps := 14, keep := false, res := [], body :=
 (.seq (.reg [⟨(some 4), .mv (.t 0), none⟩,
 ⟨(some 5), .mv (.t 1), none⟩,
 ⟨(some 6), .slc false 6 (.t 4) none (some (.t 5)) none, none⟩,
 ⟨(some 7), .call f_slices_Reverse_api_Term_api_Term [(.t 6)], none⟩])
 (.seq (.reg [⟨(some 8), .mv (.t 0), none⟩,
 ⟨(some 9), .mv (.t 1), none⟩,
 ⟨(some 10), .slc false 6 (.t 8) (some (.t 9)) none none, none⟩,
 ⟨(some 11), .call f_slices_Reverse_api_Term_api_Term [(.t 10)], none⟩])
 (.seq (.thw 0)
 (.reg [⟨(some 12), .mv (.t 0), none⟩,
 ⟨(some 13), .call f_slices_Reverse_api_Term_api_Term [(.t 12)], none⟩])))) }
def c_slices_rotateRight_int : Fun := { cin := [(.sl 1 .id), .id], cout := [], ntmps := 10, keep := false, res := [], body :=
 (.reg [⟨(some 4), .mv (.t 0), none⟩,
 ⟨(some 5), .mv (.t 0), none⟩,
 ⟨(some 6), .len 1 (.t 5), none⟩,
 ⟨(some 7), .mv (.t 1), none⟩,
 ⟨(some 8), .bin .sub (.t 6) (.t 7), none⟩,
 ⟨(some 9), .call f_slices_rotateLeft_int [(.t 4), (.t 8)], none⟩]) }
def c_slices_Reverse_api_Term_api_Term : Fun := { cin := [(.sl 6 (.agg [.id, .id, .id, .id, (.sl 1 .id), (.sl 6 (.agg [.id, .id, .id, .id, (.sl 1 .id), (.sl 6 (.agg [.id, .id, .id, .id, .id, .id]))]))]))], cout := [], ntmps := 28, keep := false, res := [], body :=
 (.seq (.reg [⟨(some 4), .mv (.t 0), none⟩,
 ⟨(some 5), .len 1 (.t 4), none⟩,
 ⟨(some 6), .bin .sub (.t 5) (.c (.i .i64 1)), none⟩,
 ⟨(some 2), .mv (.c (.i .i64 0)), none⟩,
 ⟨(some 3), .mv (.t 6), none⟩])
 (.blk 0 (.loop (.seq (.seq (.reg [⟨(some 7), .mv (.t 2), none⟩,
 ⟨(some 8), .mv (.t 3), none⟩,
 ⟨(some 9), .bin .lss (.t 7) (.t 8), none⟩])
 (.cond (.t 9)
 .skip
 (.exit 0)))
 (.seq (.blk 1 (.seq (.thw 0)
 (.regD [⟨(some 14), .mv (.t 0), none⟩,
 ⟨(some 15), .mv (.t 2), none⟩,
 ⟨(some 16), .mv (.t 0), none⟩,
 ⟨(some 17), .mv (.t 3), none⟩,
 ⟨(some 18), .mv (.t 0), none⟩,
 ⟨(some 19), .mv (.t 3), none⟩,
 ⟨(some 20), .ia 6 (.t 18) (.t 19), none⟩,
 ⟨(some 21), .ld true 6 (.t 20), none⟩,
 ⟨(some 22), .mv (.t 0), none⟩,
 ⟨(some 23), .mv (.t 2), none⟩,
 ⟨(some 24), .ia 6 (.t 22) (.t 23), none⟩,
 ⟨(some 25), .ld true 6 (.t 24), none⟩,
 ⟨(some 26), .ia 6 (.t 14) (.t 15), none⟩,
 ⟨none, .st 6 (.t 26) (.t 21), none⟩,
 ⟨(some 27), .ia 6 (.t 16) (.t 17), none⟩,
 ⟨none, .st 6 (.t 27) (.t 25), none⟩] [])))
 (.reg [⟨(some 10), .mv (.t 2), none⟩,
 ⟨(some 11), .bin .add (.t 10) (.c (.i .i64 1)), none⟩,
 ⟨(some 12), .mv (.t 3), none⟩,
 ⟨(some 13), .bin .sub (.t 12) (.c (.i .i64 1)), none⟩,
 ⟨(some 2), .mv (.t 11), none⟩,
 ⟨(some 3), .mv (.t 13), none⟩])))))) }
def c_slices_rotateLeft_int : Fun := { cin := [(.sl 1 .id), .id], cout := [], ntmps := 14, keep := false, res := [], body :=
 (.seq (.reg [⟨(some 4), .mv (.t 0), none⟩,
 ⟨(some 5), .mv (.t 1), none⟩,
 ⟨(some 6), .slc false 1 (.t 4) none (some (.t 5)) none, none⟩,
 ⟨(some 7), .call f_slices_Reverse_int_int [(.t 6)], none⟩])
 (.seq (.reg [⟨(some 8), .mv (.t 0), none⟩,
 ⟨(some 9), .mv (.t 1), none⟩,
 ⟨(some 10), .slc false 1 (.t 8) (some (.t 9)) none none, none⟩,
 ⟨(some 11), .call f_slices_Reverse_int_int [(.t 10)], none⟩])
 (.seq (.thw 0)
 (.reg [⟨(some 12), .mv (.t 0), none⟩,
 ⟨(some 13), .call f_slices_Reverse_int_int [(.t 12)], none⟩])))) }
def c_slices_Reverse_int_int : Fun := { cin := [(.sl 1 .id)], cout := [], ntmps := 28, keep := false, res := [], body :=
 (.seq (.reg [⟨(some 4), .mv (.t 0), none⟩,
 ⟨(some 5), .len 1 (.t 4), none⟩,
 ⟨(some 6), .bin .sub (.t 5) (.c (.i .i64 1)), none⟩,
 ⟨(some 2), .mv (.c (.i .i64 0)), none⟩,
 ⟨(some 3), .mv (.t 6), none⟩])
 (.blk 0 (.loop (.seq (.seq (.reg [⟨(some 7), .mv (.t 2), none⟩,
 ⟨(some 8), .mv (.t 3), none⟩,
 ⟨(some 9), .bin .lss (.t 7) (.t 8), none⟩])
 (.cond (.t 9)
 .skip
 (.exit 0)))
 (.seq (.blk 1 (.seq (.thw 0)
 (.regD [⟨(some 14), .mv (.t 0), none⟩,
 ⟨(some 15), .mv (.t 2), none⟩,
 ⟨(some 16), .mv (.t 0), none⟩,
 ⟨(some 17), .mv (.t 3), none⟩,
 ⟨(some 18), .mv (.t 0), none⟩,
 ⟨(some 19), .mv (.t 3), none⟩,
 ⟨(some 20), .ia 1 (.t 18) (.t 19), none⟩,
 ⟨(some 21), .ld false 1 (.t 20), none⟩,
 ⟨(some 22), .mv (.t 0), none⟩,
 ⟨(some 23), .mv (.t 2), none⟩,
 ⟨(some 24), .ia 1 (.t 22) (.t 23), none⟩,
 ⟨(some 25), .ld false 1 (.t 24), none⟩,
 ⟨(some 26), .ia 1 (.t 14) (.t 15), none⟩,
 ⟨none, .st 1 (.t 26) (.t 21), none⟩,
 ⟨(some 27), .ia 1 (.t 16) (.t 17), none⟩,
 ⟨none, .st 1 (.t 27) (.t 25), none⟩] [])))
 (.reg [⟨(some 10), .mv (.t 2), none⟩,
 ⟨(some 11), .bin .add (.t 10) (.c (.i .i64 1)), none⟩,
 ⟨(some 12), .mv (.t 3), none⟩,
 ⟨(some 13), .bin .sub (.t 12) (.c (.i .i64 1)), none⟩,
 ⟨(some 2), .mv (.t 11), none⟩,
 ⟨(some 3), .mv (.t 13), none⟩])))))) }
def tab : PT := (.n 251 c_prim_Rename_1 (.n 136 c_moves_rename (.n 75 c_strings_Contains (.n 35 c_touchstonelaw13_file (.n 25 c_walk_Spot (.n 19 c_touchstoneref07_Same (.n 16 c_ftree_New (.n 7 c_touchstonelaw13_MovesNames .e .e) (.n 18 c_ftree_Tree_Root .e .e)) (.n 24 c_ftree_Tree_Kind (.n 20 c_ftree_Well .e .e) .e)) (.n 32 c_moves_Run (.n 27 c_touchstonelaw13_works (.n 26 c_walk_Find .e .e) (.n 30 c_path_Check .e .e)) (.n 34 c_moves_Why (.n 33 c_touchstonelaw13_dir .e .e) .e))) (.n 68 c_ftree_own (.n 39 c_touchstonelaw13_done (.n 37 c_touchstonelaw13_many (.n 36 c_touchstonelaw13_link .e .e) (.n 38 c_touchstonelaw13_runs .e .e)) (.n 67 c_ftree_May (.n 42 c_ftree_Nodes .e .e) .e)) (.n 72 c_path_Name (.n 71 c_strings_IndexByte (.n 70 c_opts_Parse .e .e) .e) (.n 74 c_walk_walk (.n 73 c_ftree_Tree_at .e .e) .e)))) (.n 123 c_internal_stringslite_IndexByte (.n 82 c_moves_call_source (.n 79 c_opts_Opts_Has (.n 77 c_strings_Join (.n 76 c_path_steps .e .e) (.n 78 c_moves_utilities .e .e)) (.n 81 c_moves_call_look (.n 80 c_moves_call_refuse .e .e) .e)) (.n 110 c_slices_Clone_string_string (.n 84 c_ftree_find (.n 83 c_path_Last .e .e) (.n 108 c_pat_May .e .e)) (.n 122 c_opts_letter (.n 115 c_ftree_depth .e .e) .e))) (.n 130 c_strings_SplitSeq (.n 127 c_walk_walker_run (.n 125 c_path_Steps (.n 124 c_strings_ContainsAny .e .e) (.n 126 c_path_Dir .e .e)) (.n 129 c_path_steps_1 (.n 128 c_strings_Index .e .e) .e)) (.n 133 c_strings_Builder_String (.n 132 c_strings_Builder_WriteString (.n 131 c_strings_Builder_Grow .e .e) .e) (.n 135 c_moves_itself (.n 134 c_moves_spot .e .e) .e))))) (.n 198 c_prim_Copy (.n 169 c_slices_ContainsFunc_int_int (.n 143 c_moves_call_to (.n 140 c_moves_text (.n 138 c_moves_there (.n 137 c_moves_find .e .e) (.n 139 c_moves_copyOf .e .e)) (.n 142 c_moves_call_lost (.n 141 c_moves_link .e .e) .e)) (.n 152 c_strings_HasPrefix (.n 145 c_strings_LastIndexByte (.n 144 c_strings_TrimRight .e .e) (.n 146 c_slices_BinarySearch_string_string .e .e)) (.n 168 c_pat_one (.n 167 c_pat_dir .e .e) .e))) (.n 192 c_strings_splitSeq (.n 189 c_slices_Collect_string (.n 185 c_prim_Unlink (.n 170 c_pat_May_1 .e .e) (.n 188 c_strings_IndexAny .e .e)) (.n 191 c_internal_stringslite_Index (.n 190 c_walk_walker_name .e .e) .e)) (.n 195 c_moves_found (.n 194 c_strings_Builder_grow (.n 193 c_strings_Builder_copyCheck .e .e) .e) (.n 197 c_moves_call_deep (.n 196 c_prim_Rename .e .e) .e)))) (.n 232 c_prim_remove (.n 205 c_cmp_Less_string (.n 202 c_strings_trimRightASCII (.n 200 c_strings_trimRightByte (.n 199 c_prim_MakeLink .e .e) (.n 201 c_strings_makeASCIISet .e .e)) (.n 204 c_internal_bytealg_LastIndexByteString (.n 203 c_strings_trimRightUnicode .e .e) .e)) (.n 217 c_slices_IndexFunc_int_int (.n 209 c_internal_stringslite_HasPrefix (.n 206 c_slices_isNaN_string .e .e) (.n 214 c_math_bits_Len .e .e)) (.n 231 c_prim_put (.n 219 c_sym_ref .e .e) .e))) (.n 242 c_walk_walker_below (.n 239 c_strings_shouldUseASCIISet (.n 236 c_prim_Unlink_1 (.n 234 c_prim_at .e .e) (.n 238 c_strings_IndexRune .e .e)) (.n 241 c_slices_AppendSeq_string_string (.n 240 c_strings_asciiSet_contains .e .e) .e)) (.n 246 c_internal_bytealg_IndexRabinKarp_string (.n 245 c_internal_bytealg_Cutover (.n 243 c_walk_walker_follow .e .e) .e) (.n 248 c_unicode_utf8_DecodeRuneInString (.n 247 c_strings_splitSeq_1 .e .e) .e)))))) (.n 374 c_ftree_Tree_set (.n 324 c_slices_Collect_int (.n 289 c_prim_remove_1 (.n 269 c_math_bits_Len32 (.n 255 c_unicode_utf8_DecodeLastRuneInString (.n 253 c_path_Under (.n 252 c_slices_Equal_string_string .e .e) (.n 254 c_prim_Copy_1 .e .e)) (.n 257 c_cmp_isNaN_string (.n 256 c_strings_ContainsRune .e .e) .e)) (.n 278 c_store_change (.n 276 c_slices_Clone_api_Fact_api_Fact (.n 270 c_math_bits_Len64 .e .e) (.n 277 c_slices_Clone_int_int .e .e)) (.n 288 c_prim_put_1 (.n 280 c_store_dir .e .e) .e))) (.n 298 c_slices_xorshift_Next (.n 293 c_unicode_utf8_decodeRuneInStringSlow (.n 291 c_unicode_utf8_ValidRune (.n 290 c_prim_taken .e .e) (.n 292 c_internal_bytealg_hashStr_string .e .e)) (.n 297 c_slices_nextPowerOfTwo (.n 294 c_unicode_utf8_RuneStart .e .e) .e)) (.n 307 c_slices_Values_int_int (.n 306 c_slices_Sorted_int (.n 305 c_store_own .e .e) .e) (.n 315 c_sym_absent (.n 314 c_sym_Same .e .e) .e)))) (.n 344 c_slices_partitionOrdered_int (.n 337 c_slices_heapSortOrdered_int (.n 332 c_slices_AppendSeq_int_int (.n 326 c_slices_Values_int_int_1 (.n 325 c_slices_Sort_int_int .e .e) (.n 331 c_slices_EqualFunc_api_Term_api_Term_api_Term_api_Term .e .e)) (.n 336 c_slices_insertionSortOrdered_int (.n 333 c_slices_pdqsortOrdered_int .e .e) .e)) (.n 341 c_slices_partialInsertionSortOrdered_int (.n 339 c_slices_choosePivotOrdered_int (.n 338 c_slices_breakPatternsOrdered_int .e .e) (.n 340 c_slices_reverseRangeOrdered_int .e .e)) (.n 343 c_slices_partitionEqualOrdered_int (.n 342 c_cmp_Less_int .e .e) .e))) (.n 368 c_ftree_Tree_Del (.n 348 c_cmp_isNaN_int (.n 346 c_slices_medianAdjacentOrdered_int (.n 345 c_slices_siftDownOrdered_int .e .e) (.n 347 c_slices_medianOrdered_int .e .e)) (.n 367 c_ftree_Tree_Copy (.n 349 c_slices_order2Ordered_int .e .e) .e)) (.n 371 c_ftree_Tree_Put (.n 370 c_ftree_Tree_Move (.n 369 c_ftree_Tree_Empty .e .e) .e) (.n 373 c_ftree_Tree_apart (.n 372 c_ftree_Tree_Text .e .e) .e))))) (.n 406 c_sym_Tree_kind (.n 390 c_slices_rotateLeft_api_Node (.n 381 c_ftree_begins (.n 378 c_slices_Delete_api_Node_api_Node (.n 376 c_ftree_Tree_Del_1 (.n 375 c_ftree_change .e .e) (.n 377 c_slices_Delete_string_string .e .e)) (.n 380 c_ftree_Tree_open (.n 379 c_slices_Clone_api_Node_api_Node .e .e) .e)) (.n 386 c_slices_rotateRight_string (.n 383 c_slices_Insert_string_string (.n 382 c_ftree_Tree_set_1 .e .e) (.n 384 c_slices_Insert_api_Node_api_Node .e .e)) (.n 389 c_slices_rotateLeft_string (.n 388 c_slices_rotateRight_api_Node .e .e) .e))) (.n 400 c_sym_Tree_Move (.n 397 c_sym_Tree_Del (.n 392 c_slices_Reverse_api_Node_api_Node (.n 391 c_slices_Reverse_string_string .e .e) (.n 396 c_sym_Tree_Copy .e .e)) (.n 399 c_sym_Tree_Kind (.n 398 c_sym_Tree_Empty .e .e) .e)) (.n 403 c_sym_Tree_apart (.n 402 c_sym_Tree_Text (.n 401 c_sym_Tree_Put .e .e) .e) (.n 405 c_sym_Tree_at (.n 404 c_sym_Tree_set .e .e) .e)))) (.n 419 c_store_Ask (.n 413 c_sym_Tree_bare_1 (.n 410 c_sym_made (.n 408 c_sym_Tree_bare (.n 407 c_sym_base .e .e) (.n 409 c_sym_Tree_open .e .e)) (.n 412 c_sym_Tree_kid (.n 411 c_sym_with .e .e) .e)) (.n 416 c_slices_Clone_api_Term_api_Term (.n 415 c_sym_Tree_beside (.n 414 c_slices_Contains_string_string .e .e) .e) (.n 418 c_slices_Insert_api_Term_api_Term (.n 417 c_slices_Delete_api_Term_api_Term .e .e) .e))) (.n 427 c_slices_Index_int_int (.n 424 c_store_Ask_1 (.n 421 c_slices_Contains_int_int (.n 420 c_slices_Index_string_string .e .e) (.n 423 c_slices_rotateRight_api_Term .e .e)) (.n 426 c_slices_Insert_int_int (.n 425 c_store_Ask_2 .e .e) .e)) (.n 431 c_slices_Reverse_api_Term_api_Term (.n 430 c_slices_rotateRight_int (.n 428 c_slices_rotateLeft_api_Term .e .e) .e) (.n 433 c_slices_Reverse_int_int (.n 432 c_slices_rotateLeft_int .e .e) .e)))))))
def prog (n : Nat) : Option Fun := tab.get n
end Go.Proofs.YtcdbpkfbnhjgdaaGreatDoor
