/-
 The functions, as the abstract machine's: numbers and texts. By program.
-/
import Derived.Test.YtbfgoopcnkeblaaGreatFns0
import Derived.Test.YtbfgoopcnkeblaaGreatAmMemo
set_option linter.all false
set_option linter.unusedVariables false
set_option linter.unusedSimpArgs false
set_option linter.unusedSectionVars false
set_option maxRecDepth 100000
namespace Go.Proofs.YtbfgoopcnkeblaaGreat
open Go.Proofs.YtbfgoopcnkeblaaGreat.Am
def Az : Fun := { cin := [(.sl 1 .id), .id, .id, .id], cout := [.id], ntmps := 84, keep := false, res := [(8, none)], body :=
 (.seq (.reg [⟨(some 8), .mv (.c (.i .i64 0)), none⟩])
 (.seq (.seq (.thw 0)
 (.regD [⟨(some 11), .mv (.t 0), none⟩,
 ⟨(some 12), .mv (.t 1), none⟩,
 ⟨(some 13), .mv (.t 0), none⟩,
 ⟨(some 14), .mv (.t 3), none⟩,
 ⟨(some 15), .mv (.t 0), none⟩,
 ⟨(some 16), .mv (.t 3), none⟩,
 ⟨(some 17), .ia 1 (.t 15) (.t 16), none⟩,
 ⟨(some 18), .ld false 1 (.t 17), none⟩,
 ⟨(some 19), .mv (.t 0), none⟩,
 ⟨(some 20), .mv (.t 1), none⟩,
 ⟨(some 21), .ia 1 (.t 19) (.t 20), none⟩,
 ⟨(some 22), .ld false 1 (.t 21), none⟩,
 ⟨(some 23), .ia 1 (.t 11) (.t 12), none⟩,
 ⟨none, .st 1 (.t 23) (.t 18), none⟩,
 ⟨(some 24), .ia 1 (.t 13) (.t 14), none⟩,
 ⟨none, .st 1 (.t 24) (.t 22), none⟩] []))
 (.seq (.reg [⟨(some 25), .mv (.t 1), none⟩,
 ⟨(some 26), .bin .add (.t 25) (.c (.i .i64 1)), none⟩,
 ⟨(some 27), .mv (.t 2), none⟩,
 ⟨(some 28), .bin .sub (.t 27) (.c (.i .i64 1)), none⟩,
 ⟨(some 9), .mv (.t 26), none⟩,
 ⟨(some 10), .mv (.t 28), none⟩])
 (.seq (.blk 0 (.loop (.blk 1 (.seq (.blk 2 (.loop (.seq (.seq (.regD [⟨(some 29), .mv (.t 9), none⟩,
 ⟨(some 30), .mv (.t 10), none⟩,
 ⟨(some 31), .bin .leq (.t 29) (.t 30), none⟩,
 ⟨(some 32), .mv (.t 31), none⟩,
 ⟨(some 33), .mv (.t 0), (some (32, true))⟩,
 ⟨(some 34), .mv (.t 1), (some (32, true))⟩,
 ⟨(some 35), .ia 1 (.t 33) (.t 34), (some (32, true))⟩,
 ⟨(some 36), .ld false 1 (.t 35), (some (32, true))⟩,
 ⟨(some 37), .mv (.t 0), (some (32, true))⟩,
 ⟨(some 38), .mv (.t 9), (some (32, true))⟩,
 ⟨(some 39), .ia 1 (.t 37) (.t 38), (some (32, true))⟩,
 ⟨(some 40), .ld false 1 (.t 39), (some (32, true))⟩,
 ⟨(some 41), .call AL [(.t 36), (.t 40)], (some (32, true))⟩,
 ⟨(some 42), .un .not (.t 41), (some (32, true))⟩,
 ⟨(some 43), .pick (.t 32) (.t 42) (.c (.b false)), none⟩] [])
 (.cond (.t 43)
 .skip
 (.exit 2)))
 (.blk 3 (.reg [⟨(some 44), .mv (.t 9), none⟩,
 ⟨(some 45), .bin .add (.t 44) (.c (.i .i64 1)), none⟩,
 ⟨(some 9), .mv (.t 45), none⟩])))))
 (.seq (.blk 4 (.loop (.seq (.seq (.regD [⟨(some 46), .mv (.t 9), none⟩,
 ⟨(some 47), .mv (.t 10), none⟩,
 ⟨(some 48), .bin .leq (.t 46) (.t 47), none⟩,
 ⟨(some 49), .mv (.t 48), none⟩,
 ⟨(some 50), .mv (.t 0), (some (49, true))⟩,
 ⟨(some 51), .mv (.t 1), (some (49, true))⟩,
 ⟨(some 52), .ia 1 (.t 50) (.t 51), (some (49, true))⟩,
 ⟨(some 53), .ld false 1 (.t 52), (some (49, true))⟩,
 ⟨(some 54), .mv (.t 0), (some (49, true))⟩,
 ⟨(some 55), .mv (.t 10), (some (49, true))⟩,
 ⟨(some 56), .ia 1 (.t 54) (.t 55), (some (49, true))⟩,
 ⟨(some 57), .ld false 1 (.t 56), (some (49, true))⟩,
 ⟨(some 58), .call AL [(.t 53), (.t 57)], (some (49, true))⟩,
 ⟨(some 59), .pick (.t 49) (.t 58) (.c (.b false)), none⟩] [])
 (.cond (.t 59)
 .skip
 (.exit 4)))
 (.blk 5 (.reg [⟨(some 60), .mv (.t 10), none⟩,
 ⟨(some 61), .bin .sub (.t 60) (.c (.i .i64 1)), none⟩,
 ⟨(some 10), .mv (.t 61), none⟩])))))
 (.seq (.seq (.reg [⟨(some 62), .mv (.t 9), none⟩,
 ⟨(some 63), .mv (.t 10), none⟩,
 ⟨(some 64), .bin .gtr (.t 62) (.t 63), none⟩])
 (.cond (.t 64)
 (.exit 0)
 .skip))
 (.seq (.seq (.thw 0)
 (.regD [⟨(some 65), .mv (.t 0), none⟩,
 ⟨(some 66), .mv (.t 9), none⟩,
 ⟨(some 67), .mv (.t 0), none⟩,
 ⟨(some 68), .mv (.t 10), none⟩,
 ⟨(some 69), .mv (.t 0), none⟩,
 ⟨(some 70), .mv (.t 10), none⟩,
 ⟨(some 71), .ia 1 (.t 69) (.t 70), none⟩,
 ⟨(some 72), .ld false 1 (.t 71), none⟩,
 ⟨(some 73), .mv (.t 0), none⟩,
 ⟨(some 74), .mv (.t 9), none⟩,
 ⟨(some 75), .ia 1 (.t 73) (.t 74), none⟩,
 ⟨(some 76), .ld false 1 (.t 75), none⟩,
 ⟨(some 77), .ia 1 (.t 65) (.t 66), none⟩,
 ⟨none, .st 1 (.t 77) (.t 72), none⟩,
 ⟨(some 78), .ia 1 (.t 67) (.t 68), none⟩,
 ⟨none, .st 1 (.t 78) (.t 76), none⟩] []))
 (.seq (.reg [⟨(some 79), .mv (.t 9), none⟩,
 ⟨(some 80), .bin .add (.t 79) (.c (.i .i64 1)), none⟩,
 ⟨(some 9), .mv (.t 80), none⟩])
 (.reg [⟨(some 81), .mv (.t 10), none⟩,
 ⟨(some 82), .bin .sub (.t 81) (.c (.i .i64 1)), none⟩,
 ⟨(some 10), .mv (.t 82), none⟩])))))))))
 (.seq (.reg [⟨(some 83), .mv (.t 9), none⟩,
 ⟨(some 8), .mv (.t 83), none⟩])
 .ret))))) }
def BG : Fun := { cin := [(.sl 1 .id), .id, .id, .id], cout := [.id, .id], ntmps := 168, keep := false, res := [(8, none), (9, none)], body :=
 (.seq (.reg [⟨(some 8), .mv (.c (.i .i64 0)), none⟩,
 ⟨(some 9), .mv (.c (.b false)), none⟩])
 (.seq (.seq (.thw 0)
 (.regD [⟨(some 12), .mv (.t 0), none⟩,
 ⟨(some 13), .mv (.t 1), none⟩,
 ⟨(some 14), .mv (.t 0), none⟩,
 ⟨(some 15), .mv (.t 3), none⟩,
 ⟨(some 16), .mv (.t 0), none⟩,
 ⟨(some 17), .mv (.t 3), none⟩,
 ⟨(some 18), .ia 1 (.t 16) (.t 17), none⟩,
 ⟨(some 19), .ld false 1 (.t 18), none⟩,
 ⟨(some 20), .mv (.t 0), none⟩,
 ⟨(some 21), .mv (.t 1), none⟩,
 ⟨(some 22), .ia 1 (.t 20) (.t 21), none⟩,
 ⟨(some 23), .ld false 1 (.t 22), none⟩,
 ⟨(some 24), .ia 1 (.t 12) (.t 13), none⟩,
 ⟨none, .st 1 (.t 24) (.t 19), none⟩,
 ⟨(some 25), .ia 1 (.t 14) (.t 15), none⟩,
 ⟨none, .st 1 (.t 25) (.t 23), none⟩] []))
 (.seq (.reg [⟨(some 26), .mv (.t 1), none⟩,
 ⟨(some 27), .bin .add (.t 26) (.c (.i .i64 1)), none⟩,
 ⟨(some 28), .mv (.t 2), none⟩,
 ⟨(some 29), .bin .sub (.t 28) (.c (.i .i64 1)), none⟩,
 ⟨(some 10), .mv (.t 27), none⟩,
 ⟨(some 11), .mv (.t 29), none⟩])
 (.seq (.blk 0 (.loop (.seq (.seq (.regD [⟨(some 30), .mv (.t 10), none⟩,
 ⟨(some 31), .mv (.t 11), none⟩,
 ⟨(some 32), .bin .leq (.t 30) (.t 31), none⟩,
 ⟨(some 33), .mv (.t 32), none⟩,
 ⟨(some 34), .mv (.t 0), (some (33, true))⟩,
 ⟨(some 35), .mv (.t 10), (some (33, true))⟩,
 ⟨(some 36), .ia 1 (.t 34) (.t 35), (some (33, true))⟩,
 ⟨(some 37), .ld false 1 (.t 36), (some (33, true))⟩,
 ⟨(some 38), .mv (.t 0), (some (33, true))⟩,
 ⟨(some 39), .mv (.t 1), (some (33, true))⟩,
 ⟨(some 40), .ia 1 (.t 38) (.t 39), (some (33, true))⟩,
 ⟨(some 41), .ld false 1 (.t 40), (some (33, true))⟩,
 ⟨(some 42), .call AL [(.t 37), (.t 41)], (some (33, true))⟩,
 ⟨(some 43), .pick (.t 33) (.t 42) (.c (.b false)), none⟩] [])
 (.cond (.t 43)
 .skip
 (.exit 0)))
 (.blk 1 (.reg [⟨(some 44), .mv (.t 10), none⟩,
 ⟨(some 45), .bin .add (.t 44) (.c (.i .i64 1)), none⟩,
 ⟨(some 10), .mv (.t 45), none⟩])))))
 (.seq (.blk 2 (.loop (.seq (.seq (.regD [⟨(some 46), .mv (.t 10), none⟩,
 ⟨(some 47), .mv (.t 11), none⟩,
 ⟨(some 48), .bin .leq (.t 46) (.t 47), none⟩,
 ⟨(some 49), .mv (.t 48), none⟩,
 ⟨(some 50), .mv (.t 0), (some (49, true))⟩,
 ⟨(some 51), .mv (.t 11), (some (49, true))⟩,
 ⟨(some 52), .ia 1 (.t 50) (.t 51), (some (49, true))⟩,
 ⟨(some 53), .ld false 1 (.t 52), (some (49, true))⟩,
 ⟨(some 54), .mv (.t 0), (some (49, true))⟩,
 ⟨(some 55), .mv (.t 1), (some (49, true))⟩,
 ⟨(some 56), .ia 1 (.t 54) (.t 55), (some (49, true))⟩,
 ⟨(some 57), .ld false 1 (.t 56), (some (49, true))⟩,
 ⟨(some 58), .call AL [(.t 53), (.t 57)], (some (49, true))⟩,
 ⟨(some 59), .un .not (.t 58), (some (49, true))⟩,
 ⟨(some 60), .pick (.t 49) (.t 59) (.c (.b false)), none⟩] [])
 (.cond (.t 60)
 .skip
 (.exit 2)))
 (.blk 3 (.reg [⟨(some 61), .mv (.t 11), none⟩,
 ⟨(some 62), .bin .sub (.t 61) (.c (.i .i64 1)), none⟩,
 ⟨(some 11), .mv (.t 62), none⟩])))))
 (.seq (.seq (.reg [⟨(some 63), .mv (.t 10), none⟩,
 ⟨(some 64), .mv (.t 11), none⟩,
 ⟨(some 65), .bin .gtr (.t 63) (.t 64), none⟩])
 (.cond (.t 65)
 (.seq (.seq (.thw 0)
 (.regD [⟨(some 66), .mv (.t 0), none⟩,
 ⟨(some 67), .mv (.t 11), none⟩,
 ⟨(some 68), .mv (.t 0), none⟩,
 ⟨(some 69), .mv (.t 1), none⟩,
 ⟨(some 70), .mv (.t 0), none⟩,
 ⟨(some 71), .mv (.t 1), none⟩,
 ⟨(some 72), .ia 1 (.t 70) (.t 71), none⟩,
 ⟨(some 73), .ld false 1 (.t 72), none⟩,
 ⟨(some 74), .mv (.t 0), none⟩,
 ⟨(some 75), .mv (.t 11), none⟩,
 ⟨(some 76), .ia 1 (.t 74) (.t 75), none⟩,
 ⟨(some 77), .ld false 1 (.t 76), none⟩,
 ⟨(some 78), .ia 1 (.t 66) (.t 67), none⟩,
 ⟨none, .st 1 (.t 78) (.t 73), none⟩,
 ⟨(some 79), .ia 1 (.t 68) (.t 69), none⟩,
 ⟨none, .st 1 (.t 79) (.t 77), none⟩] []))
 (.seq (.reg [⟨(some 80), .mv (.t 11), none⟩,
 ⟨(some 8), .mv (.t 80), none⟩,
 ⟨(some 9), .mv (.c (.b true)), none⟩])
 .ret))
 .skip))
 (.seq (.seq (.thw 0)
 (.regD [⟨(some 81), .mv (.t 0), none⟩,
 ⟨(some 82), .mv (.t 10), none⟩,
 ⟨(some 83), .mv (.t 0), none⟩,
 ⟨(some 84), .mv (.t 11), none⟩,
 ⟨(some 85), .mv (.t 0), none⟩,
 ⟨(some 86), .mv (.t 11), none⟩,
 ⟨(some 87), .ia 1 (.t 85) (.t 86), none⟩,
 ⟨(some 88), .ld false 1 (.t 87), none⟩,
 ⟨(some 89), .mv (.t 0), none⟩,
 ⟨(some 90), .mv (.t 10), none⟩,
 ⟨(some 91), .ia 1 (.t 89) (.t 90), none⟩,
 ⟨(some 92), .ld false 1 (.t 91), none⟩,
 ⟨(some 93), .ia 1 (.t 81) (.t 82), none⟩,
 ⟨none, .st 1 (.t 93) (.t 88), none⟩,
 ⟨(some 94), .ia 1 (.t 83) (.t 84), none⟩,
 ⟨none, .st 1 (.t 94) (.t 92), none⟩] []))
 (.seq (.reg [⟨(some 95), .mv (.t 10), none⟩,
 ⟨(some 96), .bin .add (.t 95) (.c (.i .i64 1)), none⟩,
 ⟨(some 10), .mv (.t 96), none⟩])
 (.seq (.reg [⟨(some 97), .mv (.t 11), none⟩,
 ⟨(some 98), .bin .sub (.t 97) (.c (.i .i64 1)), none⟩,
 ⟨(some 11), .mv (.t 98), none⟩])
 (.seq (.blk 4 (.loop (.blk 5 (.seq (.blk 6 (.loop (.seq (.seq (.regD [⟨(some 99), .mv (.t 10), none⟩,
 ⟨(some 100), .mv (.t 11), none⟩,
 ⟨(some 101), .bin .leq (.t 99) (.t 100), none⟩,
 ⟨(some 102), .mv (.t 101), none⟩,
 ⟨(some 103), .mv (.t 0), (some (102, true))⟩,
 ⟨(some 104), .mv (.t 10), (some (102, true))⟩,
 ⟨(some 105), .ia 1 (.t 103) (.t 104), (some (102, true))⟩,
 ⟨(some 106), .ld false 1 (.t 105), (some (102, true))⟩,
 ⟨(some 107), .mv (.t 0), (some (102, true))⟩,
 ⟨(some 108), .mv (.t 1), (some (102, true))⟩,
 ⟨(some 109), .ia 1 (.t 107) (.t 108), (some (102, true))⟩,
 ⟨(some 110), .ld false 1 (.t 109), (some (102, true))⟩,
 ⟨(some 111), .call AL [(.t 106), (.t 110)], (some (102, true))⟩,
 ⟨(some 112), .pick (.t 102) (.t 111) (.c (.b false)), none⟩] [])
 (.cond (.t 112)
 .skip
 (.exit 6)))
 (.blk 7 (.reg [⟨(some 113), .mv (.t 10), none⟩,
 ⟨(some 114), .bin .add (.t 113) (.c (.i .i64 1)), none⟩,
 ⟨(some 10), .mv (.t 114), none⟩])))))
 (.seq (.blk 8 (.loop (.seq (.seq (.regD [⟨(some 115), .mv (.t 10), none⟩,
 ⟨(some 116), .mv (.t 11), none⟩,
 ⟨(some 117), .bin .leq (.t 115) (.t 116), none⟩,
 ⟨(some 118), .mv (.t 117), none⟩,
 ⟨(some 119), .mv (.t 0), (some (118, true))⟩,
 ⟨(some 120), .mv (.t 11), (some (118, true))⟩,
 ⟨(some 121), .ia 1 (.t 119) (.t 120), (some (118, true))⟩,
 ⟨(some 122), .ld false 1 (.t 121), (some (118, true))⟩,
 ⟨(some 123), .mv (.t 0), (some (118, true))⟩,
 ⟨(some 124), .mv (.t 1), (some (118, true))⟩,
 ⟨(some 125), .ia 1 (.t 123) (.t 124), (some (118, true))⟩,
 ⟨(some 126), .ld false 1 (.t 125), (some (118, true))⟩,
 ⟨(some 127), .call AL [(.t 122), (.t 126)], (some (118, true))⟩,
 ⟨(some 128), .un .not (.t 127), (some (118, true))⟩,
 ⟨(some 129), .pick (.t 118) (.t 128) (.c (.b false)), none⟩] [])
 (.cond (.t 129)
 .skip
 (.exit 8)))
 (.blk 9 (.reg [⟨(some 130), .mv (.t 11), none⟩,
 ⟨(some 131), .bin .sub (.t 130) (.c (.i .i64 1)), none⟩,
 ⟨(some 11), .mv (.t 131), none⟩])))))
 (.seq (.seq (.reg [⟨(some 132), .mv (.t 10), none⟩,
 ⟨(some 133), .mv (.t 11), none⟩,
 ⟨(some 134), .bin .gtr (.t 132) (.t 133), none⟩])
 (.cond (.t 134)
 (.exit 4)
 .skip))
 (.seq (.seq (.thw 0)
 (.regD [⟨(some 135), .mv (.t 0), none⟩,
 ⟨(some 136), .mv (.t 10), none⟩,
 ⟨(some 137), .mv (.t 0), none⟩,
 ⟨(some 138), .mv (.t 11), none⟩,
 ⟨(some 139), .mv (.t 0), none⟩,
 ⟨(some 140), .mv (.t 11), none⟩,
 ⟨(some 141), .ia 1 (.t 139) (.t 140), none⟩,
 ⟨(some 142), .ld false 1 (.t 141), none⟩,
 ⟨(some 143), .mv (.t 0), none⟩,
 ⟨(some 144), .mv (.t 10), none⟩,
 ⟨(some 145), .ia 1 (.t 143) (.t 144), none⟩,
 ⟨(some 146), .ld false 1 (.t 145), none⟩,
 ⟨(some 147), .ia 1 (.t 135) (.t 136), none⟩,
 ⟨none, .st 1 (.t 147) (.t 142), none⟩,
 ⟨(some 148), .ia 1 (.t 137) (.t 138), none⟩,
 ⟨none, .st 1 (.t 148) (.t 146), none⟩] []))
 (.seq (.reg [⟨(some 149), .mv (.t 10), none⟩,
 ⟨(some 150), .bin .add (.t 149) (.c (.i .i64 1)), none⟩,
 ⟨(some 10), .mv (.t 150), none⟩])
 (.reg [⟨(some 151), .mv (.t 11), none⟩,
 ⟨(some 152), .bin .sub (.t 151) (.c (.i .i64 1)), none⟩,
 ⟨(some 11), .mv (.t 152), none⟩])))))))))
 (.seq (.seq (.thw 0)
 (.regD [⟨(some 153), .mv (.t 0), none⟩,
 ⟨(some 154), .mv (.t 11), none⟩,
 ⟨(some 155), .mv (.t 0), none⟩,
 ⟨(some 156), .mv (.t 1), none⟩,
 ⟨(some 157), .mv (.t 0), none⟩,
 ⟨(some 158), .mv (.t 1), none⟩,
 ⟨(some 159), .ia 1 (.t 157) (.t 158), none⟩,
 ⟨(some 160), .ld false 1 (.t 159), none⟩,
 ⟨(some 161), .mv (.t 0), none⟩,
 ⟨(some 162), .mv (.t 11), none⟩,
 ⟨(some 163), .ia 1 (.t 161) (.t 162), none⟩,
 ⟨(some 164), .ld false 1 (.t 163), none⟩,
 ⟨(some 165), .ia 1 (.t 153) (.t 154), none⟩,
 ⟨none, .st 1 (.t 165) (.t 160), none⟩,
 ⟨(some 166), .ia 1 (.t 155) (.t 156), none⟩,
 ⟨none, .st 1 (.t 166) (.t 164), none⟩] []))
 (.seq (.reg [⟨(some 167), .mv (.t 11), none⟩,
 ⟨(some 8), .mv (.t 167), none⟩,
 ⟨(some 9), .mv (.c (.b false)), none⟩])
 .ret)))))))))))) }
def BM : Fun := { cin := [(.sl 1 .id), .id, .id, .id], cout := [], ntmps := 76, keep := false, res := [], body :=
 (.seq (.reg [⟨(some 10), .mv (.t 1), none⟩,
 ⟨(some 8), .mv (.t 10), none⟩])
 (.blk 0 (.loop (.blk 1 (.seq (.reg [⟨(some 11), .mv (.t 8), none⟩,
 ⟨(some 12), .bin .mul (.c (.i .i64 2)) (.t 11), none⟩,
 ⟨(some 13), .bin .add (.t 12) (.c (.i .i64 1)), none⟩,
 ⟨(some 9), .mv (.t 13), none⟩])
 (.seq (.seq (.reg [⟨(some 14), .mv (.t 9), none⟩,
 ⟨(some 15), .mv (.t 2), none⟩,
 ⟨(some 16), .bin .geq (.t 14) (.t 15), none⟩])
 (.cond (.t 16)
 (.exit 0)
 .skip))
 (.seq (.seq (.regD [⟨(some 17), .mv (.t 9), none⟩,
 ⟨(some 18), .bin .add (.t 17) (.c (.i .i64 1)), none⟩,
 ⟨(some 19), .mv (.t 2), none⟩,
 ⟨(some 20), .bin .lss (.t 18) (.t 19), none⟩,
 ⟨(some 21), .mv (.t 20), none⟩,
 ⟨(some 22), .mv (.t 0), (some (21, true))⟩,
 ⟨(some 23), .mv (.t 3), (some (21, true))⟩,
 ⟨(some 24), .mv (.t 9), (some (21, true))⟩,
 ⟨(some 25), .bin .add (.t 23) (.t 24), (some (21, true))⟩,
 ⟨(some 26), .ia 1 (.t 22) (.t 25), (some (21, true))⟩,
 ⟨(some 27), .ld false 1 (.t 26), (some (21, true))⟩,
 ⟨(some 28), .mv (.t 0), (some (21, true))⟩,
 ⟨(some 29), .mv (.t 3), (some (21, true))⟩,
 ⟨(some 30), .mv (.t 9), (some (21, true))⟩,
 ⟨(some 31), .bin .add (.t 29) (.t 30), (some (21, true))⟩,
 ⟨(some 32), .bin .add (.t 31) (.c (.i .i64 1)), (some (21, true))⟩,
 ⟨(some 33), .ia 1 (.t 28) (.t 32), (some (21, true))⟩,
 ⟨(some 34), .ld false 1 (.t 33), (some (21, true))⟩,
 ⟨(some 35), .call AL [(.t 27), (.t 34)], (some (21, true))⟩,
 ⟨(some 36), .pick (.t 21) (.t 35) (.c (.b false)), none⟩] [])
 (.cond (.t 36)
 (.reg [⟨(some 37), .mv (.t 9), none⟩,
 ⟨(some 38), .bin .add (.t 37) (.c (.i .i64 1)), none⟩,
 ⟨(some 9), .mv (.t 38), none⟩])
 .skip))
 (.seq (.seq (.regD [⟨(some 39), .mv (.t 0), none⟩,
 ⟨(some 40), .mv (.t 3), none⟩,
 ⟨(some 41), .mv (.t 8), none⟩,
 ⟨(some 42), .bin .add (.t 40) (.t 41), none⟩,
 ⟨(some 43), .ia 1 (.t 39) (.t 42), none⟩,
 ⟨(some 44), .ld false 1 (.t 43), none⟩,
 ⟨(some 45), .mv (.t 0), none⟩,
 ⟨(some 46), .mv (.t 3), none⟩,
 ⟨(some 47), .mv (.t 9), none⟩,
 ⟨(some 48), .bin .add (.t 46) (.t 47), none⟩,
 ⟨(some 49), .ia 1 (.t 45) (.t 48), none⟩,
 ⟨(some 50), .ld false 1 (.t 49), none⟩,
 ⟨(some 51), .call AL [(.t 44), (.t 50)], none⟩,
 ⟨(some 52), .un .not (.t 51), none⟩] [])
 (.cond (.t 52)
 .ret
 .skip))
 (.seq (.seq (.thw 0)
 (.regD [⟨(some 53), .mv (.t 0), none⟩,
 ⟨(some 54), .mv (.t 3), none⟩,
 ⟨(some 55), .mv (.t 8), none⟩,
 ⟨(some 56), .bin .add (.t 54) (.t 55), none⟩,
 ⟨(some 57), .mv (.t 0), none⟩,
 ⟨(some 58), .mv (.t 3), none⟩,
 ⟨(some 59), .mv (.t 9), none⟩,
 ⟨(some 60), .bin .add (.t 58) (.t 59), none⟩,
 ⟨(some 61), .mv (.t 0), none⟩,
 ⟨(some 62), .mv (.t 3), none⟩,
 ⟨(some 63), .mv (.t 9), none⟩,
 ⟨(some 64), .bin .add (.t 62) (.t 63), none⟩,
 ⟨(some 65), .ia 1 (.t 61) (.t 64), none⟩,
 ⟨(some 66), .ld false 1 (.t 65), none⟩,
 ⟨(some 67), .mv (.t 0), none⟩,
 ⟨(some 68), .mv (.t 3), none⟩,
 ⟨(some 69), .mv (.t 8), none⟩,
 ⟨(some 70), .bin .add (.t 68) (.t 69), none⟩,
 ⟨(some 71), .ia 1 (.t 67) (.t 70), none⟩,
 ⟨(some 72), .ld false 1 (.t 71), none⟩,
 ⟨(some 73), .ia 1 (.t 53) (.t 56), none⟩,
 ⟨none, .st 1 (.t 73) (.t 66), none⟩,
 ⟨(some 74), .ia 1 (.t 57) (.t 60), none⟩,
 ⟨none, .st 1 (.t 74) (.t 72), none⟩] []))
 (.reg [⟨(some 75), .mv (.t 9), none⟩,
 ⟨(some 8), .mv (.t 75), none⟩])))))))))) }
def A1 : Fun := { cin := [(.sl 1 .id), .id, .id], cout := [.id], ntmps := 15, keep := false, res := [(6, none)], body :=
 (.seq (.reg [⟨(some 6), .mv (.c (.i .i64 0)), none⟩])
 (.seq (.reg [⟨(some 7), .mv (.t 0), none⟩,
 ⟨(some 8), .mv (.t 1), none⟩,
 ⟨(some 9), .bin .sub (.t 8) (.c (.i .i64 1)), none⟩,
 ⟨(some 10), .mv (.t 1), none⟩,
 ⟨(some 11), .mv (.t 1), none⟩,
 ⟨(some 12), .bin .add (.t 11) (.c (.i .i64 1)), none⟩,
 ⟨(some 13), .mv (.t 2), none⟩,
 ⟨(some 14), .call Bo [(.t 7), (.t 9), (.t 10), (.t 12), (.t 13)], none⟩,
 ⟨(some 6), .mv (.t 14), none⟩])
 .ret)) }
def Bk : Fun := { cin := [(.sl 1 .id), .id, .id, .id, .id], cout := [.id], ntmps := 36, keep := false, res := [(10, none)], body :=
 (.seq (.reg [⟨(some 10), .mv (.c (.i .i64 0)), none⟩])
 (.seq (.reg [⟨(some 12), .mv (.t 0), none⟩,
 ⟨(some 13), .mv (.t 1), none⟩,
 ⟨(some 14), .mv (.t 2), none⟩,
 ⟨(some 15), .mv (.t 4), none⟩,
 ⟨(some 16), .call A2 [(.t 12), (.t 13), (.t 14), (.t 15)], none⟩,
 ⟨(some 11), .mv (.t 16), none⟩,
 ⟨(some 17), .ext (.t 11) 0, none⟩,
 ⟨(some 18), .ext (.t 11) 1, none⟩,
 ⟨(some 1), .mv (.t 17), none⟩,
 ⟨(some 2), .mv (.t 18), none⟩])
 (.seq (.reg [⟨(some 20), .mv (.t 0), none⟩,
 ⟨(some 21), .mv (.t 2), none⟩,
 ⟨(some 22), .mv (.t 3), none⟩,
 ⟨(some 23), .mv (.t 4), none⟩,
 ⟨(some 24), .call A2 [(.t 20), (.t 21), (.t 22), (.t 23)], none⟩,
 ⟨(some 19), .mv (.t 24), none⟩,
 ⟨(some 25), .ext (.t 19) 0, none⟩,
 ⟨(some 26), .ext (.t 19) 1, none⟩,
 ⟨(some 2), .mv (.t 25), none⟩,
 ⟨(some 3), .mv (.t 26), none⟩])
 (.seq (.reg [⟨(some 28), .mv (.t 0), none⟩,
 ⟨(some 29), .mv (.t 1), none⟩,
 ⟨(some 30), .mv (.t 2), none⟩,
 ⟨(some 31), .mv (.t 4), none⟩,
 ⟨(some 32), .call A2 [(.t 28), (.t 29), (.t 30), (.t 31)], none⟩,
 ⟨(some 27), .mv (.t 32), none⟩,
 ⟨(some 33), .ext (.t 27) 0, none⟩,
 ⟨(some 34), .ext (.t 27) 1, none⟩,
 ⟨(some 1), .mv (.t 33), none⟩,
 ⟨(some 2), .mv (.t 34), none⟩])
 (.seq (.reg [⟨(some 35), .mv (.t 2), none⟩,
 ⟨(some 10), .mv (.t 35), none⟩])
 .ret))))) }
def FG : Fun := { cin := [.id], cout := [.id], ntmps := 6, keep := false, res := [(2, none)], body :=
 (.seq (.reg [⟨(some 2), .mv (.c (.b false)), none⟩])
 (.seq (.reg [⟨(some 3), .mv (.t 0), none⟩,
 ⟨(some 4), .mv (.t 0), none⟩,
 ⟨(some 5), .bin .neq (.t 3) (.t 4), none⟩,
 ⟨(some 2), .mv (.t 5), none⟩])
 .ret)) }
def Bl : Fun := { cin := [(.sl 1 .id), .id, .id, .id], cout := [.id, .id], ntmps := 28, keep := false, res := [(8, none), (9, none)], body :=
 (.seq (.reg [⟨(some 8), .mv (.c (.i .i64 0)), none⟩,
 ⟨(some 9), .mv (.c (.i .i64 0)), none⟩])
 (.seq (.seq (.regD [⟨(some 10), .mv (.t 0), none⟩,
 ⟨(some 11), .mv (.t 2), none⟩,
 ⟨(some 12), .ia 1 (.t 10) (.t 11), none⟩,
 ⟨(some 13), .ld false 1 (.t 12), none⟩,
 ⟨(some 14), .mv (.t 0), none⟩,
 ⟨(some 15), .mv (.t 1), none⟩,
 ⟨(some 16), .ia 1 (.t 14) (.t 15), none⟩,
 ⟨(some 17), .ld false 1 (.t 16), none⟩,
 ⟨(some 18), .call AL [(.t 13), (.t 17)], none⟩] [])
 (.cond (.t 18)
 (.seq (.reg [⟨(some 19), .mv (.t 3), none⟩,
 ⟨(some 20), .nck (.t 19), none⟩,
 ⟨(some 21), .ld false 1 (.t 20), none⟩,
 ⟨(some 22), .bin .add (.t 21) (.c (.i .i64 1)), none⟩,
 ⟨(some 23), .nck (.t 19), none⟩,
 ⟨none, .st 1 (.t 23) (.t 22), none⟩])
 (.seq (.reg [⟨(some 24), .mv (.t 2), none⟩,
 ⟨(some 25), .mv (.t 1), none⟩,
 ⟨(some 8), .mv (.t 24), none⟩,
 ⟨(some 9), .mv (.t 25), none⟩])
 .ret))
 .skip))
 (.seq (.reg [⟨(some 26), .mv (.t 1), none⟩,
 ⟨(some 27), .mv (.t 2), none⟩,
 ⟨(some 8), .mv (.t 26), none⟩,
 ⟨(some 9), .mv (.t 27), none⟩])
 .ret))) }
def tab : PT := (.n 76 I0 (.n 41 Fm (.n 22 KV (.n 11 Fk (.n 8 Cl (.n 6 CZ (.n 3 BH .e .e) (.n 7 C9 .e .e)) (.n 10 HN (.n 9 DL .e .e) .e)) (.n 14 Cm (.n 13 Bp (.n 12 GZ .e .e) .e) (.n 21 Iw (.n 20 Ga .e .e) .e))) (.n 35 KX (.n 26 HO (.n 24 DM (.n 23 IE .e .e) (.n 25 Fl .e .e)) (.n 34 Gc (.n 27 Gb .e .e) .e)) (.n 38 Gd (.n 37 KY (.n 36 Ix .e .e) .e) (.n 40 D6 (.n 39 Ge .e .e) .e)))) (.n 59 Iy (.n 53 HP (.n 45 Dk (.n 43 Ah (.n 42 Ax .e .e) (.n 44 Ev .e .e)) (.n 47 BO (.n 46 IG .e .e) .e)) (.n 56 Ka (.n 55 KZ (.n 54 FL .e .e) .e) (.n 58 IH (.n 57 BI .e .e) .e))) (.n 66 ER (.n 63 BJ (.n 61 HQ (.n 60 Kb .e .e) (.n 62 Iz .e .e)) (.n 65 An (.n 64 E2 .e .e) .e)) (.n 69 A5 (.n 68 Ar (.n 67 DA .e .e) .e) (.n 75 II (.n 70 DB .e .e) .e))))) (.n 107 DN (.n 92 HR (.n 83 AQ (.n 80 ET (.n 78 Ay (.n 77 Gf .e .e) (.n 79 ES .e .e)) (.n 82 BP (.n 81 Bq .e .e) .e)) (.n 88 D7 (.n 87 Ai (.n 84 BA .e .e) .e) (.n 91 IJ (.n 90 D8 .e .e) .e))) (.n 101 FN (.n 96 FM (.n 94 Dl (.n 93 IK .e .e) (.n 95 Ca .e .e)) (.n 98 A6 (.n 97 B2 .e .e) .e)) (.n 104 Cn (.n 103 Bd (.n 102 Dm .e .e) .e) (.n 106 Gg (.n 105 Be .e .e) .e)))) (.n 132 BQ (.n 122 Br (.n 119 EU (.n 109 B3 (.n 108 DC .e .e) (.n 110 Co .e .e)) (.n 121 CK (.n 120 EV .e .e) .e)) (.n 127 Cb (.n 125 Bf (.n 124 Bs .e .e) .e) (.n 131 A3 (.n 128 Cp .e .e) .e))) (.n 139 BG (.n 136 Af (.n 134 BB (.n 133 A4 .e .e) (.n 135 A7 .e .e)) (.n 138 Az (.n 137 Fn .e .e) .e)) (.n 143 Bk (.n 142 A1 (.n 141 BM .e .e) .e) (.n 145 Bl (.n 144 FG .e .e) .e))))))
def prog (n : Nat) : Option Fun := tab.get n
end Go.Proofs.YtbfgoopcnkeblaaGreat
