/-
  The functions, as the abstract machine's: numbers and texts. By program.
-/
import Derived.Test.YtbfgoopcnkeblaaGreatAmKeep
import Derived.Test.YtbfgoopcnkeblaaGreatAmRg
set_option linter.all false
set_option linter.unusedVariables false
set_option linter.unusedSimpArgs false
set_option linter.unusedSectionVars false
set_option maxRecDepth 100000
namespace Go.Proofs.YtbfgoopcnkeblaaGreat
open Go.Proofs.YtbfgoopcnkeblaaGreat.Am
def C7 : Nat := 4
def FG : Nat := 11
def Fx : Nat := 12
def A7 : Nat := 13
def CH : Nat := 14
def Bv : Nat := 15
def B7 : Nat := 16
def Cr : Nat := 17
def C3 : Nat := 18
def JC : Nat := 21
def Kf : Nat := 22
def Kg : Nat := 23
def B2 : Nat := 24
def EH : Nat := 25
def Co : Nat := 26
def Ea : Nat := 27
def B8 : Nat := 28
def DG : Nat := 29
def C4 : Nat := 30
def CI : Nat := 31
def Bp : Nat := 32
def CJ : Nat := 33
def Gs : Nat := 35
def HQ : Nat := 36
def Kh : Nat := 37
def Fy : Nat := 38
def Fz : Nat := 39
def Du : Nat := 40
def EI : Nat := 41
def Ae : Nat := 42
def BI : Nat := 43
def Cy : Nat := 44
def Bt : Nat := 45
def Ey : Nat := 46
def AZ : Nat := 47
def DH : Nat := 48
def CK : Nat := 49
def DI : Nat := 50
def C5 : Nat := 51
def CL : Nat := 52
def JS : Nat := 53
def Ie : Nat := 55
def Ki : Nat := 56
def Bz : Nat := 57
def F0 : Nat := 58
def HR : Nat := 59
def NI : Nat := 60
def JT : Nat := 61
def Lf : Nat := 62
def Ar : Nat := 63
def Bq : Nat := 64
def Ah : Nat := 65
def EC : Nat := 66
def CX : Nat := 67
def BW : Nat := 68
def Bn : Nat := 69
def DJ : Nat := 70
def CY : Nat := 71
def DK : Nat := 72
def Cs : Nat := 73
def C6 : Nat := 74
def Kj : Nat := 75
def Lg : Nat := 76
def CU : Nat := 81
def C8 : Nat := 82
def BF : Nat := 83
def AH : Nat := 84
def AN : Nat := 87
def C9 : Nat := 88
def IB : Nat := 89
def Dv : Nat := 90
def Ho : Nat := 91
def JU : Nat := 92
def Hq : Nat := 93
def Bu : Nat := 102
def Bc : Nat := 103
def CM : Nat := 104
def Bd : Nat := 105
def Ig : Nat := 106
def Cl : Nat := 121
def DX : Nat := 122
def JV : Nat := 123
def Ad : Fun := { cin := [(.agg [.id, .id, .id, .id, (.sl 1 .id), (.sl 6 (.agg [.id, .id, .id, .id, (.sl 1 .id), (.sl 6 (.agg [.id, .id, .id, .id, (.sl 1 .id), (.sl 6 .id)]))]))]), (.agg [.id, .id, (.sl 1 .id), (.sl 4 (.agg [.id, .id, (.sl 1 .id), (.sl 4 (.agg [.id, .id, (.sl 1 .id), (.sl 4 .id)]))]))])], cout := [.id], ntmps := 59, keep := false, res := [(4, none)], body :=
 (.seq (.reg [⟨(some 2), .box 34 6 (.t 0), none⟩,
 ⟨(some 3), .box 30 4 (.t 1), none⟩,
 ⟨(some 4), .mv (.c (.b false)), none⟩])
 (.seq (.seq (.reg [⟨(some 13), .ld true 4 (.t 3), none⟩,
 ⟨(some 14), .call Bv [(.t 13)], none⟩,
 ⟨(some 15), .bin .geq (.t 14) (.c (.i .i64 1000)), none⟩,
 ⟨(some 16), .mv (.t 15), none⟩,
 ⟨(some 17), .ld true 6 (.t 2), (some (16, false))⟩,
 ⟨(some 18), .call B7 [(.t 17)], (some (16, false))⟩,
 ⟨(some 19), .bin .geq (.t 18) (.c (.i .i64 1000)), (some (16, false))⟩,
 ⟨(some 20), .pick (.t 16) (.c (.b true)) (.t 19), none⟩])
 (.cond (.t 20)
 (.seq (.reg [⟨(some 4), .mv (.c (.b true)), none⟩])
 .ret)
 .skip))
 (.seq (.reg [⟨(some 22), .ld true 6 (.t 2), none⟩,
 ⟨(some 23), .call FG [(.t 22)], none⟩,
 ⟨(some 21), .mv (.t 23), none⟩,
 ⟨(some 24), .ext (.t 21) 0, none⟩,
 ⟨(some 25), .ext (.t 21) 1, none⟩,
 ⟨(some 5), .alloc 30 [(.i .u8 0), (.s []), .nsl, .nsl], none⟩,
 ⟨none, .st 4 (.t 5) (.t 24), none⟩,
 ⟨(some 6), .mv (.t 25), none⟩])
 (.seq (.reg [⟨(some 27), .ld true 6 (.t 2), none⟩,
 ⟨(some 28), .call Cr [(.t 27)], none⟩,
 ⟨(some 26), .mv (.t 28), none⟩,
 ⟨(some 29), .ext (.t 26) 0, none⟩,
 ⟨(some 30), .ext (.t 26) 1, none⟩,
 ⟨(some 7), .alloc 30 [(.i .u8 0), (.s []), .nsl, .nsl], none⟩,
 ⟨none, .st 4 (.t 7) (.t 29), none⟩,
 ⟨(some 8), .mv (.t 30), none⟩])
 (.seq (.reg [⟨(some 32), .ld true 4 (.t 3), none⟩,
 ⟨(some 33), .call Fx [(.t 32)], none⟩,
 ⟨(some 31), .mv (.t 33), none⟩,
 ⟨(some 34), .ext (.t 31) 0, none⟩,
 ⟨(some 35), .ext (.t 31) 1, none⟩,
 ⟨(some 9), .alloc 34 [(.i .i64 0), (.i .u8 0), (.s []), (.i .i64 0), .nsl, .nsl], none⟩,
 ⟨none, .st 6 (.t 9) (.t 34), none⟩,
 ⟨(some 10), .mv (.t 35), none⟩])
 (.seq (.reg [⟨(some 37), .ld true 4 (.t 3), none⟩,
 ⟨(some 38), .call C3 [(.t 37)], none⟩,
 ⟨(some 36), .mv (.t 38), none⟩,
 ⟨(some 39), .ext (.t 36) 0, none⟩,
 ⟨(some 40), .ext (.t 36) 1, none⟩,
 ⟨(some 11), .alloc 34 [(.i .i64 0), (.i .u8 0), (.s []), (.i .i64 0), .nsl, .nsl], none⟩,
 ⟨none, .st 6 (.t 11) (.t 39), none⟩,
 ⟨(some 12), .mv (.t 40), none⟩])
 (.seq (.reg [⟨(some 41), .ld true 4 (.t 5), none⟩,
 ⟨(some 42), .ld true 4 (.t 7), none⟩,
 ⟨(some 43), .call CH [(.t 41), (.t 42)], none⟩,
 ⟨(some 44), .mv (.t 43), none⟩,
 ⟨(some 45), .mv (.t 6), (some (44, true))⟩,
 ⟨(some 46), .mv (.t 8), (some (44, true))⟩,
 ⟨(some 47), .bin .eql (.t 45) (.t 46), (some (44, true))⟩,
 ⟨(some 48), .pick (.t 44) (.t 47) (.c (.b false)), none⟩,
 ⟨(some 49), .mv (.t 48), none⟩,
 ⟨(some 50), .ld true 6 (.t 9), (some (49, true))⟩,
 ⟨(some 51), .ld true 6 (.t 11), (some (49, true))⟩,
 ⟨(some 52), .call A7 [(.t 50), (.t 51)], (some (49, true))⟩,
 ⟨(some 53), .pick (.t 49) (.t 52) (.c (.b false)), none⟩,
 ⟨(some 54), .mv (.t 53), none⟩,
 ⟨(some 55), .mv (.t 10), (some (54, true))⟩,
 ⟨(some 56), .mv (.t 12), (some (54, true))⟩,
 ⟨(some 57), .bin .eql (.t 55) (.t 56), (some (54, true))⟩,
 ⟨(some 58), .pick (.t 54) (.t 57) (.c (.b false)), none⟩,
 ⟨(some 4), .mv (.t 58), none⟩])
 .ret))))))) }
def CB : Fun := { cin := [(.agg [.id, .id, .id, .id, (.sl 1 .id), (.sl 6 (.agg [.id, .id, .id, .id, (.sl 1 .id), (.sl 6 (.agg [.id, .id, .id, .id, (.sl 1 .id), (.sl 6 .id)]))]))])], cout := [(.agg [.id, .id, (.sl 1 .id), (.sl 4 (.agg [.id, .id, (.sl 1 .id), (.sl 4 (.agg [.id, .id, (.sl 1 .id), (.sl 4 .id)]))]))]), .id], ntmps := 18, keep := false, res := [(2, some (true, 4)), (3, none)], body :=
 (.seq (.reg [⟨(some 1), .box 34 6 (.t 0), none⟩,
 ⟨(some 2), .alloc 30 [(.i .u8 0), (.s []), .nsl, .nsl], none⟩,
 ⟨(some 3), .mv (.c (.i .i64 0)), none⟩])
 (.seq (.seq (.regD [⟨(some 4), .ld true 6 (.t 1), none⟩,
 ⟨(some 5), .call EH [(.t 4)], none⟩,
 ⟨(some 6), .un .not (.t 5), none⟩,
 ⟨(some 7), .mv (.t 6), none⟩,
 ⟨(some 8), .call JC [], (some (7, false))⟩,
 ⟨(some 9), .ld true 6 (.t 1), (some (7, false))⟩,
 ⟨(some 10), .call Kf [(.t 8), (.t 9)], (some (7, false))⟩,
 ⟨(some 11), .un .not (.t 10), (some (7, false))⟩,
 ⟨(some 12), .pick (.t 7) (.c (.b true)) (.t 11), none⟩] [(5, (4, 5))])
 (.cond (.t 12)
 (.seq (.reg [⟨(some 13), .build [(.i .u8 0), (.s []), .nsl, .nsl] [], none⟩,
 ⟨none, .st 4 (.t 2) (.t 13), none⟩,
 ⟨(some 3), .mv (.c (.i .i64 4)), none⟩])
 .ret)
 .skip))
 (.seq (.reg [⟨(some 14), .build [.nsl, (.i .u8 0), (.s []), .nsl, .nsl] [], none⟩,
 ⟨(some 15), .box 56 5 (.t 14), none⟩,
 ⟨(some 16), .ld true 6 (.t 1), none⟩,
 ⟨(some 17), .call B2 [(.t 15), (.t 16)], none⟩,
 ⟨none, .st 4 (.t 2) (.t 17), none⟩,
 ⟨(some 3), .mv (.c (.i .i64 0)), none⟩])
 .ret))) }
def CZ : Fun := { cin := [(.agg [.id, .id, (.sl 1 .id), (.sl 4 (.agg [.id, .id, (.sl 1 .id), (.sl 4 (.agg [.id, .id, (.sl 1 .id), (.sl 4 .id)]))]))])], cout := [(.agg [.id, .id, .id, .id, (.sl 1 .id), (.sl 6 (.agg [.id, .id, .id, .id, (.sl 1 .id), (.sl 6 (.agg [.id, .id, .id, .id, (.sl 1 .id), (.sl 6 .id)]))]))]), .id], ntmps := 15, keep := false, res := [(2, some (true, 6)), (3, none)], body :=
 (.seq (.reg [⟨(some 1), .box 30 4 (.t 0), none⟩,
 ⟨(some 2), .alloc 34 [(.i .i64 0), (.i .u8 0), (.s []), (.i .i64 0), .nsl, .nsl], none⟩,
 ⟨(some 3), .mv (.c (.i .i64 0)), none⟩])
 (.seq (.seq (.reg [⟨(some 4), .fa 0 (.t 1), none⟩,
 ⟨(some 5), .ld false 1 (.t 4), none⟩,
 ⟨(some 6), .bin .neq (.t 5) (.c (.i .u8 2)), none⟩,
 ⟨(some 7), .mv (.t 6), none⟩,
 ⟨(some 8), .ld true 4 (.t 1), (some (7, false))⟩,
 ⟨(some 9), .call Co [(.t 8)], (some (7, false))⟩,
 ⟨(some 10), .un .not (.t 9), (some (7, false))⟩,
 ⟨(some 11), .pick (.t 7) (.c (.b true)) (.t 10), none⟩])
 (.cond (.t 11)
 (.seq (.reg [⟨(some 12), .build [(.i .i64 0), (.i .u8 0), (.s []), (.i .i64 0), .nsl, .nsl] [], none⟩,
 ⟨none, .st 6 (.t 2) (.t 12), none⟩,
 ⟨(some 3), .mv (.c (.i .i64 4)), none⟩])
 .ret)
 .skip))
 (.seq (.reg [⟨(some 13), .ld true 4 (.t 1), none⟩,
 ⟨(some 14), .call Ea [(.t 13)], none⟩,
 ⟨none, .st 6 (.t 2) (.t 14), none⟩,
 ⟨(some 3), .mv (.c (.i .i64 0)), none⟩])
 .ret))) }
def A8 : Fun := { cin := [(.agg [.id, .id, .id, .id, (.sl 1 .id), (.sl 6 (.agg [.id, .id, .id, .id, (.sl 1 .id), (.sl 6 (.agg [.id, .id, .id, .id, (.sl 1 .id), (.sl 6 .id)]))]))]), (.agg [.id, .id, .id, .id, (.sl 1 .id), (.sl 6 (.agg [.id, .id, .id, .id, (.sl 1 .id), (.sl 6 (.agg [.id, .id, .id, .id, (.sl 1 .id), (.sl 6 .id)]))]))])], cout := [.id], ntmps := 88, keep := false, res := [(4, none)], body :=
 (.seq (.reg [⟨(some 2), .box 34 6 (.t 0), none⟩,
 ⟨(some 3), .box 34 6 (.t 1), none⟩,
 ⟨(some 4), .mv (.c (.b false)), none⟩])
 (.seq (.seq (.reg [⟨(some 7), .fa 0 (.t 2), none⟩,
 ⟨(some 8), .ld false 1 (.t 7), none⟩,
 ⟨(some 9), .fa 0 (.t 3), none⟩,
 ⟨(some 10), .ld false 1 (.t 9), none⟩,
 ⟨(some 11), .bin .neq (.t 8) (.t 10), none⟩,
 ⟨(some 12), .mv (.t 11), none⟩,
 ⟨(some 13), .fa 1 (.t 2), (some (12, false))⟩,
 ⟨(some 14), .ld false 1 (.t 13), (some (12, false))⟩,
 ⟨(some 15), .fa 1 (.t 3), (some (12, false))⟩,
 ⟨(some 16), .ld false 1 (.t 15), (some (12, false))⟩,
 ⟨(some 17), .bin .neq (.t 14) (.t 16), (some (12, false))⟩,
 ⟨(some 18), .pick (.t 12) (.c (.b true)) (.t 17), none⟩,
 ⟨(some 19), .mv (.t 18), none⟩,
 ⟨(some 20), .fa 2 (.t 2), (some (19, false))⟩,
 ⟨(some 21), .ld false 1 (.t 20), (some (19, false))⟩,
 ⟨(some 22), .fa 2 (.t 3), (some (19, false))⟩,
 ⟨(some 23), .ld false 1 (.t 22), (some (19, false))⟩,
 ⟨(some 24), .bin .neq (.t 21) (.t 23), (some (19, false))⟩,
 ⟨(some 25), .pick (.t 19) (.c (.b true)) (.t 24), none⟩,
 ⟨(some 26), .mv (.t 25), none⟩,
 ⟨(some 27), .fa 3 (.t 2), (some (26, false))⟩,
 ⟨(some 28), .ld false 1 (.t 27), (some (26, false))⟩,
 ⟨(some 29), .fa 3 (.t 3), (some (26, false))⟩,
 ⟨(some 30), .ld false 1 (.t 29), (some (26, false))⟩,
 ⟨(some 31), .bin .neq (.t 28) (.t 30), (some (26, false))⟩,
 ⟨(some 32), .pick (.t 26) (.c (.b true)) (.t 31), none⟩,
 ⟨(some 33), .mv (.t 32), none⟩,
 ⟨(some 34), .fa 4 (.t 2), (some (33, false))⟩,
 ⟨(some 35), .ld false 1 (.t 34), (some (33, false))⟩,
 ⟨(some 36), .len 1 (.t 35), (some (33, false))⟩,
 ⟨(some 37), .fa 4 (.t 3), (some (33, false))⟩,
 ⟨(some 38), .ld false 1 (.t 37), (some (33, false))⟩,
 ⟨(some 39), .len 1 (.t 38), (some (33, false))⟩,
 ⟨(some 40), .bin .neq (.t 36) (.t 39), (some (33, false))⟩,
 ⟨(some 41), .pick (.t 33) (.c (.b true)) (.t 40), none⟩,
 ⟨(some 42), .mv (.t 41), none⟩,
 ⟨(some 43), .fa 5 (.t 2), (some (42, false))⟩,
 ⟨(some 44), .ld false 1 (.t 43), (some (42, false))⟩,
 ⟨(some 45), .len 1 (.t 44), (some (42, false))⟩,
 ⟨(some 46), .fa 5 (.t 3), (some (42, false))⟩,
 ⟨(some 47), .ld false 1 (.t 46), (some (42, false))⟩,
 ⟨(some 48), .len 1 (.t 47), (some (42, false))⟩,
 ⟨(some 49), .bin .neq (.t 45) (.t 48), (some (42, false))⟩,
 ⟨(some 50), .pick (.t 42) (.c (.b true)) (.t 49), none⟩])
 (.cond (.t 50)
 (.seq (.reg [⟨(some 4), .mv (.c (.b false)), none⟩])
 .ret)
 .skip))
 (.seq (.seq (.reg [⟨(some 5), .mv (.c (.i .i64 0)), none⟩])
 (.blk 0 (.loop (.seq (.seq (.reg [⟨(some 51), .mv (.t 5), none⟩,
 ⟨(some 52), .fa 4 (.t 2), none⟩,
 ⟨(some 53), .ld false 1 (.t 52), none⟩,
 ⟨(some 54), .len 1 (.t 53), none⟩,
 ⟨(some 55), .bin .lss (.t 51) (.t 54), none⟩])
 (.cond (.t 55)
 .skip
 (.exit 0)))
 (.seq (.blk 1 (.seq (.regD [⟨(some 58), .fa 4 (.t 2), none⟩,
 ⟨(some 59), .ld false 1 (.t 58), none⟩,
 ⟨(some 60), .mv (.t 5), none⟩,
 ⟨(some 61), .ia 1 (.t 59) (.t 60), none⟩,
 ⟨(some 62), .ld false 1 (.t 61), none⟩,
 ⟨(some 63), .fa 4 (.t 3), none⟩,
 ⟨(some 64), .ld false 1 (.t 63), none⟩,
 ⟨(some 65), .mv (.t 5), none⟩,
 ⟨(some 66), .ia 1 (.t 64) (.t 65), none⟩,
 ⟨(some 67), .ld false 1 (.t 66), none⟩,
 ⟨(some 68), .bin .neq (.t 62) (.t 67), none⟩] [])
 (.cond (.t 68)
 (.seq (.reg [⟨(some 4), .mv (.c (.b false)), none⟩])
 .ret)
 .skip)))
 (.reg [⟨(some 56), .mv (.t 5), none⟩,
 ⟨(some 57), .bin .add (.t 56) (.c (.i .i64 1)), none⟩,
 ⟨(some 5), .mv (.t 57), none⟩]))))))
 (.seq (.seq (.reg [⟨(some 6), .mv (.c (.i .i64 0)), none⟩])
 (.blk 2 (.loop (.seq (.seq (.reg [⟨(some 69), .mv (.t 6), none⟩,
 ⟨(some 70), .fa 5 (.t 2), none⟩,
 ⟨(some 71), .ld false 1 (.t 70), none⟩,
 ⟨(some 72), .len 1 (.t 71), none⟩,
 ⟨(some 73), .bin .lss (.t 69) (.t 72), none⟩])
 (.cond (.t 73)
 .skip
 (.exit 2)))
 (.seq (.blk 3 (.seq (.regD [⟨(some 76), .fa 5 (.t 2), none⟩,
 ⟨(some 77), .ld false 1 (.t 76), none⟩,
 ⟨(some 78), .mv (.t 6), none⟩,
 ⟨(some 79), .ia 6 (.t 77) (.t 78), none⟩,
 ⟨(some 80), .ld true 6 (.t 79), none⟩,
 ⟨(some 81), .fa 5 (.t 3), none⟩,
 ⟨(some 82), .ld false 1 (.t 81), none⟩,
 ⟨(some 83), .mv (.t 6), none⟩,
 ⟨(some 84), .ia 6 (.t 82) (.t 83), none⟩,
 ⟨(some 85), .ld true 6 (.t 84), none⟩,
 ⟨(some 86), .call A7 [(.t 80), (.t 85)], none⟩,
 ⟨(some 87), .un .not (.t 86), none⟩] [])
 (.cond (.t 87)
 (.seq (.reg [⟨(some 4), .mv (.c (.b false)), none⟩])
 .ret)
 .skip)))
 (.reg [⟨(some 74), .mv (.t 6), none⟩,
 ⟨(some 75), .bin .add (.t 74) (.c (.i .i64 1)), none⟩,
 ⟨(some 6), .mv (.t 75), none⟩]))))))
 (.seq (.reg [⟨(some 4), .mv (.c (.b true)), none⟩])
 .ret))))) }
def BP : Fun := { cin := [(.agg [.id, .id, (.sl 1 .id), (.sl 4 (.agg [.id, .id, (.sl 1 .id), (.sl 4 (.agg [.id, .id, (.sl 1 .id), (.sl 4 .id)]))]))]), (.agg [.id, .id, (.sl 1 .id), (.sl 4 (.agg [.id, .id, (.sl 1 .id), (.sl 4 (.agg [.id, .id, (.sl 1 .id), (.sl 4 .id)]))]))])], cout := [.id], ntmps := 74, keep := false, res := [(4, none)], body :=
 (.seq (.reg [⟨(some 2), .box 30 4 (.t 0), none⟩,
 ⟨(some 3), .box 30 4 (.t 1), none⟩,
 ⟨(some 4), .mv (.c (.b false)), none⟩])
 (.seq (.seq (.reg [⟨(some 7), .fa 0 (.t 2), none⟩,
 ⟨(some 8), .ld false 1 (.t 7), none⟩,
 ⟨(some 9), .fa 0 (.t 3), none⟩,
 ⟨(some 10), .ld false 1 (.t 9), none⟩,
 ⟨(some 11), .bin .neq (.t 8) (.t 10), none⟩,
 ⟨(some 12), .mv (.t 11), none⟩,
 ⟨(some 13), .fa 1 (.t 2), (some (12, false))⟩,
 ⟨(some 14), .ld false 1 (.t 13), (some (12, false))⟩,
 ⟨(some 15), .fa 1 (.t 3), (some (12, false))⟩,
 ⟨(some 16), .ld false 1 (.t 15), (some (12, false))⟩,
 ⟨(some 17), .bin .neq (.t 14) (.t 16), (some (12, false))⟩,
 ⟨(some 18), .pick (.t 12) (.c (.b true)) (.t 17), none⟩,
 ⟨(some 19), .mv (.t 18), none⟩,
 ⟨(some 20), .fa 2 (.t 2), (some (19, false))⟩,
 ⟨(some 21), .ld false 1 (.t 20), (some (19, false))⟩,
 ⟨(some 22), .len 1 (.t 21), (some (19, false))⟩,
 ⟨(some 23), .fa 2 (.t 3), (some (19, false))⟩,
 ⟨(some 24), .ld false 1 (.t 23), (some (19, false))⟩,
 ⟨(some 25), .len 1 (.t 24), (some (19, false))⟩,
 ⟨(some 26), .bin .neq (.t 22) (.t 25), (some (19, false))⟩,
 ⟨(some 27), .pick (.t 19) (.c (.b true)) (.t 26), none⟩,
 ⟨(some 28), .mv (.t 27), none⟩,
 ⟨(some 29), .fa 3 (.t 2), (some (28, false))⟩,
 ⟨(some 30), .ld false 1 (.t 29), (some (28, false))⟩,
 ⟨(some 31), .len 1 (.t 30), (some (28, false))⟩,
 ⟨(some 32), .fa 3 (.t 3), (some (28, false))⟩,
 ⟨(some 33), .ld false 1 (.t 32), (some (28, false))⟩,
 ⟨(some 34), .len 1 (.t 33), (some (28, false))⟩,
 ⟨(some 35), .bin .neq (.t 31) (.t 34), (some (28, false))⟩,
 ⟨(some 36), .pick (.t 28) (.c (.b true)) (.t 35), none⟩])
 (.cond (.t 36)
 (.seq (.reg [⟨(some 4), .mv (.c (.b false)), none⟩])
 .ret)
 .skip))
 (.seq (.seq (.reg [⟨(some 5), .mv (.c (.i .i64 0)), none⟩])
 (.blk 0 (.loop (.seq (.seq (.reg [⟨(some 37), .mv (.t 5), none⟩,
 ⟨(some 38), .fa 2 (.t 2), none⟩,
 ⟨(some 39), .ld false 1 (.t 38), none⟩,
 ⟨(some 40), .len 1 (.t 39), none⟩,
 ⟨(some 41), .bin .lss (.t 37) (.t 40), none⟩])
 (.cond (.t 41)
 .skip
 (.exit 0)))
 (.seq (.blk 1 (.seq (.regD [⟨(some 44), .fa 2 (.t 2), none⟩,
 ⟨(some 45), .ld false 1 (.t 44), none⟩,
 ⟨(some 46), .mv (.t 5), none⟩,
 ⟨(some 47), .ia 1 (.t 45) (.t 46), none⟩,
 ⟨(some 48), .ld false 1 (.t 47), none⟩,
 ⟨(some 49), .fa 2 (.t 3), none⟩,
 ⟨(some 50), .ld false 1 (.t 49), none⟩,
 ⟨(some 51), .mv (.t 5), none⟩,
 ⟨(some 52), .ia 1 (.t 50) (.t 51), none⟩,
 ⟨(some 53), .ld false 1 (.t 52), none⟩,
 ⟨(some 54), .bin .neq (.t 48) (.t 53), none⟩] [])
 (.cond (.t 54)
 (.seq (.reg [⟨(some 4), .mv (.c (.b false)), none⟩])
 .ret)
 .skip)))
 (.reg [⟨(some 42), .mv (.t 5), none⟩,
 ⟨(some 43), .bin .add (.t 42) (.c (.i .i64 1)), none⟩,
 ⟨(some 5), .mv (.t 43), none⟩]))))))
 (.seq (.seq (.reg [⟨(some 6), .mv (.c (.i .i64 0)), none⟩])
 (.blk 2 (.loop (.seq (.seq (.reg [⟨(some 55), .mv (.t 6), none⟩,
 ⟨(some 56), .fa 3 (.t 2), none⟩,
 ⟨(some 57), .ld false 1 (.t 56), none⟩,
 ⟨(some 58), .len 1 (.t 57), none⟩,
 ⟨(some 59), .bin .lss (.t 55) (.t 58), none⟩])
 (.cond (.t 59)
 .skip
 (.exit 2)))
 (.seq (.blk 3 (.seq (.regD [⟨(some 62), .fa 3 (.t 2), none⟩,
 ⟨(some 63), .ld false 1 (.t 62), none⟩,
 ⟨(some 64), .mv (.t 6), none⟩,
 ⟨(some 65), .ia 4 (.t 63) (.t 64), none⟩,
 ⟨(some 66), .ld true 4 (.t 65), none⟩,
 ⟨(some 67), .fa 3 (.t 3), none⟩,
 ⟨(some 68), .ld false 1 (.t 67), none⟩,
 ⟨(some 69), .mv (.t 6), none⟩,
 ⟨(some 70), .ia 4 (.t 68) (.t 69), none⟩,
 ⟨(some 71), .ld true 4 (.t 70), none⟩,
 ⟨(some 72), .call CH [(.t 66), (.t 71)], none⟩,
 ⟨(some 73), .un .not (.t 72), none⟩] [])
 (.cond (.t 73)
 (.seq (.reg [⟨(some 4), .mv (.c (.b false)), none⟩])
 .ret)
 .skip)))
 (.reg [⟨(some 60), .mv (.t 6), none⟩,
 ⟨(some 61), .bin .add (.t 60) (.c (.i .i64 1)), none⟩,
 ⟨(some 6), .mv (.t 61), none⟩]))))))
 (.seq (.reg [⟨(some 4), .mv (.c (.b true)), none⟩])
 .ret))))) }
def AW : Fun := { cin := [(.agg [.id, .id, (.sl 1 .id), (.sl 4 (.agg [.id, .id, (.sl 1 .id), (.sl 4 (.agg [.id, .id, (.sl 1 .id), (.sl 4 .id)]))]))])], cout := [.id], ntmps := 52, keep := false, res := [(2, none)], body :=
 (.seq (.reg [⟨(some 1), .box 30 4 (.t 0), none⟩,
 ⟨(some 2), .mv (.c (.i .i64 0)), none⟩])
 (.seq (.reg [⟨(some 6), .fa 1 (.t 1), none⟩,
 ⟨(some 7), .ld false 1 (.t 6), none⟩,
 ⟨(some 8), .len 0 (.t 7), none⟩,
 ⟨(some 9), .bin .quo (.t 8) (.c (.i .i64 64)), none⟩,
 ⟨(some 10), .bin .add (.c (.i .i64 1)) (.t 9), none⟩,
 ⟨(some 3), .mv (.t 10), none⟩])
 (.seq (.seq (.reg [⟨(some 4), .mv (.c (.i .i64 0)), none⟩])
 (.blk 0 (.loop (.seq (.seq (.reg [⟨(some 11), .mv (.t 4), none⟩,
 ⟨(some 12), .fa 2 (.t 1), none⟩,
 ⟨(some 13), .ld false 1 (.t 12), none⟩,
 ⟨(some 14), .len 1 (.t 13), none⟩,
 ⟨(some 15), .bin .lss (.t 11) (.t 14), none⟩,
 ⟨(some 16), .mv (.t 15), none⟩,
 ⟨(some 17), .mv (.t 3), (some (16, true))⟩,
 ⟨(some 18), .bin .lss (.t 17) (.c (.i .i64 1000)), (some (16, true))⟩,
 ⟨(some 19), .pick (.t 16) (.t 18) (.c (.b false)), none⟩])
 (.cond (.t 19)
 .skip
 (.exit 0)))
 (.seq (.blk 1 (.reg [⟨(some 22), .mv (.t 3), none⟩,
 ⟨(some 23), .bin .add (.t 22) (.c (.i .i64 1)), none⟩,
 ⟨(some 24), .fa 2 (.t 1), none⟩,
 ⟨(some 25), .ld false 1 (.t 24), none⟩,
 ⟨(some 26), .mv (.t 4), none⟩,
 ⟨(some 27), .ia 1 (.t 25) (.t 26), none⟩,
 ⟨(some 28), .ld false 1 (.t 27), none⟩,
 ⟨(some 29), .len 0 (.t 28), none⟩,
 ⟨(some 30), .bin .quo (.t 29) (.c (.i .i64 64)), none⟩,
 ⟨(some 31), .bin .add (.t 23) (.t 30), none⟩,
 ⟨(some 3), .mv (.t 31), none⟩]))
 (.reg [⟨(some 20), .mv (.t 4), none⟩,
 ⟨(some 21), .bin .add (.t 20) (.c (.i .i64 1)), none⟩,
 ⟨(some 4), .mv (.t 21), none⟩]))))))
 (.seq (.seq (.reg [⟨(some 5), .mv (.c (.i .i64 0)), none⟩])
 (.blk 2 (.loop (.seq (.seq (.reg [⟨(some 32), .mv (.t 5), none⟩,
 ⟨(some 33), .fa 3 (.t 1), none⟩,
 ⟨(some 34), .ld false 1 (.t 33), none⟩,
 ⟨(some 35), .len 1 (.t 34), none⟩,
 ⟨(some 36), .bin .lss (.t 32) (.t 35), none⟩,
 ⟨(some 37), .mv (.t 36), none⟩,
 ⟨(some 38), .mv (.t 3), (some (37, true))⟩,
 ⟨(some 39), .bin .lss (.t 38) (.c (.i .i64 1000)), (some (37, true))⟩,
 ⟨(some 40), .pick (.t 37) (.t 39) (.c (.b false)), none⟩])
 (.cond (.t 40)
 .skip
 (.exit 2)))
 (.seq (.blk 3 (.reg [⟨(some 43), .mv (.t 3), none⟩,
 ⟨(some 44), .fa 3 (.t 1), none⟩,
 ⟨(some 45), .ld false 1 (.t 44), none⟩,
 ⟨(some 46), .mv (.t 5), none⟩,
 ⟨(some 47), .ia 4 (.t 45) (.t 46), none⟩,
 ⟨(some 48), .ld true 4 (.t 47), none⟩,
 ⟨(some 49), .call Bv [(.t 48)], none⟩,
 ⟨(some 50), .bin .add (.t 43) (.t 49), none⟩,
 ⟨(some 3), .mv (.t 50), none⟩]))
 (.reg [⟨(some 41), .mv (.t 5), none⟩,
 ⟨(some 42), .bin .add (.t 41) (.c (.i .i64 1)), none⟩,
 ⟨(some 5), .mv (.t 42), none⟩]))))))
 (.seq (.reg [⟨(some 51), .mv (.t 3), none⟩,
 ⟨(some 2), .mv (.t 51), none⟩])
 .ret))))) }
def Aa : Fun := { cin := [(.agg [.id, .id, .id, .id, (.sl 1 .id), (.sl 6 (.agg [.id, .id, .id, .id, (.sl 1 .id), (.sl 6 (.agg [.id, .id, .id, .id, (.sl 1 .id), (.sl 6 .id)]))]))])], cout := [.id], ntmps := 52, keep := false, res := [(2, none)], body :=
 (.seq (.reg [⟨(some 1), .box 34 6 (.t 0), none⟩,
 ⟨(some 2), .mv (.c (.i .i64 0)), none⟩])
 (.seq (.reg [⟨(some 6), .fa 2 (.t 1), none⟩,
 ⟨(some 7), .ld false 1 (.t 6), none⟩,
 ⟨(some 8), .len 0 (.t 7), none⟩,
 ⟨(some 9), .bin .quo (.t 8) (.c (.i .i64 64)), none⟩,
 ⟨(some 10), .bin .add (.c (.i .i64 1)) (.t 9), none⟩,
 ⟨(some 3), .mv (.t 10), none⟩])
 (.seq (.seq (.reg [⟨(some 4), .mv (.c (.i .i64 0)), none⟩])
 (.blk 0 (.loop (.seq (.seq (.reg [⟨(some 11), .mv (.t 4), none⟩,
 ⟨(some 12), .fa 4 (.t 1), none⟩,
 ⟨(some 13), .ld false 1 (.t 12), none⟩,
 ⟨(some 14), .len 1 (.t 13), none⟩,
 ⟨(some 15), .bin .lss (.t 11) (.t 14), none⟩,
 ⟨(some 16), .mv (.t 15), none⟩,
 ⟨(some 17), .mv (.t 3), (some (16, true))⟩,
 ⟨(some 18), .bin .lss (.t 17) (.c (.i .i64 1000)), (some (16, true))⟩,
 ⟨(some 19), .pick (.t 16) (.t 18) (.c (.b false)), none⟩])
 (.cond (.t 19)
 .skip
 (.exit 0)))
 (.seq (.blk 1 (.reg [⟨(some 22), .mv (.t 3), none⟩,
 ⟨(some 23), .bin .add (.t 22) (.c (.i .i64 1)), none⟩,
 ⟨(some 24), .fa 4 (.t 1), none⟩,
 ⟨(some 25), .ld false 1 (.t 24), none⟩,
 ⟨(some 26), .mv (.t 4), none⟩,
 ⟨(some 27), .ia 1 (.t 25) (.t 26), none⟩,
 ⟨(some 28), .ld false 1 (.t 27), none⟩,
 ⟨(some 29), .len 0 (.t 28), none⟩,
 ⟨(some 30), .bin .quo (.t 29) (.c (.i .i64 64)), none⟩,
 ⟨(some 31), .bin .add (.t 23) (.t 30), none⟩,
 ⟨(some 3), .mv (.t 31), none⟩]))
 (.reg [⟨(some 20), .mv (.t 4), none⟩,
 ⟨(some 21), .bin .add (.t 20) (.c (.i .i64 1)), none⟩,
 ⟨(some 4), .mv (.t 21), none⟩]))))))
 (.seq (.seq (.reg [⟨(some 5), .mv (.c (.i .i64 0)), none⟩])
 (.blk 2 (.loop (.seq (.seq (.reg [⟨(some 32), .mv (.t 5), none⟩,
 ⟨(some 33), .fa 5 (.t 1), none⟩,
 ⟨(some 34), .ld false 1 (.t 33), none⟩,
 ⟨(some 35), .len 1 (.t 34), none⟩,
 ⟨(some 36), .bin .lss (.t 32) (.t 35), none⟩,
 ⟨(some 37), .mv (.t 36), none⟩,
 ⟨(some 38), .mv (.t 3), (some (37, true))⟩,
 ⟨(some 39), .bin .lss (.t 38) (.c (.i .i64 1000)), (some (37, true))⟩,
 ⟨(some 40), .pick (.t 37) (.t 39) (.c (.b false)), none⟩])
 (.cond (.t 40)
 .skip
 (.exit 2)))
 (.seq (.blk 3 (.reg [⟨(some 43), .mv (.t 3), none⟩,
 ⟨(some 44), .fa 5 (.t 1), none⟩,
 ⟨(some 45), .ld false 1 (.t 44), none⟩,
 ⟨(some 46), .mv (.t 5), none⟩,
 ⟨(some 47), .ia 6 (.t 45) (.t 46), none⟩,
 ⟨(some 48), .ld true 6 (.t 47), none⟩,
 ⟨(some 49), .call B7 [(.t 48)], none⟩,
 ⟨(some 50), .bin .add (.t 43) (.t 49), none⟩,
 ⟨(some 3), .mv (.t 50), none⟩]))
 (.reg [⟨(some 41), .mv (.t 5), none⟩,
 ⟨(some 42), .bin .add (.t 41) (.c (.i .i64 1)), none⟩,
 ⟨(some 5), .mv (.t 42), none⟩]))))))
 (.seq (.reg [⟨(some 51), .mv (.t 3), none⟩,
 ⟨(some 2), .mv (.t 51), none⟩])
 .ret))))) }
def Av : Fun := { cin := [(.agg [.id, .id, .id, .id, (.sl 1 .id), (.sl 6 (.agg [.id, .id, .id, .id, (.sl 1 .id), (.sl 6 (.agg [.id, .id, .id, .id, (.sl 1 .id), (.sl 6 .id)]))]))])], cout := [(.agg [.id, .id, (.sl 1 .id), (.sl 4 (.agg [.id, .id, (.sl 1 .id), (.sl 4 (.agg [.id, .id, (.sl 1 .id), (.sl 4 .id)]))]))]), .id], ntmps := 16, keep := false, res := [(2, some (true, 4)), (3, none)], body :=
 (.seq (.reg [⟨(some 1), .box 34 6 (.t 0), none⟩,
 ⟨(some 2), .alloc 30 [(.i .u8 0), (.s []), .nsl, .nsl], none⟩,
 ⟨(some 3), .mv (.c (.i .i64 0)), none⟩])
 (.seq (.seq (.regD [⟨(some 4), .ld true 6 (.t 1), none⟩,
 ⟨(some 5), .call B8 [(.t 4)], none⟩,
 ⟨(some 6), .un .not (.t 5), none⟩,
 ⟨(some 7), .mv (.t 6), none⟩,
 ⟨(some 8), .call C4 [], (some (7, false))⟩,
 ⟨(some 9), .ld true 6 (.t 1), (some (7, false))⟩,
 ⟨(some 10), .call DG [(.t 8), (.t 9)], (some (7, false))⟩,
 ⟨(some 11), .un .not (.t 10), (some (7, false))⟩,
 ⟨(some 12), .pick (.t 7) (.c (.b true)) (.t 11), none⟩] [(5, (4, 5))])
 (.cond (.t 12)
 (.seq (.reg [⟨(some 13), .build [(.i .u8 0), (.s []), .nsl, .nsl] [], none⟩,
 ⟨none, .st 4 (.t 2) (.t 13), none⟩,
 ⟨(some 3), .mv (.c (.i .i64 4)), none⟩])
 .ret)
 .skip))
 (.seq (.reg [⟨(some 14), .ld true 6 (.t 1), none⟩,
 ⟨(some 15), .call CI [(.t 14)], none⟩,
 ⟨none, .st 4 (.t 2) (.t 15), none⟩,
 ⟨(some 3), .mv (.c (.i .i64 0)), none⟩])
 .ret))) }
def Ay : Fun := { cin := [(.agg [.id, .id, (.sl 1 .id), (.sl 4 (.agg [.id, .id, (.sl 1 .id), (.sl 4 (.agg [.id, .id, (.sl 1 .id), (.sl 4 .id)]))]))])], cout := [(.agg [.id, .id, .id, .id, (.sl 1 .id), (.sl 6 (.agg [.id, .id, .id, .id, (.sl 1 .id), (.sl 6 (.agg [.id, .id, .id, .id, (.sl 1 .id), (.sl 6 .id)]))]))]), .id], ntmps := 15, keep := false, res := [(2, some (true, 6)), (3, none)], body :=
 (.seq (.reg [⟨(some 1), .box 30 4 (.t 0), none⟩,
 ⟨(some 2), .alloc 34 [(.i .i64 0), (.i .u8 0), (.s []), (.i .i64 0), .nsl, .nsl], none⟩,
 ⟨(some 3), .mv (.c (.i .i64 0)), none⟩])
 (.seq (.seq (.reg [⟨(some 4), .fa 0 (.t 1), none⟩,
 ⟨(some 5), .ld false 1 (.t 4), none⟩,
 ⟨(some 6), .bin .neq (.t 5) (.c (.i .u8 2)), none⟩,
 ⟨(some 7), .mv (.t 6), none⟩,
 ⟨(some 8), .ld true 4 (.t 1), (some (7, false))⟩,
 ⟨(some 9), .call Bp [(.t 8)], (some (7, false))⟩,
 ⟨(some 10), .un .not (.t 9), (some (7, false))⟩,
 ⟨(some 11), .pick (.t 7) (.c (.b true)) (.t 10), none⟩])
 (.cond (.t 11)
 (.seq (.reg [⟨(some 12), .build [(.i .i64 0), (.i .u8 0), (.s []), (.i .i64 0), .nsl, .nsl] [], none⟩,
 ⟨none, .st 6 (.t 2) (.t 12), none⟩,
 ⟨(some 3), .mv (.c (.i .i64 4)), none⟩])
 .ret)
 .skip))
 (.seq (.reg [⟨(some 13), .ld true 4 (.t 1), none⟩,
 ⟨(some 14), .call CJ [(.t 13)], none⟩,
 ⟨none, .st 6 (.t 2) (.t 14), none⟩,
 ⟨(some 3), .mv (.c (.i .i64 0)), none⟩])
 .ret))) }
def HS : Fun := { cin := [], cout := [(.sl 6 (.agg [.id, .id, (.sl 1 .id), (.sl 1 .id), .id, .id]))], ntmps := 3, keep := false, res := [(0, none)], body :=
 (.seq (.reg [⟨(some 0), .mv (.c .nsl), none⟩])
 (.seq (.reg [⟨(some 1), .build [(.b false), (.i .u8 0), .nsl, .nsl, (.i .i64 0), (.i .i64 0)] [(0, 1, (.c (.b true))), (1, 1, (.c (.i .u8 2)))], none⟩,
 ⟨(some 2), .bsl 6 [(.t 1)], none⟩,
 ⟨(some 0), .mv (.t 2), none⟩])
 .ret)) }
def EO : Fun := { cin := [(.sl 6 (.agg [.id, .id, (.sl 1 .id), (.sl 1 .id), .id, .id])), (.agg [.id, .id, .id, .id, (.sl 1 .id), (.sl 6 (.agg [.id, .id, .id, .id, (.sl 1 .id), (.sl 6 (.agg [.id, .id, .id, .id, (.sl 1 .id), (.sl 6 .id)]))]))])], cout := [.id], ntmps := 33, keep := false, res := [(4, none)], body :=
 (.seq (.reg [⟨(some 3), .box 34 6 (.t 1), none⟩,
 ⟨(some 4), .mv (.c (.b false)), none⟩])
 (.seq (.reg [⟨(some 5), .mv (.t 0), none⟩,
 ⟨(some 6), .call Gs [(.t 5)], none⟩,
 ⟨(some 7), .mv (.t 6), none⟩,
 ⟨(some 8), .mv (.t 0), (some (7, true))⟩,
 ⟨(some 9), .ld true 6 (.t 3), (some (7, true))⟩,
 ⟨(some 10), .call HQ [(.t 8), (.t 9), (.c (.b false))], (some (7, true))⟩,
 ⟨(some 11), .pick (.t 7) (.t 10) (.c (.b false)), none⟩,
 ⟨(some 12), .mv (.t 11), none⟩,
 ⟨(some 13), .fa 0 (.t 3), (some (12, true))⟩,
 ⟨(some 14), .ld false 1 (.t 13), (some (12, true))⟩,
 ⟨(some 15), .bin .geq (.t 14) (.c (.i .i64 0)), (some (12, true))⟩,
 ⟨(some 16), .mv (.t 15), (some (12, true))⟩,
 ⟨(some 17), .mv (.t 0), (some (16, true))⟩,
 ⟨(some 18), .fa 0 (.t 3), (some (16, true))⟩,
 ⟨(some 19), .ld false 1 (.t 18), (some (16, true))⟩,
 ⟨(some 20), .call Kh [(.t 17), (.t 19)], (some (16, true))⟩,
 ⟨(some 21), .pick (.t 16) (.t 20) (.c (.b false)), (some (12, true))⟩,
 ⟨(some 22), .mv (.t 21), (some (12, true))⟩,
 ⟨(some 23), .fa 0 (.t 3), (some (22, false))⟩,
 ⟨(some 24), .ld false 1 (.t 23), (some (22, false))⟩,
 ⟨(some 25), .bin .lss (.t 24) (.c (.i .i64 0)), (some (22, false))⟩,
 ⟨(some 26), .mv (.t 25), (some (22, false))⟩,
 ⟨(some 27), .fa 1 (.t 3), (some (26, true))⟩,
 ⟨(some 28), .ld false 1 (.t 27), (some (26, true))⟩,
 ⟨(some 29), .bin .eql (.t 28) (.c (.i .u8 2)), (some (26, true))⟩,
 ⟨(some 30), .pick (.t 26) (.t 29) (.c (.b false)), (some (22, false))⟩,
 ⟨(some 31), .pick (.t 22) (.c (.b true)) (.t 30), (some (12, true))⟩,
 ⟨(some 32), .pick (.t 12) (.t 31) (.c (.b false)), none⟩,
 ⟨(some 4), .mv (.t 32), none⟩])
 .ret)) }
def Hr : Fun := { cin := [(.agg [.id, .id, (.sl 1 .id), (.sl 4 (.agg [.id, .id, (.sl 1 .id), (.sl 4 (.agg [.id, .id, (.sl 1 .id), (.sl 4 .id)]))]))])], cout := [.id], ntmps := 20, keep := false, res := [(2, none)], body :=
 (.seq (.reg [⟨(some 1), .box 30 4 (.t 0), none⟩,
 ⟨(some 2), .mv (.c (.b false)), none⟩])
 (.seq (.reg [⟨(some 3), .fa 0 (.t 1), none⟩,
 ⟨(some 4), .ld false 1 (.t 3), none⟩,
 ⟨(some 5), .bin .eql (.t 4) (.c (.i .u8 2)), none⟩,
 ⟨(some 6), .mv (.t 5), none⟩,
 ⟨(some 7), .ld true 4 (.t 1), (some (6, true))⟩,
 ⟨(some 8), .call Co [(.t 7)], (some (6, true))⟩,
 ⟨(some 9), .pick (.t 6) (.t 8) (.c (.b false)), none⟩,
 ⟨(some 10), .mv (.t 9), none⟩,
 ⟨(some 11), .ld true 4 (.t 1), (some (10, true))⟩,
 ⟨(some 12), .call Fy [(.t 11)], (some (10, true))⟩,
 ⟨(some 13), .bin .leq (.t 12) (.c (.i .i64 1024)), (some (10, true))⟩,
 ⟨(some 14), .pick (.t 10) (.t 13) (.c (.b false)), none⟩,
 ⟨(some 15), .mv (.t 14), none⟩,
 ⟨(some 16), .ld true 4 (.t 1), (some (15, true))⟩,
 ⟨(some 17), .call Fz [(.t 16)], (some (15, true))⟩,
 ⟨(some 18), .bin .leq (.t 17) (.c (.i .i64 24)), (some (15, true))⟩,
 ⟨(some 19), .pick (.t 15) (.t 18) (.c (.b false)), none⟩,
 ⟨(some 2), .mv (.t 19), none⟩])
 .ret)) }
def Aq : Fun := { cin := [.id, (.agg [.id, .id, .id, .id, (.sl 1 .id), (.sl 6 (.agg [.id, .id, .id, .id, (.sl 1 .id), (.sl 6 (.agg [.id, .id, .id, .id, (.sl 1 .id), (.sl 6 .id)]))]))])], cout := [(.agg [.id, .id, (.sl 1 .id), (.sl 4 (.agg [.id, .id, (.sl 1 .id), (.sl 4 (.agg [.id, .id, (.sl 1 .id), (.sl 4 .id)]))]))])], ntmps := 82, keep := false, res := [(4, some (true, 4))], body :=
 (.seq (.reg [⟨(some 2), .box 54 1 (.t 0), none⟩,
 ⟨(some 3), .box 34 6 (.t 1), none⟩,
 ⟨(some 4), .alloc 30 [(.i .u8 0), (.s []), .nsl, .nsl], none⟩])
 (.seq (.seq (.reg [⟨(some 13), .fa 0 (.t 3), none⟩,
 ⟨(some 14), .ld false 1 (.t 13), none⟩,
 ⟨(some 15), .bin .geq (.t 14) (.c (.i .i64 0)), none⟩])
 (.cond (.t 15)
 (.seq (.reg [⟨(some 16), .ld false 1 (.t 2), none⟩,
 ⟨(some 17), .fa 0 (.t 3), none⟩,
 ⟨(some 18), .ld false 1 (.t 17), none⟩,
 ⟨(some 19), .call Du [(.t 16), (.t 18)], none⟩,
 ⟨none, .st 4 (.t 4) (.t 19), none⟩])
 .ret)
 .skip))
 (.seq (.reg [⟨(some 20), .fa 1 (.t 3), none⟩,
 ⟨(some 21), .ld false 1 (.t 20), none⟩,
 ⟨(some 22), .fa 2 (.t 3), none⟩,
 ⟨(some 23), .ld false 1 (.t 22), none⟩,
 ⟨(some 24), .build [(.i .u8 0), (.s []), .nsl, .nsl] [(0, 1, (.t 21)), (1, 1, (.t 23))], none⟩,
 ⟨(some 5), .alloc 30 [(.i .u8 0), (.s []), .nsl, .nsl], none⟩,
 ⟨none, .st 4 (.t 5) (.t 24), none⟩])
 (.seq (.reg [⟨(some 25), .build [(.i .u8 0), (.s []), .nsl, .nsl] [], none⟩,
 ⟨(some 6), .alloc 30 [(.i .u8 0), (.s []), .nsl, .nsl], none⟩,
 ⟨none, .st 4 (.t 6) (.t 25), none⟩])
 (.seq (.seq (.reg [⟨(some 26), .fa 3 (.t 3), none⟩,
 ⟨(some 27), .ld false 1 (.t 26), none⟩,
 ⟨(some 28), .bin .geq (.t 27) (.c (.i .i64 0)), none⟩])
 (.cond (.t 28)
 (.reg [⟨(some 29), .ld false 1 (.t 2), none⟩,
 ⟨(some 30), .fa 3 (.t 3), none⟩,
 ⟨(some 31), .ld false 1 (.t 30), none⟩,
 ⟨(some 32), .call Du [(.t 29), (.t 31)], none⟩,
 ⟨none, .st 4 (.t 6) (.t 32), none⟩])
 .skip))
 (.seq (.seq (.reg [⟨(some 33), .fa 2 (.t 6), none⟩,
 ⟨(some 34), .ld false 1 (.t 33), none⟩,
 ⟨(some 35), .fa 4 (.t 3), none⟩,
 ⟨(some 36), .ld false 1 (.t 35), none⟩,
 ⟨(some 37), .call EI [(.t 34), (.t 36)], none⟩])
 (.blk 0 (.rf (.t 37) [38] (.reg [⟨(some 7), .mv (.t 38), none⟩])
 (.blk 1 (.seq (.reg [⟨(some 8), .alloc 30 [(.i .u8 0), (.s []), .nsl, .nsl], none⟩])
 (.seq (.seq (.reg [⟨(some 40), .fa 4 (.t 3), none⟩,
 ⟨(some 41), .ld false 1 (.t 40), none⟩,
 ⟨(some 42), .mv (.t 7), none⟩,
 ⟨(some 43), .call Ae [(.t 41), (.t 42)], none⟩,
 ⟨(some 39), .mv (.t 43), none⟩,
 ⟨(some 44), .ext (.t 39) 0, none⟩,
 ⟨(some 45), .ext (.t 39) 1, none⟩,
 ⟨(some 9), .mv (.t 44), none⟩,
 ⟨(some 10), .mv (.t 45), none⟩])
 (.seq (.reg [⟨(some 46), .mv (.t 10), none⟩])
 (.cond (.t 46)
 (.regD [⟨(some 47), .ld false 1 (.t 2), none⟩,
 ⟨(some 48), .fa 5 (.t 3), none⟩,
 ⟨(some 49), .ld false 1 (.t 48), none⟩,
 ⟨(some 50), .mv (.t 9), none⟩,
 ⟨(some 51), .ia 6 (.t 49) (.t 50), none⟩,
 ⟨(some 52), .ld true 6 (.t 51), none⟩,
 ⟨(some 53), .call B2 [(.t 47), (.t 52)], none⟩,
 ⟨none, .st 4 (.t 8) (.t 53), none⟩] [])
 (.seq (.reg [⟨(some 55), .fa 2 (.t 6), none⟩,
 ⟨(some 56), .ld false 1 (.t 55), none⟩,
 ⟨(some 57), .mv (.t 7), none⟩,
 ⟨(some 58), .call Ae [(.t 56), (.t 57)], none⟩,
 ⟨(some 54), .mv (.t 58), none⟩,
 ⟨(some 59), .ext (.t 54) 0, none⟩,
 ⟨(some 60), .ext (.t 54) 1, none⟩,
 ⟨(some 11), .mv (.t 59), none⟩,
 ⟨(some 12), .mv (.t 60), none⟩])
 (.reg [⟨(some 61), .fa 3 (.t 6), none⟩,
 ⟨(some 62), .ld false 1 (.t 61), none⟩,
 ⟨(some 63), .mv (.t 11), none⟩,
 ⟨(some 64), .ia 4 (.t 62) (.t 63), none⟩,
 ⟨(some 65), .ld true 4 (.t 64), none⟩,
 ⟨none, .st 4 (.t 8) (.t 65), none⟩])))))
 (.seq (.reg [⟨(some 66), .fa 0 (.t 8), none⟩,
 ⟨(some 67), .ld false 1 (.t 66), none⟩,
 ⟨(some 68), .bin .neq (.t 67) (.c (.i .u8 0)), none⟩])
 (.cond (.t 68)
 (.regD [⟨(some 69), .fa 2 (.t 5), none⟩,
 ⟨(some 70), .ld false 1 (.t 69), none⟩,
 ⟨(some 71), .mv (.t 7), none⟩,
 ⟨(some 72), .bsl 1 [(.t 71)], none⟩,
 ⟨(some 73), .app 1 9 (.t 70) (.t 72), none⟩,
 ⟨(some 74), .fa 3 (.t 5), none⟩,
 ⟨(some 75), .ld false 1 (.t 74), none⟩,
 ⟨(some 76), .ld true 4 (.t 8), none⟩,
 ⟨(some 77), .bsl 4 [(.t 76)], none⟩,
 ⟨(some 78), .app 4 30 (.t 75) (.t 77), none⟩,
 ⟨(some 79), .fa 2 (.t 5), none⟩,
 ⟨none, .st 1 (.t 79) (.t 73), none⟩,
 ⟨(some 80), .fa 3 (.t 5), none⟩,
 ⟨none, .st 1 (.t 80) (.t 78), none⟩] [(6, (4, 6)), (7, (4, 7))])
 .skip))))))))
 (.seq (.reg [⟨(some 81), .ld true 4 (.t 5), none⟩,
 ⟨none, .st 4 (.t 4) (.t 81), none⟩])
 .ret))))))) }
def CD : Fun := { cin := [(.agg [.id, .id, .id, .id, (.sl 1 .id), (.sl 6 (.agg [.id, .id, .id, .id, (.sl 1 .id), (.sl 6 (.agg [.id, .id, .id, .id, (.sl 1 .id), (.sl 6 .id)]))]))])], cout := [.id], ntmps := 17, keep := false, res := [(2, none)], body :=
 (.seq (.reg [⟨(some 1), .box 34 6 (.t 0), none⟩,
 ⟨(some 2), .mv (.c (.b false)), none⟩])
 (.seq (.reg [⟨(some 3), .fa 0 (.t 1), none⟩,
 ⟨(some 4), .ld false 1 (.t 3), none⟩,
 ⟨(some 5), .bin .eql (.t 4) (.c (.i .i64 (-1))), none⟩,
 ⟨(some 6), .mv (.t 5), none⟩,
 ⟨(some 7), .fa 3 (.t 1), (some (6, true))⟩,
 ⟨(some 8), .ld false 1 (.t 7), (some (6, true))⟩,
 ⟨(some 9), .bin .eql (.t 8) (.c (.i .i64 (-1))), (some (6, true))⟩,
 ⟨(some 10), .pick (.t 6) (.t 9) (.c (.b false)), none⟩,
 ⟨(some 11), .mv (.t 10), none⟩,
 ⟨(some 12), .fa 5 (.t 1), (some (11, true))⟩,
 ⟨(some 13), .ld false 1 (.t 12), (some (11, true))⟩,
 ⟨(some 14), .call BI [(.t 13), (.c (.fn Cy []))], (some (11, true))⟩,
 ⟨(some 15), .un .not (.t 14), (some (11, true))⟩,
 ⟨(some 16), .pick (.t 11) (.t 15) (.c (.b false)), none⟩,
 ⟨(some 2), .mv (.t 16), none⟩])
 .ret)) }
def Aw : Fun := { cin := [(.agg [.id, .id, (.sl 1 .id), (.sl 4 (.agg [.id, .id, (.sl 1 .id), (.sl 4 (.agg [.id, .id, (.sl 1 .id), (.sl 4 .id)]))]))])], cout := [.id], ntmps := 89, keep := false, res := [(2, none)], body :=
 (.seq (.reg [⟨(some 1), .box 30 4 (.t 0), none⟩,
 ⟨(some 2), .mv (.c (.b false)), none⟩])
 (.seq (.seq (.reg [⟨(some 5), .fa 0 (.t 1), none⟩,
 ⟨(some 6), .ld false 1 (.t 5), none⟩])
 (.blk 0 (.seq (.seq (.reg [⟨(some 8), .bin .eql (.t 6) (.c (.i .u8 1)), none⟩,
 ⟨(some 7), .mv (.t 8), none⟩])
 (.cond (.t 7)
 .skip
 (.reg [⟨(some 9), .bin .eql (.t 6) (.c (.i .u8 3)), none⟩,
 ⟨(some 7), .mv (.t 9), none⟩])))
 (.cond (.t 7)
 (.seq (.reg [⟨(some 10), .fa 2 (.t 1), none⟩,
 ⟨(some 11), .ld false 1 (.t 10), none⟩,
 ⟨(some 12), .len 1 (.t 11), none⟩,
 ⟨(some 13), .fa 3 (.t 1), none⟩,
 ⟨(some 14), .ld false 1 (.t 13), none⟩,
 ⟨(some 15), .len 1 (.t 14), none⟩,
 ⟨(some 16), .bin .add (.t 12) (.t 15), none⟩,
 ⟨(some 17), .bin .eql (.t 16) (.c (.i .i64 0)), none⟩,
 ⟨(some 18), .mv (.t 17), none⟩,
 ⟨(some 19), .fa 1 (.t 1), (some (18, true))⟩,
 ⟨(some 20), .ld false 1 (.t 19), (some (18, true))⟩,
 ⟨(some 21), .len 0 (.t 20), (some (18, true))⟩,
 ⟨(some 22), .bin .leq (.t 21) (.c (.i .i64 256)), (some (18, true))⟩,
 ⟨(some 23), .pick (.t 18) (.t 22) (.c (.b false)), none⟩,
 ⟨(some 24), .mv (.t 23), none⟩,
 ⟨(some 25), .fa 1 (.t 1), (some (24, true))⟩,
 ⟨(some 26), .ld false 1 (.t 25), (some (24, true))⟩,
 ⟨(some 27), .call Bt [(.t 26), (.c (.i .u8 0))], (some (24, true))⟩,
 ⟨(some 28), .bin .lss (.t 27) (.c (.i .i64 0)), (some (24, true))⟩,
 ⟨(some 29), .pick (.t 24) (.t 28) (.c (.b false)), none⟩,
 ⟨(some 30), .mv (.t 29), none⟩,
 ⟨(some 31), .fa 0 (.t 1), (some (30, true))⟩,
 ⟨(some 32), .ld false 1 (.t 31), (some (30, true))⟩,
 ⟨(some 33), .bin .eql (.t 32) (.c (.i .u8 1)), (some (30, true))⟩,
 ⟨(some 34), .mv (.t 33), (some (30, true))⟩,
 ⟨(some 35), .fa 1 (.t 1), (some (34, false))⟩,
 ⟨(some 36), .ld false 1 (.t 35), (some (34, false))⟩,
 ⟨(some 37), .bin .neq (.t 36) (.c (.s [])), (some (34, false))⟩,
 ⟨(some 38), .pick (.t 34) (.c (.b true)) (.t 37), (some (30, true))⟩,
 ⟨(some 39), .pick (.t 30) (.t 38) (.c (.b false)), none⟩,
 ⟨(some 2), .mv (.t 39), none⟩])
 .ret)
 (.seq (.reg [⟨(some 41), .bin .eql (.t 6) (.c (.i .u8 2)), none⟩,
 ⟨(some 40), .mv (.t 41), none⟩])
 (.cond (.t 40)
 (.seq (.seq (.reg [⟨(some 42), .fa 1 (.t 1), none⟩,
 ⟨(some 43), .ld false 1 (.t 42), none⟩,
 ⟨(some 44), .bin .neq (.t 43) (.c (.s [])), none⟩,
 ⟨(some 45), .mv (.t 44), none⟩,
 ⟨(some 46), .fa 2 (.t 1), (some (45, false))⟩,
 ⟨(some 47), .ld false 1 (.t 46), (some (45, false))⟩,
 ⟨(some 48), .len 1 (.t 47), (some (45, false))⟩,
 ⟨(some 49), .fa 3 (.t 1), (some (45, false))⟩,
 ⟨(some 50), .ld false 1 (.t 49), (some (45, false))⟩,
 ⟨(some 51), .len 1 (.t 50), (some (45, false))⟩,
 ⟨(some 52), .bin .neq (.t 48) (.t 51), (some (45, false))⟩,
 ⟨(some 53), .pick (.t 45) (.c (.b true)) (.t 52), none⟩])
 (.cond (.t 53)
 (.seq (.reg [⟨(some 2), .mv (.c (.b false)), none⟩])
 .ret)
 .skip))
 (.seq (.seq (.reg [⟨(some 54), .fa 2 (.t 1), none⟩,
 ⟨(some 55), .ld false 1 (.t 54), none⟩,
 ⟨(some 56), .len 1 (.t 55), none⟩,
 ⟨(some 57), .mv (.c (.i .i64 0)), none⟩])
 (.blk 1 (.loop (.seq (.reg [⟨(some 58), .bin .lss (.t 57) (.t 56), none⟩])
 (.seq (.cond (.t 58)
 .skip
 (.exit 1))
 (.seq (.blk 2 (.seq (.reg [⟨(some 59), .mv (.t 57), none⟩,
 ⟨(some 60), .ia 1 (.t 55) (.t 57), none⟩,
 ⟨(some 61), .ld false 1 (.t 60), none⟩,
 ⟨(some 3), .mv (.t 59), none⟩,
 ⟨(some 4), .mv (.t 61), none⟩])
 (.seq (.reg [⟨(some 62), .mv (.t 4), none⟩,
 ⟨(some 63), .call Ey [(.t 62)], none⟩,
 ⟨(some 64), .un .not (.t 63), none⟩,
 ⟨(some 65), .mv (.t 64), none⟩,
 ⟨(some 66), .mv (.t 3), (some (65, false))⟩,
 ⟨(some 67), .bin .gtr (.t 66) (.c (.i .i64 0)), (some (65, false))⟩,
 ⟨(some 68), .mv (.t 67), (some (65, false))⟩,
 ⟨(some 69), .mv (.t 4), (some (68, true))⟩,
 ⟨(some 70), .fa 2 (.t 1), (some (68, true))⟩,
 ⟨(some 71), .ld false 1 (.t 70), (some (68, true))⟩,
 ⟨(some 72), .mv (.t 3), (some (68, true))⟩,
 ⟨(some 73), .bin .sub (.t 72) (.c (.i .i64 1)), (some (68, true))⟩,
 ⟨(some 74), .ia 1 (.t 71) (.t 73), (some (68, true))⟩,
 ⟨(some 75), .ld false 1 (.t 74), (some (68, true))⟩,
 ⟨(some 76), .bin .leq (.t 69) (.t 75), (some (68, true))⟩,
 ⟨(some 77), .pick (.t 68) (.t 76) (.c (.b false)), (some (65, false))⟩,
 ⟨(some 78), .pick (.t 65) (.c (.b true)) (.t 77), none⟩,
 ⟨(some 79), .mv (.t 78), none⟩,
 ⟨(some 80), .fa 3 (.t 1), (some (79, false))⟩,
 ⟨(some 81), .ld false 1 (.t 80), (some (79, false))⟩,
 ⟨(some 82), .mv (.t 3), (some (79, false))⟩,
 ⟨(some 83), .ia 4 (.t 81) (.t 82), (some (79, false))⟩,
 ⟨(some 84), .ld true 4 (.t 83), (some (79, false))⟩,
 ⟨(some 85), .call Co [(.t 84)], (some (79, false))⟩,
 ⟨(some 86), .un .not (.t 85), (some (79, false))⟩,
 ⟨(some 87), .pick (.t 79) (.c (.b true)) (.t 86), none⟩])
 (.cond (.t 87)
 (.seq (.reg [⟨(some 2), .mv (.c (.b false)), none⟩])
 .ret)
 .skip))))
 (.reg [⟨(some 88), .bin .add (.t 57) (.c (.i .i64 1)), none⟩,
 ⟨(some 57), .mv (.t 88), none⟩])))))))
 (.seq (.reg [⟨(some 2), .mv (.c (.b true)), none⟩])
 .ret)))
 .skip))))))
 (.seq (.reg [⟨(some 2), .mv (.c (.b false)), none⟩])
 .ret))) }
def DU : Fun := { cin := [(.agg [.id, .id, (.sl 1 .id), (.sl 4 (.agg [.id, .id, (.sl 1 .id), (.sl 4 (.agg [.id, .id, (.sl 1 .id), (.sl 4 .id)]))]))])], cout := [(.agg [.id, .id, .id, .id, (.sl 1 .id), (.sl 6 (.agg [.id, .id, .id, .id, (.sl 1 .id), (.sl 6 (.agg [.id, .id, .id, .id, (.sl 1 .id), (.sl 6 .id)]))]))])], ntmps := 30, keep := false, res := [(2, some (true, 6))], body :=
 (.seq (.reg [⟨(some 1), .box 30 4 (.t 0), none⟩,
 ⟨(some 2), .alloc 34 [(.i .i64 0), (.i .u8 0), (.s []), (.i .i64 0), .nsl, .nsl], none⟩])
 (.seq (.regD [⟨(some 6), .fa 0 (.t 1), none⟩,
 ⟨(some 7), .ld false 1 (.t 6), none⟩,
 ⟨(some 8), .fa 1 (.t 1), none⟩,
 ⟨(some 9), .ld false 1 (.t 8), none⟩,
 ⟨(some 10), .fa 2 (.t 1), none⟩,
 ⟨(some 11), .ld false 1 (.t 10), none⟩,
 ⟨(some 12), .callQ false AZ [(.t 11)], none⟩,
 ⟨(some 13), .build [(.i .i64 0), (.i .u8 0), (.s []), (.i .i64 0), .nsl, .nsl] [(0, 1, (.c (.i .i64 (-1)))), (1, 1, (.t 7)), (2, 1, (.t 9)), (3, 1, (.c (.i .i64 (-1)))), (4, 1, (.t 12))], none⟩,
 ⟨none, .mv (.c (.tup [])), none⟩,
 ⟨(some 3), .adp 34 [(.i .i64 0), (.i .u8 0), (.s []), (.i .i64 0), .nsl, .nsl] 6 (.t 13), none⟩] [(1, (1, 7)), (3, (3, 7))])
 (.seq (.seq (.reg [⟨(some 14), .fa 3 (.t 1), none⟩,
 ⟨(some 15), .ld false 1 (.t 14), none⟩,
 ⟨(some 16), .len 1 (.t 15), none⟩,
 ⟨(some 17), .mv (.c (.i .i64 0)), none⟩])
 (.blk 0 (.loop (.seq (.reg [⟨(some 18), .bin .lss (.t 17) (.t 16), none⟩])
 (.seq (.cond (.t 18)
 .skip
 (.exit 0))
 (.seq (.blk 1 (.seq (.reg [⟨(some 19), .ia 4 (.t 15) (.t 17), none⟩,
 ⟨(some 20), .ld true 4 (.t 19), none⟩,
 ⟨(some 5), .alloc 30 [(.i .u8 0), (.s []), .nsl, .nsl], none⟩,
 ⟨none, .st 4 (.t 5) (.t 20), none⟩])
 (.regD [⟨(some 21), .fa 5 (.t 3), none⟩,
 ⟨(some 22), .ld false 1 (.t 21), none⟩,
 ⟨(some 23), .ld true 4 (.t 5), none⟩,
 ⟨(some 24), .callQ false Ea [(.t 23)], none⟩,
 ⟨(some 25), .bsl 6 [(.t 24)], none⟩,
 ⟨(some 26), .app 6 34 (.t 22) (.t 25), none⟩,
 ⟨(some 27), .fa 5 (.t 3), none⟩,
 ⟨none, .st 1 (.t 27) (.t 26), none⟩] [(1, (1, 4))])))
 (.reg [⟨(some 28), .bin .add (.t 17) (.c (.i .i64 1)), none⟩,
 ⟨(some 17), .mv (.t 28), none⟩])))))))
 (.seq (.reg [⟨(some 29), .ld true 6 (.t 3), none⟩,
 ⟨none, .st 6 (.t 2) (.t 29), none⟩])
 .ret)))) }
def BM : Fun := { cin := [(.agg [.id, .id, .id, .id, (.sl 1 .id), (.sl 6 (.agg [.id, .id, .id, .id, (.sl 1 .id), (.sl 6 (.agg [.id, .id, .id, .id, (.sl 1 .id), (.sl 6 .id)]))]))])], cout := [.id], ntmps := 26, keep := false, res := [(2, none)], body :=
 (.seq (.reg [⟨(some 1), .box 34 6 (.t 0), none⟩,
 ⟨(some 2), .mv (.c (.b false)), none⟩])
 (.seq (.seq (.reg [⟨(some 3), .mv (.c (.i .i64 0)), none⟩])
 (.blk 0 (.loop (.seq (.seq (.reg [⟨(some 4), .mv (.t 3), none⟩,
 ⟨(some 5), .fa 5 (.t 1), none⟩,
 ⟨(some 6), .ld false 1 (.t 5), none⟩,
 ⟨(some 7), .len 1 (.t 6), none⟩,
 ⟨(some 8), .bin .lss (.t 4) (.t 7), none⟩])
 (.cond (.t 8)
 .skip
 (.exit 0)))
 (.seq (.blk 1 (.seq (.reg [⟨(some 11), .fa 5 (.t 1), none⟩,
 ⟨(some 12), .ld false 1 (.t 11), none⟩,
 ⟨(some 13), .mv (.t 3), none⟩,
 ⟨(some 14), .ia 6 (.t 12) (.t 13), none⟩,
 ⟨(some 15), .ld true 6 (.t 14), none⟩,
 ⟨(some 16), .call B8 [(.t 15)], none⟩,
 ⟨(some 17), .un .not (.t 16), none⟩])
 (.cond (.t 17)
 (.seq (.reg [⟨(some 2), .mv (.c (.b false)), none⟩])
 .ret)
 .skip)))
 (.reg [⟨(some 9), .mv (.t 3), none⟩,
 ⟨(some 10), .bin .add (.t 9) (.c (.i .i64 1)), none⟩,
 ⟨(some 3), .mv (.t 10), none⟩]))))))
 (.seq (.reg [⟨(some 18), .fa 0 (.t 1), none⟩,
 ⟨(some 19), .ld false 1 (.t 18), none⟩,
 ⟨(some 20), .bin .eql (.t 19) (.c (.i .i64 (-1))), none⟩,
 ⟨(some 21), .mv (.t 20), none⟩,
 ⟨(some 22), .fa 3 (.t 1), (some (21, true))⟩,
 ⟨(some 23), .ld false 1 (.t 22), (some (21, true))⟩,
 ⟨(some 24), .bin .eql (.t 23) (.c (.i .i64 (-1))), (some (21, true))⟩,
 ⟨(some 25), .pick (.t 21) (.t 24) (.c (.b false)), none⟩,
 ⟨(some 2), .mv (.t 25), none⟩])
 .ret))) }
def A5 : Fun := { cin := [(.sl 6 (.agg [.id, .id, (.sl 1 .id), (.sl 1 .id), .id, .id])), (.agg [.id, .id, .id, .id, (.sl 1 .id), (.sl 6 (.agg [.id, .id, .id, .id, (.sl 1 .id), (.sl 6 (.agg [.id, .id, .id, .id, (.sl 1 .id), (.sl 6 .id)]))]))])], cout := [.id], ntmps := 24, keep := false, res := [(4, none)], body :=
 (.seq (.reg [⟨(some 3), .box 34 6 (.t 1), none⟩,
 ⟨(some 4), .mv (.c (.b false)), none⟩])
 (.seq (.seq (.reg [⟨(some 5), .mv (.t 0), none⟩,
 ⟨(some 6), .call DH [(.t 5)], none⟩,
 ⟨(some 7), .un .not (.t 6), none⟩,
 ⟨(some 8), .mv (.t 7), none⟩,
 ⟨(some 9), .mv (.t 0), (some (8, false))⟩,
 ⟨(some 10), .ld true 6 (.t 3), (some (8, false))⟩,
 ⟨(some 11), .call CK [(.t 9), (.t 10), (.c (.b false))], (some (8, false))⟩,
 ⟨(some 12), .un .not (.t 11), (some (8, false))⟩,
 ⟨(some 13), .pick (.t 8) (.c (.b true)) (.t 12), none⟩])
 (.cond (.t 13)
 (.seq (.reg [⟨(some 4), .mv (.c (.b false)), none⟩])
 .ret)
 .skip))
 (.seq (.seq (.reg [⟨(some 14), .fa 0 (.t 3), none⟩,
 ⟨(some 15), .ld false 1 (.t 14), none⟩,
 ⟨(some 16), .bin .geq (.t 15) (.c (.i .i64 0)), none⟩])
 (.cond (.t 16)
 (.seq (.reg [⟨(some 17), .mv (.t 0), none⟩,
 ⟨(some 18), .fa 0 (.t 3), none⟩,
 ⟨(some 19), .ld false 1 (.t 18), none⟩,
 ⟨(some 20), .call DI [(.t 17), (.t 19)], none⟩,
 ⟨(some 4), .mv (.t 20), none⟩])
 .ret)
 .skip))
 (.seq (.reg [⟨(some 21), .fa 1 (.t 3), none⟩,
 ⟨(some 22), .ld false 1 (.t 21), none⟩,
 ⟨(some 23), .bin .eql (.t 22) (.c (.i .u8 2)), none⟩,
 ⟨(some 4), .mv (.t 23), none⟩])
 .ret)))) }
def CN : Fun := { cin := [], cout := [(.sl 6 (.agg [.id, .id, (.sl 1 .id), (.sl 1 .id), .id, .id]))], ntmps := 3, keep := false, res := [(0, none)], body :=
 (.seq (.reg [⟨(some 0), .mv (.c .nsl), none⟩])
 (.seq (.reg [⟨(some 1), .build [(.b false), (.i .u8 0), .nsl, .nsl, (.i .i64 0), (.i .i64 0)] [(0, 1, (.c (.b true))), (1, 1, (.c (.i .u8 2)))], none⟩,
 ⟨(some 2), .bsl 6 [(.t 1)], none⟩,
 ⟨(some 0), .mv (.t 2), none⟩])
 .ret)) }
def BQ : Fun := { cin := [(.agg [.id, .id, .id, .id, (.sl 1 .id), (.sl 6 (.agg [.id, .id, .id, .id, (.sl 1 .id), (.sl 6 (.agg [.id, .id, .id, .id, (.sl 1 .id), (.sl 6 .id)]))]))])], cout := [(.agg [.id, .id, (.sl 1 .id), (.sl 4 (.agg [.id, .id, (.sl 1 .id), (.sl 4 (.agg [.id, .id, (.sl 1 .id), (.sl 4 .id)]))]))])], ntmps := 46, keep := false, res := [(2, some (true, 4))], body :=
 (.seq (.reg [⟨(some 1), .box 34 6 (.t 0), none⟩,
 ⟨(some 2), .alloc 30 [(.i .u8 0), (.s []), .nsl, .nsl], none⟩])
 (.seq (.reg [⟨(some 5), .fa 1 (.t 1), none⟩,
 ⟨(some 6), .ld false 1 (.t 5), none⟩,
 ⟨(some 7), .fa 2 (.t 1), none⟩,
 ⟨(some 8), .ld false 1 (.t 7), none⟩,
 ⟨(some 9), .build [(.i .u8 0), (.s []), .nsl, .nsl] [(0, 1, (.t 6)), (1, 1, (.t 8))], none⟩,
 ⟨(some 3), .alloc 30 [(.i .u8 0), (.s []), .nsl, .nsl], none⟩,
 ⟨none, .st 4 (.t 3) (.t 9), none⟩])
 (.seq (.seq (.reg [⟨(some 4), .mv (.c (.i .i64 0)), none⟩])
 (.blk 0 (.loop (.seq (.seq (.reg [⟨(some 10), .mv (.t 4), none⟩,
 ⟨(some 11), .fa 5 (.t 1), none⟩,
 ⟨(some 12), .ld false 1 (.t 11), none⟩,
 ⟨(some 13), .len 1 (.t 12), none⟩,
 ⟨(some 14), .bin .lss (.t 10) (.t 13), none⟩])
 (.cond (.t 14)
 .skip
 (.exit 0)))
 (.seq (.blk 1 (.seq (.reg [⟨(some 17), .fa 5 (.t 1), none⟩,
 ⟨(some 18), .ld false 1 (.t 17), none⟩,
 ⟨(some 19), .mv (.t 4), none⟩,
 ⟨(some 20), .ia 6 (.t 18) (.t 19), none⟩,
 ⟨(some 21), .fa 1 (.t 20), none⟩,
 ⟨(some 22), .ld false 1 (.t 21), none⟩,
 ⟨(some 23), .bin .neq (.t 22) (.c (.i .u8 0)), none⟩])
 (.cond (.t 23)
 (.seq (.regD [⟨(some 24), .fa 2 (.t 3), none⟩,
 ⟨(some 25), .ld false 1 (.t 24), none⟩,
 ⟨(some 26), .fa 4 (.t 1), none⟩,
 ⟨(some 27), .ld false 1 (.t 26), none⟩,
 ⟨(some 28), .mv (.t 4), none⟩,
 ⟨(some 29), .ia 1 (.t 27) (.t 28), none⟩,
 ⟨(some 30), .ld false 1 (.t 29), none⟩,
 ⟨(some 31), .bsl 1 [(.t 30)], none⟩,
 ⟨(some 32), .app 1 9 (.t 25) (.t 31), none⟩,
 ⟨(some 33), .fa 2 (.t 3), none⟩,
 ⟨none, .st 1 (.t 33) (.t 32), none⟩] [])
 (.regD [⟨(some 34), .fa 3 (.t 3), none⟩,
 ⟨(some 35), .ld false 1 (.t 34), none⟩,
 ⟨(some 36), .fa 5 (.t 1), none⟩,
 ⟨(some 37), .ld false 1 (.t 36), none⟩,
 ⟨(some 38), .mv (.t 4), none⟩,
 ⟨(some 39), .ia 6 (.t 37) (.t 38), none⟩,
 ⟨(some 40), .ld true 6 (.t 39), none⟩,
 ⟨(some 41), .callQ false CI [(.t 40)], none⟩,
 ⟨(some 42), .bsl 4 [(.t 41)], none⟩,
 ⟨(some 43), .app 4 30 (.t 35) (.t 42), none⟩,
 ⟨(some 44), .fa 3 (.t 3), none⟩,
 ⟨none, .st 1 (.t 44) (.t 43), none⟩] [(1, (1, 8))]))
 .skip)))
 (.reg [⟨(some 15), .mv (.t 4), none⟩,
 ⟨(some 16), .bin .add (.t 15) (.c (.i .i64 1)), none⟩,
 ⟨(some 4), .mv (.t 16), none⟩]))))))
 (.seq (.reg [⟨(some 45), .ld true 4 (.t 3), none⟩,
 ⟨none, .st 4 (.t 2) (.t 45), none⟩])
 .ret)))) }
def AM : Fun := { cin := [(.agg [.id, .id, (.sl 1 .id), (.sl 4 (.agg [.id, .id, (.sl 1 .id), (.sl 4 (.agg [.id, .id, (.sl 1 .id), (.sl 4 .id)]))]))])], cout := [.id], ntmps := 96, keep := false, res := [(2, none)], body :=
 (.seq (.reg [⟨(some 1), .box 30 4 (.t 0), none⟩,
 ⟨(some 2), .mv (.c (.b false)), none⟩])
 (.seq (.seq (.reg [⟨(some 4), .fa 0 (.t 1), none⟩,
 ⟨(some 5), .ld false 1 (.t 4), none⟩,
 ⟨(some 6), .bin .eql (.t 5) (.c (.i .u8 1)), none⟩,
 ⟨(some 7), .mv (.t 6), none⟩,
 ⟨(some 8), .fa 0 (.t 1), (some (7, false))⟩,
 ⟨(some 9), .ld false 1 (.t 8), (some (7, false))⟩,
 ⟨(some 10), .bin .eql (.t 9) (.c (.i .u8 3)), (some (7, false))⟩,
 ⟨(some 11), .pick (.t 7) (.c (.b true)) (.t 10), none⟩])
 (.cond (.t 11)
 (.seq (.reg [⟨(some 12), .fa 2 (.t 1), none⟩,
 ⟨(some 13), .ld false 1 (.t 12), none⟩,
 ⟨(some 14), .len 1 (.t 13), none⟩,
 ⟨(some 15), .bin .eql (.t 14) (.c (.i .i64 0)), none⟩,
 ⟨(some 16), .mv (.t 15), none⟩,
 ⟨(some 17), .fa 3 (.t 1), (some (16, true))⟩,
 ⟨(some 18), .ld false 1 (.t 17), (some (16, true))⟩,
 ⟨(some 19), .len 1 (.t 18), (some (16, true))⟩,
 ⟨(some 20), .bin .eql (.t 19) (.c (.i .i64 0)), (some (16, true))⟩,
 ⟨(some 21), .pick (.t 16) (.t 20) (.c (.b false)), none⟩,
 ⟨(some 22), .mv (.t 21), none⟩,
 ⟨(some 23), .fa 1 (.t 1), (some (22, true))⟩,
 ⟨(some 24), .ld false 1 (.t 23), (some (22, true))⟩,
 ⟨(some 25), .call C5 [(.t 24)], (some (22, true))⟩,
 ⟨(some 26), .pick (.t 22) (.t 25) (.c (.b false)), none⟩,
 ⟨(some 27), .mv (.t 26), none⟩,
 ⟨(some 28), .fa 0 (.t 1), (some (27, true))⟩,
 ⟨(some 29), .ld false 1 (.t 28), (some (27, true))⟩,
 ⟨(some 30), .bin .eql (.t 29) (.c (.i .u8 1)), (some (27, true))⟩,
 ⟨(some 31), .mv (.t 30), (some (27, true))⟩,
 ⟨(some 32), .fa 1 (.t 1), (some (31, false))⟩,
 ⟨(some 33), .ld false 1 (.t 32), (some (31, false))⟩,
 ⟨(some 34), .len 0 (.t 33), (some (31, false))⟩,
 ⟨(some 35), .bin .gtr (.t 34) (.c (.i .i64 0)), (some (31, false))⟩,
 ⟨(some 36), .pick (.t 31) (.c (.b true)) (.t 35), (some (27, true))⟩,
 ⟨(some 37), .pick (.t 27) (.t 36) (.c (.b false)), none⟩,
 ⟨(some 2), .mv (.t 37), none⟩])
 .ret)
 .skip))
 (.seq (.seq (.reg [⟨(some 38), .fa 0 (.t 1), none⟩,
 ⟨(some 39), .ld false 1 (.t 38), none⟩,
 ⟨(some 40), .bin .neq (.t 39) (.c (.i .u8 2)), none⟩,
 ⟨(some 41), .mv (.t 40), none⟩,
 ⟨(some 42), .fa 1 (.t 1), (some (41, false))⟩,
 ⟨(some 43), .ld false 1 (.t 42), (some (41, false))⟩,
 ⟨(some 44), .bin .neq (.t 43) (.c (.s [])), (some (41, false))⟩,
 ⟨(some 45), .pick (.t 41) (.c (.b true)) (.t 44), none⟩,
 ⟨(some 46), .mv (.t 45), none⟩,
 ⟨(some 47), .fa 2 (.t 1), (some (46, false))⟩,
 ⟨(some 48), .ld false 1 (.t 47), (some (46, false))⟩,
 ⟨(some 49), .len 1 (.t 48), (some (46, false))⟩,
 ⟨(some 50), .fa 3 (.t 1), (some (46, false))⟩,
 ⟨(some 51), .ld false 1 (.t 50), (some (46, false))⟩,
 ⟨(some 52), .len 1 (.t 51), (some (46, false))⟩,
 ⟨(some 53), .bin .neq (.t 49) (.t 52), (some (46, false))⟩,
 ⟨(some 54), .pick (.t 46) (.c (.b true)) (.t 53), none⟩])
 (.cond (.t 54)
 (.seq (.reg [⟨(some 2), .mv (.c (.b false)), none⟩])
 .ret)
 .skip))
 (.seq (.seq (.reg [⟨(some 3), .mv (.c (.i .i64 0)), none⟩])
 (.blk 0 (.loop (.seq (.seq (.reg [⟨(some 55), .mv (.t 3), none⟩,
 ⟨(some 56), .fa 2 (.t 1), none⟩,
 ⟨(some 57), .ld false 1 (.t 56), none⟩,
 ⟨(some 58), .len 1 (.t 57), none⟩,
 ⟨(some 59), .bin .lss (.t 55) (.t 58), none⟩])
 (.cond (.t 59)
 .skip
 (.exit 0)))
 (.seq (.blk 1 (.seq (.regD [⟨(some 62), .fa 2 (.t 1), none⟩,
 ⟨(some 63), .ld false 1 (.t 62), none⟩,
 ⟨(some 64), .mv (.t 3), none⟩,
 ⟨(some 65), .ia 1 (.t 63) (.t 64), none⟩,
 ⟨(some 66), .ld false 1 (.t 65), none⟩,
 ⟨(some 67), .call CL [(.t 66)], none⟩,
 ⟨(some 68), .un .not (.t 67), none⟩,
 ⟨(some 69), .mv (.t 68), none⟩,
 ⟨(some 70), .mv (.t 3), (some (69, false))⟩,
 ⟨(some 71), .bin .gtr (.t 70) (.c (.i .i64 0)), (some (69, false))⟩,
 ⟨(some 72), .mv (.t 71), (some (69, false))⟩,
 ⟨(some 73), .fa 2 (.t 1), (some (72, true))⟩,
 ⟨(some 74), .ld false 1 (.t 73), (some (72, true))⟩,
 ⟨(some 75), .mv (.t 3), (some (72, true))⟩,
 ⟨(some 76), .ia 1 (.t 74) (.t 75), (some (72, true))⟩,
 ⟨(some 77), .ld false 1 (.t 76), (some (72, true))⟩,
 ⟨(some 78), .fa 2 (.t 1), (some (72, true))⟩,
 ⟨(some 79), .ld false 1 (.t 78), (some (72, true))⟩,
 ⟨(some 80), .mv (.t 3), (some (72, true))⟩,
 ⟨(some 81), .bin .sub (.t 80) (.c (.i .i64 1)), (some (72, true))⟩,
 ⟨(some 82), .ia 1 (.t 79) (.t 81), (some (72, true))⟩,
 ⟨(some 83), .ld false 1 (.t 82), (some (72, true))⟩,
 ⟨(some 84), .bin .leq (.t 77) (.t 83), (some (72, true))⟩,
 ⟨(some 85), .pick (.t 72) (.t 84) (.c (.b false)), (some (69, false))⟩,
 ⟨(some 86), .pick (.t 69) (.c (.b true)) (.t 85), none⟩,
 ⟨(some 87), .mv (.t 86), none⟩,
 ⟨(some 88), .fa 3 (.t 1), (some (87, false))⟩,
 ⟨(some 89), .ld false 1 (.t 88), (some (87, false))⟩,
 ⟨(some 90), .mv (.t 3), (some (87, false))⟩,
 ⟨(some 91), .ia 4 (.t 89) (.t 90), (some (87, false))⟩,
 ⟨(some 92), .ld true 4 (.t 91), (some (87, false))⟩,
 ⟨(some 93), .call Bp [(.t 92)], (some (87, false))⟩,
 ⟨(some 94), .un .not (.t 93), (some (87, false))⟩,
 ⟨(some 95), .pick (.t 87) (.c (.b true)) (.t 94), none⟩] [])
 (.cond (.t 95)
 (.seq (.reg [⟨(some 2), .mv (.c (.b false)), none⟩])
 .ret)
 .skip)))
 (.reg [⟨(some 60), .mv (.t 3), none⟩,
 ⟨(some 61), .bin .add (.t 60) (.c (.i .i64 1)), none⟩,
 ⟨(some 3), .mv (.t 61), none⟩]))))))
 (.seq (.reg [⟨(some 2), .mv (.c (.b true)), none⟩])
 .ret))))) }
def BR : Fun := { cin := [(.agg [.id, .id, (.sl 1 .id), (.sl 4 (.agg [.id, .id, (.sl 1 .id), (.sl 4 (.agg [.id, .id, (.sl 1 .id), (.sl 4 .id)]))]))])], cout := [(.agg [.id, .id, .id, .id, (.sl 1 .id), (.sl 6 (.agg [.id, .id, .id, .id, (.sl 1 .id), (.sl 6 (.agg [.id, .id, .id, .id, (.sl 1 .id), (.sl 6 .id)]))]))])], ntmps := 39, keep := false, res := [(2, some (true, 6))], body :=
 (.seq (.reg [⟨(some 1), .box 30 4 (.t 0), none⟩,
 ⟨(some 2), .alloc 34 [(.i .i64 0), (.i .u8 0), (.s []), (.i .i64 0), .nsl, .nsl], none⟩])
 (.seq (.reg [⟨(some 5), .fa 0 (.t 1), none⟩,
 ⟨(some 6), .ld false 1 (.t 5), none⟩,
 ⟨(some 7), .fa 1 (.t 1), none⟩,
 ⟨(some 8), .ld false 1 (.t 7), none⟩,
 ⟨(some 9), .build [(.i .i64 0), (.i .u8 0), (.s []), (.i .i64 0), .nsl, .nsl] [(0, 1, (.c (.i .i64 (-1)))), (1, 1, (.t 6)), (2, 1, (.t 8)), (3, 1, (.c (.i .i64 (-1))))], none⟩,
 ⟨(some 3), .alloc 34 [(.i .i64 0), (.i .u8 0), (.s []), (.i .i64 0), .nsl, .nsl], none⟩,
 ⟨none, .st 6 (.t 3) (.t 9), none⟩])
 (.seq (.seq (.reg [⟨(some 4), .mv (.c (.i .i64 0)), none⟩])
 (.blk 0 (.loop (.seq (.seq (.reg [⟨(some 10), .mv (.t 4), none⟩,
 ⟨(some 11), .fa 3 (.t 1), none⟩,
 ⟨(some 12), .ld false 1 (.t 11), none⟩,
 ⟨(some 13), .len 1 (.t 12), none⟩,
 ⟨(some 14), .bin .lss (.t 10) (.t 13), none⟩])
 (.cond (.t 14)
 .skip
 (.exit 0)))
 (.seq (.blk 1 (.seq (.regD [⟨(some 17), .fa 4 (.t 3), none⟩,
 ⟨(some 18), .ld false 1 (.t 17), none⟩,
 ⟨(some 19), .fa 2 (.t 1), none⟩,
 ⟨(some 20), .ld false 1 (.t 19), none⟩,
 ⟨(some 21), .mv (.t 4), none⟩,
 ⟨(some 22), .ia 1 (.t 20) (.t 21), none⟩,
 ⟨(some 23), .ld false 1 (.t 22), none⟩,
 ⟨(some 24), .bsl 1 [(.t 23)], none⟩,
 ⟨(some 25), .app 1 9 (.t 18) (.t 24), none⟩,
 ⟨(some 26), .fa 4 (.t 3), none⟩,
 ⟨none, .st 1 (.t 26) (.t 25), none⟩] [])
 (.regD [⟨(some 27), .fa 5 (.t 3), none⟩,
 ⟨(some 28), .ld false 1 (.t 27), none⟩,
 ⟨(some 29), .fa 3 (.t 1), none⟩,
 ⟨(some 30), .ld false 1 (.t 29), none⟩,
 ⟨(some 31), .mv (.t 4), none⟩,
 ⟨(some 32), .ia 4 (.t 30) (.t 31), none⟩,
 ⟨(some 33), .ld true 4 (.t 32), none⟩,
 ⟨(some 34), .callQ false CJ [(.t 33)], none⟩,
 ⟨(some 35), .bsl 6 [(.t 34)], none⟩,
 ⟨(some 36), .app 6 34 (.t 28) (.t 35), none⟩,
 ⟨(some 37), .fa 5 (.t 3), none⟩,
 ⟨none, .st 1 (.t 37) (.t 36), none⟩] [(1, (1, 8))])))
 (.reg [⟨(some 15), .mv (.t 4), none⟩,
 ⟨(some 16), .bin .add (.t 15) (.c (.i .i64 1)), none⟩,
 ⟨(some 4), .mv (.t 16), none⟩]))))))
 (.seq (.reg [⟨(some 38), .ld true 6 (.t 3), none⟩,
 ⟨none, .st 6 (.t 2) (.t 38), none⟩])
 .ret)))) }
def EP : Fun := { cin := [(.sl 6 (.agg [.id, .id, (.sl 1 .id), (.sl 1 .id), .id, .id]))], cout := [.id], ntmps := 59, keep := false, res := [(2, none)], body :=
 (.seq (.reg [⟨(some 2), .mv (.c (.b false)), none⟩])
 (.seq (.seq (.reg [⟨(some 8), .mv (.t 0), none⟩,
 ⟨(some 9), .len 1 (.t 8), none⟩,
 ⟨(some 10), .bin .eql (.t 9) (.c (.i .i64 0)), none⟩,
 ⟨(some 11), .mv (.t 10), none⟩,
 ⟨(some 12), .mv (.t 0), (some (11, false))⟩,
 ⟨(some 13), .ia 6 (.t 12) (.c (.i .i64 0)), (some (11, false))⟩,
 ⟨(some 14), .ld true 6 (.t 13), (some (11, false))⟩,
 ⟨(some 15), .call Ie [(.t 14)], (some (11, false))⟩,
 ⟨(some 16), .un .not (.t 15), (some (11, false))⟩,
 ⟨(some 17), .pick (.t 11) (.c (.b true)) (.t 16), none⟩])
 (.cond (.t 17)
 (.seq (.reg [⟨(some 2), .mv (.c (.b false)), none⟩])
 .ret)
 .skip))
 (.seq (.reg [⟨(some 18), .mv (.t 0), none⟩,
 ⟨(some 19), .len 1 (.t 18), none⟩,
 ⟨(some 20), .mks 3 1 [(.i .i64 0)] (.t 19) (.t 19), none⟩,
 ⟨(some 3), .mv (.t 20), none⟩])
 (.seq (.seq (.reg [⟨(some 21), .mv (.t 0), none⟩,
 ⟨(some 22), .len 1 (.t 21), none⟩,
 ⟨(some 23), .mv (.c (.i .i64 0)), none⟩])
 (.blk 0 (.loop (.seq (.reg [⟨(some 24), .bin .lss (.t 23) (.t 22), none⟩])
 (.seq (.cond (.t 24)
 .skip
 (.exit 0))
 (.seq (.blk 1 (.seq (.reg [⟨(some 25), .mv (.t 23), none⟩,
 ⟨(some 26), .ia 6 (.t 21) (.t 23), none⟩,
 ⟨(some 27), .ld true 6 (.t 26), none⟩,
 ⟨(some 5), .alloc 26 [(.b false), (.i .u8 0), .nsl, .nsl, (.i .i64 0), (.i .i64 0)], none⟩,
 ⟨(some 4), .mv (.t 25), none⟩,
 ⟨none, .st 6 (.t 5) (.t 27), none⟩])
 (.seq (.seq (.reg [⟨(some 28), .ld true 6 (.t 5), none⟩,
 ⟨(some 29), .call Ki [(.t 28)], none⟩,
 ⟨(some 30), .un .not (.t 29), none⟩])
 (.cond (.t 30)
 (.seq (.reg [⟨(some 2), .mv (.c (.b false)), none⟩])
 .ret)
 .skip))
 (.seq (.reg [⟨(some 31), .fa 3 (.t 5), none⟩,
 ⟨(some 32), .ld false 1 (.t 31), none⟩,
 ⟨(some 33), .len 1 (.t 32), none⟩,
 ⟨(some 34), .mv (.c (.i .i64 0)), none⟩])
 (.blk 2 (.loop (.seq (.reg [⟨(some 35), .bin .lss (.t 34) (.t 33), none⟩])
 (.seq (.cond (.t 35)
 .skip
 (.exit 2))
 (.seq (.blk 3 (.seq (.reg [⟨(some 36), .ia 1 (.t 32) (.t 34), none⟩,
 ⟨(some 37), .ld false 1 (.t 36), none⟩,
 ⟨(some 7), .mv (.t 37), none⟩])
 (.seq (.seq (.reg [⟨(some 38), .mv (.t 7), none⟩,
 ⟨(some 39), .mv (.t 4), none⟩,
 ⟨(some 40), .bin .leq (.t 38) (.t 39), none⟩,
 ⟨(some 41), .mv (.t 40), none⟩,
 ⟨(some 42), .mv (.t 7), (some (41, false))⟩,
 ⟨(some 43), .mv (.t 0), (some (41, false))⟩,
 ⟨(some 44), .len 1 (.t 43), (some (41, false))⟩,
 ⟨(some 45), .bin .geq (.t 42) (.t 44), (some (41, false))⟩,
 ⟨(some 46), .pick (.t 41) (.c (.b true)) (.t 45), none⟩])
 (.cond (.t 46)
 (.seq (.reg [⟨(some 2), .mv (.c (.b false)), none⟩])
 .ret)
 .skip))
 (.seq (.thw 3)
 (.reg [⟨(some 47), .mv (.t 3), none⟩,
 ⟨(some 48), .mv (.t 7), none⟩,
 ⟨(some 49), .ia 1 (.t 47) (.t 48), none⟩,
 ⟨(some 50), .ld false 1 (.t 49), none⟩,
 ⟨(some 51), .bin .add (.t 50) (.c (.i .i64 1)), none⟩,
 ⟨(some 52), .ia 1 (.t 47) (.t 48), none⟩,
 ⟨none, .st 1 (.t 52) (.t 51), none⟩])))))
 (.reg [⟨(some 53), .bin .add (.t 34) (.c (.i .i64 1)), none⟩,
 ⟨(some 34), .mv (.t 53), none⟩]))))))))))
 (.reg [⟨(some 54), .bin .add (.t 23) (.c (.i .i64 1)), none⟩,
 ⟨(some 23), .mv (.t 54), none⟩])))))))
 (.seq (.reg [⟨(some 55), .mv (.t 3), none⟩,
 ⟨(some 56), .slc false 1 (.t 55) (some (.c (.i .i64 1))) none none, none⟩,
 ⟨(some 57), .call Bz [(.t 56), (.c (.fn F0 []))], none⟩,
 ⟨(some 58), .un .not (.t 57), none⟩,
 ⟨(some 2), .mv (.t 58), none⟩])
 .ret))))) }
def CF : Fun := { cin := [(.sl 6 (.agg [.id, .id, (.sl 1 .id), (.sl 1 .id), .id, .id])), (.agg [.id, .id, .id, .id, (.sl 1 .id), (.sl 6 (.agg [.id, .id, .id, .id, (.sl 1 .id), (.sl 6 (.agg [.id, .id, .id, .id, (.sl 1 .id), (.sl 6 .id)]))]))]), .id], cout := [.id], ntmps := 130, keep := false, res := [(6, none)], body :=
 (.seq (.reg [⟨(some 4), .box 34 6 (.t 1), none⟩,
 ⟨(some 6), .mv (.c (.b false)), none⟩])
 (.seq (.seq (.reg [⟨(some 10), .fa 0 (.t 4), none⟩,
 ⟨(some 11), .ld false 1 (.t 10), none⟩,
 ⟨(some 12), .bin .neq (.t 11) (.c (.i .i64 (-1))), none⟩])
 (.cond (.t 12)
 (.seq (.regD [⟨(some 13), .fa 0 (.t 4), none⟩,
 ⟨(some 14), .ld false 1 (.t 13), none⟩,
 ⟨(some 15), .bin .geq (.t 14) (.c (.i .i64 0)), none⟩,
 ⟨(some 16), .mv (.t 15), none⟩,
 ⟨(some 17), .fa 0 (.t 4), (some (16, true))⟩,
 ⟨(some 18), .ld false 1 (.t 17), (some (16, true))⟩,
 ⟨(some 19), .mv (.t 0), (some (16, true))⟩,
 ⟨(some 20), .len 1 (.t 19), (some (16, true))⟩,
 ⟨(some 21), .bin .lss (.t 18) (.t 20), (some (16, true))⟩,
 ⟨(some 22), .pick (.t 16) (.t 21) (.c (.b false)), none⟩,
 ⟨(some 23), .mv (.t 22), none⟩,
 ⟨(some 24), .ld true 6 (.t 4), (some (23, true))⟩,
 ⟨(some 25), .fa 0 (.t 4), (some (23, true))⟩,
 ⟨(some 26), .ld false 1 (.t 25), (some (23, true))⟩,
 ⟨(some 27), .call NI [(.t 26)], (some (23, true))⟩,
 ⟨(some 28), .call HR [(.t 24), (.t 27)], (some (23, true))⟩,
 ⟨(some 29), .pick (.t 23) (.t 28) (.c (.b false)), none⟩,
 ⟨(some 6), .mv (.t 29), none⟩] [(11, (11, 15))])
 .ret)
 .skip))
 (.seq (.reg [⟨(some 30), .fa 1 (.t 4), none⟩,
 ⟨(some 31), .ld false 1 (.t 30), none⟩,
 ⟨(some 32), .fa 2 (.t 4), none⟩,
 ⟨(some 33), .ld false 1 (.t 32), none⟩,
 ⟨(some 34), .build [(.i .u8 0), (.s []), .nsl, .nsl] [(0, 1, (.t 31)), (1, 1, (.t 33))], none⟩,
 ⟨(some 7), .alloc 30 [(.i .u8 0), (.s []), .nsl, .nsl], none⟩,
 ⟨none, .st 4 (.t 7) (.t 34), none⟩])
 (.seq (.blk 0 (.seq (.reg [⟨(some 36), .fa 1 (.t 4), none⟩,
 ⟨(some 37), .ld false 1 (.t 36), none⟩,
 ⟨(some 38), .bin .eql (.t 37) (.c (.i .u8 0)), none⟩,
 ⟨(some 35), .mv (.t 38), none⟩])
 (.cond (.t 35)
 (.seq (.regD [⟨(some 39), .mv (.t 2), none⟩,
 ⟨(some 40), .mv (.t 39), none⟩,
 ⟨(some 41), .ld true 6 (.t 4), (some (40, true))⟩,
 ⟨(some 42), .call JT [], (some (40, true))⟩,
 ⟨(some 43), .call HR [(.t 41), (.t 42)], (some (40, true))⟩,
 ⟨(some 44), .pick (.t 40) (.t 43) (.c (.b false)), none⟩,
 ⟨(some 6), .mv (.t 44), none⟩] [(2, (2, 4))])
 .ret)
 (.seq (.reg [⟨(some 46), .fa 1 (.t 4), none⟩,
 ⟨(some 47), .ld false 1 (.t 46), none⟩,
 ⟨(some 48), .bin .neq (.t 47) (.c (.i .u8 2)), none⟩,
 ⟨(some 45), .mv (.t 48), none⟩])
 (.cond (.t 45)
 (.seq (.reg [⟨(some 49), .ld true 4 (.t 7), none⟩,
 ⟨(some 50), .call Co [(.t 49)], none⟩,
 ⟨(some 51), .mv (.t 50), none⟩,
 ⟨(some 52), .fa 3 (.t 4), (some (51, true))⟩,
 ⟨(some 53), .ld false 1 (.t 52), (some (51, true))⟩,
 ⟨(some 54), .bin .eql (.t 53) (.c (.i .i64 (-1))), (some (51, true))⟩,
 ⟨(some 55), .pick (.t 51) (.t 54) (.c (.b false)), none⟩,
 ⟨(some 56), .mv (.t 55), none⟩,
 ⟨(some 57), .fa 4 (.t 4), (some (56, true))⟩,
 ⟨(some 58), .ld false 1 (.t 57), (some (56, true))⟩,
 ⟨(some 59), .len 1 (.t 58), (some (56, true))⟩,
 ⟨(some 60), .fa 5 (.t 4), (some (56, true))⟩,
 ⟨(some 61), .ld false 1 (.t 60), (some (56, true))⟩,
 ⟨(some 62), .len 1 (.t 61), (some (56, true))⟩,
 ⟨(some 63), .bin .add (.t 59) (.t 62), (some (56, true))⟩,
 ⟨(some 64), .bin .eql (.t 63) (.c (.i .i64 0)), (some (56, true))⟩,
 ⟨(some 65), .pick (.t 56) (.t 64) (.c (.b false)), none⟩,
 ⟨(some 6), .mv (.t 65), none⟩])
 .ret)
 (.seq (.reg [⟨(some 67), .fa 2 (.t 4), none⟩,
 ⟨(some 68), .ld false 1 (.t 67), none⟩,
 ⟨(some 69), .bin .neq (.t 68) (.c (.s [])), none⟩,
 ⟨(some 70), .mv (.t 69), none⟩,
 ⟨(some 71), .fa 3 (.t 4), (some (70, false))⟩,
 ⟨(some 72), .ld false 1 (.t 71), (some (70, false))⟩,
 ⟨(some 73), .bin .neq (.t 72) (.c (.i .i64 (-1))), (some (70, false))⟩,
 ⟨(some 74), .mv (.t 73), (some (70, false))⟩,
 ⟨(some 75), .mv (.t 0), (some (74, true))⟩,
 ⟨(some 76), .fa 3 (.t 4), (some (74, true))⟩,
 ⟨(some 77), .ld false 1 (.t 76), (some (74, true))⟩,
 ⟨(some 78), .call Kh [(.t 75), (.t 77)], (some (74, true))⟩,
 ⟨(some 79), .un .not (.t 78), (some (74, true))⟩,
 ⟨(some 80), .pick (.t 74) (.t 79) (.c (.b false)), (some (70, false))⟩,
 ⟨(some 81), .pick (.t 70) (.c (.b true)) (.t 80), none⟩,
 ⟨(some 82), .mv (.t 81), none⟩,
 ⟨(some 83), .fa 4 (.t 4), (some (82, false))⟩,
 ⟨(some 84), .ld false 1 (.t 83), (some (82, false))⟩,
 ⟨(some 85), .len 1 (.t 84), (some (82, false))⟩,
 ⟨(some 86), .fa 5 (.t 4), (some (82, false))⟩,
 ⟨(some 87), .ld false 1 (.t 86), (some (82, false))⟩,
 ⟨(some 88), .len 1 (.t 87), (some (82, false))⟩,
 ⟨(some 89), .bin .neq (.t 85) (.t 88), (some (82, false))⟩,
 ⟨(some 90), .pick (.t 82) (.c (.b true)) (.t 89), none⟩,
 ⟨(some 66), .mv (.t 90), none⟩])
 (.cond (.t 66)
 (.seq (.reg [⟨(some 6), .mv (.c (.b false)), none⟩])
 .ret)
 .skip)))))))
 (.seq (.seq (.reg [⟨(some 91), .fa 4 (.t 4), none⟩,
 ⟨(some 92), .ld false 1 (.t 91), none⟩,
 ⟨(some 93), .len 1 (.t 92), none⟩,
 ⟨(some 94), .mv (.c (.i .i64 0)), none⟩])
 (.blk 1 (.loop (.seq (.reg [⟨(some 95), .bin .lss (.t 94) (.t 93), none⟩])
 (.seq (.cond (.t 95)
 .skip
 (.exit 1))
 (.seq (.blk 2 (.seq (.reg [⟨(some 96), .mv (.t 94), none⟩,
 ⟨(some 97), .ia 1 (.t 92) (.t 94), none⟩,
 ⟨(some 98), .ld false 1 (.t 97), none⟩,
 ⟨(some 8), .mv (.t 96), none⟩,
 ⟨(some 9), .mv (.t 98), none⟩])
 (.seq (.regD [⟨(some 99), .mv (.t 9), none⟩,
 ⟨(some 100), .call Ey [(.t 99)], none⟩,
 ⟨(some 101), .un .not (.t 100), none⟩,
 ⟨(some 102), .mv (.t 101), none⟩,
 ⟨(some 103), .mv (.t 8), (some (102, false))⟩,
 ⟨(some 104), .bin .gtr (.t 103) (.c (.i .i64 0)), (some (102, false))⟩,
 ⟨(some 105), .mv (.t 104), (some (102, false))⟩,
 ⟨(some 106), .mv (.t 9), (some (105, true))⟩,
 ⟨(some 107), .fa 4 (.t 4), (some (105, true))⟩,
 ⟨(some 108), .ld false 1 (.t 107), (some (105, true))⟩,
 ⟨(some 109), .mv (.t 8), (some (105, true))⟩,
 ⟨(some 110), .bin .sub (.t 109) (.c (.i .i64 1)), (some (105, true))⟩,
 ⟨(some 111), .ia 1 (.t 108) (.t 110), (some (105, true))⟩,
 ⟨(some 112), .ld false 1 (.t 111), (some (105, true))⟩,
 ⟨(some 113), .bin .leq (.t 106) (.t 112), (some (105, true))⟩,
 ⟨(some 114), .pick (.t 105) (.t 113) (.c (.b false)), (some (102, false))⟩,
 ⟨(some 115), .pick (.t 102) (.c (.b true)) (.t 114), none⟩,
 ⟨(some 116), .mv (.t 115), none⟩,
 ⟨(some 117), .mv (.t 0), (some (116, false))⟩,
 ⟨(some 118), .fa 5 (.t 4), (some (116, false))⟩,
 ⟨(some 119), .ld false 1 (.t 118), (some (116, false))⟩,
 ⟨(some 120), .mv (.t 8), (some (116, false))⟩,
 ⟨(some 121), .ia 6 (.t 119) (.t 120), (some (116, false))⟩,
 ⟨(some 122), .ld true 6 (.t 121), (some (116, false))⟩,
 ⟨(some 123), .fa 3 (.t 4), (some (116, false))⟩,
 ⟨(some 124), .ld false 1 (.t 123), (some (116, false))⟩,
 ⟨(some 125), .bin .geq (.t 124) (.c (.i .i64 0)), (some (116, false))⟩,
 ⟨(some 126), .call HQ [(.t 117), (.t 122), (.t 125)], (some (116, false))⟩,
 ⟨(some 127), .un .not (.t 126), (some (116, false))⟩,
 ⟨(some 128), .pick (.t 116) (.c (.b true)) (.t 127), none⟩] [])
 (.cond (.t 128)
 (.seq (.reg [⟨(some 6), .mv (.c (.b false)), none⟩])
 .ret)
 .skip))))
 (.reg [⟨(some 129), .bin .add (.t 94) (.c (.i .i64 1)), none⟩,
 ⟨(some 94), .mv (.t 129), none⟩])))))))
 (.seq (.reg [⟨(some 6), .mv (.c (.b true)), none⟩])
 .ret)))))) }
def Kk : Fun := { cin := [(.sl 6 (.agg [.id, .id, (.sl 1 .id), (.sl 1 .id), .id, .id])), .id], cout := [.id], ntmps := 21, keep := false, res := [(4, none)], body :=
 (.seq (.reg [⟨(some 4), .mv (.c (.b false)), none⟩])
 (.seq (.seq (.thw 0)
 (.reg [⟨(some 5), .mv (.t 1), none⟩,
 ⟨(some 6), .bin .geq (.t 5) (.c (.i .i64 0)), none⟩,
 ⟨(some 7), .mv (.t 6), none⟩,
 ⟨(some 8), .mv (.t 1), (some (7, true))⟩,
 ⟨(some 9), .mv (.t 0), (some (7, true))⟩,
 ⟨(some 10), .len 1 (.t 9), (some (7, true))⟩,
 ⟨(some 11), .bin .lss (.t 8) (.t 10), (some (7, true))⟩,
 ⟨(some 12), .pick (.t 7) (.t 11) (.c (.b false)), none⟩,
 ⟨(some 13), .mv (.t 12), none⟩,
 ⟨(some 14), .mv (.t 0), (some (13, true))⟩,
 ⟨(some 15), .mv (.t 1), (some (13, true))⟩,
 ⟨(some 16), .ia 6 (.t 14) (.t 15), (some (13, true))⟩,
 ⟨(some 17), .fa 1 (.t 16), (some (13, true))⟩,
 ⟨(some 18), .ld false 1 (.t 17), (some (13, true))⟩,
 ⟨(some 19), .bin .eql (.t 18) (.c (.i .u8 2)), (some (13, true))⟩,
 ⟨(some 20), .pick (.t 13) (.t 19) (.c (.b false)), none⟩,
 ⟨(some 4), .mv (.t 20), none⟩]))
 .ret)) }
def F1 : Fun := { cin := [(.agg [.id, .id, (.sl 1 .id), (.sl 4 (.agg [.id, .id, (.sl 1 .id), (.sl 4 (.agg [.id, .id, (.sl 1 .id), (.sl 4 .id)]))]))])], cout := [.id], ntmps := 19, keep := false, res := [(2, none)], body :=
 (.seq (.reg [⟨(some 1), .box 30 4 (.t 0), none⟩,
 ⟨(some 2), .mv (.c (.i .i64 0)), none⟩])
 (.seq (.reg [⟨(some 3), .mv (.c (.i .i64 1)), none⟩])
 (.seq (.seq (.reg [⟨(some 6), .fa 3 (.t 1), none⟩,
 ⟨(some 7), .ld false 1 (.t 6), none⟩,
 ⟨(some 8), .len 1 (.t 7), none⟩,
 ⟨(some 9), .mv (.c (.i .i64 0)), none⟩])
 (.blk 0 (.loop (.seq (.reg [⟨(some 10), .bin .lss (.t 9) (.t 8), none⟩])
 (.seq (.cond (.t 10)
 .skip
 (.exit 0))
 (.seq (.blk 1 (.seq (.reg [⟨(some 11), .ia 4 (.t 7) (.t 9), none⟩,
 ⟨(some 12), .ld true 4 (.t 11), none⟩,
 ⟨(some 5), .alloc 30 [(.i .u8 0), (.s []), .nsl, .nsl], none⟩,
 ⟨none, .st 4 (.t 5) (.t 12), none⟩])
 (.reg [⟨(some 13), .mv (.t 3), none⟩,
 ⟨(some 14), .ld true 4 (.t 5), none⟩,
 ⟨(some 15), .call Fy [(.t 14)], none⟩,
 ⟨(some 16), .bin .add (.t 13) (.t 15), none⟩,
 ⟨(some 3), .mv (.t 16), none⟩])))
 (.reg [⟨(some 17), .bin .add (.t 9) (.c (.i .i64 1)), none⟩,
 ⟨(some 9), .mv (.t 17), none⟩])))))))
 (.seq (.reg [⟨(some 18), .mv (.t 3), none⟩,
 ⟨(some 2), .mv (.t 18), none⟩])
 .ret)))) }
def F2 : Fun := { cin := [(.agg [.id, .id, (.sl 1 .id), (.sl 4 (.agg [.id, .id, (.sl 1 .id), (.sl 4 (.agg [.id, .id, (.sl 1 .id), (.sl 4 .id)]))]))])], cout := [.id], ntmps := 20, keep := false, res := [(2, none)], body :=
 (.seq (.reg [⟨(some 1), .box 30 4 (.t 0), none⟩,
 ⟨(some 2), .mv (.c (.i .i64 0)), none⟩])
 (.seq (.reg [⟨(some 3), .mv (.c (.i .i64 0)), none⟩])
 (.seq (.seq (.reg [⟨(some 6), .fa 3 (.t 1), none⟩,
 ⟨(some 7), .ld false 1 (.t 6), none⟩,
 ⟨(some 8), .len 1 (.t 7), none⟩,
 ⟨(some 9), .mv (.c (.i .i64 0)), none⟩])
 (.blk 0 (.loop (.seq (.reg [⟨(some 10), .bin .lss (.t 9) (.t 8), none⟩])
 (.seq (.cond (.t 10)
 .skip
 (.exit 0))
 (.seq (.blk 1 (.seq (.reg [⟨(some 11), .ia 4 (.t 7) (.t 9), none⟩,
 ⟨(some 12), .ld true 4 (.t 11), none⟩,
 ⟨(some 5), .alloc 30 [(.i .u8 0), (.s []), .nsl, .nsl], none⟩,
 ⟨none, .st 4 (.t 5) (.t 12), none⟩])
 (.reg [⟨(some 13), .mv (.t 3), none⟩,
 ⟨(some 14), .ld true 4 (.t 5), none⟩,
 ⟨(some 15), .call Fz [(.t 14)], none⟩,
 ⟨(some 16), .bin .add (.c (.i .i64 1)) (.t 15), none⟩,
 ⟨(some 17), .mm true (.t 13) (.t 16), none⟩,
 ⟨(some 3), .mv (.t 17), none⟩])))
 (.reg [⟨(some 18), .bin .add (.t 9) (.c (.i .i64 1)), none⟩,
 ⟨(some 9), .mv (.t 18), none⟩])))))))
 (.seq (.reg [⟨(some 19), .mv (.t 3), none⟩,
 ⟨(some 2), .mv (.t 19), none⟩])
 .ret)))) }
def Dw : Fun := { cin := [.id, .id], cout := [(.agg [.id, .id, (.sl 1 .id), (.sl 4 (.agg [.id, .id, (.sl 1 .id), (.sl 4 (.agg [.id, .id, (.sl 1 .id), (.sl 4 .id)]))]))])], ntmps := 21, keep := false, res := [(4, some (true, 4))], body :=
 (.seq (.reg [⟨(some 4), .alloc 30 [(.i .u8 0), (.s []), .nsl, .nsl], none⟩])
 (.seq (.regD [⟨(some 8), .mv (.t 0), none⟩,
 ⟨(some 9), .nck (.t 8), none⟩,
 ⟨(some 10), .fa 0 (.t 9), none⟩,
 ⟨(some 11), .ld false 1 (.t 10), none⟩,
 ⟨(some 12), .mv (.t 0), none⟩,
 ⟨(some 13), .nck (.t 12), none⟩,
 ⟨(some 14), .fa 1 (.t 13), none⟩,
 ⟨(some 15), .ld true 4 (.t 14), none⟩,
 ⟨(some 16), .mv (.t 1), none⟩,
 ⟨(some 17), .call Lf [(.t 11), (.t 15), (.t 16)], none⟩,
 ⟨(some 7), .mv (.t 17), none⟩,
 ⟨(some 18), .ext (.t 7) 0, none⟩,
 ⟨(some 19), .ext (.t 7) 1, none⟩,
 ⟨none, .mv (.c (.tup [])), none⟩,
 ⟨(some 5), .adp 30 [(.i .u8 0), (.s []), .nsl, .nsl] 4 (.t 18), none⟩,
 ⟨(some 6), .mv (.t 19), none⟩] [])
 (.seq (.reg [⟨(some 20), .ld true 4 (.t 5), none⟩,
 ⟨none, .st 4 (.t 4) (.t 20), none⟩])
 .ret))) }
def Ce : Fun := { cin := [(.sl 1 .id), (.sl 1 .id)], cout := [.id], ntmps := 27, keep := false, res := [(4, none)], body :=
 (.seq (.reg [⟨(some 4), .mv (.c .nf), none⟩])
 (.seq (.reg [⟨(some 8), .mkm, none⟩,
 ⟨(some 5), .mv (.t 8), none⟩])
 (.seq (.seq (.reg [⟨(some 9), .mv (.t 0), none⟩,
 ⟨(some 10), .call AZ [(.t 9)], none⟩,
 ⟨(some 11), .mv (.t 1), none⟩,
 ⟨(some 12), .app 1 9 (.t 10) (.t 11), none⟩,
 ⟨(some 13), .len 1 (.t 12), none⟩,
 ⟨(some 14), .mv (.c (.i .i64 0)), none⟩])
 (.blk 0 (.loop (.seq (.reg [⟨(some 15), .bin .lss (.t 14) (.t 13), none⟩])
 (.seq (.cond (.t 15)
 .skip
 (.exit 0))
 (.seq (.blk 1 (.seq (.reg [⟨(some 16), .ia 1 (.t 12) (.t 14), none⟩,
 ⟨(some 17), .ld false 1 (.t 16), none⟩,
 ⟨(some 7), .mv (.t 17), none⟩])
 (.reg [⟨(some 18), .mv (.t 5), none⟩,
 ⟨(some 19), .mv (.t 7), none⟩,
 ⟨(some 20), .look 1 (.i .i64 0) false (.t 18) (.t 19), none⟩,
 ⟨(some 21), .bin .add (.t 20) (.c (.i .i64 1)), none⟩,
 ⟨none, .ins 1 (.t 18) (.t 19) (.t 21), none⟩])))
 (.reg [⟨(some 22), .bin .add (.t 14) (.c (.i .i64 1)), none⟩,
 ⟨(some 14), .mv (.t 22), none⟩])))))))
 (.seq (.reg [⟨(some 23), .mv (.t 5), none⟩,
 ⟨(some 24), .call Ah [(.t 23)], none⟩,
 ⟨(some 25), .call Bq [(.t 24)], none⟩,
 ⟨(some 26), .call Ar [(.t 25)], none⟩,
 ⟨(some 4), .mv (.t 26), none⟩])
 .ret)))) }
def BB : Fun := { cin := [(.sl 1 .id), .id], cout := [.id, .id], ntmps := 54, keep := false, res := [(4, none), (5, none)], body :=
 (.seq (.reg [⟨(some 4), .mv (.c (.i .i64 0)), none⟩,
 ⟨(some 5), .mv (.c (.b false)), none⟩])
 (.seq (.reg [⟨(some 10), .mv (.t 0), none⟩,
 ⟨(some 11), .len 1 (.t 10), none⟩,
 ⟨(some 6), .mv (.t 11), none⟩])
 (.seq (.reg [⟨(some 12), .mv (.t 6), none⟩,
 ⟨(some 7), .mv (.c (.i .i64 0)), none⟩,
 ⟨(some 8), .mv (.t 12), none⟩])
 (.seq (.blk 0 (.loop (.seq (.seq (.reg [⟨(some 13), .mv (.t 7), none⟩,
 ⟨(some 14), .mv (.t 8), none⟩,
 ⟨(some 15), .bin .lss (.t 13) (.t 14), none⟩])
 (.cond (.t 15)
 .skip
 (.exit 0)))
 (.blk 1 (.seq (.reg [⟨(some 16), .mv (.t 7), none⟩,
 ⟨(some 17), .mv (.t 8), none⟩,
 ⟨(some 18), .bin .add (.t 16) (.t 17), none⟩,
 ⟨(some 19), .cvI .u64 (.t 18), none⟩,
 ⟨(some 20), .bin .shr (.t 19) (.c (.i .u64 1)), none⟩,
 ⟨(some 21), .cvI .i64 (.t 20), none⟩,
 ⟨(some 9), .mv (.t 21), none⟩])
 (.seq (.reg [⟨(some 22), .mv (.t 0), none⟩,
 ⟨(some 23), .mv (.t 9), none⟩,
 ⟨(some 24), .ia 1 (.t 22) (.t 23), none⟩,
 ⟨(some 25), .ld false 1 (.t 24), none⟩,
 ⟨(some 26), .mv (.t 1), none⟩,
 ⟨(some 27), .call EC [(.t 25), (.t 26)], none⟩])
 (.cond (.t 27)
 (.reg [⟨(some 28), .mv (.t 9), none⟩,
 ⟨(some 29), .bin .add (.t 28) (.c (.i .i64 1)), none⟩,
 ⟨(some 7), .mv (.t 29), none⟩])
 (.reg [⟨(some 30), .mv (.t 9), none⟩,
 ⟨(some 8), .mv (.t 30), none⟩]))))))))
 (.seq (.reg [⟨(some 31), .mv (.t 7), none⟩,
 ⟨(some 32), .mv (.t 7), none⟩,
 ⟨(some 33), .mv (.t 6), none⟩,
 ⟨(some 34), .bin .lss (.t 32) (.t 33), none⟩,
 ⟨(some 35), .mv (.t 34), none⟩,
 ⟨(some 36), .mv (.t 0), (some (35, true))⟩,
 ⟨(some 37), .mv (.t 7), (some (35, true))⟩,
 ⟨(some 38), .ia 1 (.t 36) (.t 37), (some (35, true))⟩,
 ⟨(some 39), .ld false 1 (.t 38), (some (35, true))⟩,
 ⟨(some 40), .mv (.t 1), (some (35, true))⟩,
 ⟨(some 41), .bin .eql (.t 39) (.t 40), (some (35, true))⟩,
 ⟨(some 42), .mv (.t 41), (some (35, true))⟩,
 ⟨(some 43), .mv (.t 0), (some (42, false))⟩,
 ⟨(some 44), .mv (.t 7), (some (42, false))⟩,
 ⟨(some 45), .ia 1 (.t 43) (.t 44), (some (42, false))⟩,
 ⟨(some 46), .ld false 1 (.t 45), (some (42, false))⟩,
 ⟨(some 47), .call CX [(.t 46)], (some (42, false))⟩,
 ⟨(some 48), .mv (.t 47), (some (42, false))⟩,
 ⟨(some 49), .mv (.t 1), (some (48, true))⟩,
 ⟨(some 50), .call CX [(.t 49)], (some (48, true))⟩,
 ⟨(some 51), .pick (.t 48) (.t 50) (.c (.b false)), (some (42, false))⟩,
 ⟨(some 52), .pick (.t 42) (.c (.b true)) (.t 51), (some (35, true))⟩,
 ⟨(some 53), .pick (.t 35) (.t 52) (.c (.b false)), none⟩,
 ⟨(some 4), .mv (.t 31), none⟩,
 ⟨(some 5), .mv (.t 53), none⟩])
 .ret))))) }
def AX : Fun := { cin := [(.sl 6 (.agg [.id, .id, .id, .id, (.sl 1 .id), (.sl 6 (.agg [.id, .id, .id, .id, (.sl 1 .id), (.sl 6 (.agg [.id, .id, .id, .id, .id, .id]))]))])), .id], cout := [.id], ntmps := 9, keep := false, res := [(4, none)], body :=
 (.seq (.reg [⟨(some 4), .mv (.c (.b false)), none⟩])
 (.seq (.reg [⟨(some 5), .mv (.t 0), none⟩,
 ⟨(some 6), .mv (.t 1), none⟩,
 ⟨(some 7), .call BW [(.t 5), (.t 6)], none⟩,
 ⟨(some 8), .bin .geq (.t 7) (.c (.i .i64 0)), none⟩,
 ⟨(some 4), .mv (.t 8), none⟩])
 .ret)) }
def CW : Fun := { cin := [(.agg [.id, .id, .id, .id, (.sl 1 .id), (.sl 6 (.agg [.id, .id, .id, .id, (.sl 1 .id), (.sl 6 (.agg [.id, .id, .id, .id, (.sl 1 .id), (.sl 6 .id)]))]))])], cout := [.id], ntmps := 6, keep := false, res := [(2, none)], body :=
 (.seq (.reg [⟨(some 1), .box 34 6 (.t 0), none⟩,
 ⟨(some 2), .mv (.c (.b false)), none⟩])
 (.seq (.reg [⟨(some 3), .ld true 6 (.t 1), none⟩,
 ⟨(some 4), .call EH [(.t 3)], none⟩,
 ⟨(some 5), .un .not (.t 4), none⟩,
 ⟨(some 2), .mv (.t 5), none⟩])
 .ret)) }
def Ct : Fun := { cin := [.id, .id], cout := [.id], ntmps := 8, keep := false, res := [(4, none)], body :=
 (.seq (.reg [⟨(some 4), .mv (.c (.i .i64 0)), none⟩])
 (.seq (.reg [⟨(some 5), .mv (.t 0), none⟩,
 ⟨(some 6), .mv (.t 1), none⟩,
 ⟨(some 7), .call Bn [(.t 5), (.t 6)], none⟩,
 ⟨(some 4), .mv (.t 7), none⟩])
 .ret)) }
def DL : Fun := { cin := [.id], cout := [.id], ntmps := 23, keep := false, res := [(2, none)], body :=
 (.seq (.reg [⟨(some 2), .mv (.c (.b false)), none⟩])
 (.seq (.reg [⟨(some 3), .mv (.t 0), none⟩,
 ⟨(some 4), .bin .neq (.t 3) (.c (.s [])), none⟩,
 ⟨(some 5), .mv (.t 4), none⟩,
 ⟨(some 6), .mv (.t 0), (some (5, true))⟩,
 ⟨(some 7), .len 0 (.t 6), (some (5, true))⟩,
 ⟨(some 8), .bin .leq (.t 7) (.c (.i .i64 64)), (some (5, true))⟩,
 ⟨(some 9), .pick (.t 5) (.t 8) (.c (.b false)), none⟩,
 ⟨(some 10), .mv (.t 9), none⟩,
 ⟨(some 11), .mv (.t 0), (some (10, true))⟩,
 ⟨(some 12), .bin .neq (.t 11) (.c (.s [46])), (some (10, true))⟩,
 ⟨(some 13), .pick (.t 10) (.t 12) (.c (.b false)), none⟩,
 ⟨(some 14), .mv (.t 13), none⟩,
 ⟨(some 15), .mv (.t 0), (some (14, true))⟩,
 ⟨(some 16), .bin .neq (.t 15) (.c (.s [46, 46])), (some (14, true))⟩,
 ⟨(some 17), .pick (.t 14) (.t 16) (.c (.b false)), none⟩,
 ⟨(some 18), .mv (.t 17), none⟩,
 ⟨(some 19), .mv (.t 0), (some (18, true))⟩,
 ⟨(some 20), .call DJ [(.t 19), (.c (.s [47, 0, 10]))], (some (18, true))⟩,
 ⟨(some 21), .un .not (.t 20), (some (18, true))⟩,
 ⟨(some 22), .pick (.t 18) (.t 21) (.c (.b false)), none⟩,
 ⟨(some 2), .mv (.t 22), none⟩])
 .ret)) }
def AP : Fun := { cin := [(.sl 1 .id)], cout := [], ntmps := 8, keep := true, res := [(2, none)], body :=
 (.seq (.reg [⟨(some 2), .mv (.c .nsl), none⟩])
 (.seq (.seq (.reg [⟨(some 3), .mv (.t 0), none⟩,
 ⟨(some 4), .eq .sl false (.t 3) (.c .nsl), none⟩])
 (.cond (.t 4)
 (.seq (.reg [⟨(some 2), .mv (.c .nsl), none⟩])
 .ret)
 .skip))
 (.seq (.reg [⟨(some 5), .bsl 1 [], none⟩,
 ⟨(some 6), .mv (.t 0), none⟩,
 ⟨(some 7), .app 1 9 (.t 5) (.t 6), none⟩,
 ⟨(some 2), .mv (.t 7), none⟩])
 .ret))) }
def A6 : Fun := { cin := [(.sl 6 (.agg [.id, .id, (.sl 1 .id), (.sl 1 .id), .id, .id]))], cout := [.id], ntmps := 58, keep := false, res := [(2, none)], body :=
 (.seq (.reg [⟨(some 2), .mv (.c (.b false)), none⟩])
 (.seq (.seq (.reg [⟨(some 7), .mv (.t 0), none⟩,
 ⟨(some 8), .len 1 (.t 7), none⟩,
 ⟨(some 9), .bin .eql (.t 8) (.c (.i .i64 0)), none⟩,
 ⟨(some 10), .mv (.t 9), none⟩,
 ⟨(some 11), .mv (.t 0), (some (10, false))⟩,
 ⟨(some 12), .ia 6 (.t 11) (.c (.i .i64 0)), (some (10, false))⟩,
 ⟨(some 13), .ld true 6 (.t 12), (some (10, false))⟩,
 ⟨(some 14), .call CY [(.t 13)], (some (10, false))⟩,
 ⟨(some 15), .un .not (.t 14), (some (10, false))⟩,
 ⟨(some 16), .pick (.t 10) (.c (.b true)) (.t 15), none⟩])
 (.cond (.t 16)
 (.seq (.reg [⟨(some 2), .mv (.c (.b false)), none⟩])
 .ret)
 .skip))
 (.seq (.reg [⟨(some 3), .mv (.c (.i .i64 0)), none⟩])
 (.seq (.seq (.reg [⟨(some 4), .mv (.c (.i .i64 0)), none⟩])
 (.blk 0 (.loop (.seq (.seq (.reg [⟨(some 17), .mv (.t 4), none⟩,
 ⟨(some 18), .mv (.t 0), none⟩,
 ⟨(some 19), .len 1 (.t 18), none⟩,
 ⟨(some 20), .bin .lss (.t 17) (.t 19), none⟩])
 (.cond (.t 20)
 .skip
 (.exit 0)))
 (.seq (.blk 1 (.seq (.seq (.reg [⟨(some 23), .mv (.t 0), none⟩,
 ⟨(some 24), .mv (.t 4), none⟩,
 ⟨(some 25), .ia 6 (.t 23) (.t 24), none⟩,
 ⟨(some 26), .ld true 6 (.t 25), none⟩,
 ⟨(some 27), .call DK [(.t 26)], none⟩,
 ⟨(some 28), .un .not (.t 27), none⟩])
 (.cond (.t 28)
 (.seq (.reg [⟨(some 2), .mv (.c (.b false)), none⟩])
 .ret)
 .skip))
 (.seq (.thw 0)
 (.reg [⟨(some 29), .mv (.t 3), none⟩,
 ⟨(some 30), .mv (.t 0), none⟩,
 ⟨(some 31), .mv (.t 4), none⟩,
 ⟨(some 32), .ia 6 (.t 30) (.t 31), none⟩,
 ⟨(some 33), .fa 3 (.t 32), none⟩,
 ⟨(some 34), .ld false 1 (.t 33), none⟩,
 ⟨(some 35), .len 1 (.t 34), none⟩,
 ⟨(some 36), .bin .add (.t 29) (.t 35), none⟩,
 ⟨(some 3), .mv (.t 36), none⟩]))))
 (.reg [⟨(some 21), .mv (.t 4), none⟩,
 ⟨(some 22), .bin .add (.t 21) (.c (.i .i64 1)), none⟩,
 ⟨(some 4), .mv (.t 22), none⟩]))))))
 (.seq (.seq (.reg [⟨(some 37), .mv (.t 3), none⟩,
 ⟨(some 38), .mv (.t 0), none⟩,
 ⟨(some 39), .len 1 (.t 38), none⟩,
 ⟨(some 40), .bin .sub (.t 39) (.c (.i .i64 1)), none⟩,
 ⟨(some 41), .bin .neq (.t 37) (.t 40), none⟩])
 (.cond (.t 41)
 (.seq (.reg [⟨(some 2), .mv (.c (.b false)), none⟩])
 .ret)
 .skip))
 (.seq (.seq (.reg [⟨(some 5), .mv (.c (.i .i64 1)), none⟩])
 (.blk 2 (.loop (.seq (.seq (.reg [⟨(some 42), .mv (.t 5), none⟩,
 ⟨(some 43), .mv (.t 0), none⟩,
 ⟨(some 44), .len 1 (.t 43), none⟩,
 ⟨(some 45), .bin .lss (.t 42) (.t 44), none⟩])
 (.cond (.t 45)
 .skip
 (.exit 2)))
 (.seq (.blk 3 (.seq (.reg [⟨(some 48), .mv (.t 0), none⟩,
 ⟨(some 49), .mv (.t 5), none⟩,
 ⟨(some 50), .call Cs [(.t 48), (.t 49)], none⟩,
 ⟨(some 6), .mv (.t 50), none⟩])
 (.seq (.reg [⟨(some 51), .mv (.t 6), none⟩,
 ⟨(some 52), .bin .lss (.t 51) (.c (.i .i64 0)), none⟩,
 ⟨(some 53), .mv (.t 52), none⟩,
 ⟨(some 54), .mv (.t 6), (some (53, false))⟩,
 ⟨(some 55), .mv (.t 5), (some (53, false))⟩,
 ⟨(some 56), .bin .geq (.t 54) (.t 55), (some (53, false))⟩,
 ⟨(some 57), .pick (.t 53) (.c (.b true)) (.t 56), none⟩])
 (.cond (.t 57)
 (.seq (.reg [⟨(some 2), .mv (.c (.b false)), none⟩])
 .ret)
 .skip))))
 (.reg [⟨(some 46), .mv (.t 5), none⟩,
 ⟨(some 47), .bin .add (.t 46) (.c (.i .i64 1)), none⟩,
 ⟨(some 5), .mv (.t 47), none⟩]))))))
 (.seq (.reg [⟨(some 2), .mv (.c (.b true)), none⟩])
 .ret))))))) }
def Ao : Fun := { cin := [(.sl 6 (.agg [.id, .id, (.sl 1 .id), (.sl 1 .id), .id, .id])), (.agg [.id, .id, .id, .id, (.sl 1 .id), (.sl 6 (.agg [.id, .id, .id, .id, (.sl 1 .id), (.sl 6 (.agg [.id, .id, .id, .id, (.sl 1 .id), (.sl 6 .id)]))]))]), .id], cout := [.id], ntmps := 81, keep := false, res := [(6, none)], body :=
 (.seq (.reg [⟨(some 4), .box 34 6 (.t 1), none⟩,
 ⟨(some 6), .mv (.c (.b false)), none⟩])
 (.seq (.seq (.reg [⟨(some 8), .fa 0 (.t 4), none⟩,
 ⟨(some 9), .ld false 1 (.t 8), none⟩,
 ⟨(some 10), .bin .geq (.t 9) (.c (.i .i64 0)), none⟩])
 (.cond (.t 10)
 (.seq (.reg [⟨(some 11), .fa 0 (.t 4), none⟩,
 ⟨(some 12), .ld false 1 (.t 11), none⟩,
 ⟨(some 13), .mv (.t 0), none⟩,
 ⟨(some 14), .len 1 (.t 13), none⟩,
 ⟨(some 15), .bin .lss (.t 12) (.t 14), none⟩,
 ⟨(some 16), .mv (.t 15), none⟩,
 ⟨(some 17), .ld true 6 (.t 4), (some (16, true))⟩,
 ⟨(some 18), .fa 0 (.t 4), (some (16, true))⟩,
 ⟨(some 19), .ld false 1 (.t 18), (some (16, true))⟩,
 ⟨(some 20), .build [(.i .i64 0), (.i .u8 0), (.s []), (.i .i64 0), .nsl, .nsl] [(0, 1, (.t 19)), (3, 1, (.c (.i .i64 (-1))))], (some (16, true))⟩,
 ⟨(some 21), .call A7 [(.t 17), (.t 20)], (some (16, true))⟩,
 ⟨(some 22), .pick (.t 16) (.t 21) (.c (.b false)), none⟩,
 ⟨(some 6), .mv (.t 22), none⟩])
 .ret)
 .skip))
 (.seq (.seq (.reg [⟨(some 23), .fa 0 (.t 4), none⟩,
 ⟨(some 24), .ld false 1 (.t 23), none⟩,
 ⟨(some 25), .bin .neq (.t 24) (.c (.i .i64 (-1))), none⟩])
 (.cond (.t 25)
 (.seq (.reg [⟨(some 6), .mv (.c (.b false)), none⟩])
 .ret)
 .skip))
 (.seq (.seq (.reg [⟨(some 26), .fa 1 (.t 4), none⟩,
 ⟨(some 27), .ld false 1 (.t 26), none⟩,
 ⟨(some 28), .bin .eql (.t 27) (.c (.i .u8 0)), none⟩])
 (.cond (.t 28)
 (.seq (.reg [⟨(some 29), .mv (.t 2), none⟩,
 ⟨(some 30), .mv (.t 29), none⟩,
 ⟨(some 31), .ld true 6 (.t 4), (some (30, true))⟩,
 ⟨(some 32), .build [(.i .i64 0), (.i .u8 0), (.s []), (.i .i64 0), .nsl, .nsl] [(0, 1, (.c (.i .i64 (-1)))), (3, 1, (.c (.i .i64 (-1))))], (some (30, true))⟩,
 ⟨(some 33), .call A7 [(.t 31), (.t 32)], (some (30, true))⟩,
 ⟨(some 34), .pick (.t 30) (.t 33) (.c (.b false)), none⟩,
 ⟨(some 6), .mv (.t 34), none⟩])
 .ret)
 .skip))
 (.seq (.seq (.reg [⟨(some 35), .fa 4 (.t 4), none⟩,
 ⟨(some 36), .ld false 1 (.t 35), none⟩,
 ⟨(some 37), .len 1 (.t 36), none⟩,
 ⟨(some 38), .fa 5 (.t 4), none⟩,
 ⟨(some 39), .ld false 1 (.t 38), none⟩,
 ⟨(some 40), .len 1 (.t 39), none⟩,
 ⟨(some 41), .bin .neq (.t 37) (.t 40), none⟩,
 ⟨(some 42), .mv (.t 41), none⟩,
 ⟨(some 43), .ld true 6 (.t 4), (some (42, false))⟩,
 ⟨(some 44), .call C6 [(.t 43)], (some (42, false))⟩,
 ⟨(some 45), .call Bp [(.t 44)], (some (42, false))⟩,
 ⟨(some 46), .un .not (.t 45), (some (42, false))⟩,
 ⟨(some 47), .pick (.t 42) (.c (.b true)) (.t 46), none⟩])
 (.cond (.t 47)
 (.seq (.reg [⟨(some 6), .mv (.c (.b false)), none⟩])
 .ret)
 .skip))
 (.seq (.seq (.reg [⟨(some 48), .fa 3 (.t 4), none⟩,
 ⟨(some 49), .ld false 1 (.t 48), none⟩,
 ⟨(some 50), .bin .neq (.t 49) (.c (.i .i64 (-1))), none⟩,
 ⟨(some 51), .mv (.t 50), none⟩,
 ⟨(some 52), .fa 1 (.t 4), (some (51, true))⟩,
 ⟨(some 53), .ld false 1 (.t 52), (some (51, true))⟩,
 ⟨(some 54), .bin .neq (.t 53) (.c (.i .u8 2)), (some (51, true))⟩,
 ⟨(some 55), .mv (.t 54), (some (51, true))⟩,
 ⟨(some 56), .mv (.t 0), (some (55, false))⟩,
 ⟨(some 57), .fa 3 (.t 4), (some (55, false))⟩,
 ⟨(some 58), .ld false 1 (.t 57), (some (55, false))⟩,
 ⟨(some 59), .call DI [(.t 56), (.t 58)], (some (55, false))⟩,
 ⟨(some 60), .un .not (.t 59), (some (55, false))⟩,
 ⟨(some 61), .pick (.t 55) (.c (.b true)) (.t 60), (some (51, true))⟩,
 ⟨(some 62), .pick (.t 51) (.t 61) (.c (.b false)), none⟩])
 (.cond (.t 62)
 (.seq (.reg [⟨(some 6), .mv (.c (.b false)), none⟩])
 .ret)
 .skip))
 (.seq (.seq (.reg [⟨(some 7), .mv (.c (.i .i64 0)), none⟩])
 (.blk 0 (.loop (.seq (.seq (.reg [⟨(some 63), .mv (.t 7), none⟩,
 ⟨(some 64), .fa 5 (.t 4), none⟩,
 ⟨(some 65), .ld false 1 (.t 64), none⟩,
 ⟨(some 66), .len 1 (.t 65), none⟩,
 ⟨(some 67), .bin .lss (.t 63) (.t 66), none⟩])
 (.cond (.t 67)
 .skip
 (.exit 0)))
 (.seq (.blk 1 (.seq (.regD [⟨(some 70), .mv (.t 0), none⟩,
 ⟨(some 71), .fa 5 (.t 4), none⟩,
 ⟨(some 72), .ld false 1 (.t 71), none⟩,
 ⟨(some 73), .mv (.t 7), none⟩,
 ⟨(some 74), .ia 6 (.t 72) (.t 73), none⟩,
 ⟨(some 75), .ld true 6 (.t 74), none⟩,
 ⟨(some 76), .fa 3 (.t 4), none⟩,
 ⟨(some 77), .ld false 1 (.t 76), none⟩,
 ⟨(some 78), .bin .geq (.t 77) (.c (.i .i64 0)), none⟩,
 ⟨(some 79), .call CK [(.t 70), (.t 75), (.t 78)], none⟩,
 ⟨(some 80), .un .not (.t 79), none⟩] [])
 (.cond (.t 80)
 (.seq (.reg [⟨(some 6), .mv (.c (.b false)), none⟩])
 .ret)
 .skip)))
 (.reg [⟨(some 68), .mv (.t 7), none⟩,
 ⟨(some 69), .bin .add (.t 68) (.c (.i .i64 1)), none⟩,
 ⟨(some 7), .mv (.t 69), none⟩]))))))
 (.seq (.reg [⟨(some 6), .mv (.c (.b true)), none⟩])
 .ret)))))))) }
def DM : Fun := { cin := [(.sl 6 (.agg [.id, .id, (.sl 1 .id), (.sl 1 .id), .id, .id])), .id], cout := [.id], ntmps := 28, keep := false, res := [(4, none)], body :=
 (.seq (.reg [⟨(some 4), .mv (.c (.b false)), none⟩])
 (.seq (.seq (.thw 0)
 (.reg [⟨(some 5), .mv (.t 1), none⟩,
 ⟨(some 6), .bin .geq (.t 5) (.c (.i .i64 0)), none⟩,
 ⟨(some 7), .mv (.t 6), none⟩,
 ⟨(some 8), .mv (.t 1), (some (7, true))⟩,
 ⟨(some 9), .mv (.t 0), (some (7, true))⟩,
 ⟨(some 10), .len 1 (.t 9), (some (7, true))⟩,
 ⟨(some 11), .bin .lss (.t 8) (.t 10), (some (7, true))⟩,
 ⟨(some 12), .pick (.t 7) (.t 11) (.c (.b false)), none⟩,
 ⟨(some 13), .mv (.t 12), none⟩,
 ⟨(some 14), .mv (.t 0), (some (13, true))⟩,
 ⟨(some 15), .mv (.t 1), (some (13, true))⟩,
 ⟨(some 16), .ia 6 (.t 14) (.t 15), (some (13, true))⟩,
 ⟨(some 17), .fa 0 (.t 16), (some (13, true))⟩,
 ⟨(some 18), .ld false 1 (.t 17), (some (13, true))⟩,
 ⟨(some 19), .pick (.t 13) (.t 18) (.c (.b false)), none⟩,
 ⟨(some 20), .mv (.t 19), none⟩,
 ⟨(some 21), .mv (.t 0), (some (20, true))⟩,
 ⟨(some 22), .mv (.t 1), (some (20, true))⟩,
 ⟨(some 23), .ia 6 (.t 21) (.t 22), (some (20, true))⟩,
 ⟨(some 24), .fa 1 (.t 23), (some (20, true))⟩,
 ⟨(some 25), .ld false 1 (.t 24), (some (20, true))⟩,
 ⟨(some 26), .bin .eql (.t 25) (.c (.i .u8 2)), (some (20, true))⟩,
 ⟨(some 27), .pick (.t 20) (.t 26) (.c (.b false)), none⟩,
 ⟨(some 4), .mv (.t 27), none⟩]))
 .ret)) }
def CO : Fun := { cin := [.id], cout := [.id], ntmps := 17, keep := false, res := [(2, none)], body :=
 (.seq (.reg [⟨(some 2), .mv (.c (.b false)), none⟩])
 (.seq (.seq (.reg [⟨(some 3), .mv (.c (.i .i64 0)), none⟩])
 (.blk 0 (.loop (.seq (.seq (.reg [⟨(some 4), .mv (.t 3), none⟩,
 ⟨(some 5), .mv (.t 0), none⟩,
 ⟨(some 6), .len 0 (.t 5), none⟩,
 ⟨(some 7), .bin .lss (.t 4) (.t 6), none⟩])
 (.cond (.t 7)
 .skip
 (.exit 0)))
 (.seq (.blk 1 (.seq (.reg [⟨(some 10), .mv (.t 0), none⟩,
 ⟨(some 11), .mv (.t 3), none⟩,
 ⟨(some 12), .ixS (.t 10) (.t 11), none⟩,
 ⟨(some 13), .bin .eql (.t 12) (.c (.i .u8 0)), none⟩])
 (.cond (.t 13)
 (.seq (.reg [⟨(some 2), .mv (.c (.b false)), none⟩])
 .ret)
 .skip)))
 (.reg [⟨(some 8), .mv (.t 3), none⟩,
 ⟨(some 9), .bin .add (.t 8) (.c (.i .i64 1)), none⟩,
 ⟨(some 3), .mv (.t 9), none⟩]))))))
 (.seq (.reg [⟨(some 14), .mv (.t 0), none⟩,
 ⟨(some 15), .len 0 (.t 14), none⟩,
 ⟨(some 16), .bin .leq (.t 15) (.c (.i .i64 256)), none⟩,
 ⟨(some 2), .mv (.t 16), none⟩])
 .ret))) }
def Az : Fun := { cin := [.id], cout := [.id], ntmps := 41, keep := false, res := [(2, none)], body :=
 (.seq (.reg [⟨(some 2), .mv (.c (.b false)), none⟩])
 (.seq (.seq (.reg [⟨(some 4), .mv (.t 0), none⟩,
 ⟨(some 5), .bin .eql (.t 4) (.c (.s [])), none⟩,
 ⟨(some 6), .mv (.t 5), none⟩,
 ⟨(some 7), .mv (.t 0), (some (6, false))⟩,
 ⟨(some 8), .len 0 (.t 7), (some (6, false))⟩,
 ⟨(some 9), .bin .gtr (.t 8) (.c (.i .i64 64)), (some (6, false))⟩,
 ⟨(some 10), .pick (.t 6) (.c (.b true)) (.t 9), none⟩,
 ⟨(some 11), .mv (.t 10), none⟩,
 ⟨(some 12), .mv (.t 0), (some (11, false))⟩,
 ⟨(some 13), .bin .eql (.t 12) (.c (.s [46])), (some (11, false))⟩,
 ⟨(some 14), .pick (.t 11) (.c (.b true)) (.t 13), none⟩,
 ⟨(some 15), .mv (.t 14), none⟩,
 ⟨(some 16), .mv (.t 0), (some (15, false))⟩,
 ⟨(some 17), .bin .eql (.t 16) (.c (.s [46, 46])), (some (15, false))⟩,
 ⟨(some 18), .pick (.t 15) (.c (.b true)) (.t 17), none⟩])
 (.cond (.t 18)
 (.seq (.reg [⟨(some 2), .mv (.c (.b false)), none⟩])
 .ret)
 .skip))
 (.seq (.seq (.reg [⟨(some 3), .mv (.c (.i .i64 0)), none⟩])
 (.blk 0 (.loop (.seq (.seq (.reg [⟨(some 19), .mv (.t 3), none⟩,
 ⟨(some 20), .mv (.t 0), none⟩,
 ⟨(some 21), .len 0 (.t 20), none⟩,
 ⟨(some 22), .bin .lss (.t 19) (.t 21), none⟩])
 (.cond (.t 22)
 .skip
 (.exit 0)))
 (.seq (.blk 1 (.seq (.reg [⟨(some 25), .mv (.t 0), none⟩,
 ⟨(some 26), .mv (.t 3), none⟩,
 ⟨(some 27), .ixS (.t 25) (.t 26), none⟩,
 ⟨(some 28), .bin .eql (.t 27) (.c (.i .u8 0)), none⟩,
 ⟨(some 29), .mv (.t 28), none⟩,
 ⟨(some 30), .mv (.t 0), (some (29, false))⟩,
 ⟨(some 31), .mv (.t 3), (some (29, false))⟩,
 ⟨(some 32), .ixS (.t 30) (.t 31), (some (29, false))⟩,
 ⟨(some 33), .bin .eql (.t 32) (.c (.i .u8 47)), (some (29, false))⟩,
 ⟨(some 34), .pick (.t 29) (.c (.b true)) (.t 33), none⟩,
 ⟨(some 35), .mv (.t 34), none⟩,
 ⟨(some 36), .mv (.t 0), (some (35, false))⟩,
 ⟨(some 37), .mv (.t 3), (some (35, false))⟩,
 ⟨(some 38), .ixS (.t 36) (.t 37), (some (35, false))⟩,
 ⟨(some 39), .bin .eql (.t 38) (.c (.i .u8 10)), (some (35, false))⟩,
 ⟨(some 40), .pick (.t 35) (.c (.b true)) (.t 39), none⟩])
 (.cond (.t 40)
 (.seq (.reg [⟨(some 2), .mv (.c (.b false)), none⟩])
 .ret)
 .skip)))
 (.reg [⟨(some 23), .mv (.t 3), none⟩,
 ⟨(some 24), .bin .add (.t 23) (.c (.i .i64 1)), none⟩,
 ⟨(some 3), .mv (.t 24), none⟩]))))))
 (.seq (.reg [⟨(some 2), .mv (.c (.b true)), none⟩])
 .ret)))) }
def Gt : Fun := { cin := [(.sl 6 (.agg [.id, .id, (.sl 1 .id), (.sl 1 .id), .id, .id])), (.agg [.id, .id, (.sl 1 .id), (.sl 4 (.agg [.id, .id, (.sl 1 .id), (.sl 4 (.agg [.id, .id, (.sl 1 .id), (.sl 4 .id)]))]))]), .id], cout := [(.agg [.id, .id, (.sl 1 .id), (.sl 4 (.agg [.id, .id, (.sl 1 .id), (.sl 4 (.agg [.id, .id, (.sl 1 .id), (.sl 4 .id)]))]))]), .id], ntmps := 24, keep := false, res := [(6, some (true, 4)), (7, none)], body :=
 (.seq (.reg [⟨(some 4), .box 30 4 (.t 1), none⟩,
 ⟨(some 6), .alloc 30 [(.i .u8 0), (.s []), .nsl, .nsl], none⟩,
 ⟨(some 7), .mv (.c (.b false)), none⟩])
 (.seq (.reg [⟨(some 11), .mv (.t 0), none⟩,
 ⟨(some 12), .mv (.t 2), none⟩,
 ⟨(some 13), .call Kj [(.t 11), (.t 12)], none⟩,
 ⟨(some 10), .mv (.t 13), none⟩,
 ⟨(some 14), .ext (.t 10) 0, none⟩,
 ⟨(some 15), .ext (.t 10) 1, none⟩,
 ⟨(some 8), .mv (.t 14), none⟩,
 ⟨(some 9), .mv (.t 15), none⟩])
 (.seq (.seq (.reg [⟨(some 16), .mv (.t 9), none⟩,
 ⟨(some 17), .bin .neq (.t 16) (.c (.i .i64 0)), none⟩])
 (.cond (.t 17)
 (.seq (.reg [⟨(some 18), .build [(.i .u8 0), (.s []), .nsl, .nsl] [], none⟩,
 ⟨none, .st 4 (.t 6) (.t 18), none⟩,
 ⟨(some 7), .mv (.c (.b false)), none⟩])
 .ret)
 .skip))
 (.seq (.reg [⟨(some 19), .ld true 4 (.t 4), none⟩,
 ⟨(some 20), .mv (.t 8), none⟩,
 ⟨(some 21), .call Lg [(.t 19), (.t 20)], none⟩,
 ⟨(some 22), .ext (.t 21) 0, none⟩,
 ⟨(some 23), .ext (.t 21) 1, none⟩,
 ⟨none, .st 4 (.t 6) (.t 22), none⟩,
 ⟨(some 7), .mv (.t 23), none⟩])
 .ret)))) }
def Ez : Fun := { cin := [(.agg [.id, .id, (.sl 1 .id), (.sl 1 .id), .id, .id])], cout := [.id], ntmps := 10, keep := false, res := [(2, none)], body :=
 (.seq (.reg [⟨(some 1), .box 26 6 (.t 0), none⟩,
 ⟨(some 2), .mv (.c (.b false)), none⟩])
 (.seq (.reg [⟨(some 3), .fa 0 (.t 1), none⟩,
 ⟨(some 4), .ld false 1 (.t 3), none⟩,
 ⟨(some 5), .mv (.t 4), none⟩,
 ⟨(some 6), .fa 1 (.t 1), (some (5, true))⟩,
 ⟨(some 7), .ld false 1 (.t 6), (some (5, true))⟩,
 ⟨(some 8), .bin .eql (.t 7) (.c (.i .u8 2)), (some (5, true))⟩,
 ⟨(some 9), .pick (.t 5) (.t 8) (.c (.b false)), none⟩,
 ⟨(some 2), .mv (.t 9), none⟩])
 .ret)) }
def Cm : Fun := { cin := [(.agg [.id, .id, (.sl 1 .id), (.sl 1 .id), .id, .id])], cout := [.id], ntmps := 99, keep := false, res := [(2, none)], body :=
 (.seq (.reg [⟨(some 1), .box 26 6 (.t 0), none⟩,
 ⟨(some 2), .mv (.c (.b false)), none⟩])
 (.seq (.blk 0 (.seq (.reg [⟨(some 6), .fa 1 (.t 1), none⟩,
 ⟨(some 7), .ld false 1 (.t 6), none⟩,
 ⟨(some 8), .bin .gtr (.t 7) (.c (.i .u8 3)), none⟩,
 ⟨(some 9), .mv (.t 8), none⟩,
 ⟨(some 10), .fa 0 (.t 1), (some (9, false))⟩,
 ⟨(some 11), .ld false 1 (.t 10), (some (9, false))⟩,
 ⟨(some 12), .un .not (.t 11), (some (9, false))⟩,
 ⟨(some 13), .mv (.t 12), (some (9, false))⟩,
 ⟨(some 14), .fa 1 (.t 1), (some (13, true))⟩,
 ⟨(some 15), .ld false 1 (.t 14), (some (13, true))⟩,
 ⟨(some 16), .bin .neq (.t 15) (.c (.i .u8 0)), (some (13, true))⟩,
 ⟨(some 17), .pick (.t 13) (.t 16) (.c (.b false)), (some (9, false))⟩,
 ⟨(some 18), .pick (.t 9) (.c (.b true)) (.t 17), none⟩,
 ⟨(some 19), .mv (.t 18), none⟩,
 ⟨(some 20), .fa 2 (.t 1), (some (19, false))⟩,
 ⟨(some 21), .ld false 1 (.t 20), (some (19, false))⟩,
 ⟨(some 22), .len 1 (.t 21), (some (19, false))⟩,
 ⟨(some 23), .fa 3 (.t 1), (some (19, false))⟩,
 ⟨(some 24), .ld false 1 (.t 23), (some (19, false))⟩,
 ⟨(some 25), .len 1 (.t 24), (some (19, false))⟩,
 ⟨(some 26), .bin .neq (.t 22) (.t 25), (some (19, false))⟩,
 ⟨(some 27), .pick (.t 19) (.c (.b true)) (.t 26), none⟩,
 ⟨(some 5), .mv (.t 27), none⟩])
 (.cond (.t 5)
 (.seq (.reg [⟨(some 2), .mv (.c (.b false)), none⟩])
 .ret)
 (.seq (.reg [⟨(some 29), .ld true 6 (.t 1), none⟩,
 ⟨(some 30), .call Ie [(.t 29)], none⟩,
 ⟨(some 31), .un .not (.t 30), none⟩,
 ⟨(some 28), .mv (.t 31), none⟩])
 (.cond (.t 28)
 (.seq (.reg [⟨(some 32), .fa 2 (.t 1), none⟩,
 ⟨(some 33), .ld false 1 (.t 32), none⟩,
 ⟨(some 34), .len 1 (.t 33), none⟩,
 ⟨(some 35), .bin .eql (.t 34) (.c (.i .i64 0)), none⟩,
 ⟨(some 36), .mv (.t 35), none⟩,
 ⟨(some 37), .fa 4 (.t 1), (some (36, true))⟩,
 ⟨(some 38), .ld false 1 (.t 37), (some (36, true))⟩,
 ⟨(some 39), .bin .eql (.t 38) (.c (.i .i64 0)), (some (36, true))⟩,
 ⟨(some 40), .pick (.t 36) (.t 39) (.c (.b false)), none⟩,
 ⟨(some 41), .mv (.t 40), none⟩,
 ⟨(some 42), .fa 5 (.t 1), (some (41, true))⟩,
 ⟨(some 43), .ld false 1 (.t 42), (some (41, true))⟩,
 ⟨(some 44), .bin .eql (.t 43) (.c (.i .i64 0)), (some (41, true))⟩,
 ⟨(some 45), .pick (.t 41) (.t 44) (.c (.b false)), none⟩,
 ⟨(some 2), .mv (.t 45), none⟩])
 .ret)
 .skip)))))
 (.seq (.seq (.reg [⟨(some 46), .fa 2 (.t 1), none⟩,
 ⟨(some 47), .ld false 1 (.t 46), none⟩,
 ⟨(some 48), .len 1 (.t 47), none⟩,
 ⟨(some 49), .mv (.c (.i .i64 0)), none⟩])
 (.blk 1 (.loop (.seq (.reg [⟨(some 50), .bin .lss (.t 49) (.t 48), none⟩])
 (.seq (.cond (.t 50)
 .skip
 (.exit 1))
 (.seq (.blk 2 (.seq (.reg [⟨(some 51), .mv (.t 49), none⟩,
 ⟨(some 52), .ia 1 (.t 47) (.t 49), none⟩,
 ⟨(some 53), .ld false 1 (.t 52), none⟩,
 ⟨(some 3), .mv (.t 51), none⟩,
 ⟨(some 4), .mv (.t 53), none⟩])
 (.seq (.reg [⟨(some 54), .mv (.t 4), none⟩,
 ⟨(some 55), .call Ey [(.t 54)], none⟩,
 ⟨(some 56), .un .not (.t 55), none⟩,
 ⟨(some 57), .mv (.t 56), none⟩,
 ⟨(some 58), .mv (.t 3), (some (57, false))⟩,
 ⟨(some 59), .bin .gtr (.t 58) (.c (.i .i64 0)), (some (57, false))⟩,
 ⟨(some 60), .mv (.t 59), (some (57, false))⟩,
 ⟨(some 61), .mv (.t 4), (some (60, true))⟩,
 ⟨(some 62), .fa 2 (.t 1), (some (60, true))⟩,
 ⟨(some 63), .ld false 1 (.t 62), (some (60, true))⟩,
 ⟨(some 64), .mv (.t 3), (some (60, true))⟩,
 ⟨(some 65), .bin .sub (.t 64) (.c (.i .i64 1)), (some (60, true))⟩,
 ⟨(some 66), .ia 1 (.t 63) (.t 65), (some (60, true))⟩,
 ⟨(some 67), .ld false 1 (.t 66), (some (60, true))⟩,
 ⟨(some 68), .bin .leq (.t 61) (.t 67), (some (60, true))⟩,
 ⟨(some 69), .pick (.t 60) (.t 68) (.c (.b false)), (some (57, false))⟩,
 ⟨(some 70), .pick (.t 57) (.c (.b true)) (.t 69), none⟩])
 (.cond (.t 70)
 (.seq (.reg [⟨(some 2), .mv (.c (.b false)), none⟩])
 .ret)
 .skip))))
 (.reg [⟨(some 71), .bin .add (.t 49) (.c (.i .i64 1)), none⟩,
 ⟨(some 49), .mv (.t 71), none⟩])))))))
 (.seq (.seq (.reg [⟨(some 72), .fa 4 (.t 1), none⟩,
 ⟨(some 73), .ld false 1 (.t 72), none⟩,
 ⟨(some 74), .bin .eql (.t 73) (.c (.i .i64 2)), none⟩])
 (.cond (.t 74)
 (.seq (.reg [⟨(some 75), .fa 5 (.t 1), none⟩,
 ⟨(some 76), .ld false 1 (.t 75), none⟩,
 ⟨(some 77), .bin .geq (.t 76) (.c (.i .i64 0)), none⟩,
 ⟨(some 78), .mv (.t 77), none⟩,
 ⟨(some 79), .fa 5 (.t 1), (some (78, true))⟩,
 ⟨(some 80), .ld false 1 (.t 79), (some (78, true))⟩,
 ⟨(some 81), .fa 2 (.t 1), (some (78, true))⟩,
 ⟨(some 82), .ld false 1 (.t 81), (some (78, true))⟩,
 ⟨(some 83), .len 1 (.t 82), (some (78, true))⟩,
 ⟨(some 84), .bin .leq (.t 80) (.t 83), (some (78, true))⟩,
 ⟨(some 85), .pick (.t 78) (.t 84) (.c (.b false)), none⟩,
 ⟨(some 2), .mv (.t 85), none⟩])
 .ret)
 .skip))
 (.seq (.reg [⟨(some 86), .fa 4 (.t 1), none⟩,
 ⟨(some 87), .ld false 1 (.t 86), none⟩,
 ⟨(some 88), .bin .eql (.t 87) (.c (.i .i64 0)), none⟩,
 ⟨(some 89), .mv (.t 88), none⟩,
 ⟨(some 90), .fa 4 (.t 1), (some (89, false))⟩,
 ⟨(some 91), .ld false 1 (.t 90), (some (89, false))⟩,
 ⟨(some 92), .bin .eql (.t 91) (.c (.i .i64 1)), (some (89, false))⟩,
 ⟨(some 93), .pick (.t 89) (.c (.b true)) (.t 92), none⟩,
 ⟨(some 94), .mv (.t 93), none⟩,
 ⟨(some 95), .fa 5 (.t 1), (some (94, true))⟩,
 ⟨(some 96), .ld false 1 (.t 95), (some (94, true))⟩,
 ⟨(some 97), .bin .eql (.t 96) (.c (.i .i64 0)), (some (94, true))⟩,
 ⟨(some 98), .pick (.t 94) (.t 97) (.c (.b false)), none⟩,
 ⟨(some 2), .mv (.t 98), none⟩])
 .ret))))) }
def Au : Fun := { cin := [(.sl 1 .id), .id], cout := [.id], ntmps := 9, keep := false, res := [(4, none)], body :=
 (.seq (.reg [⟨(some 4), .mv (.c (.b false)), none⟩])
 (.seq (.reg [⟨(some 5), .mv (.t 0), none⟩,
 ⟨(some 6), .mv (.t 1), none⟩,
 ⟨(some 7), .call CU [(.t 5), (.t 6)], none⟩,
 ⟨(some 8), .bin .geq (.t 7) (.c (.i .i64 0)), none⟩,
 ⟨(some 4), .mv (.t 8), none⟩])
 .ret)) }
def F3 : Fun := { cin := [.id], cout := [.id], ntmps := 5, keep := false, res := [(2, none)], body :=
 (.seq (.reg [⟨(some 2), .mv (.c (.b false)), none⟩])
 (.seq (.reg [⟨(some 3), .mv (.t 0), none⟩,
 ⟨(some 4), .bin .neq (.t 3) (.c (.i .i64 1)), none⟩,
 ⟨(some 2), .mv (.t 4), none⟩])
 .ret)) }
def JD : Fun := { cin := [(.agg [.id, .id, .id, .id, (.sl 1 .id), (.sl 6 (.agg [.id, .id, .id, .id, (.sl 1 .id), (.sl 6 (.agg [.id, .id, .id, .id, (.sl 1 .id), (.sl 6 .id)]))]))]), (.agg [.id, .id, .id, .id, (.sl 1 .id), (.sl 6 (.agg [.id, .id, .id, .id, (.sl 1 .id), (.sl 6 (.agg [.id, .id, .id, .id, (.sl 1 .id), (.sl 6 .id)]))]))])], cout := [.id], ntmps := 45, keep := false, res := [(4, none)], body :=
 (.seq (.reg [⟨(some 2), .box 34 6 (.t 0), none⟩,
 ⟨(some 3), .box 34 6 (.t 1), none⟩,
 ⟨(some 4), .mv (.c (.b false)), none⟩])
 (.seq (.reg [⟨(some 5), .fa 0 (.t 2), none⟩,
 ⟨(some 6), .ld false 1 (.t 5), none⟩,
 ⟨(some 7), .fa 0 (.t 3), none⟩,
 ⟨(some 8), .ld false 1 (.t 7), none⟩,
 ⟨(some 9), .bin .eql (.t 6) (.t 8), none⟩,
 ⟨(some 10), .mv (.t 9), none⟩,
 ⟨(some 11), .fa 1 (.t 2), (some (10, true))⟩,
 ⟨(some 12), .ld false 1 (.t 11), (some (10, true))⟩,
 ⟨(some 13), .fa 1 (.t 3), (some (10, true))⟩,
 ⟨(some 14), .ld false 1 (.t 13), (some (10, true))⟩,
 ⟨(some 15), .bin .eql (.t 12) (.t 14), (some (10, true))⟩,
 ⟨(some 16), .pick (.t 10) (.t 15) (.c (.b false)), none⟩,
 ⟨(some 17), .mv (.t 16), none⟩,
 ⟨(some 18), .fa 2 (.t 2), (some (17, true))⟩,
 ⟨(some 19), .ld false 1 (.t 18), (some (17, true))⟩,
 ⟨(some 20), .fa 2 (.t 3), (some (17, true))⟩,
 ⟨(some 21), .ld false 1 (.t 20), (some (17, true))⟩,
 ⟨(some 22), .bin .eql (.t 19) (.t 21), (some (17, true))⟩,
 ⟨(some 23), .pick (.t 17) (.t 22) (.c (.b false)), none⟩,
 ⟨(some 24), .mv (.t 23), none⟩,
 ⟨(some 25), .fa 3 (.t 2), (some (24, true))⟩,
 ⟨(some 26), .ld false 1 (.t 25), (some (24, true))⟩,
 ⟨(some 27), .fa 3 (.t 3), (some (24, true))⟩,
 ⟨(some 28), .ld false 1 (.t 27), (some (24, true))⟩,
 ⟨(some 29), .bin .eql (.t 26) (.t 28), (some (24, true))⟩,
 ⟨(some 30), .pick (.t 24) (.t 29) (.c (.b false)), none⟩,
 ⟨(some 31), .mv (.t 30), none⟩,
 ⟨(some 32), .fa 4 (.t 2), (some (31, true))⟩,
 ⟨(some 33), .ld false 1 (.t 32), (some (31, true))⟩,
 ⟨(some 34), .fa 4 (.t 3), (some (31, true))⟩,
 ⟨(some 35), .ld false 1 (.t 34), (some (31, true))⟩,
 ⟨(some 36), .call C8 [(.t 33), (.t 35)], (some (31, true))⟩,
 ⟨(some 37), .pick (.t 31) (.t 36) (.c (.b false)), none⟩,
 ⟨(some 38), .mv (.t 37), none⟩,
 ⟨(some 39), .fa 5 (.t 2), (some (38, true))⟩,
 ⟨(some 40), .ld false 1 (.t 39), (some (38, true))⟩,
 ⟨(some 41), .fa 5 (.t 3), (some (38, true))⟩,
 ⟨(some 42), .ld false 1 (.t 41), (some (38, true))⟩,
 ⟨(some 43), .call BF [(.t 40), (.t 42), (.c (.fn HR []))], (some (38, true))⟩,
 ⟨(some 44), .pick (.t 38) (.t 43) (.c (.b false)), none⟩,
 ⟨(some 4), .mv (.t 44), none⟩])
 .ret)) }
def Kl : Fun := { cin := [.id], cout := [(.agg [.id, .id, .id, .id, (.sl 1 .id), (.sl 6 (.agg [.id, .id, .id, .id, (.sl 1 .id), (.sl 6 (.agg [.id, .id, .id, .id, (.sl 1 .id), (.sl 6 .id)]))]))])], ntmps := 5, keep := false, res := [(2, some (true, 6))], body :=
 (.seq (.reg [⟨(some 2), .alloc 34 [(.i .i64 0), (.i .u8 0), (.s []), (.i .i64 0), .nsl, .nsl], none⟩])
 (.seq (.reg [⟨(some 3), .mv (.t 0), none⟩,
 ⟨(some 4), .build [(.i .i64 0), (.i .u8 0), (.s []), (.i .i64 0), .nsl, .nsl] [(0, 1, (.t 3)), (3, 1, (.c (.i .i64 (-1))))], none⟩,
 ⟨none, .st 6 (.t 2) (.t 4), none⟩])
 .ret)) }
def Gu : Fun := { cin := [], cout := [(.agg [.id, .id, .id, .id, (.sl 1 .id), (.sl 6 (.agg [.id, .id, .id, .id, (.sl 1 .id), (.sl 6 (.agg [.id, .id, .id, .id, (.sl 1 .id), (.sl 6 .id)]))]))])], ntmps := 2, keep := false, res := [(0, some (true, 6))], body :=
 (.seq (.reg [⟨(some 0), .alloc 34 [(.i .i64 0), (.i .u8 0), (.s []), (.i .i64 0), .nsl, .nsl], none⟩])
 (.seq (.reg [⟨(some 1), .build [(.i .i64 0), (.i .u8 0), (.s []), (.i .i64 0), .nsl, .nsl] [(0, 1, (.c (.i .i64 (-1)))), (3, 1, (.c (.i .i64 (-1))))], none⟩,
 ⟨none, .st 6 (.t 0) (.t 1), none⟩])
 .ret)) }
def JE : Fun := { cin := [(.sl 6 (.agg [.id, .id, (.sl 1 .id), (.sl 1 .id), .id, .id])), (.agg [.id, .id, (.sl 1 .id), (.sl 4 (.agg [.id, .id, (.sl 1 .id), (.sl 4 (.agg [.id, .id, (.sl 1 .id), (.sl 4 .id)]))]))]), .id], cout := [(.agg [.id, .id, (.sl 1 .id), (.sl 4 (.agg [.id, .id, (.sl 1 .id), (.sl 4 (.agg [.id, .id, (.sl 1 .id), (.sl 4 .id)]))]))]), .id], ntmps := 41, keep := false, res := [(6, some (true, 4)), (7, none)], body :=
 (.seq (.reg [⟨(some 4), .box 30 4 (.t 1), none⟩,
 ⟨(some 6), .alloc 30 [(.i .u8 0), (.s []), .nsl, .nsl], none⟩,
 ⟨(some 7), .mv (.c (.i .i64 0)), none⟩])
 (.seq (.blk 0 (.seq (.reg [⟨(some 11), .mv (.t 0), none⟩,
 ⟨(some 12), .call Gs [(.t 11)], none⟩,
 ⟨(some 13), .un .not (.t 12), none⟩,
 ⟨(some 14), .mv (.t 13), none⟩,
 ⟨(some 15), .ld true 4 (.t 4), (some (14, false))⟩,
 ⟨(some 16), .call Kg [(.t 15)], (some (14, false))⟩,
 ⟨(some 17), .un .not (.t 16), (some (14, false))⟩,
 ⟨(some 18), .pick (.t 14) (.c (.b true)) (.t 17), none⟩,
 ⟨(some 10), .mv (.t 18), none⟩])
 (.cond (.t 10)
 (.seq (.reg [⟨(some 19), .build [(.i .u8 0), (.s []), .nsl, .nsl] [], none⟩,
 ⟨none, .st 4 (.t 6) (.t 19), none⟩,
 ⟨(some 7), .mv (.c (.i .i64 4)), none⟩])
 .ret)
 (.seq (.reg [⟨(some 21), .mv (.t 2), none⟩,
 ⟨(some 22), .bin .lss (.t 21) (.c (.i .i64 0)), none⟩,
 ⟨(some 23), .mv (.t 22), none⟩,
 ⟨(some 24), .mv (.t 2), (some (23, false))⟩,
 ⟨(some 25), .mv (.t 0), (some (23, false))⟩,
 ⟨(some 26), .len 1 (.t 25), (some (23, false))⟩,
 ⟨(some 27), .bin .geq (.t 24) (.t 26), (some (23, false))⟩,
 ⟨(some 28), .pick (.t 23) (.c (.b true)) (.t 27), none⟩,
 ⟨(some 20), .mv (.t 28), none⟩])
 (.cond (.t 20)
 (.seq (.reg [⟨(some 29), .build [(.i .u8 0), (.s []), .nsl, .nsl] [], none⟩,
 ⟨none, .st 4 (.t 6) (.t 29), none⟩,
 ⟨(some 7), .mv (.c (.i .i64 1)), none⟩])
 .ret)
 .skip)))))
 (.seq (.reg [⟨(some 31), .mv (.t 0), none⟩,
 ⟨(some 32), .ld true 4 (.t 4), none⟩,
 ⟨(some 33), .mv (.t 2), none⟩,
 ⟨(some 34), .call JS [(.t 31), (.t 32), (.t 33)], none⟩,
 ⟨(some 30), .mv (.t 34), none⟩,
 ⟨(some 35), .ext (.t 30) 0, none⟩,
 ⟨(some 36), .ext (.t 30) 1, none⟩,
 ⟨(some 8), .alloc 30 [(.i .u8 0), (.s []), .nsl, .nsl], none⟩,
 ⟨none, .st 4 (.t 8) (.t 35), none⟩,
 ⟨(some 9), .mv (.t 36), none⟩])
 (.seq (.seq (.reg [⟨(some 37), .mv (.t 9), none⟩,
 ⟨(some 38), .un .not (.t 37), none⟩])
 (.cond (.t 38)
 (.seq (.reg [⟨(some 39), .build [(.i .u8 0), (.s []), .nsl, .nsl] [], none⟩,
 ⟨none, .st 4 (.t 6) (.t 39), none⟩,
 ⟨(some 7), .mv (.c (.i .i64 5)), none⟩])
 .ret)
 .skip))
 (.seq (.reg [⟨(some 40), .ld true 4 (.t 8), none⟩,
 ⟨none, .st 4 (.t 6) (.t 40), none⟩,
 ⟨(some 7), .mv (.c (.i .i64 0)), none⟩])
 .ret))))) }
def Ab : Fun := { cin := [(.sl 1 .id)], cout := [.id], ntmps := 4, keep := false, res := [(2, none)], body :=
 (.seq (.reg [⟨(some 1), .box 23 1 (.t 0), none⟩,
 ⟨(some 2), .mv (.c .nf), none⟩])
 (.seq (.reg [⟨(some 3), .mkf AH [(.t 1)], none⟩,
 ⟨(some 2), .mv (.t 3), none⟩])
 .ret)) }
def D2 : Fun := { cin := [], cout := [], ntmps := 0, keep := false, res := [], body := .bad, prim := some (HL 87) }
def A2 : Fun := { cin := [.id], cout := [.id], ntmps := 4, keep := false, res := [(2, none)], body :=
 (.seq (.reg [⟨(some 1), .box 83 1 (.t 0), none⟩,
 ⟨(some 2), .mv (.c .nf), none⟩])
 (.seq (.reg [⟨(some 3), .mkf AN [(.t 1)], none⟩,
 ⟨(some 2), .mv (.t 3), none⟩])
 .ret)) }
def DV : Fun := { cin := [.id, .id], cout := [.id], ntmps := 17, keep := false, res := [(4, none)], body :=
 (.seq (.reg [⟨(some 4), .mv (.c (.b false)), none⟩])
 (.seq (.reg [⟨(some 5), .mv (.t 0), none⟩,
 ⟨(some 6), .call C9 [(.t 5)], none⟩,
 ⟨(some 7), .mv (.t 6), none⟩,
 ⟨(some 8), .mv (.t 1), (some (7, true))⟩,
 ⟨(some 9), .call C9 [(.t 8)], (some (7, true))⟩,
 ⟨(some 10), .un .not (.t 9), (some (7, true))⟩,
 ⟨(some 11), .pick (.t 7) (.t 10) (.c (.b false)), none⟩,
 ⟨(some 12), .mv (.t 11), none⟩,
 ⟨(some 13), .mv (.t 0), (some (12, false))⟩,
 ⟨(some 14), .mv (.t 1), (some (12, false))⟩,
 ⟨(some 15), .bin .lss (.t 13) (.t 14), (some (12, false))⟩,
 ⟨(some 16), .pick (.t 12) (.c (.b true)) (.t 15), none⟩,
 ⟨(some 4), .mv (.t 16), none⟩])
 .ret)) }
def Ca : Fun := { cin := [.id], cout := [.id], ntmps := 6, keep := false, res := [(2, none)], body :=
 (.seq (.reg [⟨(some 2), .mv (.c (.b false)), none⟩])
 (.seq (.reg [⟨(some 3), .mv (.t 0), none⟩,
 ⟨(some 4), .mv (.t 0), none⟩,
 ⟨(some 5), .bin .neq (.t 3) (.t 4), none⟩,
 ⟨(some 2), .mv (.t 5), none⟩])
 .ret)) }
def Ac : Fun := { cin := [(.sl 6 (.agg [.id, .id, .id, .id, (.sl 1 .id), (.sl 6 (.agg [.id, .id, .id, .id, (.sl 1 .id), (.sl 6 (.agg [.id, .id, .id, .id, .id, .id]))]))])), .id], cout := [.id], ntmps := 19, keep := false, res := [(4, none)], body :=
 (.seq (.reg [⟨(some 4), .mv (.c (.i .i64 0)), none⟩])
 (.seq (.seq (.reg [⟨(some 6), .mv (.t 0), none⟩,
 ⟨(some 7), .len 1 (.t 6), none⟩,
 ⟨(some 8), .mv (.c (.i .i64 0)), none⟩])
 (.blk 0 (.loop (.seq (.reg [⟨(some 9), .bin .lss (.t 8) (.t 7), none⟩])
 (.seq (.cond (.t 9)
 .skip
 (.exit 0))
 (.seq (.blk 1 (.seq (.reg [⟨(some 10), .mv (.t 8), none⟩,
 ⟨(some 5), .mv (.t 10), none⟩])
 (.seq (.reg [⟨(some 11), .mv (.t 1), none⟩,
 ⟨(some 12), .mv (.t 0), none⟩,
 ⟨(some 13), .mv (.t 5), none⟩,
 ⟨(some 14), .ia 6 (.t 12) (.t 13), none⟩,
 ⟨(some 15), .ld true 6 (.t 14), none⟩,
 ⟨(some 16), .callX (.t 11) [(.t 15)], none⟩])
 (.cond (.t 16)
 (.seq (.reg [⟨(some 17), .mv (.t 5), none⟩,
 ⟨(some 4), .mv (.t 17), none⟩])
 .ret)
 .skip))))
 (.reg [⟨(some 18), .bin .add (.t 8) (.c (.i .i64 1)), none⟩,
 ⟨(some 8), .mv (.t 18), none⟩])))))))
 (.seq (.reg [⟨(some 4), .mv (.c (.i .i64 (-1))), none⟩])
 .ret))) }
def BH : Fun := { cin := [.id, .id], cout := [.id], ntmps := 8, keep := false, res := [(4, none)], body :=
 (.seq (.reg [⟨(some 4), .mv (.c (.i .i64 0)), none⟩])
 (.seq (.reg [⟨(some 5), .mv (.t 0), none⟩,
 ⟨(some 6), .mv (.t 1), none⟩,
 ⟨(some 7), .xtn 0 [(.t 5), (.t 6)], none⟩,
 ⟨(some 4), .mv (.t 7), none⟩])
 .ret)) }
def Cb : Fun := { cin := [.id, .id], cout := [.id], ntmps := 9, keep := false, res := [(4, none)], body :=
 (.seq (.reg [⟨(some 4), .mv (.c (.b false)), none⟩])
 (.seq (.reg [⟨(some 5), .mv (.t 0), none⟩,
 ⟨(some 6), .mv (.t 1), none⟩,
 ⟨(some 7), .call Dv [(.t 5), (.t 6)], none⟩,
 ⟨(some 8), .bin .geq (.t 7) (.c (.i .i64 0)), none⟩,
 ⟨(some 4), .mv (.t 8), none⟩])
 .ret)) }
def BJ : Fun := { cin := [(.agg [.id, .id, (.sl 1 .id), (.sl 1 .id), .id, .id])], cout := [.id], ntmps := 10, keep := false, res := [(2, none)], body :=
 (.seq (.reg [⟨(some 1), .box 26 6 (.t 0), none⟩,
 ⟨(some 2), .mv (.c (.b false)), none⟩])
 (.seq (.reg [⟨(some 3), .fa 0 (.t 1), none⟩,
 ⟨(some 4), .ld false 1 (.t 3), none⟩,
 ⟨(some 5), .mv (.t 4), none⟩,
 ⟨(some 6), .fa 1 (.t 1), (some (5, true))⟩,
 ⟨(some 7), .ld false 1 (.t 6), (some (5, true))⟩,
 ⟨(some 8), .bin .eql (.t 7) (.c (.i .u8 2)), (some (5, true))⟩,
 ⟨(some 9), .pick (.t 5) (.t 8) (.c (.b false)), none⟩,
 ⟨(some 2), .mv (.t 9), none⟩])
 .ret)) }
def AY : Fun := { cin := [(.agg [.id, .id, (.sl 1 .id), (.sl 1 .id), .id, .id])], cout := [.id], ntmps := 102, keep := false, res := [(2, none)], body :=
 (.seq (.reg [⟨(some 1), .box 26 6 (.t 0), none⟩,
 ⟨(some 2), .mv (.c (.b false)), none⟩])
 (.seq (.seq (.reg [⟨(some 4), .fa 1 (.t 1), none⟩,
 ⟨(some 5), .ld false 1 (.t 4), none⟩,
 ⟨(some 6), .bin .gtr (.t 5) (.c (.i .u8 3)), none⟩,
 ⟨(some 7), .mv (.t 6), none⟩,
 ⟨(some 8), .fa 0 (.t 1), (some (7, false))⟩,
 ⟨(some 9), .ld false 1 (.t 8), (some (7, false))⟩,
 ⟨(some 10), .un .not (.t 9), (some (7, false))⟩,
 ⟨(some 11), .mv (.t 10), (some (7, false))⟩,
 ⟨(some 12), .fa 1 (.t 1), (some (11, true))⟩,
 ⟨(some 13), .ld false 1 (.t 12), (some (11, true))⟩,
 ⟨(some 14), .bin .neq (.t 13) (.c (.i .u8 0)), (some (11, true))⟩,
 ⟨(some 15), .pick (.t 11) (.t 14) (.c (.b false)), (some (7, false))⟩,
 ⟨(some 16), .pick (.t 7) (.c (.b true)) (.t 15), none⟩,
 ⟨(some 17), .mv (.t 16), none⟩,
 ⟨(some 18), .fa 2 (.t 1), (some (17, false))⟩,
 ⟨(some 19), .ld false 1 (.t 18), (some (17, false))⟩,
 ⟨(some 20), .len 1 (.t 19), (some (17, false))⟩,
 ⟨(some 21), .fa 3 (.t 1), (some (17, false))⟩,
 ⟨(some 22), .ld false 1 (.t 21), (some (17, false))⟩,
 ⟨(some 23), .len 1 (.t 22), (some (17, false))⟩,
 ⟨(some 24), .bin .neq (.t 20) (.t 23), (some (17, false))⟩,
 ⟨(some 25), .pick (.t 17) (.c (.b true)) (.t 24), none⟩])
 (.cond (.t 25)
 (.seq (.reg [⟨(some 2), .mv (.c (.b false)), none⟩])
 .ret)
 .skip))
 (.seq (.seq (.reg [⟨(some 26), .ld true 6 (.t 1), none⟩,
 ⟨(some 27), .call CY [(.t 26)], none⟩,
 ⟨(some 28), .un .not (.t 27), none⟩])
 (.cond (.t 28)
 (.seq (.reg [⟨(some 29), .fa 2 (.t 1), none⟩,
 ⟨(some 30), .ld false 1 (.t 29), none⟩,
 ⟨(some 31), .len 1 (.t 30), none⟩,
 ⟨(some 32), .bin .eql (.t 31) (.c (.i .i64 0)), none⟩,
 ⟨(some 33), .mv (.t 32), none⟩,
 ⟨(some 34), .fa 4 (.t 1), (some (33, true))⟩,
 ⟨(some 35), .ld false 1 (.t 34), (some (33, true))⟩,
 ⟨(some 36), .bin .eql (.t 35) (.c (.i .i64 0)), (some (33, true))⟩,
 ⟨(some 37), .pick (.t 33) (.t 36) (.c (.b false)), none⟩,
 ⟨(some 38), .mv (.t 37), none⟩,
 ⟨(some 39), .fa 5 (.t 1), (some (38, true))⟩,
 ⟨(some 40), .ld false 1 (.t 39), (some (38, true))⟩,
 ⟨(some 41), .bin .eql (.t 40) (.c (.i .i64 0)), (some (38, true))⟩,
 ⟨(some 42), .pick (.t 38) (.t 41) (.c (.b false)), none⟩,
 ⟨(some 2), .mv (.t 42), none⟩])
 .ret)
 .skip))
 (.seq (.seq (.reg [⟨(some 3), .mv (.c (.i .i64 0)), none⟩])
 (.blk 0 (.loop (.seq (.seq (.reg [⟨(some 43), .mv (.t 3), none⟩,
 ⟨(some 44), .fa 2 (.t 1), none⟩,
 ⟨(some 45), .ld false 1 (.t 44), none⟩,
 ⟨(some 46), .len 1 (.t 45), none⟩,
 ⟨(some 47), .bin .lss (.t 43) (.t 46), none⟩])
 (.cond (.t 47)
 .skip
 (.exit 0)))
 (.seq (.blk 1 (.seq (.regD [⟨(some 50), .fa 2 (.t 1), none⟩,
 ⟨(some 51), .ld false 1 (.t 50), none⟩,
 ⟨(some 52), .mv (.t 3), none⟩,
 ⟨(some 53), .ia 1 (.t 51) (.t 52), none⟩,
 ⟨(some 54), .ld false 1 (.t 53), none⟩,
 ⟨(some 55), .call CL [(.t 54)], none⟩,
 ⟨(some 56), .un .not (.t 55), none⟩,
 ⟨(some 57), .mv (.t 56), none⟩,
 ⟨(some 58), .mv (.t 3), (some (57, false))⟩,
 ⟨(some 59), .bin .gtr (.t 58) (.c (.i .i64 0)), (some (57, false))⟩,
 ⟨(some 60), .mv (.t 59), (some (57, false))⟩,
 ⟨(some 61), .fa 2 (.t 1), (some (60, true))⟩,
 ⟨(some 62), .ld false 1 (.t 61), (some (60, true))⟩,
 ⟨(some 63), .mv (.t 3), (some (60, true))⟩,
 ⟨(some 64), .ia 1 (.t 62) (.t 63), (some (60, true))⟩,
 ⟨(some 65), .ld false 1 (.t 64), (some (60, true))⟩,
 ⟨(some 66), .fa 2 (.t 1), (some (60, true))⟩,
 ⟨(some 67), .ld false 1 (.t 66), (some (60, true))⟩,
 ⟨(some 68), .mv (.t 3), (some (60, true))⟩,
 ⟨(some 69), .bin .sub (.t 68) (.c (.i .i64 1)), (some (60, true))⟩,
 ⟨(some 70), .ia 1 (.t 67) (.t 69), (some (60, true))⟩,
 ⟨(some 71), .ld false 1 (.t 70), (some (60, true))⟩,
 ⟨(some 72), .bin .leq (.t 65) (.t 71), (some (60, true))⟩,
 ⟨(some 73), .pick (.t 60) (.t 72) (.c (.b false)), (some (57, false))⟩,
 ⟨(some 74), .pick (.t 57) (.c (.b true)) (.t 73), none⟩] [])
 (.cond (.t 74)
 (.seq (.reg [⟨(some 2), .mv (.c (.b false)), none⟩])
 .ret)
 .skip)))
 (.reg [⟨(some 48), .mv (.t 3), none⟩,
 ⟨(some 49), .bin .add (.t 48) (.c (.i .i64 1)), none⟩,
 ⟨(some 3), .mv (.t 49), none⟩]))))))
 (.seq (.seq (.reg [⟨(some 75), .fa 4 (.t 1), none⟩,
 ⟨(some 76), .ld false 1 (.t 75), none⟩,
 ⟨(some 77), .bin .eql (.t 76) (.c (.i .i64 2)), none⟩])
 (.cond (.t 77)
 (.seq (.reg [⟨(some 78), .fa 5 (.t 1), none⟩,
 ⟨(some 79), .ld false 1 (.t 78), none⟩,
 ⟨(some 80), .bin .geq (.t 79) (.c (.i .i64 0)), none⟩,
 ⟨(some 81), .mv (.t 80), none⟩,
 ⟨(some 82), .fa 5 (.t 1), (some (81, true))⟩,
 ⟨(some 83), .ld false 1 (.t 82), (some (81, true))⟩,
 ⟨(some 84), .fa 2 (.t 1), (some (81, true))⟩,
 ⟨(some 85), .ld false 1 (.t 84), (some (81, true))⟩,
 ⟨(some 86), .len 1 (.t 85), (some (81, true))⟩,
 ⟨(some 87), .bin .leq (.t 83) (.t 86), (some (81, true))⟩,
 ⟨(some 88), .pick (.t 81) (.t 87) (.c (.b false)), none⟩,
 ⟨(some 2), .mv (.t 88), none⟩])
 .ret)
 .skip))
 (.seq (.reg [⟨(some 89), .fa 4 (.t 1), none⟩,
 ⟨(some 90), .ld false 1 (.t 89), none⟩,
 ⟨(some 91), .bin .eql (.t 90) (.c (.i .i64 0)), none⟩,
 ⟨(some 92), .mv (.t 91), none⟩,
 ⟨(some 93), .fa 4 (.t 1), (some (92, false))⟩,
 ⟨(some 94), .ld false 1 (.t 93), (some (92, false))⟩,
 ⟨(some 95), .bin .eql (.t 94) (.c (.i .i64 1)), (some (92, false))⟩,
 ⟨(some 96), .pick (.t 92) (.c (.b true)) (.t 95), none⟩,
 ⟨(some 97), .mv (.t 96), none⟩,
 ⟨(some 98), .fa 5 (.t 1), (some (97, true))⟩,
 ⟨(some 99), .ld false 1 (.t 98), (some (97, true))⟩,
 ⟨(some 100), .bin .eql (.t 99) (.c (.i .i64 0)), (some (97, true))⟩,
 ⟨(some 101), .pick (.t 97) (.t 100) (.c (.b false)), none⟩,
 ⟨(some 2), .mv (.t 101), none⟩])
 .ret)))))) }
def BN : Fun := { cin := [(.sl 6 (.agg [.id, .id, (.sl 1 .id), (.sl 1 .id), .id, .id])), .id], cout := [.id], ntmps := 38, keep := false, res := [(4, none)], body :=
 (.seq (.reg [⟨(some 4), .mv (.c (.i .i64 0)), none⟩])
 (.seq (.reg [⟨(some 5), .mv (.c (.i .i64 (-1))), none⟩])
 (.seq (.seq (.reg [⟨(some 6), .mv (.c (.i .i64 0)), none⟩])
 (.blk 0 (.loop (.seq (.seq (.reg [⟨(some 8), .mv (.t 6), none⟩,
 ⟨(some 9), .mv (.t 0), none⟩,
 ⟨(some 10), .len 1 (.t 9), none⟩,
 ⟨(some 11), .bin .lss (.t 8) (.t 10), none⟩])
 (.cond (.t 11)
 .skip
 (.exit 0)))
 (.seq (.blk 1 (.seq (.reg [⟨(some 7), .mv (.c (.i .i64 0)), none⟩])
 (.blk 2 (.loop (.seq (.seq (.seq (.thw 0)
 (.reg [⟨(some 14), .mv (.t 7), none⟩,
 ⟨(some 15), .mv (.t 0), none⟩,
 ⟨(some 16), .mv (.t 6), none⟩,
 ⟨(some 17), .ia 6 (.t 15) (.t 16), none⟩,
 ⟨(some 18), .fa 3 (.t 17), none⟩,
 ⟨(some 19), .ld false 1 (.t 18), none⟩,
 ⟨(some 20), .len 1 (.t 19), none⟩,
 ⟨(some 21), .bin .lss (.t 14) (.t 20), none⟩]))
 (.cond (.t 21)
 .skip
 (.exit 2)))
 (.seq (.blk 3 (.seq (.seq (.thw 0)
 (.reg [⟨(some 24), .mv (.t 0), none⟩,
 ⟨(some 25), .mv (.t 6), none⟩,
 ⟨(some 26), .ia 6 (.t 24) (.t 25), none⟩,
 ⟨(some 27), .fa 3 (.t 26), none⟩,
 ⟨(some 28), .ld false 1 (.t 27), none⟩,
 ⟨(some 29), .mv (.t 7), none⟩,
 ⟨(some 30), .ia 1 (.t 28) (.t 29), none⟩,
 ⟨(some 31), .ld false 1 (.t 30), none⟩,
 ⟨(some 32), .mv (.t 1), none⟩,
 ⟨(some 33), .bin .eql (.t 31) (.t 32), none⟩]))
 (.cond (.t 33)
 (.seq (.seq (.reg [⟨(some 34), .mv (.t 5), none⟩,
 ⟨(some 35), .bin .geq (.t 34) (.c (.i .i64 0)), none⟩])
 (.cond (.t 35)
 (.seq (.reg [⟨(some 4), .mv (.c (.i .i64 (-1))), none⟩])
 .ret)
 .skip))
 (.reg [⟨(some 36), .mv (.t 6), none⟩,
 ⟨(some 5), .mv (.t 36), none⟩]))
 .skip)))
 (.reg [⟨(some 22), .mv (.t 7), none⟩,
 ⟨(some 23), .bin .add (.t 22) (.c (.i .i64 1)), none⟩,
 ⟨(some 7), .mv (.t 23), none⟩])))))))
 (.reg [⟨(some 12), .mv (.t 6), none⟩,
 ⟨(some 13), .bin .add (.t 12) (.c (.i .i64 1)), none⟩,
 ⟨(some 6), .mv (.t 13), none⟩]))))))
 (.seq (.reg [⟨(some 37), .mv (.t 5), none⟩,
 ⟨(some 4), .mv (.t 37), none⟩])
 .ret)))) }
def BS : Fun := { cin := [(.agg [.id, .id, .id, .id, (.sl 1 .id), (.sl 6 (.agg [.id, .id, .id, .id, (.sl 1 .id), (.sl 6 (.agg [.id, .id, .id, .id, (.sl 1 .id), (.sl 6 .id)]))]))])], cout := [(.agg [.id, .id, (.sl 1 .id), (.sl 4 (.agg [.id, .id, (.sl 1 .id), (.sl 4 (.agg [.id, .id, (.sl 1 .id), (.sl 4 .id)]))]))])], ntmps := 26, keep := false, res := [(2, some (true, 4))], body :=
 (.seq (.reg [⟨(some 1), .box 34 6 (.t 0), none⟩,
 ⟨(some 2), .alloc 30 [(.i .u8 0), (.s []), .nsl, .nsl], none⟩])
 (.seq (.reg [⟨(some 5), .fa 1 (.t 1), none⟩,
 ⟨(some 6), .ld false 1 (.t 5), none⟩,
 ⟨(some 7), .fa 2 (.t 1), none⟩,
 ⟨(some 8), .ld false 1 (.t 7), none⟩,
 ⟨(some 9), .fa 4 (.t 1), none⟩,
 ⟨(some 10), .ld false 1 (.t 9), none⟩,
 ⟨(some 11), .build [(.i .u8 0), (.s []), .nsl, .nsl] [(0, 1, (.t 6)), (1, 1, (.t 8)), (2, 1, (.t 10))], none⟩,
 ⟨(some 3), .alloc 30 [(.i .u8 0), (.s []), .nsl, .nsl], none⟩,
 ⟨none, .st 4 (.t 3) (.t 11), none⟩])
 (.seq (.seq (.reg [⟨(some 4), .mv (.c (.i .i64 0)), none⟩])
 (.blk 0 (.loop (.seq (.seq (.reg [⟨(some 12), .mv (.t 4), none⟩,
 ⟨(some 13), .fa 4 (.t 1), none⟩,
 ⟨(some 14), .ld false 1 (.t 13), none⟩,
 ⟨(some 15), .len 1 (.t 14), none⟩,
 ⟨(some 16), .bin .lss (.t 12) (.t 15), none⟩])
 (.cond (.t 16)
 .skip
 (.exit 0)))
 (.seq (.blk 1 (.reg [⟨(some 19), .fa 3 (.t 3), none⟩,
 ⟨(some 20), .ld false 1 (.t 19), none⟩,
 ⟨(some 21), .build [(.i .u8 0), (.s []), .nsl, .nsl] [(0, 1, (.c (.i .u8 1)))], none⟩,
 ⟨(some 22), .bsl 4 [(.t 21)], none⟩,
 ⟨(some 23), .app 4 30 (.t 20) (.t 22), none⟩,
 ⟨(some 24), .fa 3 (.t 3), none⟩,
 ⟨none, .st 1 (.t 24) (.t 23), none⟩]))
 (.reg [⟨(some 17), .mv (.t 4), none⟩,
 ⟨(some 18), .bin .add (.t 17) (.c (.i .i64 1)), none⟩,
 ⟨(some 4), .mv (.t 18), none⟩]))))))
 (.seq (.reg [⟨(some 25), .ld true 4 (.t 3), none⟩,
 ⟨none, .st 4 (.t 2) (.t 25), none⟩])
 .ret)))) }
def Hs : Fun := { cin := [(.sl 6 (.agg [.id, .id, (.sl 1 .id), (.sl 1 .id), .id, .id])), .id], cout := [(.sl 1 .id), .id], ntmps := 31, keep := false, res := [(4, some (false, 1)), (5, some (false, 1))], body :=
 (.seq (.reg [⟨(some 3), .box 3 1 (.t 1), none⟩,
 ⟨(some 4), .alloc 23 [.nsl], none⟩,
 ⟨(some 5), .alloc 37 [(.i .i64 0)], none⟩])
 (.seq (.blk 0 (.seq (.reg [⟨(some 8), .mv (.t 0), none⟩,
 ⟨(some 9), .call Gs [(.t 8)], none⟩,
 ⟨(some 10), .un .not (.t 9), none⟩,
 ⟨(some 7), .mv (.t 10), none⟩])
 (.cond (.t 7)
 (.seq (.reg [⟨none, .st 1 (.t 4) (.c .nsl), none⟩,
 ⟨none, .st 1 (.t 5) (.c (.i .i64 4)), none⟩])
 .ret)
 (.seq (.reg [⟨(some 12), .ld false 1 (.t 3), none⟩,
 ⟨(some 13), .bin .lss (.t 12) (.c (.i .i64 0)), none⟩,
 ⟨(some 14), .mv (.t 13), none⟩,
 ⟨(some 15), .ld false 1 (.t 3), (some (14, false))⟩,
 ⟨(some 16), .mv (.t 0), (some (14, false))⟩,
 ⟨(some 17), .len 1 (.t 16), (some (14, false))⟩,
 ⟨(some 18), .bin .geq (.t 15) (.t 17), (some (14, false))⟩,
 ⟨(some 19), .pick (.t 14) (.c (.b true)) (.t 18), none⟩,
 ⟨(some 11), .mv (.t 19), none⟩])
 (.cond (.t 11)
 (.seq (.reg [⟨none, .st 1 (.t 4) (.c .nsl), none⟩,
 ⟨none, .st 1 (.t 5) (.c (.i .i64 1)), none⟩])
 .ret)
 .skip)))))
 (.seq (.seq (.reg [⟨(some 20), .mv (.t 0), none⟩,
 ⟨(some 21), .build [(.i .i64 0), .nsl] [], none⟩,
 ⟨(some 22), .call Ho [(.t 20), (.t 21)], none⟩])
 (.blk 1 (.rf (.t 22) [23] (.reg [⟨(some 6), .alloc 105 [(.i .i64 0), .nsl], none⟩,
 ⟨none, .st 2 (.t 6) (.t 23), none⟩])
 (.blk 2 (.seq (.reg [⟨(some 24), .fa 0 (.t 6), none⟩,
 ⟨(some 25), .ld false 1 (.t 24), none⟩,
 ⟨(some 26), .ld false 1 (.t 3), none⟩,
 ⟨(some 27), .bin .eql (.t 25) (.t 26), none⟩])
 (.cond (.t 27)
 (.seq (.reg [⟨(some 28), .fa 1 (.t 6), none⟩,
 ⟨(some 29), .ld false 1 (.t 28), none⟩,
 ⟨(some 30), .call AZ [(.t 29)], none⟩,
 ⟨none, .st 1 (.t 4) (.t 30), none⟩,
 ⟨none, .st 1 (.t 5) (.c (.i .i64 0)), none⟩])
 .ret)
 .skip))))))
 (.seq (.reg [⟨none, .st 1 (.t 4) (.c .nsl), none⟩,
 ⟨none, .st 1 (.t 5) (.c (.i .i64 1)), none⟩])
 .ret)))) }
def JF : Fun := { cin := [(.agg [.id, .id, (.sl 1 .id), (.sl 4 (.agg [.id, .id, (.sl 1 .id), (.sl 4 (.agg [.id, .id, (.sl 1 .id), (.sl 4 .id)]))]))]), (.sl 1 .id)], cout := [(.agg [.id, .id, (.sl 1 .id), (.sl 4 (.agg [.id, .id, (.sl 1 .id), (.sl 4 (.agg [.id, .id, (.sl 1 .id), (.sl 4 .id)]))]))]), .id], ntmps := 21, keep := false, res := [(4, some (true, 4)), (5, none)], body :=
 (.seq (.reg [⟨(some 2), .box 30 4 (.t 0), none⟩,
 ⟨(some 4), .alloc 30 [(.i .u8 0), (.s []), .nsl, .nsl], none⟩,
 ⟨(some 5), .mv (.c (.b false)), none⟩])
 (.seq (.seq (.reg [⟨(some 8), .ld true 4 (.t 2), none⟩,
 ⟨(some 9), .call Co [(.t 8)], none⟩,
 ⟨(some 10), .un .not (.t 9), none⟩])
 (.cond (.t 10)
 (.seq (.reg [⟨(some 11), .build [(.i .u8 0), (.s []), .nsl, .nsl] [], none⟩,
 ⟨none, .st 4 (.t 4) (.t 11), none⟩,
 ⟨(some 5), .mv (.c (.b false)), none⟩])
 .ret)
 .skip))
 (.seq (.reg [⟨(some 13), .ld true 4 (.t 2), none⟩,
 ⟨(some 14), .mv (.t 1), none⟩,
 ⟨(some 15), .call JU [(.t 13), (.t 14)], none⟩,
 ⟨(some 12), .mv (.t 15), none⟩,
 ⟨(some 16), .ext (.t 12) 0, none⟩,
 ⟨(some 17), .ext (.t 12) 1, none⟩,
 ⟨(some 6), .alloc 30 [(.i .u8 0), (.s []), .nsl, .nsl], none⟩,
 ⟨none, .st 4 (.t 6) (.t 16), none⟩,
 ⟨(some 7), .mv (.t 17), none⟩])
 (.seq (.reg [⟨(some 18), .ld true 4 (.t 6), none⟩,
 ⟨(some 19), .call Hq [(.t 18)], none⟩,
 ⟨(some 20), .mv (.t 7), none⟩,
 ⟨none, .st 4 (.t 4) (.t 19), none⟩,
 ⟨(some 5), .mv (.t 20), none⟩])
 .ret)))) }
def A9 : Fun := { cin := [(.sl 1 .id), .id], cout := [.id], ntmps := 19, keep := false, res := [(4, none)], body :=
 (.seq (.reg [⟨(some 4), .mv (.c (.i .i64 0)), none⟩])
 (.seq (.seq (.reg [⟨(some 6), .mv (.t 0), none⟩,
 ⟨(some 7), .len 1 (.t 6), none⟩,
 ⟨(some 8), .mv (.c (.i .i64 0)), none⟩])
 (.blk 0 (.loop (.seq (.reg [⟨(some 9), .bin .lss (.t 8) (.t 7), none⟩])
 (.seq (.cond (.t 9)
 .skip
 (.exit 0))
 (.seq (.blk 1 (.seq (.reg [⟨(some 10), .mv (.t 8), none⟩,
 ⟨(some 5), .mv (.t 10), none⟩])
 (.seq (.reg [⟨(some 11), .mv (.t 1), none⟩,
 ⟨(some 12), .mv (.t 0), none⟩,
 ⟨(some 13), .mv (.t 5), none⟩,
 ⟨(some 14), .ia 1 (.t 12) (.t 13), none⟩,
 ⟨(some 15), .ld false 1 (.t 14), none⟩,
 ⟨(some 16), .callX (.t 11) [(.t 15)], none⟩])
 (.cond (.t 16)
 (.seq (.reg [⟨(some 17), .mv (.t 5), none⟩,
 ⟨(some 4), .mv (.t 17), none⟩])
 .ret)
 .skip))))
 (.reg [⟨(some 18), .bin .add (.t 8) (.c (.i .i64 1)), none⟩,
 ⟨(some 8), .mv (.t 18), none⟩])))))))
 (.seq (.reg [⟨(some 4), .mv (.c (.i .i64 (-1))), none⟩])
 .ret))) }
def B9 : Fun := { cin := [(.sl 1 .id), (.sl 1 .id)], cout := [.id], ntmps := 26, keep := false, res := [(4, none)], body :=
 (.seq (.reg [⟨(some 4), .mv (.c (.b false)), none⟩])
 (.seq (.seq (.reg [⟨(some 6), .mv (.t 0), none⟩,
 ⟨(some 7), .len 1 (.t 6), none⟩,
 ⟨(some 8), .mv (.t 1), none⟩,
 ⟨(some 9), .len 1 (.t 8), none⟩,
 ⟨(some 10), .bin .neq (.t 7) (.t 9), none⟩])
 (.cond (.t 10)
 (.seq (.reg [⟨(some 4), .mv (.c (.b false)), none⟩])
 .ret)
 .skip))
 (.seq (.seq (.reg [⟨(some 11), .mv (.t 0), none⟩,
 ⟨(some 12), .len 1 (.t 11), none⟩,
 ⟨(some 13), .mv (.c (.i .i64 0)), none⟩])
 (.blk 0 (.loop (.seq (.reg [⟨(some 14), .bin .lss (.t 13) (.t 12), none⟩])
 (.seq (.cond (.t 14)
 .skip
 (.exit 0))
 (.seq (.blk 1 (.seq (.reg [⟨(some 15), .mv (.t 13), none⟩,
 ⟨(some 5), .mv (.t 15), none⟩])
 (.seq (.regD [⟨(some 16), .mv (.t 0), none⟩,
 ⟨(some 17), .mv (.t 5), none⟩,
 ⟨(some 18), .ia 1 (.t 16) (.t 17), none⟩,
 ⟨(some 19), .ld false 1 (.t 18), none⟩,
 ⟨(some 20), .mv (.t 1), none⟩,
 ⟨(some 21), .mv (.t 5), none⟩,
 ⟨(some 22), .ia 1 (.t 20) (.t 21), none⟩,
 ⟨(some 23), .ld false 1 (.t 22), none⟩,
 ⟨(some 24), .bin .neq (.t 19) (.t 23), none⟩] [])
 (.cond (.t 24)
 (.seq (.reg [⟨(some 4), .mv (.c (.b false)), none⟩])
 .ret)
 .skip))))
 (.reg [⟨(some 25), .bin .add (.t 13) (.c (.i .i64 1)), none⟩,
 ⟨(some 13), .mv (.t 25), none⟩])))))))
 (.seq (.reg [⟨(some 4), .mv (.c (.b true)), none⟩])
 .ret)))) }
def Ai : Fun := { cin := [(.sl 6 (.agg [.id, .id, .id, .id, (.sl 1 .id), (.sl 6 (.agg [.id, .id, .id, .id, (.sl 1 .id), (.sl 6 (.agg [.id, .id, .id, .id, .id, .id]))]))])), (.sl 6 (.agg [.id, .id, .id, .id, (.sl 1 .id), (.sl 6 (.agg [.id, .id, .id, .id, (.sl 1 .id), (.sl 6 (.agg [.id, .id, .id, .id, .id, .id]))]))])), .id], cout := [.id], ntmps := 32, keep := false, res := [(6, none)], body :=
 (.seq (.reg [⟨(some 6), .mv (.c (.b false)), none⟩])
 (.seq (.seq (.reg [⟨(some 10), .mv (.t 0), none⟩,
 ⟨(some 11), .len 1 (.t 10), none⟩,
 ⟨(some 12), .mv (.t 1), none⟩,
 ⟨(some 13), .len 1 (.t 12), none⟩,
 ⟨(some 14), .bin .neq (.t 11) (.t 13), none⟩])
 (.cond (.t 14)
 (.seq (.reg [⟨(some 6), .mv (.c (.b false)), none⟩])
 .ret)
 .skip))
 (.seq (.seq (.reg [⟨(some 15), .mv (.t 0), none⟩,
 ⟨(some 16), .len 1 (.t 15), none⟩,
 ⟨(some 17), .mv (.c (.i .i64 0)), none⟩])
 (.blk 0 (.loop (.seq (.reg [⟨(some 18), .bin .lss (.t 17) (.t 16), none⟩])
 (.seq (.cond (.t 18)
 .skip
 (.exit 0))
 (.seq (.blk 1 (.seq (.reg [⟨(some 19), .mv (.t 17), none⟩,
 ⟨(some 20), .ia 6 (.t 15) (.t 17), none⟩,
 ⟨(some 21), .ld true 6 (.t 20), none⟩,
 ⟨(some 8), .alloc 34 [(.i .i64 0), (.i .u8 0), (.s []), (.i .i64 0), .nsl, .nsl], none⟩,
 ⟨(some 7), .mv (.t 19), none⟩,
 ⟨none, .st 6 (.t 8) (.t 21), none⟩])
 (.seq (.reg [⟨(some 22), .mv (.t 1), none⟩,
 ⟨(some 23), .mv (.t 7), none⟩,
 ⟨(some 24), .ia 6 (.t 22) (.t 23), none⟩,
 ⟨(some 25), .ld true 6 (.t 24), none⟩,
 ⟨(some 9), .alloc 34 [(.i .i64 0), (.i .u8 0), (.s []), (.i .i64 0), .nsl, .nsl], none⟩,
 ⟨none, .st 6 (.t 9) (.t 25), none⟩])
 (.seq (.reg [⟨(some 26), .mv (.t 2), none⟩,
 ⟨(some 27), .ld true 6 (.t 8), none⟩,
 ⟨(some 28), .ld true 6 (.t 9), none⟩,
 ⟨(some 29), .callX (.t 26) [(.t 27), (.t 28)], none⟩,
 ⟨(some 30), .un .not (.t 29), none⟩])
 (.cond (.t 30)
 (.seq (.reg [⟨(some 6), .mv (.c (.b false)), none⟩])
 .ret)
 .skip)))))
 (.reg [⟨(some 31), .bin .add (.t 17) (.c (.i .i64 1)), none⟩,
 ⟨(some 17), .mv (.t 31), none⟩])))))))
 (.seq (.reg [⟨(some 6), .mv (.c (.b true)), none⟩])
 .ret)))) }
def Ak : Fun := { cin := [.id], cout := [], ntmps := 16, keep := false, res := [], body :=
 (.seq (.reg [⟨(some 5), .ld false 1 (.t 1), none⟩,
 ⟨(some 6), .len 1 (.t 5), none⟩,
 ⟨(some 7), .mv (.c (.i .i64 0)), none⟩])
 (.blk 0 (.loop (.seq (.reg [⟨(some 8), .bin .lss (.t 7) (.t 6), none⟩])
 (.seq (.cond (.t 8)
 .skip
 (.exit 0))
 (.seq (.blk 1 (.seq (.reg [⟨(some 9), .ia 1 (.t 5) (.t 7), none⟩,
 ⟨(some 10), .ld false 1 (.t 9), none⟩,
 ⟨(some 4), .mv (.t 10), none⟩])
 (.seq (.reg [⟨(some 11), .mv (.t 0), none⟩,
 ⟨(some 12), .mv (.t 4), none⟩,
 ⟨(some 13), .callX (.t 11) [(.t 12)], none⟩,
 ⟨(some 14), .un .not (.t 13), none⟩])
 (.cond (.t 14)
 .ret
 .skip))))
 (.reg [⟨(some 15), .bin .add (.t 7) (.c (.i .i64 1)), none⟩,
 ⟨(some 7), .mv (.t 15), none⟩]))))))) }
def BK : Fun := { cin := [.id], cout := [], ntmps := 14, keep := false, res := [], body :=
 (.seq (.reg [⟨(some 4), .ld false 1 (.t 1), none⟩,
 ⟨(some 5), .bad, none⟩])
 (.blk 0 (.loop (.seq (.reg [⟨(some 6), .bad, none⟩,
 ⟨(some 7), .ext (.t 6) 0, none⟩])
 (.seq (.cond (.t 7)
 .skip
 (.exit 0))
 (.blk 1 (.seq (.reg [⟨(some 8), .bad, none⟩,
 ⟨(some 9), .ext (.t 8) 0, none⟩,
 ⟨(some 3), .mv (.t 9), none⟩])
 (.seq (.reg [⟨(some 10), .mv (.t 0), none⟩,
 ⟨(some 11), .mv (.t 3), none⟩,
 ⟨(some 12), .callX (.t 10) [(.t 11)], none⟩,
 ⟨(some 13), .un .not (.t 12), none⟩])
 (.cond (.t 13)
 .ret
 .skip))))))))) }
def DA : Fun := { cin := [.id], cout := [.id], ntmps := 6, keep := false, res := [(2, none)], body :=
 (.seq (.reg [⟨(some 2), .mv (.c (.b false)), none⟩])
 (.seq (.reg [⟨(some 3), .mv (.t 0), none⟩,
 ⟨(some 4), .mv (.t 0), none⟩,
 ⟨(some 5), .bin .neq (.t 3) (.t 4), none⟩,
 ⟨(some 2), .mv (.t 5), none⟩])
 .ret)) }
def Be : Fun := { cin := [.id, .id], cout := [.id], ntmps := 55, keep := false, res := [(4, none)], body :=
 (.seq (.reg [⟨(some 4), .mv (.c (.i .i64 0)), none⟩])
 (.seq (.seq (.reg [⟨(some 11), .mv (.t 1), none⟩,
 ⟨(some 12), .bin .eql (.t 11) (.c (.s [])), none⟩])
 (.cond (.t 12)
 (.seq (.reg [⟨(some 4), .mv (.c (.i .i64 (-1))), none⟩])
 .ret)
 .skip))
 (.seq (.seq (.reg [⟨(some 13), .mv (.t 1), none⟩,
 ⟨(some 14), .len 0 (.t 13), none⟩,
 ⟨(some 15), .bin .eql (.t 14) (.c (.i .i64 1)), none⟩])
 (.cond (.t 15)
 (.seq (.reg [⟨(some 16), .mv (.t 1), none⟩,
 ⟨(some 17), .ixS (.t 16) (.c (.i .i64 0)), none⟩,
 ⟨(some 18), .cvI .i32 (.t 17), none⟩,
 ⟨(some 5), .mv (.t 18), none⟩])
 (.seq (.seq (.reg [⟨(some 19), .mv (.t 5), none⟩,
 ⟨(some 20), .bin .geq (.t 19) (.c (.i .i32 128)), none⟩])
 (.cond (.t 20)
 (.reg [⟨(some 5), .mv (.c (.i .i32 65533)), none⟩])
 .skip))
 (.seq (.reg [⟨(some 21), .mv (.t 0), none⟩,
 ⟨(some 22), .mv (.t 5), none⟩,
 ⟨(some 23), .call Bu [(.t 21), (.t 22)], none⟩,
 ⟨(some 4), .mv (.t 23), none⟩])
 .ret)))
 .skip))
 (.seq (.seq (.reg [⟨(some 24), .mv (.t 0), none⟩,
 ⟨(some 25), .len 0 (.t 24), none⟩,
 ⟨(some 26), .call Bc [(.t 25)], none⟩])
 (.cond (.t 26)
 (.seq (.reg [⟨(some 28), .mv (.t 1), none⟩,
 ⟨(some 29), .call CM [(.t 28)], none⟩,
 ⟨(some 27), .mv (.t 29), none⟩,
 ⟨(some 30), .ext (.t 27) 0, none⟩,
 ⟨(some 31), .ext (.t 27) 1, none⟩,
 ⟨(some 6), .alloc 118 [(.b false), (.b false), (.b false), (.b false), (.b false), (.b false), (.b false), (.b false), (.b false), (.b false), (.b false), (.b false), (.b false), (.b false), (.b false), (.b false), (.b false), (.b false), (.b false), (.b false), (.b false), (.b false), (.b false), (.b false), (.b false), (.b false), (.b false), (.b false), (.b false), (.b false), (.b false), (.b false), (.b false), (.b false), (.b false), (.b false), (.b false), (.b false), (.b false), (.b false), (.b false), (.b false), (.b false), (.b false), (.b false), (.b false), (.b false), (.b false), (.b false), (.b false), (.b false), (.b false), (.b false), (.b false), (.b false), (.b false), (.b false), (.b false), (.b false), (.b false), (.b false), (.b false), (.b false), (.b false), (.b false), (.b false), (.b false), (.b false), (.b false), (.b false), (.b false), (.b false), (.b false), (.b false), (.b false), (.b false), (.b false), (.b false), (.b false), (.b false), (.b false), (.b false), (.b false), (.b false), (.b false), (.b false), (.b false), (.b false), (.b false), (.b false), (.b false), (.b false), (.b false), (.b false), (.b false), (.b false), (.b false), (.b false), (.b false), (.b false), (.b false), (.b false), (.b false), (.b false), (.b false), (.b false), (.b false), (.b false), (.b false), (.b false), (.b false), (.b false), (.b false), (.b false), (.b false), (.b false), (.b false), (.b false), (.b false), (.b false), (.b false), (.b false), (.b false), (.b false), (.b false), (.b false), (.b false), (.b false), (.b false), (.b false), (.b false), (.b false), (.b false), (.b false), (.b false), (.b false), (.b false), (.b false), (.b false), (.b false), (.b false), (.b false), (.b false), (.b false), (.b false), (.b false), (.b false), (.b false), (.b false), (.b false), (.b false), (.b false), (.b false), (.b false), (.b false), (.b false), (.b false), (.b false), (.b false), (.b false), (.b false), (.b false), (.b false), (.b false), (.b false), (.b false), (.b false), (.b false), (.b false), (.b false), (.b false), (.b false), (.b false), (.b false), (.b false), (.b false), (.b false), (.b false), (.b false), (.b false), (.b false), (.b false), (.b false), (.b false), (.b false), (.b false), (.b false), (.b false), (.b false), (.b false), (.b false), (.b false), (.b false), (.b false), (.b false), (.b false), (.b false), (.b false), (.b false), (.b false), (.b false), (.b false), (.b false), (.b false), (.b false), (.b false), (.b false), (.b false), (.b false), (.b false), (.b false), (.b false), (.b false), (.b false), (.b false), (.b false), (.b false), (.b false), (.b false), (.b false), (.b false), (.b false), (.b false), (.b false), (.b false), (.b false), (.b false), (.b false), (.b false), (.b false), (.b false), (.b false), (.b false), (.b false), (.b false), (.b false), (.b false), (.b false), (.b false), (.b false), (.b false), (.b false), (.b false), (.b false), (.b false), (.b false), (.b false), (.b false), (.b false), (.b false), (.b false), (.b false), (.b false), (.b false), (.b false), (.b false)], none⟩,
 ⟨none, .st 256 (.t 6) (.t 30), none⟩,
 ⟨(some 7), .mv (.t 31), none⟩])
 (.seq (.reg [⟨(some 32), .mv (.t 7), none⟩])
 (.cond (.t 32)
 (.seq (.seq (.reg [⟨(some 8), .mv (.c (.i .i64 0)), none⟩])
 (.blk 0 (.loop (.seq (.seq (.reg [⟨(some 33), .mv (.t 8), none⟩,
 ⟨(some 34), .mv (.t 0), none⟩,
 ⟨(some 35), .len 0 (.t 34), none⟩,
 ⟨(some 36), .bin .lss (.t 33) (.t 35), none⟩])
 (.cond (.t 36)
 .skip
 (.exit 0)))
 (.seq (.blk 1 (.seq (.reg [⟨(some 39), .mv (.t 0), none⟩,
 ⟨(some 40), .mv (.t 8), none⟩,
 ⟨(some 41), .ixS (.t 39) (.t 40), none⟩,
 ⟨(some 42), .call Bd [(.t 6), (.t 41)], none⟩])
 (.cond (.t 42)
 (.seq (.reg [⟨(some 43), .mv (.t 8), none⟩,
 ⟨(some 4), .mv (.t 43), none⟩])
 .ret)
 .skip)))
 (.reg [⟨(some 37), .mv (.t 8), none⟩,
 ⟨(some 38), .bin .add (.t 37) (.c (.i .i64 1)), none⟩,
 ⟨(some 8), .mv (.t 38), none⟩]))))))
 (.seq (.reg [⟨(some 4), .mv (.c (.i .i64 (-1))), none⟩])
 .ret))
 .skip)))
 .skip))
 (.seq (.seq (.reg [⟨(some 44), .mv (.t 0), none⟩,
 ⟨(some 45), .siter (.t 44), none⟩])
 (.blk 2 (.loop (.seq (.reg [⟨(some 46), .snext (.t 45), none⟩,
 ⟨(some 47), .ext (.t 46) 0, none⟩])
 (.seq (.cond (.t 47)
 .skip
 (.exit 2))
 (.blk 3 (.seq (.reg [⟨(some 48), .ext (.t 46) 1, none⟩,
 ⟨(some 49), .ext (.t 46) 2, none⟩,
 ⟨(some 9), .mv (.t 48), none⟩,
 ⟨(some 10), .mv (.t 49), none⟩])
 (.seq (.reg [⟨(some 50), .mv (.t 1), none⟩,
 ⟨(some 51), .mv (.t 10), none⟩,
 ⟨(some 52), .call Bu [(.t 50), (.t 51)], none⟩,
 ⟨(some 53), .bin .geq (.t 52) (.c (.i .i64 0)), none⟩])
 (.cond (.t 53)
 (.seq (.reg [⟨(some 54), .mv (.t 9), none⟩,
 ⟨(some 4), .mv (.t 54), none⟩])
 .ret)
 .skip)))))))))
 (.seq (.reg [⟨(some 4), .mv (.c (.i .i64 (-1))), none⟩])
 .ret)))))) }
def Ht : Fun := { cin := [(.sl 6 (.agg [.id, .id, (.sl 1 .id), (.sl 1 .id), .id, .id])), (.agg [.id, (.sl 1 .id)])], cout := [.id], ntmps := 6, keep := false, res := [(4, none)], body :=
 (.seq (.reg [⟨(some 2), .box 27 1 (.t 0), none⟩,
 ⟨(some 3), .box 105 2 (.t 1), none⟩,
 ⟨(some 4), .mv (.c .nf), none⟩])
 (.seq (.reg [⟨(some 5), .mkf Ig [(.t 3), (.t 2)], none⟩,
 ⟨(some 4), .mv (.t 5), none⟩])
 .ret)) }
def Gv : Fun := { cin := [(.agg [.id, .id, (.sl 1 .id), (.sl 4 (.agg [.id, .id, (.sl 1 .id), (.sl 4 (.agg [.id, .id, (.sl 1 .id), (.sl 4 .id)]))]))]), (.sl 1 .id)], cout := [(.agg [.id, .id, (.sl 1 .id), (.sl 4 (.agg [.id, .id, (.sl 1 .id), (.sl 4 (.agg [.id, .id, (.sl 1 .id), (.sl 4 .id)]))]))]), .id], ntmps := 38, keep := false, res := [(4, some (true, 4)), (5, none)], body :=
 (.seq (.reg [⟨(some 2), .box 30 4 (.t 0), none⟩,
 ⟨(some 4), .alloc 30 [(.i .u8 0), (.s []), .nsl, .nsl], none⟩,
 ⟨(some 5), .mv (.c (.b false)), none⟩])
 (.seq (.seq (.reg [⟨(some 10), .mv (.t 1), none⟩,
 ⟨(some 11), .len 1 (.t 10), none⟩,
 ⟨(some 12), .mv (.c (.i .i64 0)), none⟩])
 (.blk 0 (.loop (.seq (.reg [⟨(some 13), .bin .lss (.t 12) (.t 11), none⟩])
 (.seq (.cond (.t 13)
 .skip
 (.exit 0))
 (.seq (.blk 1 (.seq (.reg [⟨(some 14), .ia 1 (.t 10) (.t 12), none⟩,
 ⟨(some 15), .ld false 1 (.t 14), none⟩,
 ⟨(some 7), .mv (.t 15), none⟩])
 (.seq (.reg [⟨(some 17), .fa 2 (.t 2), none⟩,
 ⟨(some 18), .ld false 1 (.t 17), none⟩,
 ⟨(some 19), .mv (.t 7), none⟩,
 ⟨(some 20), .call Ae [(.t 18), (.t 19)], none⟩,
 ⟨(some 16), .mv (.t 20), none⟩,
 ⟨(some 21), .ext (.t 16) 0, none⟩,
 ⟨(some 22), .ext (.t 16) 1, none⟩,
 ⟨(some 8), .mv (.t 21), none⟩,
 ⟨(some 9), .mv (.t 22), none⟩])
 (.seq (.seq (.reg [⟨(some 23), .fa 0 (.t 2), none⟩,
 ⟨(some 24), .ld false 1 (.t 23), none⟩,
 ⟨(some 25), .bin .neq (.t 24) (.c (.i .u8 2)), none⟩,
 ⟨(some 26), .mv (.t 25), none⟩,
 ⟨(some 27), .mv (.t 9), (some (26, false))⟩,
 ⟨(some 28), .un .not (.t 27), (some (26, false))⟩,
 ⟨(some 29), .pick (.t 26) (.c (.b true)) (.t 28), none⟩])
 (.cond (.t 29)
 (.seq (.reg [⟨(some 30), .build [(.i .u8 0), (.s []), .nsl, .nsl] [], none⟩,
 ⟨none, .st 4 (.t 4) (.t 30), none⟩,
 ⟨(some 5), .mv (.c (.b false)), none⟩])
 .ret)
 .skip))
 (.reg [⟨(some 31), .fa 3 (.t 2), none⟩,
 ⟨(some 32), .ld false 1 (.t 31), none⟩,
 ⟨(some 33), .mv (.t 8), none⟩,
 ⟨(some 34), .ia 4 (.t 32) (.t 33), none⟩,
 ⟨(some 35), .ld true 4 (.t 34), none⟩,
 ⟨none, .st 4 (.t 2) (.t 35), none⟩])))))
 (.reg [⟨(some 36), .bin .add (.t 12) (.c (.i .i64 1)), none⟩,
 ⟨(some 12), .mv (.t 36), none⟩])))))))
 (.seq (.reg [⟨(some 37), .ld true 4 (.t 2), none⟩,
 ⟨none, .st 4 (.t 4) (.t 37), none⟩,
 ⟨(some 5), .mv (.c (.b true)), none⟩])
 .ret))) }
def Hu : Fun := { cin := [(.agg [.id, .id, (.sl 1 .id), (.sl 4 (.agg [.id, .id, (.sl 1 .id), (.sl 4 (.agg [.id, .id, (.sl 1 .id), (.sl 4 .id)]))]))])], cout := [(.agg [.id, .id, (.sl 1 .id), (.sl 4 (.agg [.id, .id, (.sl 1 .id), (.sl 4 (.agg [.id, .id, (.sl 1 .id), (.sl 4 .id)]))]))])], ntmps := 26, keep := false, res := [(2, some (true, 4))], body :=
 (.seq (.reg [⟨(some 1), .box 30 4 (.t 0), none⟩,
 ⟨(some 2), .alloc 30 [(.i .u8 0), (.s []), .nsl, .nsl], none⟩])
 (.seq (.reg [⟨(some 6), .fa 2 (.t 1), none⟩,
 ⟨(some 7), .ld false 1 (.t 6), none⟩,
 ⟨(some 8), .call AZ [(.t 7)], none⟩,
 ⟨(some 9), .fa 2 (.t 1), none⟩,
 ⟨none, .st 1 (.t 9) (.t 8), none⟩])
 (.seq (.reg [⟨(some 3), .mv (.c .nsl), none⟩])
 (.seq (.seq (.reg [⟨(some 10), .fa 3 (.t 1), none⟩,
 ⟨(some 11), .ld false 1 (.t 10), none⟩,
 ⟨(some 12), .len 1 (.t 11), none⟩,
 ⟨(some 13), .mv (.c (.i .i64 0)), none⟩])
 (.blk 0 (.loop (.seq (.reg [⟨(some 14), .bin .lss (.t 13) (.t 12), none⟩])
 (.seq (.cond (.t 14)
 .skip
 (.exit 0))
 (.seq (.blk 1 (.seq (.reg [⟨(some 15), .ia 4 (.t 11) (.t 13), none⟩,
 ⟨(some 16), .ld true 4 (.t 15), none⟩,
 ⟨(some 5), .alloc 30 [(.i .u8 0), (.s []), .nsl, .nsl], none⟩,
 ⟨none, .st 4 (.t 5) (.t 16), none⟩])
 (.reg [⟨(some 17), .mv (.t 3), none⟩,
 ⟨(some 18), .ld true 4 (.t 5), none⟩,
 ⟨(some 19), .call Hq [(.t 18)], none⟩,
 ⟨(some 20), .bsl 4 [(.t 19)], none⟩,
 ⟨(some 21), .app 4 30 (.t 17) (.t 20), none⟩,
 ⟨(some 3), .mv (.t 21), none⟩])))
 (.reg [⟨(some 22), .bin .add (.t 13) (.c (.i .i64 1)), none⟩,
 ⟨(some 13), .mv (.t 22), none⟩])))))))
 (.seq (.reg [⟨(some 23), .mv (.t 3), none⟩,
 ⟨(some 24), .fa 3 (.t 1), none⟩,
 ⟨none, .st 1 (.t 24) (.t 23), none⟩])
 (.seq (.reg [⟨(some 25), .ld true 4 (.t 1), none⟩,
 ⟨none, .st 4 (.t 2) (.t 25), none⟩])
 .ret)))))) }
def BC : Fun := { cin := [.id, .id], cout := [.id], ntmps := 187, keep := false, res := [(4, none)], body :=
 (.seq (.reg [⟨(some 4), .mv (.c (.i .i64 0)), none⟩])
 (.blk 0 (.seq (.reg [⟨(some 161), .mv (.t 1), none⟩,
 ⟨(some 162), .bin .leq (.c (.i .i32 0)) (.t 161), none⟩,
 ⟨(some 163), .mv (.t 162), none⟩,
 ⟨(some 164), .mv (.t 1), (some (163, true))⟩,
 ⟨(some 165), .bin .lss (.t 164) (.c (.i .i32 128)), (some (163, true))⟩,
 ⟨(some 166), .pick (.t 163) (.t 165) (.c (.b false)), none⟩,
 ⟨(some 160), .mv (.t 166), none⟩])
 (.cond (.t 160)
 (.seq (.reg [⟨(some 167), .mv (.t 0), none⟩,
 ⟨(some 168), .mv (.t 1), none⟩,
 ⟨(some 169), .cvI .u8 (.t 168), none⟩,
 ⟨(some 170), .call Bt [(.t 167), (.t 169)], none⟩,
 ⟨(some 4), .mv (.t 170), none⟩])
 .ret)
 (.seq (.reg [⟨(some 172), .mv (.t 1), none⟩,
 ⟨(some 173), .bin .eql (.t 172) (.c (.i .i32 65533)), none⟩,
 ⟨(some 171), .mv (.t 173), none⟩])
 (.cond (.t 171)
 (.seq (.seq (.reg [⟨(some 174), .mv (.t 0), none⟩,
 ⟨(some 175), .siter (.t 174), none⟩])
 (.blk 9 (.loop (.seq (.reg [⟨(some 176), .snext (.t 175), none⟩,
 ⟨(some 177), .ext (.t 176) 0, none⟩])
 (.seq (.cond (.t 177)
 .skip
 (.exit 9))
 (.blk 10 (.seq (.reg [⟨(some 178), .ext (.t 176) 1, none⟩,
 ⟨(some 179), .ext (.t 176) 2, none⟩,
 ⟨(some 5), .mv (.t 178), none⟩,
 ⟨(some 6), .mv (.t 179), none⟩])
 (.seq (.reg [⟨(some 180), .mv (.t 6), none⟩,
 ⟨(some 181), .bin .eql (.t 180) (.c (.i .i32 65533)), none⟩])
 (.cond (.t 181)
 (.seq (.reg [⟨(some 182), .mv (.t 5), none⟩,
 ⟨(some 4), .mv (.t 182), none⟩])
 .ret)
 .skip)))))))))
 (.seq (.reg [⟨(some 4), .mv (.c (.i .i64 (-1))), none⟩])
 .ret))
 (.seq (.reg [⟨(some 184), .mv (.t 1), none⟩,
 ⟨(some 185), .call Cl [(.t 184)], none⟩,
 ⟨(some 186), .un .not (.t 185), none⟩,
 ⟨(some 183), .mv (.t 186), none⟩])
 (.cond (.t 183)
 (.seq (.reg [⟨(some 4), .mv (.c (.i .i64 (-1))), none⟩])
 .ret)
 (.seq (.reg [⟨(some 17), .mv (.t 1), none⟩,
 ⟨(some 18), .cvRS (.t 17), none⟩,
 ⟨(some 7), .mv (.t 18), none⟩])
 (.seq (.reg [⟨(some 19), .mv (.t 7), none⟩,
 ⟨(some 20), .len 0 (.t 19), none⟩,
 ⟨(some 21), .bin .sub (.t 20) (.c (.i .i64 1)), none⟩,
 ⟨(some 8), .mv (.t 21), none⟩])
 (.seq (.reg [⟨(some 22), .mv (.t 8), none⟩,
 ⟨(some 9), .mv (.t 22), none⟩])
 (.seq (.reg [⟨(some 10), .mv (.c (.i .i64 0)), none⟩])
 (.seq (.blk 1 (.loop (.seq (.seq (.reg [⟨(some 23), .mv (.t 9), none⟩,
 ⟨(some 24), .mv (.t 0), none⟩,
 ⟨(some 25), .len 0 (.t 24), none⟩,
 ⟨(some 26), .bin .lss (.t 23) (.t 25), none⟩])
 (.cond (.t 26)
 .skip
 (.exit 1)))
 (.blk 2 (.seq (.seq (.regD [⟨(some 27), .mv (.t 0), none⟩,
 ⟨(some 28), .mv (.t 9), none⟩,
 ⟨(some 29), .ixS (.t 27) (.t 28), none⟩,
 ⟨(some 30), .mv (.t 7), none⟩,
 ⟨(some 31), .mv (.t 8), none⟩,
 ⟨(some 32), .ixS (.t 30) (.t 31), none⟩,
 ⟨(some 33), .bin .neq (.t 29) (.t 32), none⟩] [])
 (.cond (.t 33)
 (.seq (.regD [⟨(some 34), .mv (.t 0), none⟩,
 ⟨(some 35), .mv (.t 9), none⟩,
 ⟨(some 36), .bin .add (.t 35) (.c (.i .i64 1)), none⟩,
 ⟨(some 37), .slS (.t 34) (some (.t 36)) none, none⟩,
 ⟨(some 38), .mv (.t 7), none⟩,
 ⟨(some 39), .mv (.t 8), none⟩,
 ⟨(some 40), .ixS (.t 38) (.t 39), none⟩,
 ⟨(some 41), .call Bt [(.t 37), (.t 40)], none⟩,
 ⟨(some 11), .mv (.t 41), none⟩] [])
 (.seq (.seq (.reg [⟨(some 42), .mv (.t 11), none⟩,
 ⟨(some 43), .bin .lss (.t 42) (.c (.i .i64 0)), none⟩])
 (.cond (.t 43)
 (.seq (.reg [⟨(some 4), .mv (.c (.i .i64 (-1))), none⟩])
 .ret)
 .skip))
 (.reg [⟨(some 44), .mv (.t 9), none⟩,
 ⟨(some 45), .mv (.t 11), none⟩,
 ⟨(some 46), .bin .add (.t 45) (.c (.i .i64 1)), none⟩,
 ⟨(some 47), .bin .add (.t 44) (.t 46), none⟩,
 ⟨(some 9), .mv (.t 47), none⟩])))
 .skip))
 (.seq (.seq (.reg [⟨(some 12), .mv (.c (.i .i64 1)), none⟩])
 (.blk 3 (.loop (.seq (.seq (.reg [⟨(some 48), .mv (.t 12), none⟩,
 ⟨(some 49), .mv (.t 7), none⟩,
 ⟨(some 50), .len 0 (.t 49), none⟩,
 ⟨(some 51), .bin .lss (.t 48) (.t 50), none⟩])
 (.cond (.t 51)
 .skip
 (.exit 3)))
 (.seq (.blk 4 (.seq (.regD [⟨(some 54), .mv (.t 0), none⟩,
 ⟨(some 55), .mv (.t 9), none⟩,
 ⟨(some 56), .mv (.t 12), none⟩,
 ⟨(some 57), .bin .sub (.t 55) (.t 56), none⟩,
 ⟨(some 58), .ixS (.t 54) (.t 57), none⟩,
 ⟨(some 59), .mv (.t 7), none⟩,
 ⟨(some 60), .mv (.t 8), none⟩,
 ⟨(some 61), .mv (.t 12), none⟩,
 ⟨(some 62), .bin .sub (.t 60) (.t 61), none⟩,
 ⟨(some 63), .ixS (.t 59) (.t 62), none⟩,
 ⟨(some 64), .bin .neq (.t 58) (.t 63), none⟩] [])
 (.cond (.t 64)
 .bad
 .skip)))
 (.reg [⟨(some 52), .mv (.t 12), none⟩,
 ⟨(some 53), .bin .add (.t 52) (.c (.i .i64 1)), none⟩,
 ⟨(some 12), .mv (.t 53), none⟩]))))))
 (.seq (.seq (.reg [⟨(some 65), .mv (.t 9), none⟩,
 ⟨(some 66), .mv (.t 8), none⟩,
 ⟨(some 67), .bin .sub (.t 65) (.t 66), none⟩,
 ⟨(some 4), .mv (.t 67), none⟩])
 .ret)
 (.seq .skip
 (.seq (.reg [⟨(some 68), .mv (.t 10), none⟩,
 ⟨(some 69), .bin .add (.t 68) (.c (.i .i64 1)), none⟩,
 ⟨(some 10), .mv (.t 69), none⟩])
 (.seq (.reg [⟨(some 70), .mv (.t 9), none⟩,
 ⟨(some 71), .bin .add (.t 70) (.c (.i .i64 1)), none⟩,
 ⟨(some 9), .mv (.t 71), none⟩])
 (.seq (.reg [⟨(some 72), .mv (.c (.b true)), none⟩,
 ⟨(some 73), .mv (.t 10), (some (72, true))⟩,
 ⟨(some 74), .mv (.t 9), (some (72, true))⟩,
 ⟨(some 75), .call DX [(.t 74)], (some (72, true))⟩,
 ⟨(some 76), .bin .gtr (.t 73) (.t 75), (some (72, true))⟩,
 ⟨(some 77), .pick (.t 72) (.t 76) (.c (.b false)), none⟩,
 ⟨(some 78), .mv (.t 77), none⟩,
 ⟨(some 79), .mv (.t 9), (some (78, true))⟩,
 ⟨(some 80), .mv (.t 0), (some (78, true))⟩,
 ⟨(some 81), .len 0 (.t 80), (some (78, true))⟩,
 ⟨(some 82), .bin .lss (.t 79) (.t 81), (some (78, true))⟩,
 ⟨(some 83), .pick (.t 78) (.t 82) (.c (.b false)), none⟩,
 ⟨(some 84), .mv (.t 83), none⟩,
 ⟨(some 85), .mv (.c (.b false)), (some (84, false))⟩,
 ⟨(some 86), .mv (.t 10), (some (85, true))⟩,
 ⟨(some 87), .mv (.t 9), (some (85, true))⟩,
 ⟨(some 88), .bin .shr (.t 87) (.c (.i .u64 4)), (some (85, true))⟩,
 ⟨(some 89), .bin .add (.c (.i .i64 4)) (.t 88), (some (85, true))⟩,
 ⟨(some 90), .bin .geq (.t 86) (.t 89), (some (85, true))⟩,
 ⟨(some 91), .pick (.t 85) (.t 90) (.c (.b false)), (some (84, false))⟩,
 ⟨(some 92), .mv (.t 91), (some (84, false))⟩,
 ⟨(some 93), .mv (.t 9), (some (92, true))⟩,
 ⟨(some 94), .mv (.t 0), (some (92, true))⟩,
 ⟨(some 95), .len 0 (.t 94), (some (92, true))⟩,
 ⟨(some 96), .bin .lss (.t 93) (.t 95), (some (92, true))⟩,
 ⟨(some 97), .pick (.t 92) (.t 96) (.c (.b false)), (some (84, false))⟩,
 ⟨(some 98), .pick (.t 84) (.c (.b true)) (.t 97), none⟩])
 (.cond (.t 98)
 .bad
 .skip))))))))))))
 (.seq (.seq (.reg [⟨(some 4), .mv (.c (.i .i64 (-1))), none⟩])
 .ret)
 (.seq .skip
 (.seq (.cond (.c (.b true))
 (.seq (.reg [⟨(some 99), .mv (.t 0), none⟩,
 ⟨(some 100), .mv (.t 9), none⟩,
 ⟨(some 101), .mv (.t 8), none⟩,
 ⟨(some 102), .bin .sub (.t 100) (.t 101), none⟩,
 ⟨(some 103), .slS (.t 99) (some (.t 102)) none, none⟩,
 ⟨(some 104), .mv (.t 1), none⟩,
 ⟨(some 105), .cvRS (.t 104), none⟩,
 ⟨(some 106), .bad, none⟩,
 ⟨(some 13), .mv (.t 106), none⟩])
 (.seq (.reg [⟨(some 107), .mv (.t 13), none⟩,
 ⟨(some 108), .bin .geq (.t 107) (.c (.i .i64 0)), none⟩])
 (.cond (.t 108)
 (.seq (.reg [⟨(some 109), .mv (.t 9), none⟩,
 ⟨(some 110), .mv (.t 13), none⟩,
 ⟨(some 111), .bin .add (.t 109) (.t 110), none⟩,
 ⟨(some 112), .mv (.t 8), none⟩,
 ⟨(some 113), .bin .sub (.t 111) (.t 112), none⟩,
 ⟨(some 4), .mv (.t 113), none⟩])
 .ret)
 .skip)))
 (.seq (.reg [⟨(some 114), .mv (.t 7), none⟩,
 ⟨(some 115), .mv (.t 8), none⟩,
 ⟨(some 116), .ixS (.t 114) (.t 115), none⟩,
 ⟨(some 14), .mv (.t 116), none⟩])
 (.seq (.reg [⟨(some 117), .mv (.t 7), none⟩,
 ⟨(some 118), .mv (.t 8), none⟩,
 ⟨(some 119), .bin .sub (.t 118) (.c (.i .i64 1)), none⟩,
 ⟨(some 120), .ixS (.t 117) (.t 119), none⟩,
 ⟨(some 15), .mv (.t 120), none⟩])
 (.seq .skip
 (.blk 5 (.loop (.seq (.seq (.reg [⟨(some 121), .mv (.t 9), none⟩,
 ⟨(some 122), .mv (.t 0), none⟩,
 ⟨(some 123), .len 0 (.t 122), none⟩,
 ⟨(some 124), .bin .lss (.t 121) (.t 123), none⟩])
 (.cond (.t 124)
 .skip
 (.exit 5)))
 (.seq (.blk 6 (.seq (.reg [⟨(some 127), .mv (.t 0), none⟩,
 ⟨(some 128), .mv (.t 9), none⟩,
 ⟨(some 129), .ixS (.t 127) (.t 128), none⟩,
 ⟨(some 130), .mv (.t 14), none⟩,
 ⟨(some 131), .bin .eql (.t 129) (.t 130), none⟩,
 ⟨(some 132), .mv (.t 131), none⟩,
 ⟨(some 133), .mv (.t 0), (some (132, true))⟩,
 ⟨(some 134), .mv (.t 9), (some (132, true))⟩,
 ⟨(some 135), .bin .sub (.t 134) (.c (.i .i64 1)), (some (132, true))⟩,
 ⟨(some 136), .ixS (.t 133) (.t 135), (some (132, true))⟩,
 ⟨(some 137), .mv (.t 15), (some (132, true))⟩,
 ⟨(some 138), .bin .eql (.t 136) (.t 137), (some (132, true))⟩,
 ⟨(some 139), .pick (.t 132) (.t 138) (.c (.b false)), none⟩])
 (.cond (.t 139)
 (.seq (.seq (.reg [⟨(some 16), .mv (.c (.i .i64 2)), none⟩])
 (.blk 7 (.loop (.seq (.seq (.reg [⟨(some 140), .mv (.t 16), none⟩,
 ⟨(some 141), .mv (.t 7), none⟩,
 ⟨(some 142), .len 0 (.t 141), none⟩,
 ⟨(some 143), .bin .lss (.t 140) (.t 142), none⟩])
 (.cond (.t 143)
 .skip
 (.exit 7)))
 (.seq (.blk 8 (.seq (.regD [⟨(some 146), .mv (.t 0), none⟩,
 ⟨(some 147), .mv (.t 9), none⟩,
 ⟨(some 148), .mv (.t 16), none⟩,
 ⟨(some 149), .bin .sub (.t 147) (.t 148), none⟩,
 ⟨(some 150), .ixS (.t 146) (.t 149), none⟩,
 ⟨(some 151), .mv (.t 7), none⟩,
 ⟨(some 152), .mv (.t 8), none⟩,
 ⟨(some 153), .mv (.t 16), none⟩,
 ⟨(some 154), .bin .sub (.t 152) (.t 153), none⟩,
 ⟨(some 155), .ixS (.t 151) (.t 154), none⟩,
 ⟨(some 156), .bin .neq (.t 150) (.t 155), none⟩] [])
 (.cond (.t 156)
 (.exit 6)
 .skip)))
 (.reg [⟨(some 144), .mv (.t 16), none⟩,
 ⟨(some 145), .bin .add (.t 144) (.c (.i .i64 1)), none⟩,
 ⟨(some 16), .mv (.t 145), none⟩]))))))
 (.seq (.reg [⟨(some 157), .mv (.t 9), none⟩,
 ⟨(some 158), .mv (.t 8), none⟩,
 ⟨(some 159), .bin .sub (.t 157) (.t 158), none⟩,
 ⟨(some 4), .mv (.t 159), none⟩])
 .ret))
 .skip)))
 (.reg [⟨(some 125), .mv (.t 9), none⟩,
 ⟨(some 126), .bin .add (.t 125) (.c (.i .i64 1)), none⟩,
 ⟨(some 9), .mv (.t 126), none⟩])))))))))
 (.seq (.reg [⟨(some 4), .mv (.c (.i .i64 (-1))), none⟩])
 .ret))))))))))))))))) }
def Bf : Fun := { cin := [.id], cout := [.id], ntmps := 5, keep := false, res := [(2, none)], body :=
 (.seq (.reg [⟨(some 2), .mv (.c (.b false)), none⟩])
 (.seq (.reg [⟨(some 3), .mv (.t 0), none⟩,
 ⟨(some 4), .bin .gtr (.t 3) (.c (.i .i64 8)), none⟩,
 ⟨(some 2), .mv (.t 4), none⟩])
 .ret)) }
def BT : Fun := { cin := [.id], cout := [(.agg [.id, .id, .id, .id, .id, .id, .id, .id, .id, .id, .id, .id, .id, .id, .id, .id, .id, .id, .id, .id, .id, .id, .id, .id, .id, .id, .id, .id, .id, .id, .id, .id, .id, .id, .id, .id, .id, .id, .id, .id, .id, .id, .id, .id, .id, .id, .id, .id, .id, .id, .id, .id, .id, .id, .id, .id, .id, .id, .id, .id, .id, .id, .id, .id, .id, .id, .id, .id, .id, .id, .id, .id, .id, .id, .id, .id, .id, .id, .id, .id, .id, .id, .id, .id, .id, .id, .id, .id, .id, .id, .id, .id, .id, .id, .id, .id, .id, .id, .id, .id, .id, .id, .id, .id, .id, .id, .id, .id, .id, .id, .id, .id, .id, .id, .id, .id, .id, .id, .id, .id, .id, .id, .id, .id, .id, .id, .id, .id, .id, .id, .id, .id, .id, .id, .id, .id, .id, .id, .id, .id, .id, .id, .id, .id, .id, .id, .id, .id, .id, .id, .id, .id, .id, .id, .id, .id, .id, .id, .id, .id, .id, .id, .id, .id, .id, .id, .id, .id, .id, .id, .id, .id, .id, .id, .id, .id, .id, .id, .id, .id, .id, .id, .id, .id, .id, .id, .id, .id, .id, .id, .id, .id, .id, .id, .id, .id, .id, .id, .id, .id, .id, .id, .id, .id, .id, .id, .id, .id, .id, .id, .id, .id, .id, .id, .id, .id, .id, .id, .id, .id, .id, .id, .id, .id, .id, .id, .id, .id, .id, .id, .id, .id, .id, .id, .id, .id, .id, .id, .id, .id, .id, .id, .id, .id, .id, .id, .id, .id, .id, .id, .id, .id, .id, .id, .id, .id]), .id], ntmps := 21, keep := false, res := [(2, some (true, 256)), (3, none)], body :=
 (.seq (.reg [⟨(some 2), .alloc 118 [(.b false), (.b false), (.b false), (.b false), (.b false), (.b false), (.b false), (.b false), (.b false), (.b false), (.b false), (.b false), (.b false), (.b false), (.b false), (.b false), (.b false), (.b false), (.b false), (.b false), (.b false), (.b false), (.b false), (.b false), (.b false), (.b false), (.b false), (.b false), (.b false), (.b false), (.b false), (.b false), (.b false), (.b false), (.b false), (.b false), (.b false), (.b false), (.b false), (.b false), (.b false), (.b false), (.b false), (.b false), (.b false), (.b false), (.b false), (.b false), (.b false), (.b false), (.b false), (.b false), (.b false), (.b false), (.b false), (.b false), (.b false), (.b false), (.b false), (.b false), (.b false), (.b false), (.b false), (.b false), (.b false), (.b false), (.b false), (.b false), (.b false), (.b false), (.b false), (.b false), (.b false), (.b false), (.b false), (.b false), (.b false), (.b false), (.b false), (.b false), (.b false), (.b false), (.b false), (.b false), (.b false), (.b false), (.b false), (.b false), (.b false), (.b false), (.b false), (.b false), (.b false), (.b false), (.b false), (.b false), (.b false), (.b false), (.b false), (.b false), (.b false), (.b false), (.b false), (.b false), (.b false), (.b false), (.b false), (.b false), (.b false), (.b false), (.b false), (.b false), (.b false), (.b false), (.b false), (.b false), (.b false), (.b false), (.b false), (.b false), (.b false), (.b false), (.b false), (.b false), (.b false), (.b false), (.b false), (.b false), (.b false), (.b false), (.b false), (.b false), (.b false), (.b false), (.b false), (.b false), (.b false), (.b false), (.b false), (.b false), (.b false), (.b false), (.b false), (.b false), (.b false), (.b false), (.b false), (.b false), (.b false), (.b false), (.b false), (.b false), (.b false), (.b false), (.b false), (.b false), (.b false), (.b false), (.b false), (.b false), (.b false), (.b false), (.b false), (.b false), (.b false), (.b false), (.b false), (.b false), (.b false), (.b false), (.b false), (.b false), (.b false), (.b false), (.b false), (.b false), (.b false), (.b false), (.b false), (.b false), (.b false), (.b false), (.b false), (.b false), (.b false), (.b false), (.b false), (.b false), (.b false), (.b false), (.b false), (.b false), (.b false), (.b false), (.b false), (.b false), (.b false), (.b false), (.b false), (.b false), (.b false), (.b false), (.b false), (.b false), (.b false), (.b false), (.b false), (.b false), (.b false), (.b false), (.b false), (.b false), (.b false), (.b false), (.b false), (.b false), (.b false), (.b false), (.b false), (.b false), (.b false), (.b false), (.b false), (.b false), (.b false), (.b false), (.b false), (.b false), (.b false), (.b false), (.b false), (.b false), (.b false), (.b false), (.b false), (.b false), (.b false), (.b false), (.b false), (.b false), (.b false), (.b false), (.b false), (.b false), (.b false), (.b false), (.b false), (.b false), (.b false), (.b false), (.b false), (.b false), (.b false), (.b false), (.b false), (.b false)], none⟩,
 ⟨(some 3), .mv (.c (.b false)), none⟩])
 (.seq (.seq (.reg [⟨(some 4), .mv (.c (.i .i64 0)), none⟩])
 (.blk 0 (.loop (.seq (.seq (.reg [⟨(some 6), .mv (.t 4), none⟩,
 ⟨(some 7), .mv (.t 0), none⟩,
 ⟨(some 8), .len 0 (.t 7), none⟩,
 ⟨(some 9), .bin .lss (.t 6) (.t 8), none⟩])
 (.cond (.t 9)
 .skip
 (.exit 0)))
 (.seq (.blk 1 (.seq (.reg [⟨(some 12), .mv (.t 0), none⟩,
 ⟨(some 13), .mv (.t 4), none⟩,
 ⟨(some 14), .ixS (.t 12) (.t 13), none⟩,
 ⟨(some 5), .mv (.t 14), none⟩])
 (.seq (.seq (.reg [⟨(some 15), .mv (.t 5), none⟩,
 ⟨(some 16), .bin .geq (.t 15) (.c (.i .u8 128)), none⟩])
 (.cond (.t 16)
 (.seq (.reg [⟨(some 17), .ld true 256 (.t 2), none⟩,
 ⟨none, .st 256 (.t 2) (.t 17), none⟩,
 ⟨(some 3), .mv (.c (.b false)), none⟩])
 .ret)
 .skip))
 (.reg [⟨(some 18), .mv (.t 5), none⟩,
 ⟨(some 19), .iaA 256 1 (.t 2) (.t 18), none⟩,
 ⟨none, .st 1 (.t 19) (.c (.b true)), none⟩]))))
 (.reg [⟨(some 10), .mv (.t 4), none⟩,
 ⟨(some 11), .bin .add (.t 10) (.c (.i .i64 1)), none⟩,
 ⟨(some 4), .mv (.t 11), none⟩]))))))
 (.seq (.reg [⟨(some 20), .ld true 256 (.t 2), none⟩,
 ⟨none, .st 256 (.t 2) (.t 20), none⟩,
 ⟨(some 3), .mv (.c (.b true)), none⟩])
 .ret))) }
def Bg : Fun := { cin := [.id, .id], cout := [.id], ntmps := 10, keep := false, res := [(4, none)], body :=
 (.seq (.reg [⟨(some 4), .mv (.c (.b false)), none⟩])
 (.seq (.reg [⟨(some 5), .mv (.t 0), none⟩,
 ⟨(some 6), .mv (.t 1), none⟩,
 ⟨(some 7), .nck (.t 5), none⟩,
 ⟨(some 8), .iaA 256 1 (.t 7) (.t 6), none⟩,
 ⟨(some 9), .ld false 1 (.t 8), none⟩,
 ⟨(some 4), .mv (.t 9), none⟩])
 .ret)) }
def F4 : Fun := { cin := [.id], cout := [], ntmps := 51, keep := false, res := [], body :=
 (.seq (.reg [⟨(some 3), .box 122 1 (.t 0), none⟩])
 (.seq (.seq (.reg [⟨(some 8), .ld false 1 (.t 3), none⟩,
 ⟨(some 9), .ld true 2 (.t 1), none⟩,
 ⟨(some 10), .callX (.t 8) [(.t 9)], none⟩,
 ⟨(some 11), .un .not (.t 10), none⟩])
 (.cond (.t 11)
 .ret
 .skip))
 (.seq (.reg [⟨(some 12), .ld false 1 (.t 2), none⟩,
 ⟨(some 13), .fa 0 (.t 1), none⟩,
 ⟨(some 14), .ld false 1 (.t 13), none⟩,
 ⟨(some 15), .ia 6 (.t 12) (.t 14), none⟩,
 ⟨(some 16), .ld true 6 (.t 15), none⟩,
 ⟨(some 4), .alloc 26 [(.b false), (.i .u8 0), .nsl, .nsl, (.i .i64 0), (.i .i64 0)], none⟩,
 ⟨none, .st 6 (.t 4) (.t 16), none⟩])
 (.seq (.reg [⟨(some 17), .fa 3 (.t 4), none⟩,
 ⟨(some 18), .ld false 1 (.t 17), none⟩,
 ⟨(some 19), .len 1 (.t 18), none⟩,
 ⟨(some 20), .mv (.c (.i .i64 0)), none⟩])
 (.blk 0 (.loop (.seq (.reg [⟨(some 21), .bin .lss (.t 20) (.t 19), none⟩])
 (.seq (.cond (.t 21)
 .skip
 (.exit 0))
 (.seq (.blk 1 (.seq (.reg [⟨(some 22), .mv (.t 20), none⟩,
 ⟨(some 23), .ia 1 (.t 18) (.t 20), none⟩,
 ⟨(some 24), .ld false 1 (.t 23), none⟩,
 ⟨(some 5), .mv (.t 22), none⟩,
 ⟨(some 6), .mv (.t 24), none⟩])
 (.seq (.regD [⟨(some 25), .ld false 1 (.t 2), none⟩,
 ⟨(some 26), .mv (.t 6), none⟩,
 ⟨(some 27), .fa 1 (.t 1), none⟩,
 ⟨(some 28), .ld false 1 (.t 27), none⟩,
 ⟨(some 29), .fa 1 (.t 1), none⟩,
 ⟨(some 30), .ld false 1 (.t 29), none⟩,
 ⟨(some 31), .len 1 (.t 30), none⟩,
 ⟨(some 32), .fa 1 (.t 1), none⟩,
 ⟨(some 33), .ld false 1 (.t 32), none⟩,
 ⟨(some 34), .len 1 (.t 33), none⟩,
 ⟨(some 35), .slc false 1 (.t 28) none (some (.t 31)) (some (.t 34)), none⟩,
 ⟨(some 36), .fa 2 (.t 4), none⟩,
 ⟨(some 37), .ld false 1 (.t 36), none⟩,
 ⟨(some 38), .mv (.t 5), none⟩,
 ⟨(some 39), .ia 1 (.t 37) (.t 38), none⟩,
 ⟨(some 40), .ld false 1 (.t 39), none⟩,
 ⟨(some 41), .bsl 1 [(.t 40)], none⟩,
 ⟨(some 42), .appQ 1 9 (.t 35) (.t 41), none⟩,
 ⟨(some 43), .build [(.i .i64 0), .nsl] [(0, 1, (.t 26)), (1, 1, (.t 42))], none⟩,
 ⟨(some 44), .callQ false Ho [(.t 25), (.t 43)], none⟩] [(0, (0, 18))])
 (.blk 2 (.rf (.t 44) [45] (.reg [⟨(some 7), .alloc 105 [(.i .i64 0), .nsl], none⟩,
 ⟨none, .st 2 (.t 7) (.t 45), none⟩])
 (.blk 3 (.seq (.reg [⟨(some 46), .ld false 1 (.t 3), none⟩,
 ⟨(some 47), .ld true 2 (.t 7), none⟩,
 ⟨(some 48), .callX (.t 46) [(.t 47)], none⟩,
 ⟨(some 49), .un .not (.t 48), none⟩])
 (.cond (.t 49)
 .ret
 .skip))))))))
 (.reg [⟨(some 50), .bin .add (.t 20) (.c (.i .i64 1)), none⟩,
 ⟨(some 20), .mv (.t 50), none⟩])))))))))) }
def Bw : Fun := { cin := [.id], cout := [.id], ntmps := 17, keep := false, res := [(2, none)], body :=
 (.seq (.reg [⟨(some 2), .mv (.c (.b false)), none⟩])
 (.seq (.blk 0 (.seq (.reg [⟨(some 4), .mv (.t 0), none⟩,
 ⟨(some 5), .bin .leq (.c (.i .i32 0)) (.t 4), none⟩,
 ⟨(some 6), .mv (.t 5), none⟩,
 ⟨(some 7), .mv (.t 0), (some (6, true))⟩,
 ⟨(some 8), .bin .lss (.t 7) (.c (.i .i32 55296)), (some (6, true))⟩,
 ⟨(some 9), .pick (.t 6) (.t 8) (.c (.b false)), none⟩,
 ⟨(some 3), .mv (.t 9), none⟩])
 (.cond (.t 3)
 (.seq (.reg [⟨(some 2), .mv (.c (.b true)), none⟩])
 .ret)
 (.seq (.reg [⟨(some 11), .mv (.t 0), none⟩,
 ⟨(some 12), .bin .lss (.c (.i .i32 57343)) (.t 11), none⟩,
 ⟨(some 13), .mv (.t 12), none⟩,
 ⟨(some 14), .mv (.t 0), (some (13, true))⟩,
 ⟨(some 15), .bin .leq (.t 14) (.c (.i .i32 1114111)), (some (13, true))⟩,
 ⟨(some 16), .pick (.t 13) (.t 15) (.c (.b false)), none⟩,
 ⟨(some 10), .mv (.t 16), none⟩])
 (.cond (.t 10)
 (.seq (.reg [⟨(some 2), .mv (.c (.b true)), none⟩])
 .ret)
 .skip)))))
 (.seq (.reg [⟨(some 2), .mv (.c (.b false)), none⟩])
 .ret))) }
def CV : Fun := { cin := [.id], cout := [.id], ntmps := 6, keep := false, res := [(2, none)], body :=
 (.seq (.reg [⟨(some 2), .mv (.c (.i .i64 0)), none⟩])
 (.seq (.reg [⟨(some 3), .mv (.t 0), none⟩,
 ⟨(some 4), .bin .add (.t 3) (.c (.i .i64 16)), none⟩,
 ⟨(some 5), .bin .quo (.t 4) (.c (.i .i64 8)), none⟩,
 ⟨(some 2), .mv (.t 5), none⟩])
 .ret)) }
def tab : PT := (.n 53 Gt (.n 32 AM (.n 22 EO (.n 15 AW (.n 12 CZ (.n 11 CB (.n 4 Ad .e .e) .e) (.n 14 BP (.n 13 A8 .e .e) .e)) (.n 18 Ay (.n 17 Av (.n 16 Aa .e .e) .e) (.n 21 HS .e .e))) (.n 27 DU (.n 25 CD (.n 24 Aq (.n 23 Hr .e .e) .e) (.n 26 Aw .e .e)) (.n 30 CN (.n 29 A5 (.n 28 BM .e .e) .e) (.n 31 BQ .e .e)))) (.n 43 AX (.n 38 F1 (.n 36 CF (.n 35 EP (.n 33 BR .e .e) .e) (.n 37 Kk .e .e)) (.n 41 Ce (.n 40 Dw (.n 39 F2 .e .e) .e) (.n 42 BB .e .e))) (.n 48 A6 (.n 46 DL (.n 45 Ct (.n 44 CW .e .e) .e) (.n 47 AP .e .e)) (.n 51 CO (.n 50 DM (.n 49 Ao .e .e) .e) (.n 52 Az .e .e))))) (.n 74 BS (.n 64 D2 (.n 59 JD (.n 57 Au (.n 56 Cm (.n 55 Ez .e .e) .e) (.n 58 F3 .e .e)) (.n 62 JE (.n 61 Gu (.n 60 Kl .e .e) .e) (.n 63 Ab .e .e))) (.n 69 BH (.n 67 Ca (.n 66 DV (.n 65 A2 .e .e) .e) (.n 68 Ac .e .e)) (.n 72 AY (.n 71 BJ (.n 70 Cb .e .e) .e) (.n 73 BN .e .e)))) (.n 91 Ht (.n 83 Ai (.n 81 A9 (.n 76 JF (.n 75 Hs .e .e) .e) (.n 82 B9 .e .e)) (.n 88 DA (.n 87 BK (.n 84 Ak .e .e) .e) (.n 90 Be .e .e))) (.n 104 BT (.n 102 BC (.n 93 Hu (.n 92 Gv .e .e) .e) (.n 103 Bf .e .e)) (.n 121 Bw (.n 106 F4 (.n 105 Bg .e .e) .e) (.n 122 CV .e .e))))))
def prog (n : Nat) : Option Fun := tab.get n
theorem Eb : prog C7 = some Ad := rfl
theorem LD : prog FG = some CB := rfl
theorem MN : prog Fx = some CZ := rfl
theorem E6 : prog A7 = some A8 := rfl
theorem GK : prog CH = some BP := rfl
theorem FX : prog Bv = some AW := rfl
theorem F5 : prog B7 = some Aa := rfl
theorem F6 : prog Cr = some Av := rfl
theorem GL : prog C3 = some Ay := rfl
theorem Pq : prog JC = some HS := rfl
theorem RT : prog Kf = some EO := rfl
theorem VP : prog Kg = some Hr := rfl
theorem HZ : prog B2 = some Aq := rfl
theorem LE : prog EH = some CD := rfl
theorem JW : prog Co = some Aw := rfl
theorem MO : prog Ea = some DU := rfl
theorem F7 : prog B8 = some BM := rfl
theorem Gw : prog DG = some A5 := rfl
theorem GM : prog C4 = some CN := rfl
theorem GN : prog CI = some BQ := rfl
theorem GO : prog Bp = some AM := rfl
theorem GP : prog CJ = some BR := rfl
theorem RU : prog Gs = some EP := rfl
theorem Pr : prog HQ = some CF := rfl
theorem p_sym_dir : prog Kh = some Kk := rfl
theorem S6 : prog Fy = some F1 := rfl
theorem S7 : prog Fz = some F2 := rfl
theorem PC : prog Du = some Dw := rfl
theorem LF : prog EI = some Ce := rfl
theorem Dh : prog Ae = some BB := rfl
theorem DN : prog BI = some AX := rfl
theorem Jd : prog Cy = some CW := rfl
theorem Hv : prog Bt = some Ct := rfl
theorem N5 : prog Ey = some DL := rfl
theorem DB : prog AZ = some AP := rfl
theorem Gx : prog DH = some A6 := rfl
theorem GQ : prog CK = some Ao := rfl
theorem NJ : prog DI = some DM := rfl
theorem GR : prog C5 = some CO := rfl
theorem GS : prog CL = some Az := rfl
theorem Tt : prog JS = some Gt := rfl
theorem RV : prog Ie = some Ez := rfl
theorem RX : prog Ki = some Cm := rfl
theorem ES : prog Bz = some Au := rfl
theorem N6 : prog F0 = some F3 := rfl
theorem Vn : prog HR = some JD := rfl
theorem p_sym_ref : prog NI = some Kl := rfl
theorem Tu : prog JT = some Gu := rfl
theorem Vo : prog Lf = some JE := rfl
theorem Cz : prog Ar = some Ab := rfl
theorem GU : prog Bq = some D2 := rfl
theorem DY : prog Ah = some A2 := rfl
theorem JG : prog EC = some DV := rfl
theorem Gy : prog CX = some Ca := rfl
theorem Da : prog BW = some Ac := rfl
theorem Dy : prog Bn = some BH := rfl
theorem Gz : prog DJ = some Cb := rfl
theorem G0 : prog CY = some BJ := rfl
theorem G1 : prog DK = some AY := rfl
theorem F8 : prog Cs = some BN := rfl
theorem GV : prog C6 = some BS := rfl
theorem VQ : prog Kj = some Hs := rfl
theorem Vp : prog Lg = some JF := rfl
theorem E7 : prog CU = some A9 := rfl
theorem Jr : prog C8 = some B9 := rfl
theorem EV : prog BF = some Ai := rfl
theorem ED : prog AH = some Ak := rfl
theorem G3 : prog AN = some BK := rfl
theorem Ih : prog C9 = some DA := rfl
theorem Ii : prog Dv = some Be := rfl
theorem VR : prog Ho = some Ht := rfl
theorem Tv : prog JU = some Gv := rfl
theorem VS : prog Hq = some Hu := rfl
theorem Hw : prog Bu = some BC := rfl
theorem E0 : prog Bc = some Bf := rfl
theorem GW : prog CM = some BT := rfl
theorem E1 : prog Bd = some Bg := rfl
theorem S8 : prog Ig = some F4 := rfl
theorem FY : prog Cl = some Bw := rfl
theorem Kw : prog DX = some CV := rfl
end Go.Proofs.YtbfgoopcnkeblaaGreat
