/-
  The functions, as the abstract machine's: numbers and texts. By program.
-/
import Derived.Test.YtmnbfgfgjmmhfaaGreatDoorAmKeep
import Derived.Test.YtmnbfgfgjmmhfaaGreatDoorAmSorted
set_option linter.all false
set_option linter.unusedVariables false
set_option linter.unusedSimpArgs false
set_option linter.unusedSectionVars false
set_option maxRecDepth 100000
namespace Go.Proofs.YtmnbfgfgjmmhfaaGreatDoor
open Go.Proofs.YtmnbfgfgjmmhfaaGreatDoor.Am
def DC:Nat:=6
def KU:Nat:=18
def JG:Nat:=21
def KV:Nat:=23
def KX:Nat:=24
def BZ:Nat:=25
def Cd:Nat:=26
def B3:Nat:=27
def Bh:Nat:=28
def Gr:Nat:=29
def Cx:Nat:=30
def Ac:Nat:=31
def Ce:Nat:=32
def Cy:Nat:=33
def CJ:Nat:=34
def Cz:Nat:=35
def Fx:Nat:=36
def B4:Nat:=37
def JH:Nat:=49
def HQ:Nat:=50
def BH:Nat:=51
def Gs:Nat:=52
def OD:Nat:=53
def BV:Nat:=54
def Gt:Nat:=55
def JI:Nat:=57
def FI:Nat:=58
def CO:Nat:=59
def GJ:Nat:=60
def Fy:Nat:=61
def Cf:Nat:=62
def FV:Nat:=63
def Ma:Nat:=64
def GV:Nat:=65
def Cg:Nat:=66
def Bo:Nat:=67
def B5:Nat:=68
def Bp:Nat:=69
def Fz:Nat:=70
def BF:Nat:=71
def Aa:Nat:=72
def Ae:Nat:=73
def C1:Nat:=74
def BI:Nat:=76
def Bi:Nat:=84
def AE:Nat:=85
def Ax:Nat:=86
def GK:Nat:=87
def Be:Nat:=88
def BG:Nat:=89
def DW:Nat:=90
def LI:Nat:=91
def Bl:Nat:=92
def A4:Nat:=93
def F0:Nat:=94
def DL:Nat:=95
def Ii:Nat:=101
def GL:Nat:=102
def Di:Nat:=103
def CS:Nat:=104
def DX:Nat:=105
def Dj:Nat:=106
def Je:Nat:=117
def Bw:Nat:=118
def Ij:Nat:=119
def Ch:Nat:=120
def GW:Nat:=125
def Bq:Nat:=126
def Dq:Nat:=127
def Fc:Nat:=142
def Ik:Nat:=143
def Dr:Nat:=144
def Ay:Nat:=145
def LU:Nat:=146
def C6:Nat:=147
def CA:Nat:=148
def CD:Nat:=152
def DY:Nat:=153
def D7:Nat:=154
def Ed:Nat:=163
def Jl:Nat:=164
def C7:Nat:=165
def DM:Nat:=167
def B9:Nat:=170
def Br:Nat:=171
def C2:Nat:=172
def Bs:Nat:=173
def DZ:Nat:=178
def DN:Nat:=179
abbrev zo(d:Nat)(p:AOp):Am.Op:=⟨some d,p,none⟩
def Ao:Fun:={ cin:=[(.agg [.id,.id,(.sl 2 (.agg [(.sl 3 (.agg [.id,.id,.id])),.id])),(.sl 4 (.agg [.id,.id,(.sl 2 (.agg [.sl 3 .id,.id])),(.sl 4 (.agg [.id,.id,.sl 2 .id,.sl 4 .id]))]))]),(.agg [.id,.id,(.sl 2 (.agg [(.sl 3 (.agg [.id,.id,.id])),.id])),(.sl 4 (.agg [.id,.id,(.sl 2 (.agg [.sl 3 .id,.id])),(.sl 4 (.agg [.id,.id,.sl 2 .id,.sl 4 .id]))]))])],cout:=[.id],ntmps:=87,keep:=false,res:=[(4,none)],body :=
 (.seq (.reg [zo 2 (.box 25 4 (.t 0)),
 zo 3 (.box 25 4 (.t 1)),
 zo 4 (.mv (.c (.b false)))])
 (.seq (.seq (.reg [zo 10 (.ld true 4 (.t 2)),
 zo 11 (.call BZ [.t 10]),
 zo 12 (.bin .gtr (.t 11) (.c (.i .i64 400))),
 zo 13 (.mv (.t 12)),
 ⟨some 14,.ld true 4 (.t 3),some (13,false)⟩,
 ⟨some 15,.call BZ [.t 14],some (13,false)⟩,
 ⟨some 16,.bin .gtr (.t 15) (.c (.i .i64 400)),some (13,false)⟩,
 zo 17 (.pick (.t 13) (.c (.b true)) (.t 16))])
 (.cond (.t 17)
 (.seq (.reg [zo 18 (.call Cd []),
 zo 4 (.mv (.t 18))])
 .ret)
 .skip))
 (.seq (.seq (.reg [zo 5 (.mv (.c (.i .i64 0)))])
 (.blk 0 (.loop (.seq (.seq (.reg [zo 19 (.mv (.t 5)),
 zo 20 (.bin .lss (.t 19) (.c (.i .i64 2)))])
 (.cond (.t 20)
 .skip
 (.exit 0)))
 (.seq (.blk 1 (.seq (.reg [zo 24 (.ld true 4 (.t 2)),
 zo 25 (.call Gr [.t 24]),
 zo 23 (.mv (.t 25)),
 zo 26 (.ext (.t 23) 0),
 zo 27 (.ext (.t 23) 1),
 zo 6 (.mv (.t 26)),
 zo 7 (.mv (.t 27))])
 (.seq (.reg [zo 29 (.ld true 4 (.t 2)),
 zo 30 (.call Cx [.t 29]),
 zo 28 (.mv (.t 30)),
 zo 31 (.ext (.t 28) 0),
 zo 32 (.ext (.t 28) 1),
 zo 8 (.mv (.t 31)),
 zo 9 (.mv (.t 32))])
 (.seq (.regD [zo 33 (.mv (.t 7)),
 zo 34 (.mv (.t 9)),
 zo 35 (.bin .neq (.t 33) (.t 34)),
 zo 36 (.mv (.t 35)),
 ⟨some 37,.mv (.t 6),some (36,false)⟩,
 ⟨some 38,.mv (.t 8),some (36,false)⟩,
 ⟨some 39,.callK Ac [.t 37,.t 38],some (36,false)⟩,
 ⟨some 40,.un .not (.t 39),some (36,false)⟩,
 zo 41 (.pick (.t 36) (.c (.b true)) (.t 40)),
 zo 42 (.mv (.t 41)),
 ⟨some 43,.ld true 4 (.t 2),some (42,false)⟩,
 ⟨some 44,.callK JG [.t 43],some (42,false)⟩,
 ⟨some 45,.ld true 4 (.t 2),some (42,false)⟩,
 ⟨some 46,.callK Ce [.t 45],some (42,false)⟩,
 ⟨some 47,.callK Ac [.t 44,.t 46],some (42,false)⟩,
 ⟨some 48,.un .not (.t 47),some (42,false)⟩,
 zo 49 (.pick (.t 42) (.c (.b true)) (.t 48)),
 zo 50 (.mv (.t 49)),
 ⟨some 51,.ld true 4 (.t 2),some (50,false)⟩,
 ⟨some 52,.callK KX [.t 51],some (50,false)⟩,
 ⟨some 53,.ld true 4 (.t 2),some (50,false)⟩,
 ⟨some 54,.callK Cy [.t 53],some (50,false)⟩,
 ⟨some 55,.callK Ac [.t 52,.t 54],some (50,false)⟩,
 ⟨some 56,.un .not (.t 55),some (50,false)⟩,
 zo 57 (.pick (.t 50) (.c (.b true)) (.t 56))] [(12,(11,12)),(20,(19,20))])
 (.cond (.t 57)
 (.seq (.reg [zo 4 (.mv (.c (.b false)))])
 .ret)
 .skip)))))
 (.reg [zo 21 (.mv (.t 5)),
 zo 22 (.bin .add (.t 21) (.c (.i .i64 1))),
 zo 5 (.mv (.t 22))]))))))
 (.seq (.regD [zo 58 (.ld true 4 (.t 2)),
 zo 59 (.call KU [.t 58]),
 zo 60 (.ld true 4 (.t 2)),
 zo 61 (.call CJ [.t 60]),
 zo 62 (.eq .bool false (.t 59) (.t 61)),
 zo 63 (.mv (.t 62)),
 ⟨some 64,.ld true 4 (.t 2),some (63,true)⟩,
 ⟨some 65,.call KV [.t 64],some (63,true)⟩,
 ⟨some 66,.ld true 4 (.t 2),some (63,true)⟩,
 ⟨some 67,.call Cz [.t 66],some (63,true)⟩,
 ⟨some 68,.bin .eql (.t 65) (.t 67),some (63,true)⟩,
 zo 69 (.pick (.t 63) (.t 68) (.c (.b false))),
 zo 70 (.mv (.t 69)),
 ⟨some 71,.ld true 4 (.t 2),some (70,true)⟩,
 ⟨some 72,.ld true 4 (.t 3),some (70,true)⟩,
 ⟨some 73,.call Fx [.t 71,.t 72],some (70,true)⟩,
 ⟨some 74,.ld true 4 (.t 2),some (70,true)⟩,
 ⟨some 75,.ld true 4 (.t 3),some (70,true)⟩,
 ⟨some 76,.call B4 [.t 74,.t 75],some (70,true)⟩,
 ⟨some 77,.eq .bool false (.t 73) (.t 76),some (70,true)⟩,
 zo 78 (.pick (.t 70) (.t 77) (.c (.b false))),
 zo 79 (.mv (.t 78)),
 ⟨some 80,.ld true 4 (.t 2),some (79,true)⟩,
 ⟨some 81,.ld true 4 (.t 2),some (79,true)⟩,
 ⟨some 82,.call Fx [.t 80,.t 81],some (79,true)⟩,
 zo 83 (.pick (.t 79) (.t 82) (.c (.b false))),
 zo 84 (.mv (.t 83)),
 ⟨some 85,.call Cd [],some (84,true)⟩,
 zo 86 (.pick (.t 84) (.t 85) (.c (.b false))),
 zo 4 (.mv (.t 86))] [(2,(1,2)),(8,(7,8)),(16,(15,16)),(17,(15,17))])
 .ret)))) }
def GM:Fun:={ cin:=[(.agg [.id,.id,(.sl 2 (.agg [(.sl 3 (.agg [.id,.id,.id])),.id])),(.sl 4 (.agg [.id,.id,(.sl 2 (.agg [.sl 3 .id,.id])),(.sl 4 (.agg [.id,.id,.sl 2 .id,.sl 4 .id]))]))])],cout:=[.id],ntmps:=78,keep:=false,res:=[(2,none)],body :=
 (.seq (.reg [zo 1 (.box 25 4 (.t 0)),
 zo 2 (.mv (.c (.b false)))])
 (.seq (.regD [zo 6 (.call JH []),
 zo 7 (.fa 0 (.t 1)),
 zo 8 (.ld false 1 (.t 7)),
 zo 9 (.look 0 (.agg [(.s []),(.b false),(.i .i64 0),(.i .i64 0),.nf]) true (.t 6) (.t 8)),
 zo 5 (.mv (.t 9)),
 zo 10 (.ext (.t 5) 0),
 zo 11 (.ext (.t 5) 1),
 ⟨none,.mv (.c (.tup [])),none⟩,
 zo 3 (.adp 71 [(.s []),(.b false),(.i .i64 0),(.i .i64 0),.nf] 5 (.t 10)),
 zo 4 (.mv (.t 11))] [(2,(0,2))])
 (.seq (.blk 0 (.seq (.reg [zo 13 (.mv (.t 4)),
 zo 14 (.un .not (.t 13)),
 zo 15 (.mv (.t 14)),
 ⟨some 16,.fa 4 (.t 3),some (15,false)⟩,
 ⟨some 17,.ld false 1 (.t 16),some (15,false)⟩,
 ⟨some 18,.fa 3 (.t 1),some (15,false)⟩,
 ⟨some 19,.ld false 1 (.t 18),some (15,false)⟩,
 ⟨some 20,.len 1 (.t 19),some (15,false)⟩,
 ⟨some 21,.callX (.t 17) [.t 20],some (15,false)⟩,
 ⟨some 22,.un .not (.t 21),some (15,false)⟩,
 zo 23 (.pick (.t 15) (.c (.b true)) (.t 22)),
 zo 24 (.mv (.t 23)),
 ⟨some 25,.fa 2 (.t 1),some (24,false)⟩,
 ⟨some 26,.ld false 1 (.t 25),some (24,false)⟩,
 ⟨some 27,.len 1 (.t 26),some (24,false)⟩,
 ⟨some 28,.fa 2 (.t 3),some (24,false)⟩,
 ⟨some 29,.ld false 1 (.t 28),some (24,false)⟩,
 ⟨some 30,.bin .lss (.t 27) (.t 29),some (24,false)⟩,
 zo 31 (.pick (.t 24) (.c (.b true)) (.t 30)),
 zo 32 (.mv (.t 31)),
 ⟨some 33,.fa 2 (.t 1),some (32,false)⟩,
 ⟨some 34,.ld false 1 (.t 33),some (32,false)⟩,
 ⟨some 35,.len 1 (.t 34),some (32,false)⟩,
 ⟨some 36,.fa 3 (.t 3),some (32,false)⟩,
 ⟨some 37,.ld false 1 (.t 36),some (32,false)⟩,
 ⟨some 38,.bin .gtr (.t 35) (.t 37),some (32,false)⟩,
 zo 39 (.pick (.t 32) (.c (.b true)) (.t 38)),
 zo 12 (.mv (.t 39))])
 (.cond (.t 12)
 (.seq (.reg [zo 2 (.mv (.c (.b false)))])
 .ret)
 (.seq (.reg [zo 41 (.fa 1 (.t 3)),
 zo 42 (.ld false 1 (.t 41)),
 zo 43 (.fa 1 (.t 1)),
 zo 44 (.ld false 1 (.t 43)),
 zo 45 (.bin .neq (.t 44) (.c (.s []))),
 zo 46 (.eq .bool true (.t 42) (.t 45)),
 zo 47 (.mv (.t 46)),
 ⟨some 48,.fa 1 (.t 3),some (47,false)⟩,
 ⟨some 49,.ld false 1 (.t 48),some (47,false)⟩,
 ⟨some 50,.mv (.t 49),some (47,false)⟩,
 ⟨some 51,.fa 1 (.t 1),some (50,true)⟩,
 ⟨some 52,.ld false 1 (.t 51),some (50,true)⟩,
 ⟨some 53,.call HQ [.t 52],some (50,true)⟩,
 ⟨some 54,.un .not (.t 53),some (50,true)⟩,
 ⟨some 55,.pick (.t 50) (.t 54) (.c (.b false)),some (47,false)⟩,
 zo 56 (.pick (.t 47) (.c (.b true)) (.t 55)),
 zo 40 (.mv (.t 56))])
 (.cond (.t 40)
 (.seq (.reg [zo 2 (.mv (.c (.b false)))])
 .ret)
 (.seq (.reg [zo 58 (.fa 0 (.t 1)),
 zo 59 (.ld false 1 (.t 58)),
 zo 60 (.bin .eql (.t 59) (.c (.i .u8 2))),
 zo 61 (.mv (.t 60)),
 ⟨some 62,.fa 2 (.t 1),some (61,true)⟩,
 ⟨some 63,.ld false 1 (.t 62),some (61,true)⟩,
 ⟨some 64,.ia 2 (.t 63) (.c (.i .i64 0)),some (61,true)⟩,
 ⟨some 65,.fa 1 (.t 64),some (61,true)⟩,
 ⟨some 66,.ld false 1 (.t 65),some (61,true)⟩,
 zo 67 (.pick (.t 61) (.t 66) (.c (.b false))),
 zo 57 (.mv (.t 67))])
 (.cond (.t 57)
 (.seq (.reg [zo 2 (.mv (.c (.b false)))])
 .ret)
 .skip)))))))
 (.seq (.reg [zo 68 (.fa 2 (.t 1)),
 zo 69 (.ld false 1 (.t 68)),
 zo 70 (.call BH [(.t 69),(.c (.fn Gs []))]),
 zo 71 (.un .not (.t 70)),
 zo 72 (.mv (.t 71)),
 ⟨some 73,.fa 3 (.t 1),some (72,true)⟩,
 ⟨some 74,.ld false 1 (.t 73),some (72,true)⟩,
 ⟨some 75,.call BV [(.t 74),(.c (.fn Gt []))],some (72,true)⟩,
 ⟨some 76,.un .not (.t 75),some (72,true)⟩,
 zo 77 (.pick (.t 72) (.t 76) (.c (.b false))),
 zo 2 (.mv (.t 77))])
 .ret)))) }
def E7:Fun:={ cin:=[(.agg [.id,.id,(.sl 2 (.agg [(.sl 3 (.agg [.id,.id,.id])),.id])),(.sl 4 (.agg [.id,.id,(.sl 2 (.agg [.sl 3 .id,.id])),(.sl 4 (.agg [.id,.id,.sl 2 .id,.sl 4 .id]))]))])],cout:=[],ntmps:=5,keep:=true,res:=[(2,none)],body :=
 (.seq (.reg [zo 1 (.box 25 4 (.t 0)),
 zo 2 (.mv (.c .nsl))])
 (.seq (.reg [zo 3 (.ld true 4 (.t 1)),
 zo 4 (.call JI [(.t 3),(.c (.fn FI []))]),
 zo 2 (.mv (.t 4))])
 .ret)) }
def Ee:Fun:={ cin:=[(.agg [.id,.id,(.sl 2 (.agg [(.sl 3 (.agg [.id,.id,.id])),.id])),(.sl 4 (.agg [.id,.id,(.sl 2 (.agg [.sl 3 .id,.id])),(.sl 4 (.agg [.id,.id,.sl 2 .id,.sl 4 .id]))]))])],cout:=[.id],ntmps:=11,keep:=false,res:=[(2,none)],body :=
 (.seq (.reg [zo 1 (.box 25 4 (.t 0)),
 zo 2 (.mv (.c (.i .i64 0)))])
 (.seq (.reg [zo 3 (.alloc 3 [.i .i64 0]),
 ⟨none,.st 1 (.t 3) (.c (.i .i64 0)),none⟩])
 (.seq (.seq (.reg [zo 4 (.ld true 4 (.t 1)),
 zo 5 (.call GJ [(.t 4),(.c (.i .i64 0))])])
 (.blk 0 (.rf (.t 5) [6,7] .skip
 (.blk 1 (.reg [zo 8 (.ld false 1 (.t 3)),
 zo 9 (.bin .add (.t 8) (.c (.i .i64 1))),
 ⟨none,.st 1 (.t 3) (.t 9),none⟩])))))
 (.seq (.reg [zo 10 (.ld false 1 (.t 3)),
 zo 2 (.mv (.t 10))])
 .ret)))) }
def F1:Fun:={ cin:=[(.agg [.id,.id,(.sl 2 (.agg [(.sl 3 (.agg [.id,.id,.id])),.id])),(.sl 4 (.agg [.id,.id,(.sl 2 (.agg [.sl 3 .id,.id])),(.sl 4 (.agg [.id,.id,.sl 2 .id,.sl 4 .id]))]))])],cout:=[],ntmps:=5,keep:=true,res:=[(2,none)],body :=
 (.seq (.reg [zo 1 (.box 25 4 (.t 0)),
 zo 2 (.mv (.c .nsl))])
 (.seq (.reg [zo 3 (.ld true 4 (.t 1)),
 zo 4 (.call JI [(.t 3),(.c (.fn Fy []))]),
 zo 2 (.mv (.t 4))])
 .ret)) }
def Au:Fun:={ cin:=[(.agg [.id,.id,(.sl 2 (.agg [(.sl 3 (.agg [.id,.id,.id])),.id])),(.sl 4 (.agg [.id,.id,(.sl 2 (.agg [.sl 3 .id,.id])),(.sl 4 (.agg [.id,.id,.sl 2 .id,.sl 4 .id]))]))])],cout:=[.id],ntmps:=98,keep:=false,res:=[(2,none)],body :=
 (.seq (.reg [zo 1 (.box 25 4 (.t 0)),
 zo 2 (.mv (.c (.i .i64 0)))])
 (.seq (.reg [zo 3 (.mv (.c (.i .i64 1)))])
 (.seq (.seq (.reg [zo 7 (.fa 2 (.t 1)),
 zo 8 (.ld false 1 (.t 7)),
 zo 9 (.len 1 (.t 8)),
 zo 10 (.bin .gtr (.t 9) (.c (.i .i64 300))),
 zo 11 (.mv (.t 10)),
 ⟨some 12,.fa 3 (.t 1),some (11,false)⟩,
 ⟨some 13,.ld false 1 (.t 12),some (11,false)⟩,
 ⟨some 14,.len 1 (.t 13),some (11,false)⟩,
 ⟨some 15,.bin .gtr (.t 14) (.c (.i .i64 300)),some (11,false)⟩,
 zo 16 (.pick (.t 11) (.c (.b true)) (.t 15)),
 zo 17 (.mv (.t 16)),
 ⟨some 18,.fa 1 (.t 1),some (17,false)⟩,
 ⟨some 19,.ld false 1 (.t 18),some (17,false)⟩,
 ⟨some 20,.len 0 (.t 19),some (17,false)⟩,
 ⟨some 21,.bin .gtr (.t 20) (.c (.i .i64 300)),some (17,false)⟩,
 zo 22 (.pick (.t 17) (.c (.b true)) (.t 21))])
 (.cond (.t 22)
 (.seq (.reg [zo 2 (.mv (.c (.i .i64 1000)))])
 .ret)
 .skip))
 (.seq (.seq (.reg [zo 4 (.mv (.c (.i .i64 0)))])
 (.blk 0 (.loop (.seq (.seq (.reg [zo 23 (.mv (.t 4)),
 zo 24 (.fa 2 (.t 1)),
 zo 25 (.ld false 1 (.t 24)),
 zo 26 (.len 1 (.t 25)),
 zo 27 (.bin .lss (.t 23) (.t 26))])
 (.cond (.t 27)
 .skip
 (.exit 0)))
 (.seq (.blk 1 (.seq (.seq (.reg [zo 30 (.fa 2 (.t 1)),
 zo 31 (.ld false 1 (.t 30)),
 zo 32 (.mv (.t 4)),
 zo 33 (.ia 2 (.t 31) (.t 32)),
 zo 34 (.fa 0 (.t 33)),
 zo 35 (.ld false 1 (.t 34)),
 zo 36 (.len 1 (.t 35)),
 zo 37 (.bin .gtr (.t 36) (.c (.i .i64 100)))])
 (.cond (.t 37)
 (.seq (.reg [zo 2 (.mv (.c (.i .i64 1000)))])
 .ret)
 .skip))
 (.seq (.reg [zo 38 (.mv (.t 3)),
 zo 39 (.bin .add (.t 38) (.c (.i .i64 1))),
 zo 3 (.mv (.t 39))])
 (.seq (.reg [zo 5 (.mv (.c (.i .i64 0)))])
 (.blk 2 (.loop (.seq (.seq (.reg [zo 40 (.mv (.t 5)),
 zo 41 (.fa 2 (.t 1)),
 zo 42 (.ld false 1 (.t 41)),
 zo 43 (.mv (.t 4)),
 zo 44 (.ia 2 (.t 42) (.t 43)),
 zo 45 (.fa 0 (.t 44)),
 zo 46 (.ld false 1 (.t 45)),
 zo 47 (.len 1 (.t 46)),
 zo 48 (.bin .lss (.t 40) (.t 47))])
 (.cond (.t 48)
 .skip
 (.exit 2)))
 (.seq (.blk 3 (.seq (.seq (.reg [zo 51 (.fa 2 (.t 1)),
 zo 52 (.ld false 1 (.t 51)),
 zo 53 (.mv (.t 4)),
 zo 54 (.ia 2 (.t 52) (.t 53)),
 zo 55 (.fa 0 (.t 54)),
 zo 56 (.ld false 1 (.t 55)),
 zo 57 (.mv (.t 5)),
 zo 58 (.ia 3 (.t 56) (.t 57)),
 zo 59 (.fa 1 (.t 58)),
 zo 60 (.ld false 1 (.t 59)),
 zo 61 (.len 0 (.t 60)),
 zo 62 (.bin .gtr (.t 61) (.c (.i .i64 2000)))])
 (.cond (.t 62)
 (.seq (.reg [zo 2 (.mv (.c (.i .i64 1000)))])
 .ret)
 .skip))
 (.reg [zo 63 (.mv (.t 3)),
 zo 64 (.bin .add (.t 63) (.c (.i .i64 1))),
 zo 65 (.fa 2 (.t 1)),
 zo 66 (.ld false 1 (.t 65)),
 zo 67 (.mv (.t 4)),
 zo 68 (.ia 2 (.t 66) (.t 67)),
 zo 69 (.fa 0 (.t 68)),
 zo 70 (.ld false 1 (.t 69)),
 zo 71 (.mv (.t 5)),
 zo 72 (.ia 3 (.t 70) (.t 71)),
 zo 73 (.fa 1 (.t 72)),
 zo 74 (.ld false 1 (.t 73)),
 zo 75 (.len 0 (.t 74)),
 zo 76 (.bin .quo (.t 75) (.c (.i .i64 100))),
 zo 77 (.bin .add (.t 64) (.t 76)),
 zo 3 (.mv (.t 77))])))
 (.reg [zo 49 (.mv (.t 5)),
 zo 50 (.bin .add (.t 49) (.c (.i .i64 1))),
 zo 5 (.mv (.t 50))])))))))))
 (.reg [zo 28 (.mv (.t 4)),
 zo 29 (.bin .add (.t 28) (.c (.i .i64 1))),
 zo 4 (.mv (.t 29))]))))))
 (.seq (.seq (.reg [zo 6 (.mv (.c (.i .i64 0)))])
 (.blk 4 (.loop (.seq (.seq (.reg [zo 78 (.mv (.t 6)),
 zo 79 (.fa 3 (.t 1)),
 zo 80 (.ld false 1 (.t 79)),
 zo 81 (.len 1 (.t 80)),
 zo 82 (.bin .lss (.t 78) (.t 81)),
 zo 83 (.mv (.t 82)),
 ⟨some 84,.mv (.t 3),some (83,true)⟩,
 ⟨some 85,.bin .leq (.t 84) (.c (.i .i64 400)),some (83,true)⟩,
 zo 86 (.pick (.t 83) (.t 85) (.c (.b false)))])
 (.cond (.t 86)
 .skip
 (.exit 4)))
 (.seq (.blk 5 (.reg [zo 89 (.mv (.t 3)),
 zo 90 (.fa 3 (.t 1)),
 zo 91 (.ld false 1 (.t 90)),
 zo 92 (.mv (.t 6)),
 zo 93 (.ia 4 (.t 91) (.t 92)),
 zo 94 (.ld true 4 (.t 93)),
 zo 95 (.call BZ [.t 94]),
 zo 96 (.bin .add (.t 89) (.t 95)),
 zo 3 (.mv (.t 96))]))
 (.reg [zo 87 (.mv (.t 6)),
 zo 88 (.bin .add (.t 87) (.c (.i .i64 1))),
 zo 6 (.mv (.t 88))]))))))
 (.seq (.reg [zo 97 (.mv (.t 3)),
 zo 2 (.mv (.t 97))])
 .ret)))))) }
def Ef:Fun:={ cin:=[],cout:=[],ntmps:=0,keep:=false,res:=[],body:=.bad,prim:=some (Ks Nf) }
def EP:Fun:={ cin:=[],cout:=[.id],ntmps:=86,keep:=false,res:=[(0,none)],body :=
 (.seq (.reg [zo 0 (.mv (.c (.b false)))])
 (.seq (.reg [zo 7 (.build [(.b false),(.s []),(.b false)] [(1,1,(.c (.s [101,99,104,111])))]),
 zo 8 (.bsl 3 [.t 7]),
 zo 9 (.build [.nsl,.b false] [(0,1,(.t 8))]),
 zo 10 (.build [(.b false),(.s []),(.b false)] [(0,1,(.c (.b true))),(1,1,(.c (.s [120])))]),
 zo 11 (.bsl 3 [.t 10]),
 zo 12 (.build [.nsl,.b false] [(0,1,(.t 11)),(1,1,(.c (.b true)))]),
 zo 13 (.bsl 2 [.t 9,.t 12]),
 zo 14 (.build [(.i .u8 0),(.s []),.nsl,.nsl] [(0,1,(.c (.i .u8 3))),(2,1,(.t 13))]),
 zo 1 (.alloc 25 [(.i .u8 0),(.s []),.nsl,.nsl]),
 ⟨none,.st 4 (.t 1) (.t 14),none⟩])
 (.seq (.reg [zo 16 (.ld true 4 (.t 1)),
 zo 17 (.call Gr [.t 16]),
 zo 15 (.mv (.t 17)),
 zo 18 (.ext (.t 15) 0),
 zo 19 (.ext (.t 15) 1),
 zo 2 (.mv (.t 18)),
 zo 3 (.mv (.t 19))])
 (.seq (.reg [zo 20 (.build [(.i .u8 0),(.s []),.nsl,.nsl] [(0,1,(.c (.i .u8 1)))]),
 zo 21 (.build [(.i .u8 0),(.s []),.nsl,.nsl] [(0,1,(.c (.i .u8 6)))]),
 zo 22 (.bsl 4 [.t 20,.t 21]),
 zo 23 (.build [(.i .u8 0),(.s []),.nsl,.nsl] [(0,1,(.c (.i .u8 5))),(3,1,(.t 22))]),
 zo 4 (.alloc 25 [(.i .u8 0),(.s []),.nsl,.nsl]),
 ⟨none,.st 4 (.t 4) (.t 23),none⟩])
 (.seq (.reg [zo 25 (.ld true 4 (.t 4)),
 zo 26 (.call Gr [.t 25]),
 zo 24 (.mv (.t 26)),
 zo 27 (.ext (.t 24) 0),
 zo 28 (.ext (.t 24) 1),
 zo 5 (.mv (.t 27)),
 zo 6 (.mv (.t 28))])
 (.seq (.reg [zo 29 (.mv (.t 3)),
 zo 30 (.bin .eql (.t 29) (.c (.i .i64 0))),
 zo 31 (.mv (.t 30)),
 ⟨some 32,.mv (.t 2),some (31,true)⟩,
 ⟨some 33,.len 1 (.t 32),some (31,true)⟩,
 ⟨some 34,.bin .eql (.t 33) (.c (.i .i64 1)),some (31,true)⟩,
 zo 35 (.pick (.t 31) (.t 34) (.c (.b false))),
 zo 36 (.mv (.t 35)),
 ⟨some 37,.mv (.t 2),some (36,true)⟩,
 ⟨some 38,.ia 1 (.t 37) (.c (.i .i64 0)),some (36,true)⟩,
 ⟨some 39,.ld false 1 (.t 38),some (36,true)⟩,
 ⟨some 40,.bin .eql (.t 39) (.c (.s [99,97,108,108,32,61,56,58,98,112,52,58,101,99,104,111,32,42,53,58,118,112,49,58,120])),some (36,true)⟩,
 zo 41 (.pick (.t 36) (.t 40) (.c (.b false))),
 zo 42 (.mv (.t 41)),
 ⟨some 43,.mv (.t 6),some (42,true)⟩,
 ⟨some 44,.bin .eql (.t 43) (.c (.i .i64 0)),some (42,true)⟩,
 zo 45 (.pick (.t 42) (.t 44) (.c (.b false))),
 zo 46 (.mv (.t 45)),
 ⟨some 47,.mv (.t 5),some (46,true)⟩,
 ⟨some 48,.len 1 (.t 47),some (46,true)⟩,
 ⟨some 49,.bin .eql (.t 48) (.c (.i .i64 3)),some (46,true)⟩,
 zo 50 (.pick (.t 46) (.t 49) (.c (.b false))),
 zo 51 (.mv (.t 50)),
 ⟨some 52,.mv (.t 5),some (51,true)⟩,
 ⟨some 53,.ia 1 (.t 52) (.c (.i .i64 0)),some (51,true)⟩,
 ⟨some 54,.ld false 1 (.t 53),some (51,true)⟩,
 ⟨some 55,.bin .eql (.t 54) (.c (.s [115,101,113])),some (51,true)⟩,
 zo 56 (.pick (.t 51) (.t 55) (.c (.b false))),
 zo 57 (.mv (.t 56)),
 ⟨some 58,.mv (.t 5),some (57,true)⟩,
 ⟨some 59,.ia 1 (.t 58) (.c (.i .i64 1)),some (57,true)⟩,
 ⟨some 60,.ld false 1 (.t 59),some (57,true)⟩,
 ⟨some 61,.bin .eql (.t 60) (.c (.s [32,115,107,105,112])),some (57,true)⟩,
 zo 62 (.pick (.t 57) (.t 61) (.c (.b false))),
 zo 63 (.mv (.t 62)),
 ⟨some 64,.mv (.t 5),some (63,true)⟩,
 ⟨some 65,.ia 1 (.t 64) (.c (.i .i64 2)),some (63,true)⟩,
 ⟨some 66,.ld false 1 (.t 65),some (63,true)⟩,
 ⟨some 67,.bin .eql (.t 66) (.c (.s [32,110,111,116])),some (63,true)⟩,
 zo 68 (.pick (.t 63) (.t 67) (.c (.b false))),
 zo 69 (.mv (.t 68)),
 ⟨some 70,.ld true 4 (.t 4),some (69,true)⟩,
 ⟨some 71,.call KV [.t 70],some (69,true)⟩,
 ⟨some 72,.bin .eql (.t 71) (.c (.i .i64 3)),some (69,true)⟩,
 zo 73 (.pick (.t 69) (.t 72) (.c (.b false))),
 zo 74 (.mv (.t 73)),
 ⟨some 75,.ld true 4 (.t 1),some (74,true)⟩,
 ⟨some 76,.call JG [.t 75],some (74,true)⟩,
 ⟨some 77,.bsl 1 [(.c (.s [120]))],some (74,true)⟩,
 ⟨some 78,.call B3 [.t 76,.t 77],some (74,true)⟩,
 zo 79 (.pick (.t 74) (.t 78) (.c (.b false))),
 zo 80 (.mv (.t 79)),
 ⟨some 81,.ld true 4 (.t 1),some (80,true)⟩,
 ⟨some 82,.call KX [.t 81],some (80,true)⟩,
 ⟨some 83,.len 1 (.t 82),some (80,true)⟩,
 ⟨some 84,.bin .eql (.t 83) (.c (.i .i64 0)),some (80,true)⟩,
 zo 85 (.pick (.t 80) (.t 84) (.c (.b false))),
 zo 0 (.mv (.t 85))])
 .ret)))))) }
def Ad:Fun:={ cin:=[.sl 1 .id,.sl 1 .id],cout:=[.id],ntmps:=15,keep:=false,res:=[(4,none)],body :=
 (.seq (.reg [zo 4 (.mv (.c (.b false)))])
 (.seq (.reg [zo 5 (.mv (.t 0)),
 zo 6 (.len 1 (.t 5)),
 zo 7 (.mv (.t 1)),
 zo 8 (.len 1 (.t 7)),
 zo 9 (.bin .eql (.t 6) (.t 8)),
 zo 10 (.mv (.t 9)),
 ⟨some 11,.mv (.t 0),some (10,true)⟩,
 ⟨some 12,.mv (.t 1),some (10,true)⟩,
 ⟨some 13,.call Cf [.t 11,.t 12],some (10,true)⟩,
 zo 14 (.pick (.t 10) (.t 13) (.c (.b false))),
 zo 4 (.mv (.t 14))])
 .ret)) }
def Ah:Fun:={ cin:=[.sl 1 .id],cout:=[.sl 1 .id],ntmps:=63,keep:=false,res:=[(2,none)],body :=
 (.seq (.reg [zo 2 (.mv (.c .nsl))])
 (.seq (.reg [zo 3 (.mv (.c .nsl))])
 (.seq (.seq (.reg [zo 4 (.mv (.c (.i .i64 0)))])
 (.blk 0 (.loop (.seq (.seq (.reg [zo 7 (.mv (.t 4)),
 zo 8 (.mv (.t 0)),
 zo 9 (.len 1 (.t 8)),
 zo 10 (.bin .lss (.t 7) (.t 9))])
 (.cond (.t 10)
 .skip
 (.exit 0)))
 (.seq (.blk 1 (.seq (.reg [zo 13 (.mv (.t 3)),
 zo 14 (.len 1 (.t 13)),
 zo 5 (.mv (.t 14))])
 (.seq (.blk 2 (.loop (.seq (.seq (.regD [zo 15 (.mv (.t 5)),
 zo 16 (.bin .gtr (.t 15) (.c (.i .i64 0))),
 zo 17 (.mv (.t 16)),
 ⟨some 18,.mv (.t 3),some (17,true)⟩,
 ⟨some 19,.mv (.t 5),some (17,true)⟩,
 ⟨some 20,.bin .sub (.t 19) (.c (.i .i64 1)),some (17,true)⟩,
 ⟨some 21,.ia 1 (.t 18) (.t 20),some (17,true)⟩,
 ⟨some 22,.ld false 1 (.t 21),some (17,true)⟩,
 ⟨some 23,.mv (.t 0),some (17,true)⟩,
 ⟨some 24,.mv (.t 4),some (17,true)⟩,
 ⟨some 25,.ia 1 (.t 23) (.t 24),some (17,true)⟩,
 ⟨some 26,.ld false 1 (.t 25),some (17,true)⟩,
 ⟨some 27,.bin .gtr (.t 22) (.t 26),some (17,true)⟩,
 zo 28 (.pick (.t 17) (.t 27) (.c (.b false)))] [])
 (.cond (.t 28)
 .skip
 (.exit 2)))
 (.blk 3 (.reg [zo 29 (.mv (.t 5)),
 zo 30 (.bin .sub (.t 29) (.c (.i .i64 1))),
 zo 5 (.mv (.t 30))])))))
 (.seq (.seq (.regD [zo 31 (.mv (.t 5)),
 zo 32 (.bin .gtr (.t 31) (.c (.i .i64 0))),
 zo 33 (.mv (.t 32)),
 ⟨some 34,.mv (.t 3),some (33,true)⟩,
 ⟨some 35,.mv (.t 5),some (33,true)⟩,
 ⟨some 36,.bin .sub (.t 35) (.c (.i .i64 1)),some (33,true)⟩,
 ⟨some 37,.ia 1 (.t 34) (.t 36),some (33,true)⟩,
 ⟨some 38,.ld false 1 (.t 37),some (33,true)⟩,
 ⟨some 39,.mv (.t 0),some (33,true)⟩,
 ⟨some 40,.mv (.t 4),some (33,true)⟩,
 ⟨some 41,.ia 1 (.t 39) (.t 40),some (33,true)⟩,
 ⟨some 42,.ld false 1 (.t 41),some (33,true)⟩,
 ⟨some 43,.bin .eql (.t 38) (.t 42),some (33,true)⟩,
 zo 44 (.pick (.t 33) (.t 43) (.c (.b false)))] [])
 (.cond (.t 44)
 (.exit 1)
 .skip))
 (.seq (.reg [zo 45 (.bsl 1 []),
 zo 46 (.mv (.t 3)),
 zo 47 (.mv (.t 5)),
 zo 48 (.slc false 1 (.t 46) none (some (.t 47)) none),
 zo 49 (.app 1 9 (.t 45) (.t 48)),
 zo 6 (.mv (.t 49))])
 (.seq (.reg [zo 50 (.mv (.t 6)),
 zo 51 (.mv (.t 0)),
 zo 52 (.mv (.t 4)),
 zo 53 (.ia 1 (.t 51) (.t 52)),
 zo 54 (.ld false 1 (.t 53)),
 zo 55 (.bsl 1 [.t 54]),
 zo 56 (.app 1 9 (.t 50) (.t 55)),
 zo 6 (.mv (.t 56))])
 (.reg [zo 57 (.mv (.t 6)),
 zo 58 (.mv (.t 3)),
 zo 59 (.mv (.t 5)),
 zo 60 (.slc false 1 (.t 58) (some (.t 59)) none none),
 zo 61 (.app 1 9 (.t 57) (.t 60)),
 zo 3 (.mv (.t 61))])))))))
 (.reg [zo 11 (.mv (.t 4)),
 zo 12 (.bin .add (.t 11) (.c (.i .i64 1))),
 zo 4 (.mv (.t 12))]))))))
 (.seq (.reg [zo 62 (.mv (.t 3)),
 zo 2 (.mv (.t 62))])
 .ret)))) }
def C8:Fun:={ cin:=[(.agg [.id,.id,(.sl 2 (.agg [(.sl 3 (.agg [.id,.id,.id])),.id])),(.sl 4 (.agg [.id,.id,(.sl 2 (.agg [.sl 3 .id,.id])),(.sl 4 (.agg [.id,.id,.sl 2 .id,.sl 4 .id]))]))])],cout:=[],ntmps:=55,keep:=true,res:=[(2,none),(3,none)],body :=
 (.seq (.reg [zo 1 (.box 25 4 (.t 0)),
 zo 2 (.mv (.c .nsl)),
 zo 3 (.mv (.c (.i .i64 0)))])
 (.seq (.seq (.reg [zo 11 (.ld true 4 (.t 1)),
 zo 12 (.call KU [.t 11]),
 zo 13 (.un .not (.t 12))])
 (.cond (.t 13)
 (.seq (.reg [zo 2 (.mv (.c .nsl)),
 zo 3 (.mv (.c (.i .i64 4)))])
 .ret)
 .skip))
 (.seq (.reg [zo 14 (.call JH []),
 zo 4 (.alloc 73 [.nm]),
 ⟨none,.st 1 (.t 4) (.t 14),none⟩])
 (.seq (.reg [zo 5 (.alloc 26 [.nsl])])
 (.seq (.seq (.reg [zo 15 (.ld true 4 (.t 1)),
 zo 16 (.call GJ [(.t 15),(.c (.i .i64 0))])])
 (.blk 0 (.rf (.t 16) [17,18] (.seq (.reg [zo 6 (.mv (.t 17))])
 (.reg [zo 7 (.alloc 25 [(.i .u8 0),(.s []),.nsl,.nsl]),
 ⟨none,.st 4 (.t 7) (.t 18),none⟩]))
 (.blk 1 (.seq (.regD [zo 19 (.mv (.t 6)),
 zo 20 (.call FV [(.c (.s [32])),(.t 19)]),
 zo 21 (.ld false 1 (.t 4)),
 zo 22 (.fa 0 (.t 7)),
 zo 23 (.ld false 1 (.t 22)),
 zo 24 (.look 0 (.agg [(.s []),(.b false),(.i .i64 0),(.i .i64 0),.nf]) false (.t 21) (.t 23)),
 zo 25 (.fld false 0 1 (.t 24)),
 zo 26 (.bin .add (.t 20) (.t 25)),
 zo 27 (.bsl 1 [.t 26]),
 zo 8 (.mv (.t 27))] [(2,(1,2)),(4,(1,4)),(5,(1,5))])
 (.seq (.seq (.reg [zo 28 (.fa 1 (.t 7)),
 zo 29 (.ld false 1 (.t 28)),
 zo 30 (.bin .neq (.t 29) (.c (.s [])))])
 (.cond (.t 30)
 (.reg [zo 31 (.mv (.t 8)),
 zo 32 (.fa 1 (.t 7)),
 zo 33 (.ld false 1 (.t 32)),
 zo 34 (.bsl 1 [.t 33]),
 zo 35 (.app 1 9 (.t 31) (.t 34)),
 zo 8 (.mv (.t 35))])
 .skip))
 (.seq (.seq (.reg [zo 36 (.fa 2 (.t 7)),
 zo 37 (.ld false 1 (.t 36)),
 zo 38 (.len 1 (.t 37)),
 zo 39 (.mv (.c (.i .i64 0)))])
 (.blk 2 (.loop (.seq (.reg [zo 40 (.bin .lss (.t 39) (.t 38))])
 (.seq (.cond (.t 40)
 .skip
 (.exit 2))
 (.seq (.blk 3 (.seq (.reg [zo 41 (.ia 2 (.t 37) (.t 39)),
 zo 42 (.ld true 2 (.t 41)),
 zo 10 (.alloc 78 [.nsl,.b false]),
 ⟨none,.st 2 (.t 10) (.t 42),none⟩])
 (.reg [zo 43 (.mv (.t 8)),
 zo 44 (.ld true 2 (.t 10)),
 zo 45 (.call Ma [.t 44]),
 zo 46 (.bsl 1 [.t 45]),
 zo 47 (.app 1 9 (.t 43) (.t 46)),
 zo 8 (.mv (.t 47))])))
 (.reg [zo 48 (.bin .add (.t 39) (.c (.i .i64 1))),
 zo 39 (.mv (.t 48))])))))))
 (.regD [zo 49 (.ld false 1 (.t 5)),
 zo 50 (.mv (.t 8)),
 zo 51 (.callQ false GV [(.t 50),(.c (.s [32]))]),
 zo 52 (.bsl 1 [.t 51]),
 zo 53 (.app 1 9 (.t 49) (.t 52)),
 ⟨none,.st 1 (.t 5) (.t 53),none⟩] [(0,(0,3))]))))))))
 (.seq (.reg [zo 54 (.ld false 1 (.t 5)),
 zo 2 (.mv (.t 54)),
 zo 3 (.mv (.c (.i .i64 0)))])
 .ret)))))) }
def A9:Fun:={ cin:=[(.agg [.id,.id,(.sl 2 (.agg [(.sl 3 (.agg [.id,.id,.id])),.id])),(.sl 4 (.agg [.id,.id,(.sl 2 (.agg [.sl 3 .id,.id])),(.sl 4 (.agg [.id,.id,.sl 2 .id,.sl 4 .id]))]))])],cout:=[.sl 1 .id,.id],ntmps:=9,keep:=false,res:=[(2,none),(3,none)],body :=
 (.seq (.reg [zo 1 (.box 25 4 (.t 0)),
 zo 2 (.mv (.c .nsl)),
 zo 3 (.mv (.c (.i .i64 0)))])
 (.seq (.seq (.reg [zo 4 (.ld true 4 (.t 1)),
 zo 5 (.call CJ [.t 4]),
 zo 6 (.un .not (.t 5))])
 (.cond (.t 6)
 (.seq (.reg [zo 2 (.mv (.c .nsl)),
 zo 3 (.mv (.c (.i .i64 4)))])
 .ret)
 .skip))
 (.seq (.reg [zo 7 (.ld true 4 (.t 1)),
 zo 8 (.call Cg [.t 7]),
 zo 2 (.mv (.t 8)),
 zo 3 (.mv (.c (.i .i64 0)))])
 .ret))) }
def AI:Fun:={ cin:=[.sl 1 .id,.sl 1 .id],cout:=[.id],ntmps:=20,keep:=false,res:=[(4,none)],body :=
 (.seq (.reg [zo 4 (.mv (.c (.b false)))])
 (.seq (.seq (.thw 0)
 (.seq (.thw 1)
 (.reg [zo 7 (.mv (.t 0)),
 zo 8 (.mv (.t 1)),
 zo 9 (.call B3 [.t 7,.t 8]),
 zo 5 (.mv (.t 9))])))
 (.seq (.seq (.reg [zo 6 (.mv (.c (.i .i64 0)))])
 (.blk 0 (.loop (.seq (.seq (.reg [zo 10 (.mv (.t 6)),
 zo 11 (.mv (.t 0)),
 zo 12 (.len 1 (.t 11)),
 zo 13 (.bin .lss (.t 10) (.t 12))])
 (.cond (.t 13)
 .skip
 (.exit 0)))
 (.seq (.blk 1 (.seq (.thw 0)
 (.reg [zo 16 (.mv (.t 0)),
 zo 17 (.mv (.t 6)),
 zo 18 (.ia 1 (.t 16) (.t 17)),
 ⟨none,.st 1 (.t 18) (.c (.s [115,112,111,105,108,116])),none⟩])))
 (.reg [zo 14 (.mv (.t 6)),
 zo 15 (.bin .add (.t 14) (.c (.i .i64 1))),
 zo 6 (.mv (.t 15))]))))))
 (.seq (.reg [zo 19 (.mv (.t 5)),
 zo 4 (.mv (.t 19))])
 .ret)))) }
def BR:Fun:={ cin:=[(.agg [.id,.id,(.sl 2 (.agg [(.sl 3 (.agg [.id,.id,.id])),.id])),(.sl 4 (.agg [.id,.id,(.sl 2 (.agg [.sl 3 .id,.id])),(.sl 4 (.agg [.id,.id,.sl 2 .id,.sl 4 .id]))]))])],cout:=[.sl 1 .id],ntmps:=12,keep:=false,res:=[(2,none)],body :=
 (.seq (.reg [zo 1 (.box 25 4 (.t 0)),
 zo 2 (.mv (.c .nsl))])
 (.seq (.reg [zo 6 (.ld true 4 (.t 1)),
 zo 7 (.call Bo [.t 6]),
 zo 5 (.mv (.t 7)),
 zo 8 (.ext (.t 5) 0),
 zo 9 (.ext (.t 5) 1),
 zo 3 (.mv (.t 8)),
 zo 4 (.mv (.t 9))])
 (.seq (.reg [zo 10 (.mv (.t 3)),
 zo 11 (.call Bh [.t 10]),
 zo 2 (.mv (.t 11))])
 .ret))) }
def Ba:Fun:={ cin:=[(.agg [.id,.id,(.sl 2 (.agg [(.sl 3 (.agg [.id,.id,.id])),.id])),(.sl 4 (.agg [.id,.id,(.sl 2 (.agg [.sl 3 .id,.id])),(.sl 4 (.agg [.id,.id,.sl 2 .id,.sl 4 .id]))]))])],cout:=[.sl 1 .id],ntmps:=12,keep:=false,res:=[(2,none)],body :=
 (.seq (.reg [zo 1 (.box 25 4 (.t 0)),
 zo 2 (.mv (.c .nsl))])
 (.seq (.reg [zo 6 (.ld true 4 (.t 1)),
 zo 7 (.call Bo [.t 6]),
 zo 5 (.mv (.t 7)),
 zo 8 (.ext (.t 5) 0),
 zo 9 (.ext (.t 5) 1),
 zo 3 (.mv (.t 8)),
 zo 4 (.mv (.t 9))])
 (.seq (.reg [zo 10 (.mv (.t 4)),
 zo 11 (.call Bh [.t 10]),
 zo 2 (.mv (.t 11))])
 .ret))) }
def Bj:Fun:={ cin:=[(.agg [.id,.id,(.sl 2 (.agg [(.sl 3 (.agg [.id,.id,.id])),.id])),(.sl 4 (.agg [.id,.id,(.sl 2 (.agg [.sl 3 .id,.id])),(.sl 4 (.agg [.id,.id,.sl 2 .id,.sl 4 .id]))]))])],cout:=[.id],ntmps:=129,keep:=false,res:=[(2,none)],body :=
 (.seq (.reg [zo 1 (.box 25 4 (.t 0)),
 zo 2 (.mv (.c (.b false)))])
 (.seq (.seq (.reg [zo 3 (.mv (.c (.i .i64 0)))])
 (.blk 0 (.loop (.seq (.seq (.reg [zo 7 (.mv (.t 3)),
 zo 8 (.fa 3 (.t 1)),
 zo 9 (.ld false 1 (.t 8)),
 zo 10 (.len 1 (.t 9)),
 zo 11 (.bin .lss (.t 7) (.t 10))])
 (.cond (.t 11)
 .skip
 (.exit 0)))
 (.seq (.blk 1 (.seq (.reg [zo 14 (.fa 3 (.t 1)),
 zo 15 (.ld false 1 (.t 14)),
 zo 16 (.mv (.t 3)),
 zo 17 (.ia 4 (.t 15) (.t 16)),
 zo 18 (.ld true 4 (.t 17)),
 zo 19 (.call CJ [.t 18]),
 zo 20 (.un .not (.t 19))])
 (.cond (.t 20)
 (.seq (.reg [zo 2 (.mv (.c (.b false)))])
 .ret)
 .skip)))
 (.reg [zo 12 (.mv (.t 3)),
 zo 13 (.bin .add (.t 12) (.c (.i .i64 1))),
 zo 3 (.mv (.t 13))]))))))
 (.seq (.regD [zo 21 (.fa 1 (.t 1)),
 zo 22 (.ld false 1 (.t 21)),
 zo 23 (.bin .eql (.t 22) (.c (.s []))),
 zo 24 (.fa 2 (.t 1)),
 zo 25 (.ld false 1 (.t 24)),
 zo 26 (.len 1 (.t 25)),
 zo 27 (.bin .eql (.t 26) (.c (.i .i64 0))),
 zo 28 (.fa 3 (.t 1)),
 zo 29 (.ld false 1 (.t 28)),
 zo 30 (.len 1 (.t 29)),
 zo 4 (.mv (.t 23)),
 zo 5 (.mv (.t 27)),
 zo 6 (.mv (.t 30))] [])
 (.seq (.seq (.reg [zo 31 (.fa 0 (.t 1)),
 zo 32 (.ld false 1 (.t 31))])
 (.blk 2 (.seq (.seq (.reg [zo 34 (.bin .eql (.t 32) (.c (.i .u8 1))),
 zo 33 (.mv (.t 34))])
 (.cond (.t 33)
 .skip
 (.seq (.reg [zo 35 (.bin .eql (.t 32) (.c (.i .u8 4))),
 zo 33 (.mv (.t 35))])
 (.cond (.t 33)
 .skip
 (.reg [zo 36 (.bin .eql (.t 32) (.c (.i .u8 6))),
 zo 33 (.mv (.t 36))])))))
 (.cond (.t 33)
 (.seq (.reg [zo 37 (.mv (.t 4)),
 zo 38 (.mv (.t 37)),
 ⟨some 39,.mv (.t 5),some (38,true)⟩,
 zo 40 (.pick (.t 38) (.t 39) (.c (.b false))),
 zo 41 (.mv (.t 40)),
 ⟨some 42,.mv (.t 6),some (41,true)⟩,
 ⟨some 43,.bin .eql (.t 42) (.c (.i .i64 0)),some (41,true)⟩,
 zo 44 (.pick (.t 41) (.t 43) (.c (.b false))),
 zo 2 (.mv (.t 44))])
 .ret)
 (.seq (.reg [zo 46 (.bin .eql (.t 32) (.c (.i .u8 2))),
 zo 45 (.mv (.t 46))])
 (.cond (.t 45)
 (.seq (.reg [zo 47 (.fa 1 (.t 1)),
 zo 48 (.ld false 1 (.t 47)),
 zo 49 (.call B5 [.t 48]),
 zo 50 (.mv (.t 49)),
 ⟨some 51,.fa 2 (.t 1),some (50,true)⟩,
 ⟨some 52,.ld false 1 (.t 51),some (50,true)⟩,
 ⟨some 53,.len 1 (.t 52),some (50,true)⟩,
 ⟨some 54,.bin .eql (.t 53) (.c (.i .i64 1)),some (50,true)⟩,
 zo 55 (.pick (.t 50) (.t 54) (.c (.b false))),
 zo 56 (.mv (.t 55)),
 ⟨some 57,.fa 2 (.t 1),some (56,true)⟩,
 ⟨some 58,.ld false 1 (.t 57),some (56,true)⟩,
 ⟨some 59,.ia 2 (.t 58) (.c (.i .i64 0)),some (56,true)⟩,
 ⟨some 60,.fa 1 (.t 59),some (56,true)⟩,
 ⟨some 61,.ld false 1 (.t 60),some (56,true)⟩,
 ⟨some 62,.un .not (.t 61),some (56,true)⟩,
 zo 63 (.pick (.t 56) (.t 62) (.c (.b false))),
 zo 64 (.mv (.t 63)),
 ⟨some 65,.fa 2 (.t 1),some (64,true)⟩,
 ⟨some 66,.ld false 1 (.t 65),some (64,true)⟩,
 ⟨some 67,.call Bp [.t 66],some (64,true)⟩,
 zo 68 (.pick (.t 64) (.t 67) (.c (.b false))),
 zo 69 (.mv (.t 68)),
 ⟨some 70,.mv (.t 6),some (69,true)⟩,
 ⟨some 71,.bin .eql (.t 70) (.c (.i .i64 0)),some (69,true)⟩,
 zo 72 (.pick (.t 69) (.t 71) (.c (.b false))),
 zo 2 (.mv (.t 72))])
 .ret)
 (.seq (.reg [zo 74 (.bin .eql (.t 32) (.c (.i .u8 3))),
 zo 73 (.mv (.t 74))])
 (.cond (.t 73)
 (.seq (.reg [zo 75 (.mv (.t 4)),
 zo 76 (.mv (.t 75)),
 ⟨some 77,.mv (.t 5),some (76,true)⟩,
 ⟨some 78,.un .not (.t 77),some (76,true)⟩,
 zo 79 (.pick (.t 76) (.t 78) (.c (.b false))),
 zo 80 (.mv (.t 79)),
 ⟨some 81,.fa 2 (.t 1),some (80,true)⟩,
 ⟨some 82,.ld false 1 (.t 81),some (80,true)⟩,
 ⟨some 83,.call Bp [.t 82],some (80,true)⟩,
 zo 84 (.pick (.t 80) (.t 83) (.c (.b false))),
 zo 85 (.mv (.t 84)),
 ⟨some 86,.mv (.t 6),some (85,true)⟩,
 ⟨some 87,.bin .eql (.t 86) (.c (.i .i64 0)),some (85,true)⟩,
 zo 88 (.pick (.t 85) (.t 87) (.c (.b false))),
 zo 2 (.mv (.t 88))])
 .ret)
 (.seq (.reg [zo 90 (.bin .eql (.t 32) (.c (.i .u8 5))),
 zo 89 (.mv (.t 90))])
 (.cond (.t 89)
 (.seq (.reg [zo 91 (.mv (.t 4)),
 zo 92 (.mv (.t 91)),
 ⟨some 93,.mv (.t 5),some (92,true)⟩,
 zo 94 (.pick (.t 92) (.t 93) (.c (.b false))),
 zo 2 (.mv (.t 94))])
 .ret)
 (.seq (.reg [zo 96 (.bin .eql (.t 32) (.c (.i .u8 7))),
 zo 95 (.mv (.t 96))])
 (.cond (.t 95)
 (.seq (.reg [zo 97 (.mv (.t 4)),
 zo 98 (.mv (.t 97)),
 ⟨some 99,.mv (.t 5),some (98,true)⟩,
 zo 100 (.pick (.t 98) (.t 99) (.c (.b false))),
 zo 101 (.mv (.t 100)),
 ⟨some 102,.mv (.t 6),some (101,true)⟩,
 ⟨some 103,.bin .eql (.t 102) (.c (.i .i64 3)),some (101,true)⟩,
 zo 104 (.pick (.t 101) (.t 103) (.c (.b false))),
 zo 2 (.mv (.t 104))])
 .ret)
 (.seq (.reg [zo 106 (.bin .eql (.t 32) (.c (.i .u8 8))),
 zo 105 (.mv (.t 106))])
 (.cond (.t 105)
 (.seq (.reg [zo 107 (.mv (.t 4)),
 zo 108 (.mv (.t 107)),
 ⟨some 109,.mv (.t 5),some (108,true)⟩,
 zo 110 (.pick (.t 108) (.t 109) (.c (.b false))),
 zo 111 (.mv (.t 110)),
 ⟨some 112,.mv (.t 6),some (111,true)⟩,
 ⟨some 113,.bin .eql (.t 112) (.c (.i .i64 2)),some (111,true)⟩,
 zo 114 (.pick (.t 111) (.t 113) (.c (.b false))),
 zo 2 (.mv (.t 114))])
 .ret)
 (.seq (.reg [zo 116 (.bin .eql (.t 32) (.c (.i .u8 9))),
 zo 115 (.mv (.t 116))])
 (.cond (.t 115)
 (.seq (.reg [zo 117 (.fa 1 (.t 1)),
 zo 118 (.ld false 1 (.t 117)),
 zo 119 (.call B5 [.t 118]),
 zo 120 (.mv (.t 119)),
 ⟨some 121,.fa 2 (.t 1),some (120,true)⟩,
 ⟨some 122,.ld false 1 (.t 121),some (120,true)⟩,
 ⟨some 123,.call Bp [.t 122],some (120,true)⟩,
 zo 124 (.pick (.t 120) (.t 123) (.c (.b false))),
 zo 125 (.mv (.t 124)),
 ⟨some 126,.mv (.t 6),some (125,true)⟩,
 ⟨some 127,.bin .eql (.t 126) (.c (.i .i64 1)),some (125,true)⟩,
 zo 128 (.pick (.t 125) (.t 127) (.c (.b false))),
 zo 2 (.mv (.t 128))])
 .ret)
 .skip))))))))))))))))
 (.seq (.reg [zo 2 (.mv (.c (.b false)))])
 .ret))))) }
def Bb:Fun:={ cin:=[(.agg [.id,.id,(.sl 2 (.agg [(.sl 3 (.agg [.id,.id,.id])),.id])),(.sl 4 (.agg [.id,.id,(.sl 2 (.agg [.sl 3 .id,.id])),(.sl 4 (.agg [.id,.id,.sl 2 .id,.sl 4 .id]))]))])],cout:=[.id],ntmps:=21,keep:=false,res:=[(2,none)],body :=
 (.seq (.reg [zo 1 (.box 25 4 (.t 0)),
 zo 2 (.mv (.c (.i .i64 0)))])
 (.seq (.reg [zo 3 (.mv (.c (.i .i64 1)))])
 (.seq (.seq (.reg [zo 4 (.mv (.c (.i .i64 0)))])
 (.blk 0 (.loop (.seq (.seq (.reg [zo 5 (.mv (.t 4)),
 zo 6 (.fa 3 (.t 1)),
 zo 7 (.ld false 1 (.t 6)),
 zo 8 (.len 1 (.t 7)),
 zo 9 (.bin .lss (.t 5) (.t 8))])
 (.cond (.t 9)
 .skip
 (.exit 0)))
 (.seq (.blk 1 (.reg [zo 12 (.mv (.t 3)),
 zo 13 (.fa 3 (.t 1)),
 zo 14 (.ld false 1 (.t 13)),
 zo 15 (.mv (.t 4)),
 zo 16 (.ia 4 (.t 14) (.t 15)),
 zo 17 (.ld true 4 (.t 16)),
 zo 18 (.call Cz [.t 17]),
 zo 19 (.bin .add (.t 12) (.t 18)),
 zo 3 (.mv (.t 19))]))
 (.reg [zo 10 (.mv (.t 4)),
 zo 11 (.bin .add (.t 10) (.c (.i .i64 1))),
 zo 4 (.mv (.t 11))]))))))
 (.seq (.reg [zo 20 (.mv (.t 3)),
 zo 2 (.mv (.t 20))])
 .ret)))) }
def Eg:Fun:={ cin:=[(.agg [.id,.id,(.sl 2 (.agg [(.sl 3 (.agg [.id,.id,.id])),.id])),(.sl 4 (.agg [.id,.id,(.sl 2 (.agg [.sl 3 .id,.id])),(.sl 4 (.agg [.id,.id,.sl 2 .id,.sl 4 .id]))]))]),(.agg [.id,.id,(.sl 2 (.agg [(.sl 3 (.agg [.id,.id,.id])),.id])),(.sl 4 (.agg [.id,.id,(.sl 2 (.agg [.sl 3 .id,.id])),(.sl 4 (.agg [.id,.id,.sl 2 .id,.sl 4 .id]))]))])],cout:=[.id],ntmps:=33,keep:=false,res:=[(4,none)],body :=
 (.seq (.reg [zo 2 (.box 25 4 (.t 0)),
 zo 3 (.box 25 4 (.t 1)),
 zo 4 (.mv (.c (.b false)))])
 (.seq (.reg [zo 5 (.mv (.c (.fn Fz [])))])
 (.seq (.reg [zo 6 (.fa 0 (.t 2)),
 zo 7 (.ld false 1 (.t 6)),
 zo 8 (.fa 0 (.t 3)),
 zo 9 (.ld false 1 (.t 8)),
 zo 10 (.bin .eql (.t 7) (.t 9)),
 zo 11 (.mv (.t 10)),
 ⟨some 12,.fa 1 (.t 2),some (11,true)⟩,
 ⟨some 13,.ld false 1 (.t 12),some (11,true)⟩,
 ⟨some 14,.fa 1 (.t 3),some (11,true)⟩,
 ⟨some 15,.ld false 1 (.t 14),some (11,true)⟩,
 ⟨some 16,.bin .eql (.t 13) (.t 15),some (11,true)⟩,
 zo 17 (.pick (.t 11) (.t 16) (.c (.b false))),
 zo 18 (.mv (.t 17)),
 ⟨some 19,.fa 2 (.t 2),some (18,true)⟩,
 ⟨some 20,.ld false 1 (.t 19),some (18,true)⟩,
 ⟨some 21,.fa 2 (.t 3),some (18,true)⟩,
 ⟨some 22,.ld false 1 (.t 21),some (18,true)⟩,
 ⟨some 23,.mv (.t 5),some (18,true)⟩,
 ⟨some 24,.call Aa [.t 20,.t 22,.t 23],some (18,true)⟩,
 zo 25 (.pick (.t 18) (.t 24) (.c (.b false))),
 zo 26 (.mv (.t 25)),
 ⟨some 27,.fa 3 (.t 2),some (26,true)⟩,
 ⟨some 28,.ld false 1 (.t 27),some (26,true)⟩,
 ⟨some 29,.fa 3 (.t 3),some (26,true)⟩,
 ⟨some 30,.ld false 1 (.t 29),some (26,true)⟩,
 ⟨some 31,.call Ae [(.t 28),(.t 30),(.c (.fn Fx []))],some (26,true)⟩,
 zo 32 (.pick (.t 26) (.t 31) (.c (.b false))),
 zo 4 (.mv (.t 32))])
 .ret))) }
def BA:Fun:={ cin:=[(.agg [.id,.id,(.sl 2 (.agg [(.sl 3 (.agg [.id,.id,.id])),.id])),(.sl 4 (.agg [.id,.id,(.sl 2 (.agg [.sl 3 .id,.id])),(.sl 4 (.agg [.id,.id,.sl 2 .id,.sl 4 .id]))]))]),(.agg [.id,.id,(.sl 2 (.agg [(.sl 3 (.agg [.id,.id,.id])),.id])),(.sl 4 (.agg [.id,.id,(.sl 2 (.agg [.sl 3 .id,.id])),(.sl 4 (.agg [.id,.id,.sl 2 .id,.sl 4 .id]))]))])],cout:=[.id],ntmps:=94,keep:=false,res:=[(4,none)],body :=
 (.seq (.reg [zo 2 (.box 25 4 (.t 0)),
 zo 3 (.box 25 4 (.t 1)),
 zo 4 (.mv (.c (.b false)))])
 (.seq (.seq (.reg [zo 7 (.fa 0 (.t 2)),
 zo 8 (.ld false 1 (.t 7)),
 zo 9 (.fa 0 (.t 3)),
 zo 10 (.ld false 1 (.t 9)),
 zo 11 (.bin .neq (.t 8) (.t 10)),
 zo 12 (.mv (.t 11)),
 ⟨some 13,.fa 1 (.t 2),some (12,false)⟩,
 ⟨some 14,.ld false 1 (.t 13),some (12,false)⟩,
 ⟨some 15,.fa 1 (.t 3),some (12,false)⟩,
 ⟨some 16,.ld false 1 (.t 15),some (12,false)⟩,
 ⟨some 17,.bin .neq (.t 14) (.t 16),some (12,false)⟩,
 zo 18 (.pick (.t 12) (.c (.b true)) (.t 17)),
 zo 19 (.mv (.t 18)),
 ⟨some 20,.fa 2 (.t 2),some (19,false)⟩,
 ⟨some 21,.ld false 1 (.t 20),some (19,false)⟩,
 ⟨some 22,.len 1 (.t 21),some (19,false)⟩,
 ⟨some 23,.fa 2 (.t 3),some (19,false)⟩,
 ⟨some 24,.ld false 1 (.t 23),some (19,false)⟩,
 ⟨some 25,.len 1 (.t 24),some (19,false)⟩,
 ⟨some 26,.bin .neq (.t 22) (.t 25),some (19,false)⟩,
 zo 27 (.pick (.t 19) (.c (.b true)) (.t 26)),
 zo 28 (.mv (.t 27)),
 ⟨some 29,.fa 3 (.t 2),some (28,false)⟩,
 ⟨some 30,.ld false 1 (.t 29),some (28,false)⟩,
 ⟨some 31,.len 1 (.t 30),some (28,false)⟩,
 ⟨some 32,.fa 3 (.t 3),some (28,false)⟩,
 ⟨some 33,.ld false 1 (.t 32),some (28,false)⟩,
 ⟨some 34,.len 1 (.t 33),some (28,false)⟩,
 ⟨some 35,.bin .neq (.t 31) (.t 34),some (28,false)⟩,
 zo 36 (.pick (.t 28) (.c (.b true)) (.t 35))])
 (.cond (.t 36)
 (.seq (.reg [zo 4 (.mv (.c (.b false)))])
 .ret)
 .skip))
 (.seq (.seq (.reg [zo 5 (.mv (.c (.i .i64 0)))])
 (.blk 0 (.loop (.seq (.seq (.reg [zo 37 (.mv (.t 5)),
 zo 38 (.fa 2 (.t 2)),
 zo 39 (.ld false 1 (.t 38)),
 zo 40 (.len 1 (.t 39)),
 zo 41 (.bin .lss (.t 37) (.t 40))])
 (.cond (.t 41)
 .skip
 (.exit 0)))
 (.seq (.blk 1 (.seq (.regD [zo 44 (.fa 2 (.t 2)),
 zo 45 (.ld false 1 (.t 44)),
 zo 46 (.mv (.t 5)),
 zo 47 (.ia 2 (.t 45) (.t 46)),
 zo 48 (.fa 1 (.t 47)),
 zo 49 (.ld false 1 (.t 48)),
 zo 50 (.fa 2 (.t 3)),
 zo 51 (.ld false 1 (.t 50)),
 zo 52 (.mv (.t 5)),
 zo 53 (.ia 2 (.t 51) (.t 52)),
 zo 54 (.fa 1 (.t 53)),
 zo 55 (.ld false 1 (.t 54)),
 zo 56 (.eq .bool true (.t 49) (.t 55)),
 zo 57 (.mv (.t 56)),
 ⟨some 58,.fa 2 (.t 2),some (57,false)⟩,
 ⟨some 59,.ld false 1 (.t 58),some (57,false)⟩,
 ⟨some 60,.mv (.t 5),some (57,false)⟩,
 ⟨some 61,.ia 2 (.t 59) (.t 60),some (57,false)⟩,
 ⟨some 62,.fa 0 (.t 61),some (57,false)⟩,
 ⟨some 63,.ld false 1 (.t 62),some (57,false)⟩,
 ⟨some 64,.build [.nsl,.i .i64 0] [(0,1,(.t 63))],some (57,false)⟩,
 ⟨some 65,.fa 2 (.t 3),some (57,false)⟩,
 ⟨some 66,.ld false 1 (.t 65),some (57,false)⟩,
 ⟨some 67,.mv (.t 5),some (57,false)⟩,
 ⟨some 68,.ia 2 (.t 66) (.t 67),some (57,false)⟩,
 ⟨some 69,.fa 0 (.t 68),some (57,false)⟩,
 ⟨some 70,.ld false 1 (.t 69),some (57,false)⟩,
 ⟨some 71,.build [.nsl,.i .i64 0] [(0,1,(.t 70))],some (57,false)⟩,
 ⟨some 72,.call C1 [.t 64,.t 71],some (57,false)⟩,
 ⟨some 73,.un .not (.t 72),some (57,false)⟩,
 zo 74 (.pick (.t 57) (.c (.b true)) (.t 73))] [])
 (.cond (.t 74)
 (.seq (.reg [zo 4 (.mv (.c (.b false)))])
 .ret)
 .skip)))
 (.reg [zo 42 (.mv (.t 5)),
 zo 43 (.bin .add (.t 42) (.c (.i .i64 1))),
 zo 5 (.mv (.t 43))]))))))
 (.seq (.seq (.reg [zo 6 (.mv (.c (.i .i64 0)))])
 (.blk 2 (.loop (.seq (.seq (.reg [zo 75 (.mv (.t 6)),
 zo 76 (.fa 3 (.t 2)),
 zo 77 (.ld false 1 (.t 76)),
 zo 78 (.len 1 (.t 77)),
 zo 79 (.bin .lss (.t 75) (.t 78))])
 (.cond (.t 79)
 .skip
 (.exit 2)))
 (.seq (.blk 3 (.seq (.regD [zo 82 (.fa 3 (.t 2)),
 zo 83 (.ld false 1 (.t 82)),
 zo 84 (.mv (.t 6)),
 zo 85 (.ia 4 (.t 83) (.t 84)),
 zo 86 (.ld true 4 (.t 85)),
 zo 87 (.fa 3 (.t 3)),
 zo 88 (.ld false 1 (.t 87)),
 zo 89 (.mv (.t 6)),
 zo 90 (.ia 4 (.t 88) (.t 89)),
 zo 91 (.ld true 4 (.t 90)),
 zo 92 (.call B4 [.t 86,.t 91]),
 zo 93 (.un .not (.t 92))] [])
 (.cond (.t 93)
 (.seq (.reg [zo 4 (.mv (.c (.b false)))])
 .ret)
 .skip)))
 (.reg [zo 80 (.mv (.t 6)),
 zo 81 (.bin .add (.t 80) (.c (.i .i64 1))),
 zo 6 (.mv (.t 81))]))))))
 (.seq (.reg [zo 4 (.mv (.c (.b true)))])
 .ret))))) }
def Gu:Fun:={ cin:=[],cout:=[.id],ntmps:=29,keep:=false,res:=[(0,none)],body :=
 (.seq (.reg [zo 0 (.mv (.c .nm))])
 (.seq (.reg [zo 1 (.mv (.c (.fn Bi [])))])
 (.seq (.reg [zo 2 (.mkm),
 zo 3 (.mv (.t 1)),
 zo 4 (.callX (.t 3) [(.c (.i .i64 0))]),
 zo 5 (.build [(.s []),(.b false),(.i .i64 0),(.i .i64 0),.nf] [(0,1,(.c (.s [115,107,105,112]))),(1,1,(.c (.b false))),(2,1,(.c (.i .i64 0))),(3,1,(.c (.i .i64 0))),(4,1,(.t 4))]),
 ⟨none,.ins 0 (.t 2) (.c (.i .u8 1)) (.t 5),none⟩,
 zo 6 (.mv (.t 1)),
 zo 7 (.callX (.t 6) [(.c (.i .i64 0))]),
 zo 8 (.build [(.s []),(.b false),(.i .i64 0),(.i .i64 0),.nf] [(0,1,(.c (.s [99,104,101,99,107]))),(1,1,(.c (.b false))),(2,1,(.c (.i .i64 0))),(3,1,(.c (.i .i64 0))),(4,1,(.t 7))]),
 ⟨none,.ins 0 (.t 2) (.c (.i .u8 4)) (.t 8),none⟩,
 zo 9 (.mv (.t 1)),
 zo 10 (.callX (.t 9) [(.c (.i .i64 0))]),
 zo 11 (.build [(.s []),(.b false),(.i .i64 0),(.i .i64 0),.nf] [(0,1,(.c (.s [110,111,116]))),(1,1,(.c (.b false))),(2,1,(.c (.i .i64 0))),(3,1,(.c (.i .i64 0))),(4,1,(.t 10))]),
 ⟨none,.ins 0 (.t 2) (.c (.i .u8 6)) (.t 11),none⟩,
 zo 12 (.mv (.t 1)),
 zo 13 (.callX (.t 12) [(.c (.i .i64 0))]),
 zo 14 (.build [(.s []),(.b false),(.i .i64 0),(.i .i64 0),.nf] [(0,1,(.c (.s [97,115,115,105,103,110]))),(1,1,(.c (.b true))),(2,1,(.c (.i .i64 1))),(3,1,(.c (.i .i64 1))),(4,1,(.t 13))]),
 ⟨none,.ins 0 (.t 2) (.c (.i .u8 2)) (.t 14),none⟩,
 zo 15 (.mv (.t 1)),
 zo 16 (.callX (.t 15) [(.c (.i .i64 0))]),
 zo 17 (.build [(.s []),(.b false),(.i .i64 0),(.i .i64 0),.nf] [(0,1,(.c (.s [99,97,108,108]))),(1,1,(.c (.b false))),(2,1,(.c (.i .i64 1))),(3,1,(.c (.i .i64 64))),(4,1,(.t 16))]),
 ⟨none,.ins 0 (.t 2) (.c (.i .u8 3)) (.t 17),none⟩,
 zo 18 (.build [(.s []),(.b false),(.i .i64 0),(.i .i64 0),.nf] [(0,1,(.c (.s [115,101,113]))),(1,1,(.c (.b false))),(2,1,(.c (.i .i64 0))),(3,1,(.c (.i .i64 0))),(4,1,(.c (.fn Ax [])))]),
 ⟨none,.ins 0 (.t 2) (.c (.i .u8 5)) (.t 18),none⟩,
 zo 19 (.mv (.t 1)),
 zo 20 (.callX (.t 19) [(.c (.i .i64 3))]),
 zo 21 (.build [(.s []),(.b false),(.i .i64 0),(.i .i64 0),.nf] [(0,1,(.c (.s [105,102]))),(1,1,(.c (.b false))),(2,1,(.c (.i .i64 0))),(3,1,(.c (.i .i64 0))),(4,1,(.t 20))]),
 ⟨none,.ins 0 (.t 2) (.c (.i .u8 7)) (.t 21),none⟩,
 zo 22 (.mv (.t 1)),
 zo 23 (.callX (.t 22) [(.c (.i .i64 2))]),
 zo 24 (.build [(.s []),(.b false),(.i .i64 0),(.i .i64 0),.nf] [(0,1,(.c (.s [108,111,111,112]))),(1,1,(.c (.b false))),(2,1,(.c (.i .i64 0))),(3,1,(.c (.i .i64 0))),(4,1,(.t 23))]),
 ⟨none,.ins 0 (.t 2) (.c (.i .u8 8)) (.t 24),none⟩,
 zo 25 (.mv (.t 1)),
 zo 26 (.callX (.t 25) [(.c (.i .i64 1))]),
 zo 27 (.build [(.s []),(.b false),(.i .i64 0),(.i .i64 0),.nf] [(0,1,(.c (.s [101,97,99,104]))),(1,1,(.c (.b true))),(2,1,(.c (.i .i64 0))),(3,1,(.c (.i .i64 64))),(4,1,(.t 26))]),
 ⟨none,.ins 0 (.t 2) (.c (.i .u8 9)) (.t 27),none⟩,
 zo 28 (.mv (.t 2)),
 zo 0 (.mv (.t 28))])
 .ret))) }
def Ci:Fun:={ cin:=[.id],cout:=[.id],ntmps:=15,keep:=false,res:=[(2,none)],body :=
 (.seq (.reg [zo 2 (.mv (.c (.b false)))])
 (.seq (.reg [zo 3 (.mv (.t 0)),
 zo 4 (.call GK [.t 3]),
 zo 5 (.mv (.t 4)),
 ⟨some 6,.mv (.t 0),some (5,true)⟩,
 ⟨some 7,.len 0 (.t 6),some (5,true)⟩,
 ⟨some 8,.bin .gtr (.t 7) (.c (.i .i64 1)),some (5,true)⟩,
 ⟨some 9,.mv (.t 8),some (5,true)⟩,
 ⟨some 10,.mv (.t 0),some (9,false)⟩,
 ⟨some 11,.call CO [(.c (.s [49,50,51,52,53,54,55,56,57,35,63])),(.t 10)],some (9,false)⟩,
 ⟨some 12,.un .not (.t 11),some (9,false)⟩,
 ⟨some 13,.pick (.t 9) (.c (.b true)) (.t 12),some (5,true)⟩,
 zo 14 (.pick (.t 5) (.t 13) (.c (.b false))),
 zo 2 (.mv (.t 14))])
 .ret)) }
def AP:Fun:={ cin:=[(.sl 2 (.agg [(.sl 3 (.agg [.id,.id,.id])),.id])),.id],cout:=[.id],ntmps:=9,keep:=false,res:=[(4,none)],body :=
 (.seq (.reg [zo 4 (.mv (.c (.b false)))])
 (.seq (.reg [zo 5 (.mv (.t 0)),
 zo 6 (.mv (.t 1)),
 zo 7 (.call Be [.t 5,.t 6]),
 zo 8 (.bin .geq (.t 7) (.c (.i .i64 0))),
 zo 4 (.mv (.t 8))])
 .ret)) }
def E8:Fun:={ cin:=[(.agg [(.sl 3 (.agg [.id,.id,.id])),.id])],cout:=[.id],ntmps:=6,keep:=false,res:=[(2,none)],body :=
 (.seq (.reg [zo 1 (.box 78 2 (.t 0)),
 zo 2 (.mv (.c (.b false)))])
 (.seq (.reg [zo 3 (.ld true 2 (.t 1)),
 zo 4 (.call OD [.t 3]),
 zo 5 (.un .not (.t 4)),
 zo 2 (.mv (.t 5))])
 .ret)) }
def EF:Fun:={ cin:=[(.agg [(.sl 3 (.agg [.id,.id,.id])),.id])],cout:=[.id],ntmps:=51,keep:=false,res:=[(2,none)],body :=
 (.seq (.reg [zo 1 (.box 78 2 (.t 0)),
 zo 2 (.mv (.c (.b false)))])
 (.seq (.seq (.reg [zo 5 (.fa 0 (.t 1)),
 zo 6 (.ld false 1 (.t 5)),
 zo 7 (.len 1 (.t 6)),
 zo 8 (.bin .eql (.t 7) (.c (.i .i64 0)))])
 (.cond (.t 8)
 (.seq (.reg [zo 2 (.mv (.c (.b true)))])
 .ret)
 .skip))
 (.seq (.reg [zo 9 (.fa 0 (.t 1)),
 zo 10 (.ld false 1 (.t 9)),
 zo 11 (.call BG [.t 10]),
 zo 3 (.mv (.t 11))])
 (.seq (.seq (.seq (.thw 3)
 (.reg [zo 12 (.mv (.t 3)),
 zo 13 (.ia 3 (.t 12) (.c (.i .i64 0))),
 zo 4 (.mv (.t 13))]))
 (.seq (.reg [zo 14 (.mv (.t 4)),
 zo 15 (.nck (.t 14)),
 zo 16 (.fa 0 (.t 15)),
 zo 17 (.ld false 1 (.t 16)),
 zo 18 (.un .not (.t 17)),
 zo 19 (.mv (.t 18)),
 ⟨some 20,.mv (.t 4),some (19,true)⟩,
 ⟨some 21,.nck (.t 20),some (19,true)⟩,
 ⟨some 22,.fa 2 (.t 21),some (19,true)⟩,
 ⟨some 23,.ld false 1 (.t 22),some (19,true)⟩,
 ⟨some 24,.un .not (.t 23),some (19,true)⟩,
 zo 25 (.pick (.t 19) (.t 24) (.c (.b false))),
 zo 26 (.mv (.t 25)),
 ⟨some 27,.mv (.t 4),some (26,true)⟩,
 ⟨some 28,.nck (.t 27),some (26,true)⟩,
 ⟨some 29,.fa 1 (.t 28),some (26,true)⟩,
 ⟨some 30,.ld false 1 (.t 29),some (26,true)⟩,
 ⟨some 31,.call DW [(.t 30),(.c (.s [35]))],some (26,true)⟩,
 ⟨some 32,.mv (.t 31),some (26,true)⟩,
 ⟨some 33,.mv (.t 4),some (32,false)⟩,
 ⟨some 34,.nck (.t 33),some (32,false)⟩,
 ⟨some 35,.fa 1 (.t 34),some (32,false)⟩,
 ⟨some 36,.ld false 1 (.t 35),some (32,false)⟩,
 ⟨some 37,.call DW [(.t 36),(.c (.s [126]))],some (32,false)⟩,
 ⟨some 38,.pick (.t 32) (.c (.b true)) (.t 37),some (26,true)⟩,
 zo 39 (.pick (.t 26) (.t 38) (.c (.b false)))])
 (.cond (.t 39)
 (.reg [zo 40 (.mv (.t 4)),
 zo 41 (.mv (.t 4)),
 zo 42 (.nck (.t 41)),
 zo 43 (.fa 1 (.t 42)),
 zo 44 (.ld false 1 (.t 43)),
 zo 45 (.bin .add (.c (.s [95])) (.t 44)),
 zo 46 (.nck (.t 40)),
 zo 47 (.fa 1 (.t 46)),
 ⟨none,.st 1 (.t 47) (.t 45),none⟩])
 .skip)))
 (.seq (.reg [zo 48 (.mv (.t 3)),
 zo 49 (.build [.nsl,.i .i64 0] [(0,1,(.t 48))]),
 zo 50 (.call LI [.t 49]),
 zo 2 (.mv (.t 50))])
 .ret))))) }
def AU:Fun:={ cin:=[(.sl 4 (.agg [.id,.id,(.sl 2 (.agg [(.sl 3 (.agg [.id,.id,.id])),.id])),(.sl 4 (.agg [.id,.id,(.sl 2 (.agg [.id,.id])),(.sl 4 (.agg [.id,.id,.id,.id]))]))])),.id],cout:=[.id],ntmps:=9,keep:=false,res:=[(4,none)],body :=
 (.seq (.reg [zo 4 (.mv (.c (.b false)))])
 (.seq (.reg [zo 5 (.mv (.t 0)),
 zo 6 (.mv (.t 1)),
 zo 7 (.call Bl [.t 5,.t 6]),
 zo 8 (.bin .geq (.t 7) (.c (.i .i64 0))),
 zo 4 (.mv (.t 8))])
 .ret)) }
def E9:Fun:={ cin:=[(.agg [.id,.id,(.sl 2 (.agg [(.sl 3 (.agg [.id,.id,.id])),.id])),(.sl 4 (.agg [.id,.id,(.sl 2 (.agg [.sl 3 .id,.id])),(.sl 4 (.agg [.id,.id,.sl 2 .id,.sl 4 .id]))]))])],cout:=[.id],ntmps:=6,keep:=false,res:=[(2,none)],body :=
 (.seq (.reg [zo 1 (.box 25 4 (.t 0)),
 zo 2 (.mv (.c (.b false)))])
 (.seq (.reg [zo 3 (.ld true 4 (.t 1)),
 zo 4 (.call KU [.t 3]),
 zo 5 (.un .not (.t 4)),
 zo 2 (.mv (.t 5))])
 .ret)) }
def DP:Fun:={ cin:=[(.agg [.id,.id,(.sl 2 (.agg [(.sl 3 (.agg [.id,.id,.id])),.id])),(.sl 4 (.agg [.id,.id,(.sl 2 (.agg [.sl 3 .id,.id])),(.sl 4 (.agg [.id,.id,.sl 2 .id,.sl 4 .id]))]))]),.id],cout:=[],ntmps:=21,keep:=true,res:=[(4,none)],body :=
 (.seq (.reg [zo 2 (.box 25 4 (.t 0)),
 zo 3 (.box 39 1 (.t 1)),
 zo 4 (.mv (.c .nsl))])
 (.seq (.reg [zo 5 (.alloc 26 [.nsl])])
 (.seq (.seq (.reg [zo 8 (.ld true 4 (.t 2)),
 zo 9 (.call GJ [(.t 8),(.c (.i .i64 0))])])
 (.blk 0 (.rf (.t 9) [10,11] (.reg [zo 7 (.alloc 25 [(.i .u8 0),(.s []),.nsl,.nsl]),
 ⟨none,.st 4 (.t 7) (.t 11),none⟩])
 (.blk 1 (.regD [zo 12 (.ld false 1 (.t 5)),
 zo 13 (.ld false 1 (.t 3)),
 zo 14 (.ld true 4 (.t 7)),
 zo 15 (.callX (.t 13) [.t 14]),
 zo 16 (.app 1 9 (.t 12) (.t 15)),
 ⟨none,.st 1 (.t 5) (.t 16),none⟩] [(0,(0,4))])))))
 (.seq (.seq (.thw 5)
 (.reg [zo 17 (.ld false 1 (.t 5)),
 zo 18 (.call BI [.t 17])]))
 (.seq (.seq (.thw 5)
 (.reg [zo 19 (.ld false 1 (.t 5)),
 zo 20 (.call A4 [.t 19]),
 zo 4 (.mv (.t 20))]))
 .ret))))) }
def Ds:Fun:={ cin:=[(.agg [.id,.id,(.sl 2 (.agg [(.sl 3 (.agg [.id,.id,.id])),.id])),(.sl 4 (.agg [.id,.id,(.sl 2 (.agg [.sl 3 .id,.id])),(.sl 4 (.agg [.id,.id,.sl 2 .id,.sl 4 .id]))]))])],cout:=[.sl 1 .id],ntmps:=44,keep:=false,res:=[(2,none)],body :=
 (.seq (.reg [zo 1 (.box 25 4 (.t 0)),
 zo 2 (.mv (.c .nsl))])
 (.seq (.reg [zo 3 (.mv (.c .nsl))])
 (.seq (.seq (.reg [zo 8 (.fa 2 (.t 1)),
 zo 9 (.ld false 1 (.t 8)),
 zo 10 (.len 1 (.t 9)),
 zo 11 (.mv (.c (.i .i64 0)))])
 (.blk 0 (.loop (.seq (.reg [zo 12 (.bin .lss (.t 11) (.t 10))])
 (.seq (.cond (.t 12)
 .skip
 (.exit 0))
 (.seq (.blk 1 (.seq (.reg [zo 13 (.ia 2 (.t 9) (.t 11)),
 zo 14 (.ld true 2 (.t 13)),
 zo 5 (.alloc 78 [.nsl,.b false]),
 ⟨none,.st 2 (.t 5) (.t 14),none⟩])
 (.seq (.reg [zo 15 (.fa 0 (.t 5)),
 zo 16 (.ld false 1 (.t 15)),
 zo 17 (.len 1 (.t 16)),
 zo 18 (.mv (.c (.i .i64 0)))])
 (.blk 2 (.loop (.seq (.reg [zo 19 (.bin .lss (.t 18) (.t 17))])
 (.seq (.cond (.t 19)
 .skip
 (.exit 2))
 (.seq (.blk 3 (.seq (.reg [zo 20 (.ia 3 (.t 16) (.t 18)),
 zo 21 (.ld true 3 (.t 20)),
 zo 7 (.alloc 85 [(.b false),(.s []),(.b false)]),
 ⟨none,.st 3 (.t 7) (.t 21),none⟩])
 (.seq (.reg [zo 22 (.fa 0 (.t 7)),
 zo 23 (.ld false 1 (.t 22)),
 zo 24 (.mv (.t 23)),
 ⟨some 25,.fa 1 (.t 7),some (24,true)⟩,
 ⟨some 26,.ld false 1 (.t 25),some (24,true)⟩,
 ⟨some 27,.len 0 (.t 26),some (24,true)⟩,
 ⟨some 28,.bin .eql (.t 27) (.c (.i .i64 1)),some (24,true)⟩,
 ⟨some 29,.mv (.t 28),some (24,true)⟩,
 ⟨some 30,.fa 1 (.t 7),some (29,true)⟩,
 ⟨some 31,.ld false 1 (.t 30),some (29,true)⟩,
 ⟨some 32,.call CO [(.c (.s [49,50,51,52,53,54,55,56,57,35,63])),(.t 31)],some (29,true)⟩,
 ⟨some 33,.pick (.t 29) (.t 32) (.c (.b false)),some (24,true)⟩,
 ⟨some 34,.un .not (.t 33),some (24,true)⟩,
 zo 35 (.pick (.t 24) (.t 34) (.c (.b false)))])
 (.cond (.t 35)
 (.reg [zo 36 (.mv (.t 3)),
 zo 37 (.fa 1 (.t 7)),
 zo 38 (.ld false 1 (.t 37)),
 zo 39 (.bsl 1 [.t 38]),
 zo 40 (.app 1 9 (.t 36) (.t 39)),
 zo 3 (.mv (.t 40))])
 .skip))))
 (.reg [zo 41 (.bin .add (.t 18) (.c (.i .i64 1))),
 zo 18 (.mv (.t 41))])))))))))
 (.reg [zo 42 (.bin .add (.t 11) (.c (.i .i64 1))),
 zo 11 (.mv (.t 42))])))))))
 (.seq (.reg [zo 43 (.mv (.t 3)),
 zo 2 (.mv (.t 43))])
 .ret)))) }
def C9:Fun:={ cin:=[.id,.id],cout:=[.id],ntmps:=9,keep:=false,res:=[(4,none)],body :=
 (.seq (.reg [zo 4 (.mv (.c (.b false)))])
 (.seq (.reg [zo 5 (.mv (.t 0)),
 zo 6 (.mv (.t 1)),
 zo 7 (.call F0 [.t 5,.t 6]),
 zo 8 (.bin .geq (.t 7) (.c (.i .i64 0))),
 zo 4 (.mv (.t 8))])
 .ret)) }
def HR:Fun:={ cin:=[(.agg [.id,.id,(.sl 2 (.agg [(.sl 3 (.agg [.id,.id,.id])),.id])),(.sl 4 (.agg [.id,.id,(.sl 2 (.agg [.sl 3 .id,.id])),(.sl 4 (.agg [.id,.id,.sl 2 .id,.sl 4 .id]))]))]),.id],cout:=[.id],ntmps:=6,keep:=false,res:=[(4,none)],body :=
 (.seq (.reg [zo 2 (.box 25 4 (.t 0)),
 zo 3 (.box 3 1 (.t 1)),
 zo 4 (.mv (.c .nf))])
 (.seq (.reg [zo 5 (.mkf DL [.t 3,.t 2]),
 zo 4 (.mv (.t 5))])
 .ret)) }
def Da:Fun:={ cin:=[(.agg [.id,.id,(.sl 2 (.agg [(.sl 3 (.agg [.id,.id,.id])),.id])),(.sl 4 (.agg [.id,.id,(.sl 2 (.agg [.sl 3 .id,.id])),(.sl 4 (.agg [.id,.id,.sl 2 .id,.sl 4 .id]))]))])],cout:=[.sl 1 .id],ntmps:=14,keep:=false,res:=[(2,none)],body :=
 (.seq (.reg [zo 1 (.box 25 4 (.t 0)),
 zo 2 (.mv (.c .nsl))])
 (.seq (.seq (.reg [zo 3 (.fa 0 (.t 1)),
 zo 4 (.ld false 1 (.t 3)),
 zo 5 (.bin .eql (.t 4) (.c (.i .u8 2))),
 zo 6 (.mv (.t 5)),
 ⟨some 7,.fa 0 (.t 1),some (6,false)⟩,
 ⟨some 8,.ld false 1 (.t 7),some (6,false)⟩,
 ⟨some 9,.bin .eql (.t 8) (.c (.i .u8 9)),some (6,false)⟩,
 zo 10 (.pick (.t 6) (.c (.b true)) (.t 9))])
 (.cond (.t 10)
 (.seq (.reg [zo 11 (.fa 1 (.t 1)),
 zo 12 (.ld false 1 (.t 11)),
 zo 13 (.bsl 1 [.t 12]),
 zo 2 (.mv (.t 13))])
 .ret)
 .skip))
 (.seq (.reg [zo 2 (.mv (.c .nsl))])
 .ret))) }
def AZ:Fun:={ cin:=[.sl 1 .id,.sl 1 .id],cout:=[.id],ntmps:=26,keep:=false,res:=[(4,none)],body :=
 (.seq (.reg [zo 4 (.mv (.c (.b false)))])
 (.seq (.seq (.reg [zo 6 (.mv (.t 0)),
 zo 7 (.len 1 (.t 6)),
 zo 8 (.mv (.t 1)),
 zo 9 (.len 1 (.t 8)),
 zo 10 (.bin .gtr (.t 7) (.t 9))])
 (.cond (.t 10)
 (.seq (.reg [zo 4 (.mv (.c (.b false)))])
 .ret)
 .skip))
 (.seq (.seq (.reg [zo 5 (.mv (.c (.i .i64 0)))])
 (.blk 0 (.loop (.seq (.seq (.reg [zo 11 (.mv (.t 5)),
 zo 12 (.mv (.t 0)),
 zo 13 (.len 1 (.t 12)),
 zo 14 (.bin .lss (.t 11) (.t 13))])
 (.cond (.t 14)
 .skip
 (.exit 0)))
 (.seq (.blk 1 (.seq (.regD [zo 17 (.mv (.t 0)),
 zo 18 (.mv (.t 5)),
 zo 19 (.ia 1 (.t 17) (.t 18)),
 zo 20 (.ld false 1 (.t 19)),
 zo 21 (.mv (.t 1)),
 zo 22 (.mv (.t 5)),
 zo 23 (.ia 1 (.t 21) (.t 22)),
 zo 24 (.ld false 1 (.t 23)),
 zo 25 (.bin .neq (.t 20) (.t 24))] [])
 (.cond (.t 25)
 (.seq (.reg [zo 4 (.mv (.c (.b false)))])
 .ret)
 .skip)))
 (.reg [zo 15 (.mv (.t 5)),
 zo 16 (.bin .add (.t 15) (.c (.i .i64 1))),
 zo 5 (.mv (.t 16))]))))))
 (.seq (.reg [zo 4 (.mv (.c (.b true)))])
 .ret)))) }
def FW:Fun:={ cin:=[],cout:=[],ntmps:=0,keep:=false,res:=[],body:=.bad,prim:=some (Ks JA) }
def F2:Fun:={ cin:=[(.agg [(.sl 3 (.agg [.id,.id,.id])),.id])],cout:=[.id],ntmps:=33,keep:=false,res:=[(2,none)],body :=
 (.seq (.reg [zo 1 (.box 78 2 (.t 0)),
 zo 2 (.mv (.c (.s [])))])
 (.seq (.reg [zo 3 (.mv (.c (.s [])))])
 (.seq (.seq (.reg [zo 6 (.fa 0 (.t 1)),
 zo 7 (.ld false 1 (.t 6)),
 zo 8 (.len 1 (.t 7)),
 zo 9 (.mv (.c (.i .i64 0)))])
 (.blk 0 (.loop (.seq (.reg [zo 10 (.bin .lss (.t 9) (.t 8))])
 (.seq (.cond (.t 10)
 .skip
 (.exit 0))
 (.seq (.blk 1 (.seq (.reg [zo 11 (.ia 3 (.t 7) (.t 9)),
 zo 12 (.ld true 3 (.t 11)),
 zo 5 (.alloc 85 [(.b false),(.s []),(.b false)]),
 ⟨none,.st 3 (.t 5) (.t 12),none⟩])
 (.regD [zo 13 (.mv (.t 3)),
 zo 14 (.fa 0 (.t 5)),
 zo 15 (.ld false 1 (.t 14)),
 zo 16 (.call Ii [(.t 15),(.c (.s [118])),(.c (.s [98]))]),
 zo 17 (.fa 2 (.t 5)),
 zo 18 (.ld false 1 (.t 17)),
 zo 19 (.call Ii [(.t 18),(.c (.s [113])),(.c (.s [112]))]),
 zo 20 (.bin .add (.t 16) (.t 19)),
 zo 21 (.fa 1 (.t 5)),
 zo 22 (.ld false 1 (.t 21)),
 zo 23 (.call GL [.t 22]),
 zo 24 (.bin .add (.t 20) (.t 23)),
 zo 25 (.bin .add (.t 13) (.t 24)),
 zo 3 (.mv (.t 25))] [(5,(3,5)),(9,(3,9))])))
 (.reg [zo 26 (.bin .add (.t 9) (.c (.i .i64 1))),
 zo 9 (.mv (.t 26))])))))))
 (.seq (.reg [zo 27 (.fa 1 (.t 1)),
 zo 28 (.ld false 1 (.t 27)),
 zo 29 (.call Ii [(.t 28),(.c (.s [42])),(.c (.s [61]))]),
 zo 30 (.mv (.t 3)),
 zo 31 (.call GL [.t 30]),
 zo 32 (.bin .add (.t 29) (.t 31)),
 zo 2 (.mv (.t 32))])
 .ret)))) }
def GX:Fun:={ cin:=[],cout:=[],ntmps:=0,keep:=false,res:=[],body:=.bad,prim:=some (Ks J5) }
def BS:Fun:={ cin:=[(.agg [.id,.id,(.sl 2 (.agg [(.sl 3 (.agg [.id,.id,.id])),.id])),(.sl 4 (.agg [.id,.id,(.sl 2 (.agg [.sl 3 .id,.id])),(.sl 4 (.agg [.id,.id,.sl 2 .id,.sl 4 .id]))]))])],cout:=[.sl 1 .id],ntmps:=38,keep:=false,res:=[(2,none)],body :=
 (.seq (.reg [zo 1 (.box 25 4 (.t 0)),
 zo 2 (.mv (.c .nsl))])
 (.seq (.reg [zo 7 (.ld true 4 (.t 1)),
 zo 8 (.call Di [.t 7]),
 zo 9 (.bsl 1 [.t 8]),
 zo 3 (.mv (.t 9))])
 (.seq (.seq (.reg [zo 4 (.mv (.c (.i .i64 0)))])
 (.blk 0 (.loop (.seq (.seq (.reg [zo 10 (.mv (.t 4)),
 zo 11 (.fa 3 (.t 1)),
 zo 12 (.ld false 1 (.t 11)),
 zo 13 (.len 1 (.t 12)),
 zo 14 (.bin .lss (.t 10) (.t 13))])
 (.cond (.t 14)
 .skip
 (.exit 0)))
 (.seq (.blk 1 (.seq (.reg [zo 17 (.fa 3 (.t 1)),
 zo 18 (.ld false 1 (.t 17)),
 zo 19 (.mv (.t 4)),
 zo 20 (.ia 4 (.t 18) (.t 19)),
 zo 21 (.ld true 4 (.t 20)),
 zo 22 (.call Cg [.t 21]),
 zo 5 (.mv (.t 22))])
 (.seq (.reg [zo 6 (.mv (.c (.i .i64 0)))])
 (.blk 2 (.loop (.seq (.seq (.reg [zo 23 (.mv (.t 6)),
 zo 24 (.mv (.t 5)),
 zo 25 (.len 1 (.t 24)),
 zo 26 (.bin .lss (.t 23) (.t 25))])
 (.cond (.t 26)
 .skip
 (.exit 2)))
 (.seq (.blk 3 (.reg [zo 29 (.mv (.t 3)),
 zo 30 (.mv (.t 5)),
 zo 31 (.mv (.t 6)),
 zo 32 (.ia 1 (.t 30) (.t 31)),
 zo 33 (.ld false 1 (.t 32)),
 zo 34 (.bin .add (.c (.s [32])) (.t 33)),
 zo 35 (.bsl 1 [.t 34]),
 zo 36 (.app 1 9 (.t 29) (.t 35)),
 zo 3 (.mv (.t 36))]))
 (.reg [zo 27 (.mv (.t 6)),
 zo 28 (.bin .add (.t 27) (.c (.i .i64 1))),
 zo 6 (.mv (.t 28))]))))))))
 (.reg [zo 15 (.mv (.t 4)),
 zo 16 (.bin .add (.t 15) (.c (.i .i64 1))),
 zo 4 (.mv (.t 16))]))))))
 (.seq (.reg [zo 37 (.mv (.t 3)),
 zo 2 (.mv (.t 37))])
 .ret)))) }
def AO:Fun:={ cin:=[(.agg [.id,.id,(.sl 2 (.agg [(.sl 3 (.agg [.id,.id,.id])),.id])),(.sl 4 (.agg [.id,.id,(.sl 2 (.agg [.sl 3 .id,.id])),(.sl 4 (.agg [.id,.id,.sl 2 .id,.sl 4 .id]))]))])],cout:=[.sl 1 .id,.sl 1 .id],ntmps:=114,keep:=false,res:=[(2,none),(3,none)],body :=
 (.seq (.reg [zo 1 (.box 25 4 (.t 0)),
 zo 2 (.mv (.c .nsl)),
 zo 3 (.mv (.c .nsl))])
 (.seq (.reg [zo 4 (.mv (.c .nsl)),
 zo 5 (.mv (.c .nsl))])
 (.seq (.seq (.reg [zo 13 (.fa 0 (.t 1)),
 zo 14 (.ld false 1 (.t 13)),
 zo 15 (.bin .eql (.t 14) (.c (.i .u8 2))),
 zo 16 (.mv (.t 15)),
 ⟨some 17,.fa 0 (.t 1),some (16,false)⟩,
 ⟨some 18,.ld false 1 (.t 17),some (16,false)⟩,
 ⟨some 19,.bin .eql (.t 18) (.c (.i .u8 9)),some (16,false)⟩,
 zo 20 (.pick (.t 16) (.c (.b true)) (.t 19))])
 (.cond (.t 20)
 (.reg [zo 21 (.mv (.t 5)),
 zo 22 (.fa 1 (.t 1)),
 zo 23 (.ld false 1 (.t 22)),
 zo 24 (.bsl 1 [.t 23]),
 zo 25 (.app 1 9 (.t 21) (.t 24)),
 zo 5 (.mv (.t 25))])
 .skip))
 (.seq (.seq (.reg [zo 6 (.mv (.c (.i .i64 0)))])
 (.blk 0 (.loop (.seq (.seq (.reg [zo 26 (.mv (.t 6)),
 zo 27 (.fa 2 (.t 1)),
 zo 28 (.ld false 1 (.t 27)),
 zo 29 (.len 1 (.t 28)),
 zo 30 (.bin .lss (.t 26) (.t 29))])
 (.cond (.t 30)
 .skip
 (.exit 0)))
 (.seq (.blk 1 (.seq (.reg [zo 7 (.mv (.c (.i .i64 0)))])
 (.blk 2 (.loop (.seq (.seq (.reg [zo 33 (.mv (.t 7)),
 zo 34 (.fa 2 (.t 1)),
 zo 35 (.ld false 1 (.t 34)),
 zo 36 (.mv (.t 6)),
 zo 37 (.ia 2 (.t 35) (.t 36)),
 zo 38 (.fa 0 (.t 37)),
 zo 39 (.ld false 1 (.t 38)),
 zo 40 (.len 1 (.t 39)),
 zo 41 (.bin .lss (.t 33) (.t 40))])
 (.cond (.t 41)
 .skip
 (.exit 2)))
 (.seq (.blk 3 (.seq (.reg [zo 44 (.fa 2 (.t 1)),
 zo 45 (.ld false 1 (.t 44)),
 zo 46 (.mv (.t 6)),
 zo 47 (.ia 2 (.t 45) (.t 46)),
 zo 48 (.fa 0 (.t 47)),
 zo 49 (.ld false 1 (.t 48)),
 zo 50 (.mv (.t 7)),
 zo 51 (.ia 3 (.t 49) (.t 50)),
 zo 52 (.ld true 3 (.t 51)),
 zo 8 (.alloc 85 [(.b false),(.s []),(.b false)]),
 ⟨none,.st 3 (.t 8) (.t 52),none⟩])
 (.seq (.reg [zo 53 (.fa 1 (.t 8)),
 zo 54 (.ld false 1 (.t 53)),
 zo 55 (.len 0 (.t 54)),
 zo 56 (.bin .eql (.t 55) (.c (.i .i64 1))),
 zo 57 (.mv (.t 56)),
 ⟨some 58,.fa 1 (.t 8),some (57,true)⟩,
 ⟨some 59,.ld false 1 (.t 58),some (57,true)⟩,
 ⟨some 60,.ixS (.t 59) (.c (.i .i64 0)),some (57,true)⟩,
 ⟨some 61,.bin .geq (.t 60) (.c (.i .u8 49)),some (57,true)⟩,
 ⟨some 62,.mv (.t 61),some (57,true)⟩,
 ⟨some 63,.fa 1 (.t 8),some (62,true)⟩,
 ⟨some 64,.ld false 1 (.t 63),some (62,true)⟩,
 ⟨some 65,.ixS (.t 64) (.c (.i .i64 0)),some (62,true)⟩,
 ⟨some 66,.bin .leq (.t 65) (.c (.i .u8 57)),some (62,true)⟩,
 ⟨some 67,.pick (.t 62) (.t 66) (.c (.b false)),some (57,true)⟩,
 ⟨some 68,.mv (.t 67),some (57,true)⟩,
 ⟨some 69,.fa 1 (.t 8),some (68,false)⟩,
 ⟨some 70,.ld false 1 (.t 69),some (68,false)⟩,
 ⟨some 71,.bin .eql (.t 70) (.c (.s [35])),some (68,false)⟩,
 ⟨some 72,.pick (.t 68) (.c (.b true)) (.t 71),some (57,true)⟩,
 ⟨some 73,.mv (.t 72),some (57,true)⟩,
 ⟨some 74,.fa 1 (.t 8),some (73,false)⟩,
 ⟨some 75,.ld false 1 (.t 74),some (73,false)⟩,
 ⟨some 76,.bin .eql (.t 75) (.c (.s [63])),some (73,false)⟩,
 ⟨some 77,.pick (.t 73) (.c (.b true)) (.t 76),some (57,true)⟩,
 zo 78 (.pick (.t 57) (.t 77) (.c (.b false))),
 zo 9 (.mv (.t 78))])
 (.seq (.reg [zo 79 (.fa 0 (.t 8)),
 zo 80 (.ld false 1 (.t 79)),
 zo 81 (.mv (.t 80)),
 ⟨some 82,.mv (.t 9),some (81,true)⟩,
 ⟨some 83,.un .not (.t 82),some (81,true)⟩,
 zo 84 (.pick (.t 81) (.t 83) (.c (.b false)))])
 (.cond (.t 84)
 (.reg [zo 85 (.mv (.t 4)),
 zo 86 (.fa 1 (.t 8)),
 zo 87 (.ld false 1 (.t 86)),
 zo 88 (.bsl 1 [.t 87]),
 zo 89 (.app 1 9 (.t 85) (.t 88)),
 zo 4 (.mv (.t 89))])
 .skip)))))
 (.reg [zo 42 (.mv (.t 7)),
 zo 43 (.bin .add (.t 42) (.c (.i .i64 1))),
 zo 7 (.mv (.t 43))])))))))
 (.reg [zo 31 (.mv (.t 6)),
 zo 32 (.bin .add (.t 31) (.c (.i .i64 1))),
 zo 6 (.mv (.t 32))]))))))
 (.seq (.seq (.reg [zo 10 (.mv (.c (.i .i64 0)))])
 (.blk 4 (.loop (.seq (.seq (.reg [zo 90 (.mv (.t 10)),
 zo 91 (.fa 3 (.t 1)),
 zo 92 (.ld false 1 (.t 91)),
 zo 93 (.len 1 (.t 92)),
 zo 94 (.bin .lss (.t 90) (.t 93))])
 (.cond (.t 94)
 .skip
 (.exit 4)))
 (.seq (.blk 5 (.seq (.reg [zo 98 (.fa 3 (.t 1)),
 zo 99 (.ld false 1 (.t 98)),
 zo 100 (.mv (.t 10)),
 zo 101 (.ia 4 (.t 99) (.t 100)),
 zo 102 (.ld true 4 (.t 101)),
 zo 103 (.call Bo [.t 102]),
 zo 97 (.mv (.t 103)),
 zo 104 (.ext (.t 97) 0),
 zo 105 (.ext (.t 97) 1),
 zo 11 (.mv (.t 104)),
 zo 12 (.mv (.t 105))])
 (.seq (.reg [zo 106 (.mv (.t 4)),
 zo 107 (.mv (.t 11)),
 zo 108 (.app 1 9 (.t 106) (.t 107)),
 zo 4 (.mv (.t 108))])
 (.reg [zo 109 (.mv (.t 5)),
 zo 110 (.mv (.t 12)),
 zo 111 (.app 1 9 (.t 109) (.t 110)),
 zo 5 (.mv (.t 111))]))))
 (.reg [zo 95 (.mv (.t 10)),
 zo 96 (.bin .add (.t 95) (.c (.i .i64 1))),
 zo 10 (.mv (.t 96))]))))))
 (.seq (.reg [zo 112 (.mv (.t 4)),
 zo 113 (.mv (.t 5)),
 zo 2 (.mv (.t 112)),
 zo 3 (.mv (.t 113))])
 .ret)))))) }
def Av:Fun:={ cin:=[.id],cout:=[.id],ntmps:=35,keep:=false,res:=[(2,none)],body :=
 (.seq (.reg [zo 2 (.mv (.c (.b false)))])
 (.seq (.seq (.reg [zo 4 (.mv (.t 0)),
 zo 5 (.bin .eql (.t 4) (.c (.s []))),
 zo 6 (.mv (.t 5)),
 ⟨some 7,.mv (.t 0),some (6,false)⟩,
 ⟨some 8,.len 0 (.t 7),some (6,false)⟩,
 ⟨some 9,.bin .gtr (.t 8) (.c (.i .i64 64)),some (6,false)⟩,
 zo 10 (.pick (.t 6) (.c (.b true)) (.t 9)),
 zo 11 (.mv (.t 10)),
 ⟨some 12,.mv (.t 0),some (11,false)⟩,
 ⟨some 13,.ixS (.t 12) (.c (.i .i64 0)),some (11,false)⟩,
 ⟨some 14,.call CS [.t 13],some (11,false)⟩,
 ⟨some 15,.un .not (.t 14),some (11,false)⟩,
 zo 16 (.pick (.t 11) (.c (.b true)) (.t 15))])
 (.cond (.t 16)
 (.seq (.reg [zo 2 (.mv (.c (.b false)))])
 .ret)
 .skip))
 (.seq (.seq (.reg [zo 3 (.mv (.c (.i .i64 0)))])
 (.blk 0 (.loop (.seq (.seq (.reg [zo 17 (.mv (.t 3)),
 zo 18 (.mv (.t 0)),
 zo 19 (.len 0 (.t 18)),
 zo 20 (.bin .lss (.t 17) (.t 19))])
 (.cond (.t 20)
 .skip
 (.exit 0)))
 (.seq (.blk 1 (.seq (.reg [zo 23 (.mv (.t 0)),
 zo 24 (.mv (.t 3)),
 zo 25 (.ixS (.t 23) (.t 24)),
 zo 26 (.call CS [.t 25]),
 zo 27 (.un .not (.t 26)),
 zo 28 (.mv (.t 27)),
 ⟨some 29,.mv (.t 0),some (28,true)⟩,
 ⟨some 30,.mv (.t 3),some (28,true)⟩,
 ⟨some 31,.ixS (.t 29) (.t 30),some (28,true)⟩,
 ⟨some 32,.call DX [.t 31],some (28,true)⟩,
 ⟨some 33,.un .not (.t 32),some (28,true)⟩,
 zo 34 (.pick (.t 28) (.t 33) (.c (.b false)))])
 (.cond (.t 34)
 (.seq (.reg [zo 2 (.mv (.c (.b false)))])
 .ret)
 .skip)))
 (.reg [zo 21 (.mv (.t 3)),
 zo 22 (.bin .add (.t 21) (.c (.i .i64 1))),
 zo 3 (.mv (.t 22))]))))))
 (.seq (.reg [zo 2 (.mv (.c (.b true)))])
 .ret)))) }
def BT:Fun:={ cin:=[(.sl 2 (.agg [(.sl 3 (.agg [.id,.id,.id])),.id]))],cout:=[.id],ntmps:=19,keep:=false,res:=[(2,none)],body :=
 (.seq (.reg [zo 2 (.mv (.c (.b false)))])
 (.seq (.seq (.reg [zo 3 (.mv (.c (.i .i64 0)))])
 (.blk 0 (.loop (.seq (.seq (.reg [zo 4 (.mv (.t 3)),
 zo 5 (.mv (.t 0)),
 zo 6 (.len 1 (.t 5)),
 zo 7 (.bin .lss (.t 4) (.t 6))])
 (.cond (.t 7)
 .skip
 (.exit 0)))
 (.seq (.blk 1 (.seq (.reg [zo 10 (.mv (.t 0)),
 zo 11 (.mv (.t 3)),
 zo 12 (.ia 2 (.t 10) (.t 11)),
 zo 13 (.ld true 2 (.t 12)),
 zo 14 (.call Dj [.t 13]),
 zo 15 (.un .not (.t 14))])
 (.cond (.t 15)
 (.seq (.reg [zo 2 (.mv (.c (.b false)))])
 .ret)
 .skip)))
 (.reg [zo 8 (.mv (.t 3)),
 zo 9 (.bin .add (.t 8) (.c (.i .i64 1))),
 zo 3 (.mv (.t 9))]))))))
 (.seq (.reg [zo 16 (.mv (.t 0)),
 zo 17 (.len 1 (.t 16)),
 zo 18 (.bin .leq (.t 17) (.c (.i .i64 64))),
 zo 2 (.mv (.t 18))])
 .ret))) }
def EI:Fun:={ cin:=[(.agg [(.sl 3 (.agg [.id,.id,.id])),.id]),(.agg [(.sl 3 (.agg [.id,.id,.id])),.id])],cout:=[.id],ntmps:=17,keep:=false,res:=[(4,none)],body :=
 (.seq (.reg [zo 2 (.box 78 2 (.t 0)),
 zo 3 (.box 78 2 (.t 1)),
 zo 4 (.mv (.c (.b false)))])
 (.seq (.reg [zo 5 (.fa 1 (.t 2)),
 zo 6 (.ld false 1 (.t 5)),
 zo 7 (.fa 1 (.t 3)),
 zo 8 (.ld false 1 (.t 7)),
 zo 9 (.eq .bool false (.t 6) (.t 8)),
 zo 10 (.mv (.t 9)),
 ⟨some 11,.fa 0 (.t 2),some (10,true)⟩,
 ⟨some 12,.ld false 1 (.t 11),some (10,true)⟩,
 ⟨some 13,.fa 0 (.t 3),some (10,true)⟩,
 ⟨some 14,.ld false 1 (.t 13),some (10,true)⟩,
 ⟨some 15,.call BF [.t 12,.t 14],some (10,true)⟩,
 zo 16 (.pick (.t 10) (.t 15) (.c (.b false))),
 zo 4 (.mv (.t 16))])
 .ret)) }
def Af:Fun:={ cin:=[(.sl 3 (.agg [.id,.id,.id])),(.sl 3 (.agg [.id,.id,.id]))],cout:=[.id],ntmps:=26,keep:=false,res:=[(4,none)],body :=
 (.seq (.reg [zo 4 (.mv (.c (.b false)))])
 (.seq (.seq (.reg [zo 6 (.mv (.t 0)),
 zo 7 (.len 1 (.t 6)),
 zo 8 (.mv (.t 1)),
 zo 9 (.len 1 (.t 8)),
 zo 10 (.bin .neq (.t 7) (.t 9))])
 (.cond (.t 10)
 (.seq (.reg [zo 4 (.mv (.c (.b false)))])
 .ret)
 .skip))
 (.seq (.seq (.reg [zo 11 (.mv (.t 0)),
 zo 12 (.len 1 (.t 11)),
 zo 13 (.mv (.c (.i .i64 0)))])
 (.blk 0 (.loop (.seq (.reg [zo 14 (.bin .lss (.t 13) (.t 12))])
 (.seq (.cond (.t 14)
 .skip
 (.exit 0))
 (.seq (.blk 1 (.seq (.reg [zo 15 (.mv (.t 13)),
 zo 5 (.mv (.t 15))])
 (.seq (.regD [zo 16 (.mv (.t 0)),
 zo 17 (.mv (.t 5)),
 zo 18 (.ia 3 (.t 16) (.t 17)),
 zo 19 (.ld true 3 (.t 18)),
 zo 20 (.mv (.t 1)),
 zo 21 (.mv (.t 5)),
 zo 22 (.ia 3 (.t 20) (.t 21)),
 zo 23 (.ld true 3 (.t 22)),
 zo 24 (.eq (.st [0,2,0]) true (.t 19) (.t 23))] [])
 (.cond (.t 24)
 (.seq (.reg [zo 4 (.mv (.c (.b false)))])
 .ret)
 .skip))))
 (.reg [zo 25 (.bin .add (.t 13) (.c (.i .i64 1))),
 zo 13 (.mv (.t 25))])))))))
 (.seq (.reg [zo 4 (.mv (.c (.b true)))])
 .ret)))) }
def AK:Fun:={ cin:=[(.sl 2 (.agg [(.sl 3 (.agg [.id,.id,.id])),.id])),(.sl 2 (.agg [(.sl 3 (.agg [.id,.id,.id])),.id])),.id],cout:=[.id],ntmps:=32,keep:=false,res:=[(6,none)],body :=
 (.seq (.reg [zo 6 (.mv (.c (.b false)))])
 (.seq (.seq (.reg [zo 10 (.mv (.t 0)),
 zo 11 (.len 1 (.t 10)),
 zo 12 (.mv (.t 1)),
 zo 13 (.len 1 (.t 12)),
 zo 14 (.bin .neq (.t 11) (.t 13))])
 (.cond (.t 14)
 (.seq (.reg [zo 6 (.mv (.c (.b false)))])
 .ret)
 .skip))
 (.seq (.seq (.reg [zo 15 (.mv (.t 0)),
 zo 16 (.len 1 (.t 15)),
 zo 17 (.mv (.c (.i .i64 0)))])
 (.blk 0 (.loop (.seq (.reg [zo 18 (.bin .lss (.t 17) (.t 16))])
 (.seq (.cond (.t 18)
 .skip
 (.exit 0))
 (.seq (.blk 1 (.seq (.reg [zo 19 (.mv (.t 17)),
 zo 20 (.ia 2 (.t 15) (.t 17)),
 zo 21 (.ld true 2 (.t 20)),
 zo 8 (.alloc 78 [.nsl,.b false]),
 zo 7 (.mv (.t 19)),
 ⟨none,.st 2 (.t 8) (.t 21),none⟩])
 (.seq (.reg [zo 22 (.mv (.t 1)),
 zo 23 (.mv (.t 7)),
 zo 24 (.ia 2 (.t 22) (.t 23)),
 zo 25 (.ld true 2 (.t 24)),
 zo 9 (.alloc 78 [.nsl,.b false]),
 ⟨none,.st 2 (.t 9) (.t 25),none⟩])
 (.seq (.reg [zo 26 (.mv (.t 2)),
 zo 27 (.ld true 2 (.t 8)),
 zo 28 (.ld true 2 (.t 9)),
 zo 29 (.callX (.t 26) [.t 27,.t 28]),
 zo 30 (.un .not (.t 29))])
 (.cond (.t 30)
 (.seq (.reg [zo 6 (.mv (.c (.b false)))])
 .ret)
 .skip)))))
 (.reg [zo 31 (.bin .add (.t 17) (.c (.i .i64 1))),
 zo 17 (.mv (.t 31))])))))))
 (.seq (.reg [zo 6 (.mv (.c (.b true)))])
 .ret)))) }
def AM:Fun:={ cin:=[(.sl 4 (.agg [.id,.id,(.sl 2 (.agg [(.sl 3 (.agg [.id,.id,.id])),.id])),(.sl 4 (.agg [.id,.id,(.sl 2 (.agg [.id,.id])),(.sl 4 (.agg [.id,.id,.id,.id]))]))])),(.sl 4 (.agg [.id,.id,(.sl 2 (.agg [(.sl 3 (.agg [.id,.id,.id])),.id])),(.sl 4 (.agg [.id,.id,(.sl 2 (.agg [.id,.id])),(.sl 4 (.agg [.id,.id,.id,.id]))]))])),.id],cout:=[.id],ntmps:=32,keep:=false,res:=[(6,none)],body :=
 (.seq (.reg [zo 6 (.mv (.c (.b false)))])
 (.seq (.seq (.reg [zo 10 (.mv (.t 0)),
 zo 11 (.len 1 (.t 10)),
 zo 12 (.mv (.t 1)),
 zo 13 (.len 1 (.t 12)),
 zo 14 (.bin .neq (.t 11) (.t 13))])
 (.cond (.t 14)
 (.seq (.reg [zo 6 (.mv (.c (.b false)))])
 .ret)
 .skip))
 (.seq (.seq (.reg [zo 15 (.mv (.t 0)),
 zo 16 (.len 1 (.t 15)),
 zo 17 (.mv (.c (.i .i64 0)))])
 (.blk 0 (.loop (.seq (.reg [zo 18 (.bin .lss (.t 17) (.t 16))])
 (.seq (.cond (.t 18)
 .skip
 (.exit 0))
 (.seq (.blk 1 (.seq (.reg [zo 19 (.mv (.t 17)),
 zo 20 (.ia 4 (.t 15) (.t 17)),
 zo 21 (.ld true 4 (.t 20)),
 zo 8 (.alloc 25 [(.i .u8 0),(.s []),.nsl,.nsl]),
 zo 7 (.mv (.t 19)),
 ⟨none,.st 4 (.t 8) (.t 21),none⟩])
 (.seq (.reg [zo 22 (.mv (.t 1)),
 zo 23 (.mv (.t 7)),
 zo 24 (.ia 4 (.t 22) (.t 23)),
 zo 25 (.ld true 4 (.t 24)),
 zo 9 (.alloc 25 [(.i .u8 0),(.s []),.nsl,.nsl]),
 ⟨none,.st 4 (.t 9) (.t 25),none⟩])
 (.seq (.reg [zo 26 (.mv (.t 2)),
 zo 27 (.ld true 4 (.t 8)),
 zo 28 (.ld true 4 (.t 9)),
 zo 29 (.callX (.t 26) [.t 27,.t 28]),
 zo 30 (.un .not (.t 29))])
 (.cond (.t 30)
 (.seq (.reg [zo 6 (.mv (.c (.b false)))])
 .ret)
 .skip)))))
 (.reg [zo 31 (.bin .add (.t 17) (.c (.i .i64 1))),
 zo 17 (.mv (.t 31))])))))))
 (.seq (.reg [zo 6 (.mv (.c (.b true)))])
 .ret)))) }
def BB:Fun:={ cin:=[(.agg [(.sl 3 (.agg [.id,.id,.id])),.id]),(.agg [(.sl 3 (.agg [.id,.id,.id])),.id])],cout:=[.id],ntmps:=31,keep:=false,res:=[(4,none)],body :=
 (.seq (.reg [zo 2 (.box 102 2 (.t 0)),
 zo 3 (.box 102 2 (.t 1)),
 zo 4 (.mv (.c (.b false)))])
 (.seq (.seq (.reg [zo 6 (.fa 0 (.t 2)),
 zo 7 (.ld false 1 (.t 6)),
 zo 8 (.len 1 (.t 7)),
 zo 9 (.fa 0 (.t 3)),
 zo 10 (.ld false 1 (.t 9)),
 zo 11 (.len 1 (.t 10)),
 zo 12 (.bin .neq (.t 8) (.t 11))])
 (.cond (.t 12)
 (.seq (.reg [zo 4 (.mv (.c (.b false)))])
 .ret)
 .skip))
 (.seq (.seq (.reg [zo 5 (.mv (.c (.i .i64 0)))])
 (.blk 0 (.loop (.seq (.seq (.reg [zo 13 (.mv (.t 5)),
 zo 14 (.fa 0 (.t 2)),
 zo 15 (.ld false 1 (.t 14)),
 zo 16 (.len 1 (.t 15)),
 zo 17 (.bin .lss (.t 13) (.t 16))])
 (.cond (.t 17)
 .skip
 (.exit 0)))
 (.seq (.blk 1 (.seq (.regD [zo 20 (.fa 0 (.t 2)),
 zo 21 (.ld false 1 (.t 20)),
 zo 22 (.mv (.t 5)),
 zo 23 (.ia 3 (.t 21) (.t 22)),
 zo 24 (.ld true 3 (.t 23)),
 zo 25 (.fa 0 (.t 3)),
 zo 26 (.ld false 1 (.t 25)),
 zo 27 (.mv (.t 5)),
 zo 28 (.ia 3 (.t 26) (.t 27)),
 zo 29 (.ld true 3 (.t 28)),
 zo 30 (.eq (.st [0,2,0]) true (.t 24) (.t 29))] [])
 (.cond (.t 30)
 (.seq (.reg [zo 4 (.mv (.c (.b false)))])
 .ret)
 .skip)))
 (.reg [zo 18 (.mv (.t 5)),
 zo 19 (.bin .add (.t 18) (.c (.i .i64 1))),
 zo 5 (.mv (.t 19))]))))))
 (.seq (.reg [zo 4 (.mv (.c (.b true)))])
 .ret)))) }
def Cs:Fun:={ cin:=[],cout:=[],ntmps:=0,keep:=false,res:=[],body:=.bad,prim:=some Ig }
def Dt:Fun:={ cin:=[.id],cout:=[.id],ntmps:=4,keep:=false,res:=[(2,none)],body :=
 (.seq (.reg [zo 1 (.box 3 1 (.t 0)),
 zo 2 (.mv (.c .nf))])
 (.seq (.reg [zo 3 (.mkf AE [.t 1]),
 zo 2 (.mv (.t 3))])
 .ret)) }
def DD:Fun:={ cin:=[.id],cout:=[.id],ntmps:=7,keep:=false,res:=[(3,none)],body :=
 (.seq (.reg [zo 3 (.mv (.c (.b false)))])
 (.seq (.reg [zo 4 (.mv (.t 0)),
 zo 5 (.ld false 1 (.t 1)),
 zo 6 (.bin .eql (.t 4) (.t 5)),
 zo 3 (.mv (.t 6))])
 .ret)) }
def FJ:Fun:={ cin:=[.id],cout:=[.id],ntmps:=3,keep:=false,res:=[(2,none)],body :=
 (.seq (.reg [zo 2 (.mv (.c (.b false)))])
 (.seq (.reg [zo 2 (.mv (.c (.b true)))])
 .ret)) }
def Cm:Fun:={ cin:=[.id],cout:=[.id],ntmps:=19,keep:=false,res:=[(2,none)],body :=
 (.seq (.reg [zo 2 (.mv (.c (.b false)))])
 (.seq (.seq (.reg [zo 3 (.mv (.t 0)),
 zo 4 (.len 0 (.t 3)),
 zo 5 (.bin .eql (.t 4) (.c (.i .i64 1))),
 zo 6 (.mv (.t 5)),
 ⟨some 7,.mv (.t 0),some (6,true)⟩,
 ⟨some 8,.call CO [(.c (.s [49,50,51,52,53,54,55,56,57,35,63])),(.t 7)],some (6,true)⟩,
 zo 9 (.pick (.t 6) (.t 8) (.c (.b false)))])
 (.cond (.t 9)
 (.seq (.reg [zo 2 (.mv (.c (.b true)))])
 .ret)
 .skip))
 (.seq (.reg [zo 10 (.mv (.t 0)),
 zo 11 (.bin .neq (.t 10) (.c (.s []))),
 zo 12 (.mv (.t 11)),
 ⟨some 13,.mv (.t 0),some (12,true)⟩,
 ⟨some 14,.call Je [.t 13],some (12,true)⟩,
 ⟨some 15,.mv (.t 0),some (12,true)⟩,
 ⟨some 16,.len 0 (.t 15),some (12,true)⟩,
 ⟨some 17,.bin .eql (.t 14) (.t 16),some (12,true)⟩,
 zo 18 (.pick (.t 12) (.t 17) (.c (.b false))),
 zo 2 (.mv (.t 18))])
 .ret))) }
def AX:Fun:={ cin:=[(.sl 2 (.agg [(.sl 3 (.agg [.id,.id,.id])),.id])),.id],cout:=[.id],ntmps:=19,keep:=false,res:=[(4,none)],body :=
 (.seq (.reg [zo 4 (.mv (.c (.i .i64 0)))])
 (.seq (.seq (.reg [zo 6 (.mv (.t 0)),
 zo 7 (.len 1 (.t 6)),
 zo 8 (.mv (.c (.i .i64 0)))])
 (.blk 0 (.loop (.seq (.reg [zo 9 (.bin .lss (.t 8) (.t 7))])
 (.seq (.cond (.t 9)
 .skip
 (.exit 0))
 (.seq (.blk 1 (.seq (.reg [zo 10 (.mv (.t 8)),
 zo 5 (.mv (.t 10))])
 (.seq (.reg [zo 11 (.mv (.t 1)),
 zo 12 (.mv (.t 0)),
 zo 13 (.mv (.t 5)),
 zo 14 (.ia 2 (.t 12) (.t 13)),
 zo 15 (.ld true 2 (.t 14)),
 zo 16 (.callX (.t 11) [.t 15])])
 (.cond (.t 16)
 (.seq (.reg [zo 17 (.mv (.t 5)),
 zo 4 (.mv (.t 17))])
 .ret)
 .skip))))
 (.reg [zo 18 (.bin .add (.t 8) (.c (.i .i64 1))),
 zo 8 (.mv (.t 18))])))))))
 (.seq (.reg [zo 4 (.mv (.c (.i .i64 (-1))))])
 .ret))) }
def Ag:Fun:={ cin:=[(.sl 3 (.agg [.id,.id,.id]))],cout:=[],ntmps:=8,keep:=true,res:=[(2,none)],body :=
 (.seq (.reg [zo 2 (.mv (.c .nsl))])
 (.seq (.seq (.reg [zo 3 (.mv (.t 0)),
 zo 4 (.eq .sl false (.t 3) (.c .nsl))])
 (.cond (.t 4)
 (.seq (.reg [zo 2 (.mv (.c .nsl))])
 .ret)
 .skip))
 (.seq (.reg [zo 5 (.bsl 3 []),
 zo 6 (.mv (.t 0)),
 zo 7 (.app 3 85 (.t 5) (.t 6)),
 zo 2 (.mv (.t 7))])
 .ret))) }
def Ct:Fun:={ cin:=[.id,.id],cout:=[.id],ntmps:=8,keep:=false,res:=[(4,none)],body :=
 (.seq (.reg [zo 4 (.mv (.c (.b false)))])
 (.seq (.reg [zo 5 (.mv (.t 0)),
 zo 6 (.mv (.t 1)),
 zo 7 (.call Bw [.t 5,.t 6]),
 zo 4 (.mv (.t 7))])
 .ret)) }
def D3:Fun:={ cin:=[(.agg [(.sl 3 (.agg [.id,.id,.id])),.id])],cout:=[.id],ntmps:=77,keep:=false,res:=[(2,none)],body :=
 (.seq (.reg [zo 1 (.box 102 2 (.t 0)),
 zo 2 (.mv (.c (.b false)))])
 (.seq (.seq (.reg [zo 7 (.fa 0 (.t 1)),
 zo 8 (.ld false 1 (.t 7)),
 zo 9 (.len 1 (.t 8)),
 zo 10 (.mv (.c (.i .i64 0)))])
 (.blk 0 (.loop (.seq (.reg [zo 11 (.bin .lss (.t 10) (.t 9))])
 (.seq (.cond (.t 11)
 .skip
 (.exit 0))
 (.seq (.blk 1 (.seq (.reg [zo 12 (.mv (.t 10)),
 zo 13 (.ia 3 (.t 8) (.t 10)),
 zo 14 (.ld true 3 (.t 13)),
 zo 4 (.alloc 85 [(.b false),(.s []),(.b false)]),
 zo 3 (.mv (.t 12)),
 ⟨none,.st 3 (.t 4) (.t 14),none⟩])
 (.seq (.reg [zo 5 (.mv (.c (.b false)))])
 (.seq (.blk 2 (.seq (.reg [zo 21 (.fa 0 (.t 4)),
 zo 22 (.ld false 1 (.t 21)),
 zo 20 (.mv (.t 22))])
 (.cond (.t 20)
 (.reg [zo 23 (.fa 1 (.t 4)),
 zo 24 (.ld false 1 (.t 23)),
 zo 25 (.call GK [.t 24]),
 zo 5 (.mv (.t 25))])
 (.seq (.reg [zo 27 (.fa 2 (.t 4)),
 zo 28 (.ld false 1 (.t 27)),
 zo 26 (.mv (.t 28))])
 (.cond (.t 26)
 (.reg [zo 29 (.fa 1 (.t 4)),
 zo 30 (.ld false 1 (.t 29)),
 zo 31 (.call CO [(.t 30),(.c (.s [0]))]),
 zo 32 (.un .not (.t 31)),
 zo 5 (.mv (.t 32))])
 (.reg [zo 15 (.fa 1 (.t 4)),
 zo 16 (.ld false 1 (.t 15)),
 zo 17 (.mv (.t 3)),
 zo 18 (.bin .eql (.t 17) (.c (.i .i64 0))),
 zo 19 (.call Ij [.t 16,.t 18]),
 zo 5 (.mv (.t 19))]))))))
 (.seq (.seq (.reg [zo 33 (.mv (.t 5)),
 zo 34 (.un .not (.t 33))])
 (.cond (.t 34)
 (.seq (.reg [zo 2 (.mv (.c (.b false)))])
 .ret)
 .skip))
 (.seq (.seq (.reg [zo 35 (.mv (.t 3)),
 zo 36 (.bin .eql (.t 35) (.c (.i .i64 0)))])
 (.cond (.t 36)
 (.exit 1)
 .skip))
 (.seq (.reg [zo 37 (.fa 0 (.t 1)),
 zo 38 (.ld false 1 (.t 37)),
 zo 39 (.mv (.t 3)),
 zo 40 (.bin .sub (.t 39) (.c (.i .i64 1))),
 zo 41 (.ia 3 (.t 38) (.t 40)),
 zo 42 (.ld true 3 (.t 41)),
 zo 6 (.alloc 85 [(.b false),(.s []),(.b false)]),
 ⟨none,.st 3 (.t 6) (.t 42),none⟩])
 (.seq (.reg [zo 43 (.fa 2 (.t 4)),
 zo 44 (.ld false 1 (.t 43)),
 zo 45 (.fa 2 (.t 6)),
 zo 46 (.ld false 1 (.t 45)),
 zo 47 (.eq .bool false (.t 44) (.t 46)),
 zo 48 (.mv (.t 47)),
 ⟨some 49,.fa 0 (.t 4),some (48,true)⟩,
 ⟨some 50,.ld false 1 (.t 49),some (48,true)⟩,
 ⟨some 51,.un .not (.t 50),some (48,true)⟩,
 ⟨some 52,.mv (.t 51),some (48,true)⟩,
 ⟨some 53,.fa 0 (.t 6),some (52,true)⟩,
 ⟨some 54,.ld false 1 (.t 53),some (52,true)⟩,
 ⟨some 55,.un .not (.t 54),some (52,true)⟩,
 ⟨some 56,.pick (.t 52) (.t 55) (.c (.b false)),some (48,true)⟩,
 ⟨some 57,.mv (.t 56),some (48,true)⟩,
 ⟨some 58,.fa 2 (.t 4),some (57,false)⟩,
 ⟨some 59,.ld false 1 (.t 58),some (57,false)⟩,
 ⟨some 60,.mv (.t 59),some (57,false)⟩,
 ⟨some 61,.fa 1 (.t 4),some (60,true)⟩,
 ⟨some 62,.ld false 1 (.t 61),some (60,true)⟩,
 ⟨some 63,.bin .eql (.t 62) (.c (.s [])),some (60,true)⟩,
 ⟨some 64,.mv (.t 63),some (60,true)⟩,
 ⟨some 65,.fa 1 (.t 6),some (64,false)⟩,
 ⟨some 66,.ld false 1 (.t 65),some (64,false)⟩,
 ⟨some 67,.bin .eql (.t 66) (.c (.s [])),some (64,false)⟩,
 ⟨some 68,.pick (.t 64) (.c (.b true)) (.t 67),some (60,true)⟩,
 ⟨some 69,.pick (.t 60) (.t 68) (.c (.b false)),some (57,false)⟩,
 ⟨some 70,.pick (.t 57) (.c (.b true)) (.t 69),some (48,true)⟩,
 zo 71 (.pick (.t 48) (.t 70) (.c (.b false)))])
 (.cond (.t 71)
 (.seq (.reg [zo 2 (.mv (.c (.b false)))])
 .ret)
 .skip)))))))))
 (.reg [zo 72 (.bin .add (.t 10) (.c (.i .i64 1))),
 zo 10 (.mv (.t 72))])))))))
 (.seq (.reg [zo 73 (.fa 0 (.t 1)),
 zo 74 (.ld false 1 (.t 73)),
 zo 75 (.len 1 (.t 74)),
 zo 76 (.bin .gtr (.t 75) (.c (.i .i64 0))),
 zo 2 (.mv (.t 76))])
 .ret))) }
def Ab:Fun:={ cin:=[(.sl 4 (.agg [.id,.id,(.sl 2 (.agg [(.sl 3 (.agg [.id,.id,.id])),.id])),(.sl 4 (.agg [.id,.id,(.sl 2 (.agg [.id,.id])),(.sl 4 (.agg [.id,.id,.id,.id]))]))])),.id],cout:=[.id],ntmps:=19,keep:=false,res:=[(4,none)],body :=
 (.seq (.reg [zo 4 (.mv (.c (.i .i64 0)))])
 (.seq (.seq (.reg [zo 6 (.mv (.t 0)),
 zo 7 (.len 1 (.t 6)),
 zo 8 (.mv (.c (.i .i64 0)))])
 (.blk 0 (.loop (.seq (.reg [zo 9 (.bin .lss (.t 8) (.t 7))])
 (.seq (.cond (.t 9)
 .skip
 (.exit 0))
 (.seq (.blk 1 (.seq (.reg [zo 10 (.mv (.t 8)),
 zo 5 (.mv (.t 10))])
 (.seq (.reg [zo 11 (.mv (.t 1)),
 zo 12 (.mv (.t 0)),
 zo 13 (.mv (.t 5)),
 zo 14 (.ia 4 (.t 12) (.t 13)),
 zo 15 (.ld true 4 (.t 14)),
 zo 16 (.callX (.t 11) [.t 15])])
 (.cond (.t 16)
 (.seq (.reg [zo 17 (.mv (.t 5)),
 zo 4 (.mv (.t 17))])
 .ret)
 .skip))))
 (.reg [zo 18 (.bin .add (.t 8) (.c (.i .i64 1))),
 zo 8 (.mv (.t 18))])))))))
 (.seq (.reg [zo 4 (.mv (.c (.i .i64 (-1))))])
 .ret))) }
def CK:Fun:={ cin:=[],cout:=[],ntmps:=0,keep:=false,res:=[],body:=.bad,prim:=some FH }
def Du:Fun:={ cin:=[.id,.id],cout:=[.id],ntmps:=8,keep:=false,res:=[(4,none)],body :=
 (.seq (.reg [zo 4 (.mv (.c (.i .i64 0)))])
 (.seq (.reg [zo 5 (.mv (.t 0)),
 zo 6 (.mv (.t 1)),
 zo 7 (.call Ch [.t 5,.t 6]),
 zo 4 (.mv (.t 7))])
 .ret)) }
def Cp:Fun:={ cin:=[.id],cout:=[],ntmps:=32,keep:=false,res:=[],body :=
 (.seq (.reg [zo 3 (.box 118 1 (.t 0))])
 (.seq (.seq (.reg [zo 8 (.ld false 1 (.t 3)),
 zo 9 (.ld false 1 (.t 1)),
 zo 10 (.ld true 4 (.t 2)),
 zo 11 (.callX (.t 8) [.t 9,.t 10]),
 zo 12 (.un .not (.t 11))])
 (.cond (.t 12)
 .ret
 .skip))
 (.seq (.reg [zo 13 (.fa 3 (.t 2)),
 zo 14 (.ld false 1 (.t 13)),
 zo 15 (.len 1 (.t 14)),
 zo 16 (.mv (.c (.i .i64 0)))])
 (.blk 0 (.loop (.seq (.reg [zo 17 (.bin .lss (.t 16) (.t 15))])
 (.seq (.cond (.t 17)
 .skip
 (.exit 0))
 (.seq (.blk 1 (.seq (.reg [zo 18 (.ia 4 (.t 14) (.t 16)),
 zo 19 (.ld true 4 (.t 18)),
 zo 5 (.alloc 25 [(.i .u8 0),(.s []),.nsl,.nsl]),
 ⟨none,.st 4 (.t 5) (.t 19),none⟩])
 (.seq (.reg [zo 20 (.ld true 4 (.t 5)),
 zo 21 (.ld false 1 (.t 1)),
 zo 22 (.bin .add (.t 21) (.c (.i .i64 1))),
 zo 23 (.call GJ [.t 20,.t 22])])
 (.blk 2 (.rf (.t 23) [24,25] (.seq (.reg [zo 6 (.mv (.t 24))])
 (.reg [zo 7 (.alloc 25 [(.i .u8 0),(.s []),.nsl,.nsl]),
 ⟨none,.st 4 (.t 7) (.t 25),none⟩]))
 (.blk 3 (.seq (.reg [zo 26 (.ld false 1 (.t 3)),
 zo 27 (.mv (.t 6)),
 zo 28 (.ld true 4 (.t 7)),
 zo 29 (.callX (.t 26) [.t 27,.t 28]),
 zo 30 (.un .not (.t 29))])
 (.cond (.t 30)
 .ret
 .skip))))))))
 (.reg [zo 31 (.bin .add (.t 16) (.c (.i .i64 1))),
 zo 16 (.mv (.t 31))]))))))))) }
def Il:Fun:={ cin:=[.id,.id,.id],cout:=[.id],ntmps:=10,keep:=false,res:=[(6,none)],body :=
 (.seq (.reg [zo 6 (.mv (.c (.s [])))])
 (.seq (.seq (.reg [zo 7 (.mv (.t 0))])
 (.cond (.t 7)
 (.seq (.reg [zo 8 (.mv (.t 1)),
 zo 6 (.mv (.t 8))])
 .ret)
 .skip))
 (.seq (.reg [zo 9 (.mv (.t 2)),
 zo 6 (.mv (.t 9))])
 .ret))) }
def FK:Fun:={ cin:=[.id],cout:=[.id],ntmps:=9,keep:=false,res:=[(2,none)],body :=
 (.seq (.reg [zo 2 (.mv (.c (.s [])))])
 (.seq (.reg [zo 3 (.mv (.t 0)),
 zo 4 (.len 0 (.t 3)),
 zo 5 (.call GW [.t 4]),
 zo 6 (.bin .add (.t 5) (.c (.s [58]))),
 zo 7 (.mv (.t 0)),
 zo 8 (.bin .add (.t 6) (.t 7)),
 zo 2 (.mv (.t 8))])
 .ret)) }
def AQ:Fun:={ cin:=[(.agg [.id,.id,(.sl 2 (.agg [(.sl 3 (.agg [.id,.id,.id])),.id])),(.sl 4 (.agg [.id,.id,(.sl 2 (.agg [.sl 3 .id,.id])),(.sl 4 (.agg [.id,.id,.sl 2 .id,.sl 4 .id]))]))])],cout:=[.id],ntmps:=39,keep:=false,res:=[(2,none)],body :=
 (.seq (.reg [zo 1 (.box 25 4 (.t 0)),
 zo 2 (.mv (.c (.s [])))])
 (.seq (.seq (.reg [zo 3 (.fa 0 (.t 1)),
 zo 4 (.ld false 1 (.t 3))])
 (.blk 0 (.seq (.reg [zo 6 (.bin .eql (.t 4) (.c (.i .u8 1))),
 zo 5 (.mv (.t 6))])
 (.cond (.t 5)
 (.seq (.reg [zo 2 (.mv (.c (.s [115,107,105,112])))])
 .ret)
 (.seq (.reg [zo 8 (.bin .eql (.t 4) (.c (.i .u8 4))),
 zo 7 (.mv (.t 8))])
 (.cond (.t 7)
 (.seq (.reg [zo 2 (.mv (.c (.s [99,104,101,99,107])))])
 .ret)
 (.seq (.reg [zo 10 (.bin .eql (.t 4) (.c (.i .u8 6))),
 zo 9 (.mv (.t 10))])
 (.cond (.t 9)
 (.seq (.reg [zo 2 (.mv (.c (.s [110,111,116])))])
 .ret)
 (.seq (.reg [zo 12 (.bin .eql (.t 4) (.c (.i .u8 2))),
 zo 11 (.mv (.t 12))])
 (.cond (.t 11)
 (.seq (.regD [zo 13 (.fa 1 (.t 1)),
 zo 14 (.ld false 1 (.t 13)),
 zo 15 (.bin .add (.c (.s [97,115,115,105,103,110,32])) (.t 14)),
 zo 16 (.fa 2 (.t 1)),
 zo 17 (.ld false 1 (.t 16)),
 zo 18 (.call Bq [.t 17]),
 zo 19 (.bin .add (.t 15) (.t 18)),
 zo 2 (.mv (.t 19))] [(1,(1,6))])
 .ret)
 (.seq (.reg [zo 21 (.bin .eql (.t 4) (.c (.i .u8 3))),
 zo 20 (.mv (.t 21))])
 (.cond (.t 20)
 (.seq (.reg [zo 22 (.fa 2 (.t 1)),
 zo 23 (.ld false 1 (.t 22)),
 zo 24 (.call Bq [.t 23]),
 zo 25 (.bin .add (.c (.s [99,97,108,108])) (.t 24)),
 zo 2 (.mv (.t 25))])
 .ret)
 (.seq (.reg [zo 27 (.bin .eql (.t 4) (.c (.i .u8 5))),
 zo 26 (.mv (.t 27))])
 (.cond (.t 26)
 (.seq (.reg [zo 2 (.mv (.c (.s [115,101,113])))])
 .ret)
 (.seq (.reg [zo 29 (.bin .eql (.t 4) (.c (.i .u8 7))),
 zo 28 (.mv (.t 29))])
 (.cond (.t 28)
 (.seq (.reg [zo 2 (.mv (.c (.s [105,102])))])
 .ret)
 (.seq (.reg [zo 31 (.bin .eql (.t 4) (.c (.i .u8 8))),
 zo 30 (.mv (.t 31))])
 (.cond (.t 30)
 (.seq (.reg [zo 2 (.mv (.c (.s [108,111,111,112])))])
 .ret)
 .skip))))))))))))))))))
 (.seq (.regD [zo 32 (.fa 1 (.t 1)),
 zo 33 (.ld false 1 (.t 32)),
 zo 34 (.bin .add (.c (.s [101,97,99,104,32])) (.t 33)),
 zo 35 (.fa 2 (.t 1)),
 zo 36 (.ld false 1 (.t 35)),
 zo 37 (.call Bq [.t 36]),
 zo 38 (.bin .add (.t 34) (.t 37)),
 zo 2 (.mv (.t 38))] [(1,(1,6))])
 .ret))) }
def CU:Fun:={ cin:=[.id],cout:=[.id],ntmps:=21,keep:=false,res:=[(2,none)],body :=
 (.seq (.reg [zo 2 (.mv (.c (.b false)))])
 (.seq (.reg [zo 3 (.mv (.t 0)),
 zo 4 (.bin .geq (.t 3) (.c (.i .u8 97))),
 zo 5 (.mv (.t 4)),
 ⟨some 6,.mv (.t 0),some (5,true)⟩,
 ⟨some 7,.bin .leq (.t 6) (.c (.i .u8 122)),some (5,true)⟩,
 zo 8 (.pick (.t 5) (.t 7) (.c (.b false))),
 zo 9 (.mv (.t 8)),
 ⟨some 10,.mv (.t 0),some (9,false)⟩,
 ⟨some 11,.bin .geq (.t 10) (.c (.i .u8 65)),some (9,false)⟩,
 ⟨some 12,.mv (.t 11),some (9,false)⟩,
 ⟨some 13,.mv (.t 0),some (12,true)⟩,
 ⟨some 14,.bin .leq (.t 13) (.c (.i .u8 90)),some (12,true)⟩,
 ⟨some 15,.pick (.t 12) (.t 14) (.c (.b false)),some (9,false)⟩,
 zo 16 (.pick (.t 9) (.c (.b true)) (.t 15)),
 zo 17 (.mv (.t 16)),
 ⟨some 18,.mv (.t 0),some (17,false)⟩,
 ⟨some 19,.bin .eql (.t 18) (.c (.i .u8 95)),some (17,false)⟩,
 zo 20 (.pick (.t 17) (.c (.b true)) (.t 19)),
 zo 2 (.mv (.t 20))])
 .ret)) }
def Cj:Fun:={ cin:=[.id],cout:=[.id],ntmps:=9,keep:=false,res:=[(2,none)],body :=
 (.seq (.reg [zo 2 (.mv (.c (.b false)))])
 (.seq (.reg [zo 3 (.mv (.t 0)),
 zo 4 (.bin .geq (.t 3) (.c (.i .u8 48))),
 zo 5 (.mv (.t 4)),
 ⟨some 6,.mv (.t 0),some (5,true)⟩,
 ⟨some 7,.bin .leq (.t 6) (.c (.i .u8 57)),some (5,true)⟩,
 zo 8 (.pick (.t 5) (.t 7) (.c (.b false))),
 zo 2 (.mv (.t 8))])
 .ret)) }
def Aj:Fun:={ cin:=[(.agg [(.sl 3 (.agg [.id,.id,.id])),.id])],cout:=[.id],ntmps:=58,keep:=false,res:=[(2,none)],body :=
 (.seq (.reg [zo 1 (.box 78 2 (.t 0)),
 zo 2 (.mv (.c (.b false)))])
 (.seq (.seq (.reg [zo 4 (.fa 0 (.t 1)),
 zo 5 (.ld false 1 (.t 4)),
 zo 6 (.len 1 (.t 5)),
 zo 7 (.bin .eql (.t 6) (.c (.i .i64 0)))])
 (.cond (.t 7)
 (.seq (.reg [zo 2 (.mv (.c (.b true)))])
 .ret)
 .skip))
 (.seq (.reg [zo 8 (.bsl 3 []),
 zo 9 (.fa 0 (.t 1)),
 zo 10 (.ld false 1 (.t 9)),
 zo 11 (.app 3 85 (.t 8) (.t 10)),
 zo 3 (.mv (.t 11))])
 (.seq (.seq (.seq (.thw 3)
 (.reg [zo 12 (.mv (.t 3)),
 zo 13 (.ia 3 (.t 12) (.c (.i .i64 0))),
 zo 14 (.fa 0 (.t 13)),
 zo 15 (.ld false 1 (.t 14)),
 zo 16 (.un .not (.t 15)),
 zo 17 (.mv (.t 16)),
 ⟨some 18,.mv (.t 3),some (17,true)⟩,
 ⟨some 19,.ia 3 (.t 18) (.c (.i .i64 0)),some (17,true)⟩,
 ⟨some 20,.fa 2 (.t 19),some (17,true)⟩,
 ⟨some 21,.ld false 1 (.t 20),some (17,true)⟩,
 ⟨some 22,.un .not (.t 21),some (17,true)⟩,
 zo 23 (.pick (.t 17) (.t 22) (.c (.b false))),
 zo 24 (.mv (.t 23)),
 ⟨some 25,.mv (.t 3),some (24,true)⟩,
 ⟨some 26,.ia 3 (.t 25) (.c (.i .i64 0)),some (24,true)⟩,
 ⟨some 27,.fa 1 (.t 26),some (24,true)⟩,
 ⟨some 28,.ld false 1 (.t 27),some (24,true)⟩,
 ⟨some 29,.bin .neq (.t 28) (.c (.s [])),some (24,true)⟩,
 zo 30 (.pick (.t 24) (.t 29) (.c (.b false))),
 zo 31 (.mv (.t 30)),
 ⟨some 32,.mv (.t 3),some (31,true)⟩,
 ⟨some 33,.ia 3 (.t 32) (.c (.i .i64 0)),some (31,true)⟩,
 ⟨some 34,.fa 1 (.t 33),some (31,true)⟩,
 ⟨some 35,.ld false 1 (.t 34),some (31,true)⟩,
 ⟨some 36,.ixS (.t 35) (.c (.i .i64 0)),some (31,true)⟩,
 ⟨some 37,.bin .eql (.t 36) (.c (.i .u8 35)),some (31,true)⟩,
 ⟨some 38,.mv (.t 37),some (31,true)⟩,
 ⟨some 39,.mv (.t 3),some (38,false)⟩,
 ⟨some 40,.ia 3 (.t 39) (.c (.i .i64 0)),some (38,false)⟩,
 ⟨some 41,.fa 1 (.t 40),some (38,false)⟩,
 ⟨some 42,.ld false 1 (.t 41),some (38,false)⟩,
 ⟨some 43,.ixS (.t 42) (.c (.i .i64 0)),some (38,false)⟩,
 ⟨some 44,.bin .eql (.t 43) (.c (.i .u8 126)),some (38,false)⟩,
 ⟨some 45,.pick (.t 38) (.c (.b true)) (.t 44),some (31,true)⟩,
 zo 46 (.pick (.t 31) (.t 45) (.c (.b false)))]))
 (.cond (.t 46)
 (.seq (.thw 3)
 (.reg [zo 47 (.mv (.t 3)),
 zo 48 (.mv (.t 3)),
 zo 49 (.ia 3 (.t 48) (.c (.i .i64 0))),
 zo 50 (.fa 1 (.t 49)),
 zo 51 (.ld false 1 (.t 50)),
 zo 52 (.bin .add (.c (.s [120])) (.t 51)),
 zo 53 (.ia 3 (.t 47) (.c (.i .i64 0))),
 zo 54 (.fa 1 (.t 53)),
 ⟨none,.st 1 (.t 54) (.t 52),none⟩]))
 .skip))
 (.seq (.reg [zo 55 (.mv (.t 3)),
 zo 56 (.build [.nsl,.i .i64 0] [(0,1,(.t 55))]),
 zo 57 (.call Dq [.t 56]),
 zo 2 (.mv (.t 57))])
 .ret))))) }
def Db:Fun:={ cin:=[.id],cout:=[.id],ntmps:=35,keep:=false,res:=[(2,none)],body :=
 (.seq (.reg [zo 2 (.mv (.c (.i .i64 0)))])
 (.seq (.seq (.reg [zo 4 (.mv (.t 0)),
 zo 5 (.bin .eql (.t 4) (.c (.s []))),
 zo 6 (.mv (.t 5)),
 ⟨some 7,.mv (.t 0),some (6,false)⟩,
 ⟨some 8,.ixS (.t 7) (.c (.i .i64 0)),some (6,false)⟩,
 ⟨some 9,.call Fc [.t 8],some (6,false)⟩,
 ⟨some 10,.un .not (.t 9),some (6,false)⟩,
 zo 11 (.pick (.t 6) (.c (.b true)) (.t 10))])
 (.cond (.t 11)
 (.seq (.reg [zo 2 (.mv (.c (.i .i64 0)))])
 .ret)
 .skip))
 (.seq (.reg [zo 3 (.mv (.c (.i .i64 1)))])
 (.seq (.blk 0 (.loop (.seq (.seq (.reg [zo 12 (.mv (.t 3)),
 zo 13 (.mv (.t 0)),
 zo 14 (.len 0 (.t 13)),
 zo 15 (.bin .lss (.t 12) (.t 14)),
 zo 16 (.mv (.t 15)),
 ⟨some 17,.mv (.t 3),some (16,true)⟩,
 ⟨some 18,.bin .lss (.t 17) (.c (.i .i64 64)),some (16,true)⟩,
 zo 19 (.pick (.t 16) (.t 18) (.c (.b false))),
 zo 20 (.mv (.t 19)),
 ⟨some 21,.mv (.t 0),some (20,true)⟩,
 ⟨some 22,.mv (.t 3),some (20,true)⟩,
 ⟨some 23,.ixS (.t 21) (.t 22),some (20,true)⟩,
 ⟨some 24,.call Fc [.t 23],some (20,true)⟩,
 ⟨some 25,.mv (.t 24),some (20,true)⟩,
 ⟨some 26,.mv (.t 0),some (25,false)⟩,
 ⟨some 27,.mv (.t 3),some (25,false)⟩,
 ⟨some 28,.ixS (.t 26) (.t 27),some (25,false)⟩,
 ⟨some 29,.call Ik [.t 28],some (25,false)⟩,
 ⟨some 30,.pick (.t 25) (.c (.b true)) (.t 29),some (20,true)⟩,
 zo 31 (.pick (.t 20) (.t 30) (.c (.b false)))])
 (.cond (.t 31)
 .skip
 (.exit 0)))
 (.blk 1 (.reg [zo 32 (.mv (.t 3)),
 zo 33 (.bin .add (.t 32) (.c (.i .i64 1))),
 zo 3 (.mv (.t 33))])))))
 (.seq (.reg [zo 34 (.mv (.t 3)),
 zo 2 (.mv (.t 34))])
 .ret))))) }
def AY:Fun:={ cin:=[.id,.id],cout:=[.id],ntmps:=18,keep:=false,res:=[(4,none)],body :=
 (.seq (.reg [zo 4 (.mv (.c (.b false)))])
 (.seq (.reg [zo 5 (.mv (.t 0)),
 zo 6 (.len 0 (.t 5)),
 zo 7 (.mv (.t 1)),
 zo 8 (.len 0 (.t 7)),
 zo 9 (.bin .geq (.t 6) (.t 8)),
 zo 10 (.mv (.t 9)),
 ⟨some 11,.mv (.t 0),some (10,true)⟩,
 ⟨some 12,.mv (.t 1),some (10,true)⟩,
 ⟨some 13,.len 0 (.t 12),some (10,true)⟩,
 ⟨some 14,.slS (.t 11) none (some (.t 13)),some (10,true)⟩,
 ⟨some 15,.mv (.t 1),some (10,true)⟩,
 ⟨some 16,.bin .eql (.t 14) (.t 15),some (10,true)⟩,
 zo 17 (.pick (.t 10) (.t 16) (.c (.b false))),
 zo 4 (.mv (.t 17))])
 .ret)) }
def CL:Fun:={ cin:=[.id,.id],cout:=[.id],ntmps:=26,keep:=false,res:=[(4,none)],body :=
 (.seq (.reg [zo 4 (.mv (.c (.b false)))])
 (.seq (.reg [zo 5 (.mv (.t 0)),
 zo 6 (.bin .neq (.t 5) (.c (.s []))),
 zo 7 (.mv (.t 6)),
 ⟨some 8,.mv (.t 0),some (7,true)⟩,
 ⟨some 9,.call Dr [(.t 8),(.c (.s [32,9,10,39,34,92,36,59,38,124,60,62,40,41,42,63,91,96,0]))],some (7,true)⟩,
 ⟨some 10,.un .not (.t 9),some (7,true)⟩,
 zo 11 (.pick (.t 7) (.t 10) (.c (.b false))),
 zo 12 (.mv (.t 11)),
 ⟨some 13,.mv (.t 1),some (12,true)⟩,
 ⟨some 14,.mv (.t 13),some (12,true)⟩,
 ⟨some 15,.mv (.t 0),some (14,true)⟩,
 ⟨some 16,.ixS (.t 15) (.c (.i .i64 0)),some (14,true)⟩,
 ⟨some 17,.bin .eql (.t 16) (.c (.i .u8 35)),some (14,true)⟩,
 ⟨some 18,.mv (.t 17),some (14,true)⟩,
 ⟨some 19,.mv (.t 0),some (18,false)⟩,
 ⟨some 20,.ixS (.t 19) (.c (.i .i64 0)),some (18,false)⟩,
 ⟨some 21,.bin .eql (.t 20) (.c (.i .u8 126)),some (18,false)⟩,
 ⟨some 22,.pick (.t 18) (.c (.b true)) (.t 21),some (14,true)⟩,
 ⟨some 23,.pick (.t 14) (.t 22) (.c (.b false)),some (12,true)⟩,
 ⟨some 24,.un .not (.t 23),some (12,true)⟩,
 zo 25 (.pick (.t 12) (.t 24) (.c (.b false))),
 zo 4 (.mv (.t 25))])
 .ret)) }
def BC:Fun:={ cin:=[.id,.id],cout:=[.id],ntmps:=143,keep:=false,res:=[(4,none)],body :=
 (.seq (.reg [zo 4 (.mv (.c (.i .i64 0)))])
 (.seq (.reg [zo 14 (.mv (.t 1)),
 zo 15 (.len 0 (.t 14)),
 zo 5 (.mv (.t 15))])
 (.seq (.blk 0 (.seq (.reg [zo 17 (.mv (.t 5)),
 zo 18 (.bin .eql (.t 17) (.c (.i .i64 0))),
 zo 19 (.mv (.t 18)),
 ⟨some 20,.mv (.t 1),some (19,false)⟩,
 ⟨some 21,.mv (.t 0),some (19,false)⟩,
 ⟨some 22,.bin .eql (.t 20) (.t 21),some (19,false)⟩,
 zo 23 (.pick (.t 19) (.c (.b true)) (.t 22)),
 zo 16 (.mv (.t 23))])
 (.cond (.t 16)
 (.seq (.reg [zo 4 (.mv (.c (.i .i64 0)))])
 .ret)
 (.seq (.reg [zo 25 (.mv (.t 5)),
 zo 26 (.bin .eql (.t 25) (.c (.i .i64 1))),
 zo 24 (.mv (.t 26))])
 (.cond (.t 24)
 (.seq (.reg [zo 27 (.mv (.t 0)),
 zo 28 (.mv (.t 1)),
 zo 29 (.ixS (.t 28) (.c (.i .i64 0))),
 zo 30 (.call Ay [.t 27,.t 29]),
 zo 4 (.mv (.t 30))])
 .ret)
 (.seq (.reg [zo 32 (.mv (.t 5)),
 zo 33 (.mv (.t 0)),
 zo 34 (.len 0 (.t 33)),
 zo 35 (.bin .geq (.t 32) (.t 34)),
 zo 31 (.mv (.t 35))])
 (.cond (.t 31)
 (.seq (.reg [zo 4 (.mv (.c (.i .i64 (-1))))])
 .ret)
 (.seq (.reg [zo 37 (.mv (.t 5)),
 zo 38 (.bad),
 zo 39 (.bin .leq (.t 37) (.t 38)),
 zo 40 (.mv (.t 39)),
 ⟨some 41,.mv (.t 0),some (40,true)⟩,
 ⟨some 42,.len 0 (.t 41),some (40,true)⟩,
 ⟨some 43,.bin .leq (.t 42) (.c (.i .i64 64)),some (40,true)⟩,
 zo 44 (.pick (.t 40) (.t 43) (.c (.b false))),
 zo 36 (.mv (.t 44))])
 (.cond (.t 36)
 (.seq (.reg [zo 45 (.mv (.t 0)),
 zo 46 (.mv (.t 1)),
 zo 47 (.bad),
 zo 4 (.mv (.t 47))])
 .ret)
 .skip)))))))))
 (.seq (.reg [zo 48 (.mv (.t 1)),
 zo 49 (.ixS (.t 48) (.c (.i .i64 0))),
 zo 6 (.mv (.t 49))])
 (.seq (.reg [zo 50 (.mv (.t 1)),
 zo 51 (.ixS (.t 50) (.c (.i .i64 1))),
 zo 7 (.mv (.t 51))])
 (.seq (.reg [zo 8 (.mv (.c (.i .i64 0)))])
 (.seq (.reg [zo 52 (.mv (.t 0)),
 zo 53 (.len 0 (.t 52)),
 zo 54 (.mv (.t 5)),
 zo 55 (.bin .sub (.t 53) (.t 54)),
 zo 56 (.bin .add (.t 55) (.c (.i .i64 1))),
 zo 9 (.mv (.t 56))])
 (.seq (.reg [zo 10 (.mv (.c (.i .i64 0)))])
 (.seq (.blk 1 (.loop (.seq (.seq (.reg [zo 57 (.mv (.t 8)),
 zo 58 (.mv (.t 9)),
 zo 59 (.bin .lss (.t 57) (.t 58))])
 (.cond (.t 59)
 .skip
 (.exit 1)))
 (.blk 2 (.seq (.seq (.reg [zo 60 (.mv (.t 0)),
 zo 61 (.mv (.t 8)),
 zo 62 (.ixS (.t 60) (.t 61)),
 zo 63 (.mv (.t 6)),
 zo 64 (.bin .neq (.t 62) (.t 63))])
 (.cond (.t 64)
 (.seq (.reg [zo 65 (.mv (.t 0)),
 zo 66 (.mv (.t 8)),
 zo 67 (.bin .add (.t 66) (.c (.i .i64 1))),
 zo 68 (.mv (.t 9)),
 zo 69 (.slS (.t 65) (some (.t 67)) (some (.t 68))),
 zo 70 (.mv (.t 6)),
 zo 71 (.call Ay [.t 69,.t 70]),
 zo 11 (.mv (.t 71))])
 (.seq (.seq (.reg [zo 72 (.mv (.t 11)),
 zo 73 (.bin .lss (.t 72) (.c (.i .i64 0)))])
 (.cond (.t 73)
 (.seq (.reg [zo 4 (.mv (.c (.i .i64 (-1))))])
 .ret)
 .skip))
 (.reg [zo 74 (.mv (.t 8)),
 zo 75 (.mv (.t 11)),
 zo 76 (.bin .add (.t 75) (.c (.i .i64 1))),
 zo 77 (.bin .add (.t 74) (.t 76)),
 zo 8 (.mv (.t 77))])))
 .skip))
 (.seq (.seq (.reg [zo 78 (.mv (.t 0)),
 zo 79 (.mv (.t 8)),
 zo 80 (.bin .add (.t 79) (.c (.i .i64 1))),
 zo 81 (.ixS (.t 78) (.t 80)),
 zo 82 (.mv (.t 7)),
 zo 83 (.bin .eql (.t 81) (.t 82)),
 zo 84 (.mv (.t 83)),
 ⟨some 85,.mv (.t 0),some (84,true)⟩,
 ⟨some 86,.mv (.t 8),some (84,true)⟩,
 ⟨some 87,.mv (.t 8),some (84,true)⟩,
 ⟨some 88,.mv (.t 5),some (84,true)⟩,
 ⟨some 89,.bin .add (.t 87) (.t 88),some (84,true)⟩,
 ⟨some 90,.slS (.t 85) (some (.t 86)) (some (.t 89)),some (84,true)⟩,
 ⟨some 91,.mv (.t 1),some (84,true)⟩,
 ⟨some 92,.bin .eql (.t 90) (.t 91),some (84,true)⟩,
 zo 93 (.pick (.t 84) (.t 92) (.c (.b false)))])
 (.cond (.t 93)
 (.seq (.reg [zo 94 (.mv (.t 8)),
 zo 4 (.mv (.t 94))])
 .ret)
 .skip))
 (.seq (.reg [zo 95 (.mv (.t 8)),
 zo 96 (.bin .add (.t 95) (.c (.i .i64 1))),
 zo 8 (.mv (.t 96))])
 (.seq (.reg [zo 97 (.mv (.t 10)),
 zo 98 (.bin .add (.t 97) (.c (.i .i64 1))),
 zo 10 (.mv (.t 98))])
 (.seq (.reg [zo 99 (.mv (.t 5)),
 zo 100 (.bad),
 zo 101 (.bin .leq (.t 99) (.t 100)),
 zo 102 (.mv (.t 101)),
 ⟨some 103,.mv (.t 10),some (102,true)⟩,
 ⟨some 104,.mv (.t 8),some (102,true)⟩,
 ⟨some 105,.call C6 [.t 104],some (102,true)⟩,
 ⟨some 106,.bin .gtr (.t 103) (.t 105),some (102,true)⟩,
 zo 107 (.pick (.t 102) (.t 106) (.c (.b false)))])
 (.cond (.t 107)
 (.seq (.reg [zo 108 (.mv (.t 0)),
 zo 109 (.mv (.t 8)),
 zo 110 (.slS (.t 108) (some (.t 109)) none),
 zo 111 (.mv (.t 1)),
 zo 112 (.bad),
 zo 12 (.mv (.t 112))])
 (.seq (.seq (.reg [zo 113 (.mv (.t 12)),
 zo 114 (.bin .geq (.t 113) (.c (.i .i64 0)))])
 (.cond (.t 114)
 (.seq (.reg [zo 115 (.mv (.t 12)),
 zo 116 (.mv (.t 8)),
 zo 117 (.bin .add (.t 115) (.t 116)),
 zo 4 (.mv (.t 117))])
 .ret)
 .skip))
 (.seq (.reg [zo 4 (.mv (.c (.i .i64 (-1))))])
 .ret)))
 (.seq (.reg [zo 118 (.mv (.t 5)),
 zo 119 (.bad),
 zo 120 (.bin .gtr (.t 118) (.t 119)),
 zo 121 (.mv (.t 120)),
 ⟨some 122,.mv (.t 10),some (121,true)⟩,
 ⟨some 123,.mv (.t 8),some (121,true)⟩,
 ⟨some 124,.bin .shr (.t 123) (.c (.i .u64 4)),some (121,true)⟩,
 ⟨some 125,.bin .add (.c (.i .i64 4)) (.t 124),some (121,true)⟩,
 ⟨some 126,.bin .geq (.t 122) (.t 125),some (121,true)⟩,
 zo 127 (.pick (.t 121) (.t 126) (.c (.b false))),
 zo 128 (.mv (.t 127)),
 ⟨some 129,.mv (.t 8),some (128,true)⟩,
 ⟨some 130,.mv (.t 9),some (128,true)⟩,
 ⟨some 131,.bin .lss (.t 129) (.t 130),some (128,true)⟩,
 zo 132 (.pick (.t 128) (.t 131) (.c (.b false)))])
 (.cond (.t 132)
 (.seq (.reg [zo 133 (.mv (.t 0)),
 zo 134 (.mv (.t 8)),
 zo 135 (.slS (.t 133) (some (.t 134)) none),
 zo 136 (.mv (.t 1)),
 zo 137 (.call CA [.t 135,.t 136]),
 zo 13 (.mv (.t 137))])
 (.seq (.seq (.reg [zo 138 (.mv (.t 13)),
 zo 139 (.bin .lss (.t 138) (.c (.i .i64 0)))])
 (.cond (.t 139)
 (.seq (.reg [zo 4 (.mv (.c (.i .i64 (-1))))])
 .ret)
 .skip))
 (.seq (.reg [zo 140 (.mv (.t 8)),
 zo 141 (.mv (.t 13)),
 zo 142 (.bin .add (.t 140) (.t 141)),
 zo 4 (.mv (.t 142))])
 .ret)))
 .skip))))))))))))
 (.seq (.reg [zo 4 (.mv (.c (.i .i64 (-1))))])
 .ret)))))))))) }
def GY:Fun:={ cin:=[],cout:=[],ntmps:=0,keep:=false,res:=[],body:=.bad,prim:=some (Ks Jv) }
def BU:Fun:={ cin:=[(.sl 2 (.agg [(.sl 3 (.agg [.id,.id,.id])),.id]))],cout:=[.id],ntmps:=60,keep:=false,res:=[(2,none)],body :=
 (.seq (.reg [zo 2 (.mv (.c (.s [])))])
 (.seq (.reg [zo 3 (.mv (.c (.s [])))])
 (.seq (.seq (.reg [zo 4 (.mv (.c (.i .i64 0)))])
 (.blk 0 (.loop (.seq (.seq (.reg [zo 11 (.mv (.t 4)),
 zo 12 (.mv (.t 0)),
 zo 13 (.len 1 (.t 12)),
 zo 14 (.bin .lss (.t 11) (.t 13))])
 (.cond (.t 14)
 .skip
 (.exit 0)))
 (.seq (.blk 1 (.seq (.reg [zo 5 (.mv (.c (.s [])))])
 (.seq (.seq (.reg [zo 6 (.mv (.c (.i .i64 0)))])
 (.blk 2 (.loop (.seq (.seq (.seq (.thw 0)
 (.reg [zo 17 (.mv (.t 6)),
 zo 18 (.mv (.t 0)),
 zo 19 (.mv (.t 4)),
 zo 20 (.ia 2 (.t 18) (.t 19)),
 zo 21 (.fa 0 (.t 20)),
 zo 22 (.ld false 1 (.t 21)),
 zo 23 (.len 1 (.t 22)),
 zo 24 (.bin .lss (.t 17) (.t 23))]))
 (.cond (.t 24)
 .skip
 (.exit 2)))
 (.seq (.blk 3 (.seq (.seq (.thw 0)
 (.reg [zo 27 (.mv (.t 0)),
 zo 28 (.mv (.t 4)),
 zo 29 (.ia 2 (.t 27) (.t 28)),
 zo 30 (.fa 0 (.t 29)),
 zo 31 (.ld false 1 (.t 30)),
 zo 32 (.mv (.t 6)),
 zo 33 (.ia 3 (.t 31) (.t 32)),
 zo 34 (.ld true 3 (.t 33)),
 zo 7 (.alloc 85 [(.b false),(.s []),(.b false)]),
 ⟨none,.st 3 (.t 7) (.t 34),none⟩]))
 (.seq (.reg [zo 8 (.mv (.c (.s [98]))),
 zo 9 (.mv (.c (.s [112])))])
 (.seq (.seq (.reg [zo 35 (.fa 0 (.t 7)),
 zo 36 (.ld false 1 (.t 35))])
 (.cond (.t 36)
 (.reg [zo 8 (.mv (.c (.s [118])))])
 .skip))
 (.seq (.seq (.reg [zo 37 (.fa 2 (.t 7)),
 zo 38 (.ld false 1 (.t 37))])
 (.cond (.t 38)
 (.reg [zo 9 (.mv (.c (.s [113])))])
 .skip))
 (.reg [zo 39 (.mv (.t 5)),
 zo 40 (.mv (.t 8)),
 zo 41 (.bin .add (.t 39) (.t 40)),
 zo 42 (.mv (.t 9)),
 zo 43 (.bin .add (.t 41) (.t 42)),
 zo 44 (.fa 1 (.t 7)),
 zo 45 (.ld false 1 (.t 44)),
 zo 46 (.call CD [.t 45]),
 zo 47 (.bin .add (.t 43) (.t 46)),
 zo 5 (.mv (.t 47))]))))))
 (.reg [zo 25 (.mv (.t 6)),
 zo 26 (.bin .add (.t 25) (.c (.i .i64 1))),
 zo 6 (.mv (.t 26))]))))))
 (.seq (.reg [zo 10 (.mv (.c (.s [32,61])))])
 (.seq (.seq (.seq (.thw 0)
 (.reg [zo 48 (.mv (.t 0)),
 zo 49 (.mv (.t 4)),
 zo 50 (.ia 2 (.t 48) (.t 49)),
 zo 51 (.fa 1 (.t 50)),
 zo 52 (.ld false 1 (.t 51))]))
 (.cond (.t 52)
 (.reg [zo 10 (.mv (.c (.s [32,42])))])
 .skip))
 (.reg [zo 53 (.mv (.t 3)),
 zo 54 (.mv (.t 10)),
 zo 55 (.bin .add (.t 53) (.t 54)),
 zo 56 (.mv (.t 5)),
 zo 57 (.call CD [.t 56]),
 zo 58 (.bin .add (.t 55) (.t 57)),
 zo 3 (.mv (.t 58))]))))))
 (.reg [zo 15 (.mv (.t 4)),
 zo 16 (.bin .add (.t 15) (.c (.i .i64 1))),
 zo 4 (.mv (.t 16))]))))))
 (.seq (.reg [zo 59 (.mv (.t 3)),
 zo 2 (.mv (.t 59))])
 .ret)))) }
def Ap:Fun:={ cin:=[(.agg [(.sl 3 (.agg [.id,.id,.id])),.id])],cout:=[.id],ntmps:=143,keep:=false,res:=[(2,none)],body :=
 (.seq (.reg [zo 1 (.box 102 2 (.t 0)),
 zo 2 (.mv (.c (.b false)))])
 (.seq (.seq (.reg [zo 7 (.fa 0 (.t 1)),
 zo 8 (.ld false 1 (.t 7)),
 zo 9 (.len 1 (.t 8)),
 zo 10 (.bin .eql (.t 9) (.c (.i .i64 0)))])
 (.cond (.t 10)
 (.seq (.reg [zo 2 (.mv (.c (.b false)))])
 .ret)
 .skip))
 (.seq (.seq (.reg [zo 3 (.mv (.c (.i .i64 0)))])
 (.blk 0 (.loop (.seq (.seq (.reg [zo 11 (.mv (.t 3)),
 zo 12 (.fa 0 (.t 1)),
 zo 13 (.ld false 1 (.t 12)),
 zo 14 (.len 1 (.t 13)),
 zo 15 (.bin .lss (.t 11) (.t 14))])
 (.cond (.t 15)
 .skip
 (.exit 0)))
 (.seq (.blk 1 (.seq (.reg [zo 18 (.fa 0 (.t 1)),
 zo 19 (.ld false 1 (.t 18)),
 zo 20 (.mv (.t 3)),
 zo 21 (.ia 3 (.t 19) (.t 20)),
 zo 22 (.ld true 3 (.t 21)),
 zo 4 (.alloc 85 [(.b false),(.s []),(.b false)]),
 ⟨none,.st 3 (.t 4) (.t 22),none⟩])
 (.seq (.seq (.reg [zo 23 (.fa 0 (.t 4)),
 zo 24 (.ld false 1 (.t 23))])
 (.cond (.t 24)
 (.seq (.seq (.reg [zo 25 (.fa 1 (.t 4)),
 zo 26 (.ld false 1 (.t 25)),
 zo 27 (.call DY [.t 26]),
 zo 28 (.un .not (.t 27))])
 (.cond (.t 28)
 (.seq (.reg [zo 2 (.mv (.c (.b false)))])
 .ret)
 .skip))
 (.exit 1))
 .skip))
 (.seq (.seq (.reg [zo 29 (.fa 2 (.t 4)),
 zo 30 (.ld false 1 (.t 29)),
 zo 31 (.un .not (.t 30)),
 zo 32 (.mv (.t 31)),
 ⟨some 33,.fa 1 (.t 4),some (32,true)⟩,
 ⟨some 34,.ld false 1 (.t 33),some (32,true)⟩,
 ⟨some 35,.bin .eql (.t 34) (.c (.s [])),some (32,true)⟩,
 zo 36 (.pick (.t 32) (.t 35) (.c (.b false)))])
 (.cond (.t 36)
 (.seq (.reg [zo 2 (.mv (.c (.b false)))])
 .ret)
 .skip))
 (.seq (.seq (.reg [zo 5 (.mv (.c (.i .i64 0)))])
 (.blk 2 (.loop (.seq (.seq (.reg [zo 37 (.mv (.t 5)),
 zo 38 (.fa 1 (.t 4)),
 zo 39 (.ld false 1 (.t 38)),
 zo 40 (.len 0 (.t 39)),
 zo 41 (.bin .lss (.t 37) (.t 40))])
 (.cond (.t 41)
 .skip
 (.exit 2)))
 (.seq (.blk 3 (.seq (.reg [zo 44 (.fa 1 (.t 4)),
 zo 45 (.ld false 1 (.t 44)),
 zo 46 (.mv (.t 5)),
 zo 47 (.ixS (.t 45) (.t 46)),
 zo 6 (.mv (.t 47))])
 (.seq (.reg [zo 48 (.mv (.t 6)),
 zo 49 (.bin .eql (.t 48) (.c (.i .u8 0))),
 zo 50 (.mv (.t 49)),
 ⟨some 51,.fa 2 (.t 4),some (50,false)⟩,
 ⟨some 52,.ld false 1 (.t 51),some (50,false)⟩,
 ⟨some 53,.un .not (.t 52),some (50,false)⟩,
 ⟨some 54,.mv (.t 53),some (50,false)⟩,
 ⟨some 55,.mv (.t 6),some (54,true)⟩,
 ⟨some 56,.call D7 [(.t 55),(.c (.s [32,9,10,39,34,92,36,59,38,124,60,62,40,41,42,63,91]))],some (54,true)⟩,
 ⟨some 57,.mv (.t 56),some (54,true)⟩,
 ⟨some 58,.mv (.t 6),some (57,false)⟩,
 ⟨some 59,.bin .eql (.t 58) (.c (.i .u8 96)),some (57,false)⟩,
 ⟨some 60,.pick (.t 57) (.c (.b true)) (.t 59),some (54,true)⟩,
 ⟨some 61,.pick (.t 54) (.t 60) (.c (.b false)),some (50,false)⟩,
 zo 62 (.pick (.t 50) (.c (.b true)) (.t 61))])
 (.cond (.t 62)
 (.seq (.reg [zo 2 (.mv (.c (.b false)))])
 .ret)
 .skip))))
 (.reg [zo 42 (.mv (.t 5)),
 zo 43 (.bin .add (.t 42) (.c (.i .i64 1))),
 zo 5 (.mv (.t 43))]))))))
 (.seq (.seq (.reg [zo 63 (.mv (.t 3)),
 zo 64 (.bin .eql (.t 63) (.c (.i .i64 0))),
 zo 65 (.mv (.t 64)),
 ⟨some 66,.fa 2 (.t 4),some (65,true)⟩,
 ⟨some 67,.ld false 1 (.t 66),some (65,true)⟩,
 ⟨some 68,.un .not (.t 67),some (65,true)⟩,
 zo 69 (.pick (.t 65) (.t 68) (.c (.b false))),
 zo 70 (.mv (.t 69)),
 ⟨some 71,.fa 1 (.t 4),some (70,true)⟩,
 ⟨some 72,.ld false 1 (.t 71),some (70,true)⟩,
 ⟨some 73,.ixS (.t 72) (.c (.i .i64 0)),some (70,true)⟩,
 ⟨some 74,.bin .eql (.t 73) (.c (.i .u8 35)),some (70,true)⟩,
 ⟨some 75,.mv (.t 74),some (70,true)⟩,
 ⟨some 76,.fa 1 (.t 4),some (75,false)⟩,
 ⟨some 77,.ld false 1 (.t 76),some (75,false)⟩,
 ⟨some 78,.ixS (.t 77) (.c (.i .i64 0)),some (75,false)⟩,
 ⟨some 79,.bin .eql (.t 78) (.c (.i .u8 126)),some (75,false)⟩,
 ⟨some 80,.pick (.t 75) (.c (.b true)) (.t 79),some (70,true)⟩,
 zo 81 (.pick (.t 70) (.t 80) (.c (.b false)))])
 (.cond (.t 81)
 (.seq (.reg [zo 2 (.mv (.c (.b false)))])
 .ret)
 .skip))
 (.seq (.seq (.regD [zo 82 (.mv (.t 3)),
 zo 83 (.bin .gtr (.t 82) (.c (.i .i64 0))),
 zo 84 (.mv (.t 83)),
 ⟨some 85,.fa 0 (.t 1),some (84,true)⟩,
 ⟨some 86,.ld false 1 (.t 85),some (84,true)⟩,
 ⟨some 87,.mv (.t 3),some (84,true)⟩,
 ⟨some 88,.bin .sub (.t 87) (.c (.i .i64 1)),some (84,true)⟩,
 ⟨some 89,.ia 3 (.t 86) (.t 88),some (84,true)⟩,
 ⟨some 90,.fa 0 (.t 89),some (84,true)⟩,
 ⟨some 91,.ld false 1 (.t 90),some (84,true)⟩,
 ⟨some 92,.un .not (.t 91),some (84,true)⟩,
 zo 93 (.pick (.t 84) (.t 92) (.c (.b false))),
 zo 94 (.mv (.t 93)),
 ⟨some 95,.fa 0 (.t 1),some (94,true)⟩,
 ⟨some 96,.ld false 1 (.t 95),some (94,true)⟩,
 ⟨some 97,.mv (.t 3),some (94,true)⟩,
 ⟨some 98,.bin .sub (.t 97) (.c (.i .i64 1)),some (94,true)⟩,
 ⟨some 99,.ia 3 (.t 96) (.t 98),some (94,true)⟩,
 ⟨some 100,.fa 2 (.t 99),some (94,true)⟩,
 ⟨some 101,.ld false 1 (.t 100),some (94,true)⟩,
 ⟨some 102,.fa 2 (.t 4),some (94,true)⟩,
 ⟨some 103,.ld false 1 (.t 102),some (94,true)⟩,
 ⟨some 104,.eq .bool false (.t 101) (.t 103),some (94,true)⟩,
 zo 105 (.pick (.t 94) (.t 104) (.c (.b false)))] [])
 (.cond (.t 105)
 (.seq (.reg [zo 2 (.mv (.c (.b false)))])
 .ret)
 .skip))
 (.seq (.reg [zo 106 (.fa 2 (.t 4)),
 zo 107 (.ld false 1 (.t 106)),
 zo 108 (.mv (.t 107)),
 ⟨some 109,.fa 1 (.t 4),some (108,true)⟩,
 ⟨some 110,.ld false 1 (.t 109),some (108,true)⟩,
 ⟨some 111,.bin .eql (.t 110) (.c (.s [])),some (108,true)⟩,
 zo 112 (.pick (.t 108) (.t 111) (.c (.b false))),
 zo 113 (.mv (.t 112)),
 ⟨some 114,.mv (.t 3),some (113,true)⟩,
 ⟨some 115,.bin .gtr (.t 114) (.c (.i .i64 0)),some (113,true)⟩,
 ⟨some 116,.mv (.t 115),some (113,true)⟩,
 ⟨some 117,.fa 0 (.t 1),some (116,true)⟩,
 ⟨some 118,.ld false 1 (.t 117),some (116,true)⟩,
 ⟨some 119,.mv (.t 3),some (116,true)⟩,
 ⟨some 120,.bin .sub (.t 119) (.c (.i .i64 1)),some (116,true)⟩,
 ⟨some 121,.ia 3 (.t 118) (.t 120),some (116,true)⟩,
 ⟨some 122,.fa 2 (.t 121),some (116,true)⟩,
 ⟨some 123,.ld false 1 (.t 122),some (116,true)⟩,
 ⟨some 124,.pick (.t 116) (.t 123) (.c (.b false)),some (113,true)⟩,
 ⟨some 125,.mv (.t 124),some (113,true)⟩,
 ⟨some 126,.mv (.t 3),some (125,false)⟩,
 ⟨some 127,.bin .add (.t 126) (.c (.i .i64 1)),some (125,false)⟩,
 ⟨some 128,.fa 0 (.t 1),some (125,false)⟩,
 ⟨some 129,.ld false 1 (.t 128),some (125,false)⟩,
 ⟨some 130,.len 1 (.t 129),some (125,false)⟩,
 ⟨some 131,.bin .lss (.t 127) (.t 130),some (125,false)⟩,
 ⟨some 132,.mv (.t 131),some (125,false)⟩,
 ⟨some 133,.fa 0 (.t 1),some (132,true)⟩,
 ⟨some 134,.ld false 1 (.t 133),some (132,true)⟩,
 ⟨some 135,.mv (.t 3),some (132,true)⟩,
 ⟨some 136,.bin .add (.t 135) (.c (.i .i64 1)),some (132,true)⟩,
 ⟨some 137,.ia 3 (.t 134) (.t 136),some (132,true)⟩,
 ⟨some 138,.fa 2 (.t 137),some (132,true)⟩,
 ⟨some 139,.ld false 1 (.t 138),some (132,true)⟩,
 ⟨some 140,.pick (.t 132) (.t 139) (.c (.b false)),some (125,false)⟩,
 ⟨some 141,.pick (.t 125) (.c (.b true)) (.t 140),some (113,true)⟩,
 zo 142 (.pick (.t 113) (.t 141) (.c (.b false)))])
 (.cond (.t 142)
 (.seq (.reg [zo 2 (.mv (.c (.b false)))])
 .ret)
 .skip)))))))))
 (.reg [zo 16 (.mv (.t 3)),
 zo 17 (.bin .add (.t 16) (.c (.i .i64 1))),
 zo 3 (.mv (.t 17))]))))))
 (.seq (.reg [zo 2 (.mv (.c (.b true)))])
 .ret)))) }
def Dc:Fun:={ cin:=[.id],cout:=[.id],ntmps:=15,keep:=false,res:=[(2,none)],body :=
 (.seq (.reg [zo 2 (.mv (.c (.b false)))])
 (.seq (.reg [zo 3 (.mv (.t 0)),
 zo 4 (.bin .eql (.t 3) (.c (.i .u8 95))),
 zo 5 (.mv (.t 4)),
 ⟨some 6,.mv (.t 0),some (5,false)⟩,
 ⟨some 7,.bin .or (.t 6) (.c (.i .u8 32)),some (5,false)⟩,
 ⟨some 8,.bin .geq (.t 7) (.c (.i .u8 97)),some (5,false)⟩,
 ⟨some 9,.mv (.t 8),some (5,false)⟩,
 ⟨some 10,.mv (.t 0),some (9,true)⟩,
 ⟨some 11,.bin .or (.t 10) (.c (.i .u8 32)),some (9,true)⟩,
 ⟨some 12,.bin .leq (.t 11) (.c (.i .u8 122)),some (9,true)⟩,
 ⟨some 13,.pick (.t 9) (.t 12) (.c (.b false)),some (5,false)⟩,
 zo 14 (.pick (.t 5) (.c (.b true)) (.t 13)),
 zo 2 (.mv (.t 14))])
 .ret)) }
def EQ:Fun:={ cin:=[.id],cout:=[.id],ntmps:=9,keep:=false,res:=[(2,none)],body :=
 (.seq (.reg [zo 2 (.mv (.c (.b false)))])
 (.seq (.reg [zo 3 (.mv (.t 0)),
 zo 4 (.bin .geq (.t 3) (.c (.i .u8 48))),
 zo 5 (.mv (.t 4)),
 ⟨some 6,.mv (.t 0),some (5,true)⟩,
 ⟨some 7,.bin .leq (.t 6) (.c (.i .u8 57)),some (5,true)⟩,
 zo 8 (.pick (.t 5) (.t 7) (.c (.b false))),
 zo 2 (.mv (.t 8))])
 .ret)) }
def CM:Fun:={ cin:=[.id,.id],cout:=[.id],ntmps:=9,keep:=false,res:=[(4,none)],body :=
 (.seq (.reg [zo 4 (.mv (.c (.b false)))])
 (.seq (.reg [zo 5 (.mv (.t 0)),
 zo 6 (.mv (.t 1)),
 zo 7 (.call Ed [.t 5,.t 6]),
 zo 8 (.bin .geq (.t 7) (.c (.i .i64 0))),
 zo 4 (.mv (.t 8))])
 .ret)) }
def Az:Fun:={ cin:=[.id,.id],cout:=[.id],ntmps:=8,keep:=false,res:=[(4,none)],body :=
 (.seq (.reg [zo 4 (.mv (.c (.i .i64 0)))])
 (.seq (.reg [zo 5 (.mv (.t 0)),
 zo 6 (.mv (.t 1)),
 zo 7 (.xtn 0 [.t 5,.t 6]),
 zo 4 (.mv (.t 7))])
 .ret)) }
def Bz:Fun:={ cin:=[.id],cout:=[.id],ntmps:=6,keep:=false,res:=[(2,none)],body :=
 (.seq (.reg [zo 2 (.mv (.c (.i .i64 0)))])
 (.seq (.reg [zo 3 (.mv (.t 0)),
 zo 4 (.bin .add (.t 3) (.c (.i .i64 16))),
 zo 5 (.bin .quo (.t 4) (.c (.i .i64 8))),
 zo 2 (.mv (.t 5))])
 .ret)) }
def Aw:Fun:={ cin:=[.id,.id],cout:=[.id],ntmps:=81,keep:=false,res:=[(4,none)],body :=
 (.seq (.reg [zo 4 (.mv (.c (.i .i64 0)))])
 (.seq (.reg [zo 12 (.mv (.t 1)),
 zo 13 (.call C7 [.t 12]),
 zo 11 (.mv (.t 13)),
 zo 14 (.ext (.t 11) 0),
 zo 15 (.ext (.t 11) 1),
 zo 5 (.mv (.t 14)),
 zo 6 (.mv (.t 15))])
 (.seq (.reg [zo 16 (.mv (.t 1)),
 zo 17 (.len 0 (.t 16)),
 zo 7 (.mv (.t 17))])
 (.seq (.reg [zo 8 (.mv (.c (.i .u32 0)))])
 (.seq (.seq (.reg [zo 9 (.mv (.c (.i .i64 0)))])
 (.blk 0 (.loop (.seq (.seq (.reg [zo 18 (.mv (.t 9)),
 zo 19 (.mv (.t 7)),
 zo 20 (.bin .lss (.t 18) (.t 19))])
 (.cond (.t 20)
 .skip
 (.exit 0)))
 (.seq (.blk 1 (.reg [zo 23 (.mv (.t 8)),
 zo 24 (.bin .mul (.t 23) (.c (.i .u32 16777619))),
 zo 25 (.mv (.t 0)),
 zo 26 (.mv (.t 9)),
 zo 27 (.ixS (.t 25) (.t 26)),
 zo 28 (.cvI .u32 (.t 27)),
 zo 29 (.bin .add (.t 24) (.t 28)),
 zo 8 (.mv (.t 29))]))
 (.reg [zo 21 (.mv (.t 9)),
 zo 22 (.bin .add (.t 21) (.c (.i .i64 1))),
 zo 9 (.mv (.t 22))]))))))
 (.seq (.seq (.reg [zo 30 (.mv (.t 8)),
 zo 31 (.mv (.t 5)),
 zo 32 (.bin .eql (.t 30) (.t 31)),
 zo 33 (.mv (.t 32)),
 ⟨some 34,.mv (.t 0),some (33,true)⟩,
 ⟨some 35,.mv (.t 7),some (33,true)⟩,
 ⟨some 36,.slS (.t 34) none (some (.t 35)),some (33,true)⟩,
 ⟨some 37,.mv (.t 1),some (33,true)⟩,
 ⟨some 38,.bin .eql (.t 36) (.t 37),some (33,true)⟩,
 zo 39 (.pick (.t 33) (.t 38) (.c (.b false)))])
 (.cond (.t 39)
 (.seq (.reg [zo 4 (.mv (.c (.i .i64 0)))])
 .ret)
 .skip))
 (.seq (.seq (.reg [zo 40 (.mv (.t 7)),
 zo 10 (.mv (.t 40))])
 (.blk 2 (.loop (.seq (.seq (.reg [zo 41 (.mv (.t 10)),
 zo 42 (.mv (.t 0)),
 zo 43 (.len 0 (.t 42)),
 zo 44 (.bin .lss (.t 41) (.t 43))])
 (.cond (.t 44)
 .skip
 (.exit 2)))
 (.blk 3 (.seq (.reg [zo 45 (.mv (.t 8)),
 zo 46 (.bin .mul (.t 45) (.c (.i .u32 16777619))),
 zo 8 (.mv (.t 46))])
 (.seq (.reg [zo 47 (.mv (.t 8)),
 zo 48 (.mv (.t 0)),
 zo 49 (.mv (.t 10)),
 zo 50 (.ixS (.t 48) (.t 49)),
 zo 51 (.cvI .u32 (.t 50)),
 zo 52 (.bin .add (.t 47) (.t 51)),
 zo 8 (.mv (.t 52))])
 (.seq (.reg [zo 53 (.mv (.t 8)),
 zo 54 (.mv (.t 6)),
 zo 55 (.mv (.t 0)),
 zo 56 (.mv (.t 10)),
 zo 57 (.mv (.t 7)),
 zo 58 (.bin .sub (.t 56) (.t 57)),
 zo 59 (.ixS (.t 55) (.t 58)),
 zo 60 (.cvI .u32 (.t 59)),
 zo 61 (.bin .mul (.t 54) (.t 60)),
 zo 62 (.bin .sub (.t 53) (.t 61)),
 zo 8 (.mv (.t 62))])
 (.seq (.reg [zo 63 (.mv (.t 10)),
 zo 64 (.bin .add (.t 63) (.c (.i .i64 1))),
 zo 10 (.mv (.t 64))])
 (.seq (.reg [zo 65 (.mv (.t 8)),
 zo 66 (.mv (.t 5)),
 zo 67 (.bin .eql (.t 65) (.t 66)),
 zo 68 (.mv (.t 67)),
 ⟨some 69,.mv (.t 0),some (68,true)⟩,
 ⟨some 70,.mv (.t 10),some (68,true)⟩,
 ⟨some 71,.mv (.t 7),some (68,true)⟩,
 ⟨some 72,.bin .sub (.t 70) (.t 71),some (68,true)⟩,
 ⟨some 73,.mv (.t 10),some (68,true)⟩,
 ⟨some 74,.slS (.t 69) (some (.t 72)) (some (.t 73)),some (68,true)⟩,
 ⟨some 75,.mv (.t 1),some (68,true)⟩,
 ⟨some 76,.bin .eql (.t 74) (.t 75),some (68,true)⟩,
 zo 77 (.pick (.t 68) (.t 76) (.c (.b false)))])
 (.cond (.t 77)
 (.seq (.reg [zo 78 (.mv (.t 10)),
 zo 79 (.mv (.t 7)),
 zo 80 (.bin .sub (.t 78) (.t 79)),
 zo 4 (.mv (.t 80))])
 .ret)
 .skip)))))))))))
 (.seq (.reg [zo 4 (.mv (.c (.i .i64 (-1))))])
 .ret)))))))) }
def CF:Fun:={ cin:=[.id],cout:=[.id],ntmps:=9,keep:=false,res:=[(2,none)],body :=
 (.seq (.reg [zo 2 (.mv (.c (.s [])))])
 (.seq (.reg [zo 3 (.mv (.t 0)),
 zo 4 (.len 0 (.t 3)),
 zo 5 (.call DM [.t 4]),
 zo 6 (.bin .add (.t 5) (.c (.s [58]))),
 zo 7 (.mv (.t 0)),
 zo 8 (.bin .add (.t 6) (.t 7)),
 zo 2 (.mv (.t 8))])
 .ret)) }
def A6:Fun:={ cin:=[.id],cout:=[.id],ntmps:=28,keep:=false,res:=[(2,none)],body :=
 (.seq (.reg [zo 2 (.mv (.c (.b false)))])
 (.seq (.seq (.reg [zo 3 (.mv (.t 0)),
 zo 4 (.len 0 (.t 3)),
 zo 5 (.bin .eql (.t 4) (.c (.i .i64 1))),
 zo 6 (.mv (.t 5)),
 ⟨some 7,.mv (.t 0),some (6,true)⟩,
 ⟨some 8,.ixS (.t 7) (.c (.i .i64 0)),some (6,true)⟩,
 ⟨some 9,.bin .geq (.t 8) (.c (.i .u8 49)),some (6,true)⟩,
 ⟨some 10,.mv (.t 9),some (6,true)⟩,
 ⟨some 11,.mv (.t 0),some (10,true)⟩,
 ⟨some 12,.ixS (.t 11) (.c (.i .i64 0)),some (10,true)⟩,
 ⟨some 13,.bin .leq (.t 12) (.c (.i .u8 57)),some (10,true)⟩,
 ⟨some 14,.pick (.t 10) (.t 13) (.c (.b false)),some (6,true)⟩,
 ⟨some 15,.mv (.t 14),some (6,true)⟩,
 ⟨some 16,.mv (.t 0),some (15,false)⟩,
 ⟨some 17,.ixS (.t 16) (.c (.i .i64 0)),some (15,false)⟩,
 ⟨some 18,.bin .eql (.t 17) (.c (.i .u8 35)),some (15,false)⟩,
 ⟨some 19,.pick (.t 15) (.c (.b true)) (.t 18),some (6,true)⟩,
 ⟨some 20,.mv (.t 19),some (6,true)⟩,
 ⟨some 21,.mv (.t 0),some (20,false)⟩,
 ⟨some 22,.ixS (.t 21) (.c (.i .i64 0)),some (20,false)⟩,
 ⟨some 23,.bin .eql (.t 22) (.c (.i .u8 63)),some (20,false)⟩,
 ⟨some 24,.pick (.t 20) (.c (.b true)) (.t 23),some (6,true)⟩,
 zo 25 (.pick (.t 6) (.t 24) (.c (.b false)))])
 (.cond (.t 25)
 (.seq (.reg [zo 2 (.mv (.c (.b true)))])
 .ret)
 .skip))
 (.seq (.reg [zo 26 (.mv (.t 0)),
 zo 27 (.call B5 [.t 26]),
 zo 2 (.mv (.t 27))])
 .ret))) }
def Bt:Fun:={ cin:=[.id,.id],cout:=[.id],ntmps:=17,keep:=false,res:=[(4,none)],body :=
 (.seq (.reg [zo 4 (.mv (.c (.b false)))])
 (.seq (.seq (.reg [zo 5 (.mv (.c (.i .i64 0)))])
 (.blk 0 (.loop (.seq (.seq (.reg [zo 6 (.mv (.t 5)),
 zo 7 (.mv (.t 1)),
 zo 8 (.len 0 (.t 7)),
 zo 9 (.bin .lss (.t 6) (.t 8))])
 (.cond (.t 9)
 .skip
 (.exit 0)))
 (.seq (.blk 1 (.seq (.reg [zo 12 (.mv (.t 1)),
 zo 13 (.mv (.t 5)),
 zo 14 (.ixS (.t 12) (.t 13)),
 zo 15 (.mv (.t 0)),
 zo 16 (.bin .eql (.t 14) (.t 15))])
 (.cond (.t 16)
 (.seq (.reg [zo 4 (.mv (.c (.b true)))])
 .ret)
 .skip)))
 (.reg [zo 10 (.mv (.t 5)),
 zo 11 (.bin .add (.t 10) (.c (.i .i64 1))),
 zo 5 (.mv (.t 11))]))))))
 (.seq (.reg [zo 4 (.mv (.c (.b false)))])
 .ret))) }
def BX:Fun:={ cin:=[.id,.id],cout:=[.id],ntmps:=55,keep:=false,res:=[(4,none)],body :=
 (.seq (.reg [zo 4 (.mv (.c (.i .i64 0)))])
 (.seq (.seq (.reg [zo 11 (.mv (.t 1)),
 zo 12 (.bin .eql (.t 11) (.c (.s [])))])
 (.cond (.t 12)
 (.seq (.reg [zo 4 (.mv (.c (.i .i64 (-1))))])
 .ret)
 .skip))
 (.seq (.seq (.reg [zo 13 (.mv (.t 1)),
 zo 14 (.len 0 (.t 13)),
 zo 15 (.bin .eql (.t 14) (.c (.i .i64 1)))])
 (.cond (.t 15)
 (.seq (.reg [zo 16 (.mv (.t 1)),
 zo 17 (.ixS (.t 16) (.c (.i .i64 0))),
 zo 18 (.cvI .i32 (.t 17)),
 zo 5 (.mv (.t 18))])
 (.seq (.seq (.reg [zo 19 (.mv (.t 5)),
 zo 20 (.bin .geq (.t 19) (.c (.i .i32 128)))])
 (.cond (.t 20)
 (.reg [zo 5 (.mv (.c (.i .i32 65533)))])
 .skip))
 (.seq (.reg [zo 21 (.mv (.t 0)),
 zo 22 (.mv (.t 5)),
 zo 23 (.call B9 [.t 21,.t 22]),
 zo 4 (.mv (.t 23))])
 .ret)))
 .skip))
 (.seq (.seq (.reg [zo 24 (.mv (.t 0)),
 zo 25 (.len 0 (.t 24)),
 zo 26 (.call Br [.t 25])])
 (.cond (.t 26)
 (.seq (.reg [zo 28 (.mv (.t 1)),
 zo 29 (.call C2 [.t 28]),
 zo 27 (.mv (.t 29)),
 zo 30 (.ext (.t 27) 0),
 zo 31 (.ext (.t 27) 1),
 zo 6 (.alloc 184 [.b false,.b false,.b false,.b false,.b false,.b false,.b false,.b false,.b false,.b false,.b false,.b false,.b false,.b false,.b false,.b false,.b false,.b false,.b false,.b false,.b false,.b false,.b false,.b false,.b false,.b false,.b false,.b false,.b false,.b false,.b false,.b false,.b false,.b false,.b false,.b false,.b false,.b false,.b false,.b false,.b false,.b false,.b false,.b false,.b false,.b false,.b false,.b false,.b false,.b false,.b false,.b false,.b false,.b false,.b false,.b false,.b false,.b false,.b false,.b false,.b false,.b false,.b false,.b false,.b false,.b false,.b false,.b false,.b false,.b false,.b false,.b false,.b false,.b false,.b false,.b false,.b false,.b false,.b false,.b false,.b false,.b false,.b false,.b false,.b false,.b false,.b false,.b false,.b false,.b false,.b false,.b false,.b false,.b false,.b false,.b false,.b false,.b false,.b false,.b false,.b false,.b false,.b false,.b false,.b false,.b false,.b false,.b false,.b false,.b false,.b false,.b false,.b false,.b false,.b false,.b false,.b false,.b false,.b false,.b false,.b false,.b false,.b false,.b false,.b false,.b false,.b false,.b false,.b false,.b false,.b false,.b false,.b false,.b false,.b false,.b false,.b false,.b false,.b false,.b false,.b false,.b false,.b false,.b false,.b false,.b false,.b false,.b false,.b false,.b false,.b false,.b false,.b false,.b false,.b false,.b false,.b false,.b false,.b false,.b false,.b false,.b false,.b false,.b false,.b false,.b false,.b false,.b false,.b false,.b false,.b false,.b false,.b false,.b false,.b false,.b false,.b false,.b false,.b false,.b false,.b false,.b false,.b false,.b false,.b false,.b false,.b false,.b false,.b false,.b false,.b false,.b false,.b false,.b false,.b false,.b false,.b false,.b false,.b false,.b false,.b false,.b false,.b false,.b false,.b false,.b false,.b false,.b false,.b false,.b false,.b false,.b false,.b false,.b false,.b false,.b false,.b false,.b false,.b false,.b false,.b false,.b false,.b false,.b false,.b false,.b false,.b false,.b false,.b false,.b false,.b false,.b false,.b false,.b false,.b false,.b false,.b false,.b false,.b false,.b false,.b false,.b false,.b false,.b false,.b false,.b false,.b false,.b false,.b false,.b false,.b false,.b false,.b false,.b false,.b false,.b false]),
 ⟨none,.st 256 (.t 6) (.t 30),none⟩,
 zo 7 (.mv (.t 31))])
 (.seq (.reg [zo 32 (.mv (.t 7))])
 (.cond (.t 32)
 (.seq (.seq (.reg [zo 8 (.mv (.c (.i .i64 0)))])
 (.blk 0 (.loop (.seq (.seq (.reg [zo 33 (.mv (.t 8)),
 zo 34 (.mv (.t 0)),
 zo 35 (.len 0 (.t 34)),
 zo 36 (.bin .lss (.t 33) (.t 35))])
 (.cond (.t 36)
 .skip
 (.exit 0)))
 (.seq (.blk 1 (.seq (.reg [zo 39 (.mv (.t 0)),
 zo 40 (.mv (.t 8)),
 zo 41 (.ixS (.t 39) (.t 40)),
 zo 42 (.call Bs [.t 6,.t 41])])
 (.cond (.t 42)
 (.seq (.reg [zo 43 (.mv (.t 8)),
 zo 4 (.mv (.t 43))])
 .ret)
 .skip)))
 (.reg [zo 37 (.mv (.t 8)),
 zo 38 (.bin .add (.t 37) (.c (.i .i64 1))),
 zo 8 (.mv (.t 38))]))))))
 (.seq (.reg [zo 4 (.mv (.c (.i .i64 (-1))))])
 .ret))
 .skip)))
 .skip))
 (.seq (.seq (.reg [zo 44 (.mv (.t 0)),
 zo 45 (.siter (.t 44))])
 (.blk 2 (.loop (.seq (.reg [zo 46 (.snext (.t 45)),
 zo 47 (.ext (.t 46) 0)])
 (.seq (.cond (.t 47)
 .skip
 (.exit 2))
 (.blk 3 (.seq (.reg [zo 48 (.ext (.t 46) 1),
 zo 49 (.ext (.t 46) 2),
 zo 9 (.mv (.t 48)),
 zo 10 (.mv (.t 49))])
 (.seq (.reg [zo 50 (.mv (.t 1)),
 zo 51 (.mv (.t 10)),
 zo 52 (.call B9 [.t 50,.t 51]),
 zo 53 (.bin .geq (.t 52) (.c (.i .i64 0)))])
 (.cond (.t 53)
 (.seq (.reg [zo 54 (.mv (.t 9)),
 zo 4 (.mv (.t 54))])
 .ret)
 .skip)))))))))
 (.seq (.reg [zo 4 (.mv (.c (.i .i64 (-1))))])
 .ret)))))) }
def BD:Fun:={ cin:=[.id],cout:=[.id,.id],ntmps:=39,keep:=false,res:=[(2,none),(3,none)],body :=
 (.seq (.reg [zo 2 (.mv (.c (.i .u32 0))),
 zo 3 (.mv (.c (.i .u32 0)))])
 (.seq (.reg [zo 4 (.mv (.c (.i .u32 0)))])
 (.seq (.seq (.reg [zo 5 (.mv (.c (.i .i64 0)))])
 (.blk 0 (.loop (.seq (.seq (.reg [zo 9 (.mv (.t 5)),
 zo 10 (.mv (.t 0)),
 zo 11 (.len 0 (.t 10)),
 zo 12 (.bin .lss (.t 9) (.t 11))])
 (.cond (.t 12)
 .skip
 (.exit 0)))
 (.seq (.blk 1 (.reg [zo 15 (.mv (.t 4)),
 zo 16 (.bin .mul (.t 15) (.c (.i .u32 16777619))),
 zo 17 (.mv (.t 0)),
 zo 18 (.mv (.t 5)),
 zo 19 (.ixS (.t 17) (.t 18)),
 zo 20 (.cvI .u32 (.t 19)),
 zo 21 (.bin .add (.t 16) (.t 20)),
 zo 4 (.mv (.t 21))]))
 (.reg [zo 13 (.mv (.t 5)),
 zo 14 (.bin .add (.t 13) (.c (.i .i64 1))),
 zo 5 (.mv (.t 14))]))))))
 (.seq (.reg [zo 6 (.mv (.c (.i .u32 1))),
 zo 7 (.mv (.c (.i .u32 16777619)))])
 (.seq (.seq (.reg [zo 22 (.mv (.t 0)),
 zo 23 (.len 0 (.t 22)),
 zo 8 (.mv (.t 23))])
 (.blk 2 (.loop (.seq (.seq (.reg [zo 24 (.mv (.t 8)),
 zo 25 (.bin .gtr (.t 24) (.c (.i .i64 0)))])
 (.cond (.t 25)
 .skip
 (.exit 2)))
 (.seq (.blk 3 (.seq (.seq (.reg [zo 28 (.mv (.t 8)),
 zo 29 (.bin .and (.t 28) (.c (.i .i64 1))),
 zo 30 (.bin .neq (.t 29) (.c (.i .i64 0)))])
 (.cond (.t 30)
 (.reg [zo 31 (.mv (.t 6)),
 zo 32 (.mv (.t 7)),
 zo 33 (.bin .mul (.t 31) (.t 32)),
 zo 6 (.mv (.t 33))])
 .skip))
 (.reg [zo 34 (.mv (.t 7)),
 zo 35 (.mv (.t 7)),
 zo 36 (.bin .mul (.t 34) (.t 35)),
 zo 7 (.mv (.t 36))])))
 (.reg [zo 26 (.mv (.t 8)),
 zo 27 (.bin .shr (.t 26) (.c (.i .u64 1))),
 zo 8 (.mv (.t 27))]))))))
 (.seq (.reg [zo 37 (.mv (.t 4)),
 zo 38 (.mv (.t 6)),
 zo 2 (.mv (.t 37)),
 zo 3 (.mv (.t 38))])
 .ret)))))) }
def CV:Fun:={ cin:=[.id],cout:=[.id],ntmps:=25,keep:=false,res:=[(2,none)],body :=
 (.seq (.reg [zo 2 (.mv (.c (.s [])))])
 (.seq (.reg [zo 4 (.mv (.t 0)),
 zo 5 (.bin .rem (.t 4) (.c (.i .i64 10))),
 zo 6 (.bin .add (.c (.i .i64 48)) (.t 5)),
 zo 7 (.cvI .u8 (.t 6)),
 zo 8 (.bsl 1 [.t 7]),
 zo 9 (.cvBS (.t 8)),
 zo 3 (.mv (.t 9))])
 (.seq (.seq (.reg [zo 10 (.mv (.t 0)),
 zo 11 (.bin .quo (.t 10) (.c (.i .i64 10))),
 zo 0 (.mv (.t 11))])
 (.blk 0 (.loop (.seq (.seq (.reg [zo 12 (.mv (.t 0)),
 zo 13 (.bin .gtr (.t 12) (.c (.i .i64 0)))])
 (.cond (.t 13)
 .skip
 (.exit 0)))
 (.seq (.blk 1 (.reg [zo 16 (.mv (.t 0)),
 zo 17 (.bin .rem (.t 16) (.c (.i .i64 10))),
 zo 18 (.bin .add (.c (.i .i64 48)) (.t 17)),
 zo 19 (.cvI .u8 (.t 18)),
 zo 20 (.bsl 1 [.t 19]),
 zo 21 (.cvBS (.t 20)),
 zo 22 (.mv (.t 3)),
 zo 23 (.bin .add (.t 21) (.t 22)),
 zo 3 (.mv (.t 23))]))
 (.reg [zo 14 (.mv (.t 0)),
 zo 15 (.bin .quo (.t 14) (.c (.i .i64 10))),
 zo 0 (.mv (.t 15))]))))))
 (.seq (.reg [zo 24 (.mv (.t 3)),
 zo 2 (.mv (.t 24))])
 .ret)))) }
def BJ:Fun:={ cin:=[.id,.id],cout:=[.id],ntmps:=187,keep:=false,res:=[(4,none)],body :=
 (.seq (.reg [zo 4 (.mv (.c (.i .i64 0)))])
 (.blk 0 (.seq (.reg [zo 161 (.mv (.t 1)),
 zo 162 (.bin .leq (.c (.i .i32 0)) (.t 161)),
 zo 163 (.mv (.t 162)),
 ⟨some 164,.mv (.t 1),some (163,true)⟩,
 ⟨some 165,.bin .lss (.t 164) (.c (.i .i32 128)),some (163,true)⟩,
 zo 166 (.pick (.t 163) (.t 165) (.c (.b false))),
 zo 160 (.mv (.t 166))])
 (.cond (.t 160)
 (.seq (.reg [zo 167 (.mv (.t 0)),
 zo 168 (.mv (.t 1)),
 zo 169 (.cvI .u8 (.t 168)),
 zo 170 (.call DZ [.t 167,.t 169]),
 zo 4 (.mv (.t 170))])
 .ret)
 (.seq (.reg [zo 172 (.mv (.t 1)),
 zo 173 (.bin .eql (.t 172) (.c (.i .i32 65533))),
 zo 171 (.mv (.t 173))])
 (.cond (.t 171)
 (.seq (.seq (.reg [zo 174 (.mv (.t 0)),
 zo 175 (.siter (.t 174))])
 (.blk 9 (.loop (.seq (.reg [zo 176 (.snext (.t 175)),
 zo 177 (.ext (.t 176) 0)])
 (.seq (.cond (.t 177)
 .skip
 (.exit 9))
 (.blk 10 (.seq (.reg [zo 178 (.ext (.t 176) 1),
 zo 179 (.ext (.t 176) 2),
 zo 5 (.mv (.t 178)),
 zo 6 (.mv (.t 179))])
 (.seq (.reg [zo 180 (.mv (.t 6)),
 zo 181 (.bin .eql (.t 180) (.c (.i .i32 65533)))])
 (.cond (.t 181)
 (.seq (.reg [zo 182 (.mv (.t 5)),
 zo 4 (.mv (.t 182))])
 .ret)
 .skip)))))))))
 (.seq (.reg [zo 4 (.mv (.c (.i .i64 (-1))))])
 .ret))
 (.seq (.reg [zo 184 (.mv (.t 1)),
 zo 185 (.call DN [.t 184]),
 zo 186 (.un .not (.t 185)),
 zo 183 (.mv (.t 186))])
 (.cond (.t 183)
 (.seq (.reg [zo 4 (.mv (.c (.i .i64 (-1))))])
 .ret)
 (.seq (.reg [zo 17 (.mv (.t 1)),
 zo 18 (.cvRS (.t 17)),
 zo 7 (.mv (.t 18))])
 (.seq (.reg [zo 19 (.mv (.t 7)),
 zo 20 (.len 0 (.t 19)),
 zo 21 (.bin .sub (.t 20) (.c (.i .i64 1))),
 zo 8 (.mv (.t 21))])
 (.seq (.reg [zo 22 (.mv (.t 8)),
 zo 9 (.mv (.t 22))])
 (.seq (.reg [zo 10 (.mv (.c (.i .i64 0)))])
 (.seq (.blk 1 (.loop (.seq (.seq (.reg [zo 23 (.mv (.t 9)),
 zo 24 (.mv (.t 0)),
 zo 25 (.len 0 (.t 24)),
 zo 26 (.bin .lss (.t 23) (.t 25))])
 (.cond (.t 26)
 .skip
 (.exit 1)))
 (.blk 2 (.seq (.seq (.regD [zo 27 (.mv (.t 0)),
 zo 28 (.mv (.t 9)),
 zo 29 (.ixS (.t 27) (.t 28)),
 zo 30 (.mv (.t 7)),
 zo 31 (.mv (.t 8)),
 zo 32 (.ixS (.t 30) (.t 31)),
 zo 33 (.bin .neq (.t 29) (.t 32))] [])
 (.cond (.t 33)
 (.seq (.regD [zo 34 (.mv (.t 0)),
 zo 35 (.mv (.t 9)),
 zo 36 (.bin .add (.t 35) (.c (.i .i64 1))),
 zo 37 (.slS (.t 34) (some (.t 36)) none),
 zo 38 (.mv (.t 7)),
 zo 39 (.mv (.t 8)),
 zo 40 (.ixS (.t 38) (.t 39)),
 zo 41 (.call DZ [.t 37,.t 40]),
 zo 11 (.mv (.t 41))] [])
 (.seq (.seq (.reg [zo 42 (.mv (.t 11)),
 zo 43 (.bin .lss (.t 42) (.c (.i .i64 0)))])
 (.cond (.t 43)
 (.seq (.reg [zo 4 (.mv (.c (.i .i64 (-1))))])
 .ret)
 .skip))
 (.reg [zo 44 (.mv (.t 9)),
 zo 45 (.mv (.t 11)),
 zo 46 (.bin .add (.t 45) (.c (.i .i64 1))),
 zo 47 (.bin .add (.t 44) (.t 46)),
 zo 9 (.mv (.t 47))])))
 .skip))
 (.seq (.seq (.reg [zo 12 (.mv (.c (.i .i64 1)))])
 (.blk 3 (.loop (.seq (.seq (.reg [zo 48 (.mv (.t 12)),
 zo 49 (.mv (.t 7)),
 zo 50 (.len 0 (.t 49)),
 zo 51 (.bin .lss (.t 48) (.t 50))])
 (.cond (.t 51)
 .skip
 (.exit 3)))
 (.seq (.blk 4 (.seq (.regD [zo 54 (.mv (.t 0)),
 zo 55 (.mv (.t 9)),
 zo 56 (.mv (.t 12)),
 zo 57 (.bin .sub (.t 55) (.t 56)),
 zo 58 (.ixS (.t 54) (.t 57)),
 zo 59 (.mv (.t 7)),
 zo 60 (.mv (.t 8)),
 zo 61 (.mv (.t 12)),
 zo 62 (.bin .sub (.t 60) (.t 61)),
 zo 63 (.ixS (.t 59) (.t 62)),
 zo 64 (.bin .neq (.t 58) (.t 63))] [])
 (.cond (.t 64)
 .bad
 .skip)))
 (.reg [zo 52 (.mv (.t 12)),
 zo 53 (.bin .add (.t 52) (.c (.i .i64 1))),
 zo 12 (.mv (.t 53))]))))))
 (.seq (.seq (.reg [zo 65 (.mv (.t 9)),
 zo 66 (.mv (.t 8)),
 zo 67 (.bin .sub (.t 65) (.t 66)),
 zo 4 (.mv (.t 67))])
 .ret)
 (.seq .skip
 (.seq (.reg [zo 68 (.mv (.t 10)),
 zo 69 (.bin .add (.t 68) (.c (.i .i64 1))),
 zo 10 (.mv (.t 69))])
 (.seq (.reg [zo 70 (.mv (.t 9)),
 zo 71 (.bin .add (.t 70) (.c (.i .i64 1))),
 zo 9 (.mv (.t 71))])
 (.seq (.reg [zo 72 (.mv (.c (.b true))),
 ⟨some 73,.mv (.t 10),some (72,true)⟩,
 ⟨some 74,.mv (.t 9),some (72,true)⟩,
 ⟨some 75,.call C6 [.t 74],some (72,true)⟩,
 ⟨some 76,.bin .gtr (.t 73) (.t 75),some (72,true)⟩,
 zo 77 (.pick (.t 72) (.t 76) (.c (.b false))),
 zo 78 (.mv (.t 77)),
 ⟨some 79,.mv (.t 9),some (78,true)⟩,
 ⟨some 80,.mv (.t 0),some (78,true)⟩,
 ⟨some 81,.len 0 (.t 80),some (78,true)⟩,
 ⟨some 82,.bin .lss (.t 79) (.t 81),some (78,true)⟩,
 zo 83 (.pick (.t 78) (.t 82) (.c (.b false))),
 zo 84 (.mv (.t 83)),
 ⟨some 85,.mv (.c (.b false)),some (84,false)⟩,
 ⟨some 86,.mv (.t 10),some (85,true)⟩,
 ⟨some 87,.mv (.t 9),some (85,true)⟩,
 ⟨some 88,.bin .shr (.t 87) (.c (.i .u64 4)),some (85,true)⟩,
 ⟨some 89,.bin .add (.c (.i .i64 4)) (.t 88),some (85,true)⟩,
 ⟨some 90,.bin .geq (.t 86) (.t 89),some (85,true)⟩,
 ⟨some 91,.pick (.t 85) (.t 90) (.c (.b false)),some (84,false)⟩,
 ⟨some 92,.mv (.t 91),some (84,false)⟩,
 ⟨some 93,.mv (.t 9),some (92,true)⟩,
 ⟨some 94,.mv (.t 0),some (92,true)⟩,
 ⟨some 95,.len 0 (.t 94),some (92,true)⟩,
 ⟨some 96,.bin .lss (.t 93) (.t 95),some (92,true)⟩,
 ⟨some 97,.pick (.t 92) (.t 96) (.c (.b false)),some (84,false)⟩,
 zo 98 (.pick (.t 84) (.c (.b true)) (.t 97))])
 (.cond (.t 98)
 .bad
 .skip))))))))))))
 (.seq (.seq (.reg [zo 4 (.mv (.c (.i .i64 (-1))))])
 .ret)
 (.seq .skip
 (.seq (.cond (.c (.b true))
 (.seq (.reg [zo 99 (.mv (.t 0)),
 zo 100 (.mv (.t 9)),
 zo 101 (.mv (.t 8)),
 zo 102 (.bin .sub (.t 100) (.t 101)),
 zo 103 (.slS (.t 99) (some (.t 102)) none),
 zo 104 (.mv (.t 1)),
 zo 105 (.cvRS (.t 104)),
 zo 106 (.bad),
 zo 13 (.mv (.t 106))])
 (.seq (.reg [zo 107 (.mv (.t 13)),
 zo 108 (.bin .geq (.t 107) (.c (.i .i64 0)))])
 (.cond (.t 108)
 (.seq (.reg [zo 109 (.mv (.t 9)),
 zo 110 (.mv (.t 13)),
 zo 111 (.bin .add (.t 109) (.t 110)),
 zo 112 (.mv (.t 8)),
 zo 113 (.bin .sub (.t 111) (.t 112)),
 zo 4 (.mv (.t 113))])
 .ret)
 .skip)))
 (.seq (.reg [zo 114 (.mv (.t 7)),
 zo 115 (.mv (.t 8)),
 zo 116 (.ixS (.t 114) (.t 115)),
 zo 14 (.mv (.t 116))])
 (.seq (.reg [zo 117 (.mv (.t 7)),
 zo 118 (.mv (.t 8)),
 zo 119 (.bin .sub (.t 118) (.c (.i .i64 1))),
 zo 120 (.ixS (.t 117) (.t 119)),
 zo 15 (.mv (.t 120))])
 (.seq .skip
 (.blk 5 (.loop (.seq (.seq (.reg [zo 121 (.mv (.t 9)),
 zo 122 (.mv (.t 0)),
 zo 123 (.len 0 (.t 122)),
 zo 124 (.bin .lss (.t 121) (.t 123))])
 (.cond (.t 124)
 .skip
 (.exit 5)))
 (.seq (.blk 6 (.seq (.reg [zo 127 (.mv (.t 0)),
 zo 128 (.mv (.t 9)),
 zo 129 (.ixS (.t 127) (.t 128)),
 zo 130 (.mv (.t 14)),
 zo 131 (.bin .eql (.t 129) (.t 130)),
 zo 132 (.mv (.t 131)),
 ⟨some 133,.mv (.t 0),some (132,true)⟩,
 ⟨some 134,.mv (.t 9),some (132,true)⟩,
 ⟨some 135,.bin .sub (.t 134) (.c (.i .i64 1)),some (132,true)⟩,
 ⟨some 136,.ixS (.t 133) (.t 135),some (132,true)⟩,
 ⟨some 137,.mv (.t 15),some (132,true)⟩,
 ⟨some 138,.bin .eql (.t 136) (.t 137),some (132,true)⟩,
 zo 139 (.pick (.t 132) (.t 138) (.c (.b false)))])
 (.cond (.t 139)
 (.seq (.seq (.reg [zo 16 (.mv (.c (.i .i64 2)))])
 (.blk 7 (.loop (.seq (.seq (.reg [zo 140 (.mv (.t 16)),
 zo 141 (.mv (.t 7)),
 zo 142 (.len 0 (.t 141)),
 zo 143 (.bin .lss (.t 140) (.t 142))])
 (.cond (.t 143)
 .skip
 (.exit 7)))
 (.seq (.blk 8 (.seq (.regD [zo 146 (.mv (.t 0)),
 zo 147 (.mv (.t 9)),
 zo 148 (.mv (.t 16)),
 zo 149 (.bin .sub (.t 147) (.t 148)),
 zo 150 (.ixS (.t 146) (.t 149)),
 zo 151 (.mv (.t 7)),
 zo 152 (.mv (.t 8)),
 zo 153 (.mv (.t 16)),
 zo 154 (.bin .sub (.t 152) (.t 153)),
 zo 155 (.ixS (.t 151) (.t 154)),
 zo 156 (.bin .neq (.t 150) (.t 155))] [])
 (.cond (.t 156)
 (.exit 6)
 .skip)))
 (.reg [zo 144 (.mv (.t 16)),
 zo 145 (.bin .add (.t 144) (.c (.i .i64 1))),
 zo 16 (.mv (.t 145))]))))))
 (.seq (.reg [zo 157 (.mv (.t 9)),
 zo 158 (.mv (.t 8)),
 zo 159 (.bin .sub (.t 157) (.t 158)),
 zo 4 (.mv (.t 159))])
 .ret))
 .skip)))
 (.reg [zo 125 (.mv (.t 9)),
 zo 126 (.bin .add (.t 125) (.c (.i .i64 1))),
 zo 9 (.mv (.t 126))])))))))))
 (.seq (.reg [zo 4 (.mv (.c (.i .i64 (-1))))])
 .ret))))))))))))))))) }
def BM:Fun:={ cin:=[.id],cout:=[.id],ntmps:=5,keep:=false,res:=[(2,none)],body :=
 (.seq (.reg [zo 2 (.mv (.c (.b false)))])
 (.seq (.reg [zo 3 (.mv (.t 0)),
 zo 4 (.bin .gtr (.t 3) (.c (.i .i64 8))),
 zo 2 (.mv (.t 4))])
 .ret)) }
def A1:Fun:={ cin:=[.id],cout:=[(.agg [.id,.id,.id,.id,.id,.id,.id,.id,.id,.id,.id,.id,.id,.id,.id,.id,.id,.id,.id,.id,.id,.id,.id,.id,.id,.id,.id,.id,.id,.id,.id,.id,.id,.id,.id,.id,.id,.id,.id,.id,.id,.id,.id,.id,.id,.id,.id,.id,.id,.id,.id,.id,.id,.id,.id,.id,.id,.id,.id,.id,.id,.id,.id,.id,.id,.id,.id,.id,.id,.id,.id,.id,.id,.id,.id,.id,.id,.id,.id,.id,.id,.id,.id,.id,.id,.id,.id,.id,.id,.id,.id,.id,.id,.id,.id,.id,.id,.id,.id,.id,.id,.id,.id,.id,.id,.id,.id,.id,.id,.id,.id,.id,.id,.id,.id,.id,.id,.id,.id,.id,.id,.id,.id,.id,.id,.id,.id,.id,.id,.id,.id,.id,.id,.id,.id,.id,.id,.id,.id,.id,.id,.id,.id,.id,.id,.id,.id,.id,.id,.id,.id,.id,.id,.id,.id,.id,.id,.id,.id,.id,.id,.id,.id,.id,.id,.id,.id,.id,.id,.id,.id,.id,.id,.id,.id,.id,.id,.id,.id,.id,.id,.id,.id,.id,.id,.id,.id,.id,.id,.id,.id,.id,.id,.id,.id,.id,.id,.id,.id,.id,.id,.id,.id,.id,.id,.id,.id,.id,.id,.id,.id,.id,.id,.id,.id,.id,.id,.id,.id,.id,.id,.id,.id,.id,.id,.id,.id,.id,.id,.id,.id,.id,.id,.id,.id,.id,.id,.id,.id,.id,.id,.id,.id,.id,.id,.id,.id,.id,.id,.id,.id,.id,.id,.id,.id,.id]),.id],ntmps:=21,keep:=false,res:=[(2,some (true,256)),(3,none)],body :=
 (.seq (.reg [zo 2 (.alloc 184 [.b false,.b false,.b false,.b false,.b false,.b false,.b false,.b false,.b false,.b false,.b false,.b false,.b false,.b false,.b false,.b false,.b false,.b false,.b false,.b false,.b false,.b false,.b false,.b false,.b false,.b false,.b false,.b false,.b false,.b false,.b false,.b false,.b false,.b false,.b false,.b false,.b false,.b false,.b false,.b false,.b false,.b false,.b false,.b false,.b false,.b false,.b false,.b false,.b false,.b false,.b false,.b false,.b false,.b false,.b false,.b false,.b false,.b false,.b false,.b false,.b false,.b false,.b false,.b false,.b false,.b false,.b false,.b false,.b false,.b false,.b false,.b false,.b false,.b false,.b false,.b false,.b false,.b false,.b false,.b false,.b false,.b false,.b false,.b false,.b false,.b false,.b false,.b false,.b false,.b false,.b false,.b false,.b false,.b false,.b false,.b false,.b false,.b false,.b false,.b false,.b false,.b false,.b false,.b false,.b false,.b false,.b false,.b false,.b false,.b false,.b false,.b false,.b false,.b false,.b false,.b false,.b false,.b false,.b false,.b false,.b false,.b false,.b false,.b false,.b false,.b false,.b false,.b false,.b false,.b false,.b false,.b false,.b false,.b false,.b false,.b false,.b false,.b false,.b false,.b false,.b false,.b false,.b false,.b false,.b false,.b false,.b false,.b false,.b false,.b false,.b false,.b false,.b false,.b false,.b false,.b false,.b false,.b false,.b false,.b false,.b false,.b false,.b false,.b false,.b false,.b false,.b false,.b false,.b false,.b false,.b false,.b false,.b false,.b false,.b false,.b false,.b false,.b false,.b false,.b false,.b false,.b false,.b false,.b false,.b false,.b false,.b false,.b false,.b false,.b false,.b false,.b false,.b false,.b false,.b false,.b false,.b false,.b false,.b false,.b false,.b false,.b false,.b false,.b false,.b false,.b false,.b false,.b false,.b false,.b false,.b false,.b false,.b false,.b false,.b false,.b false,.b false,.b false,.b false,.b false,.b false,.b false,.b false,.b false,.b false,.b false,.b false,.b false,.b false,.b false,.b false,.b false,.b false,.b false,.b false,.b false,.b false,.b false,.b false,.b false,.b false,.b false,.b false,.b false,.b false,.b false,.b false,.b false,.b false,.b false,.b false,.b false,.b false,.b false,.b false,.b false]),
 zo 3 (.mv (.c (.b false)))])
 (.seq (.seq (.reg [zo 4 (.mv (.c (.i .i64 0)))])
 (.blk 0 (.loop (.seq (.seq (.reg [zo 6 (.mv (.t 4)),
 zo 7 (.mv (.t 0)),
 zo 8 (.len 0 (.t 7)),
 zo 9 (.bin .lss (.t 6) (.t 8))])
 (.cond (.t 9)
 .skip
 (.exit 0)))
 (.seq (.blk 1 (.seq (.reg [zo 12 (.mv (.t 0)),
 zo 13 (.mv (.t 4)),
 zo 14 (.ixS (.t 12) (.t 13)),
 zo 5 (.mv (.t 14))])
 (.seq (.seq (.reg [zo 15 (.mv (.t 5)),
 zo 16 (.bin .geq (.t 15) (.c (.i .u8 128)))])
 (.cond (.t 16)
 (.seq (.reg [zo 17 (.ld true 256 (.t 2)),
 ⟨none,.st 256 (.t 2) (.t 17),none⟩,
 zo 3 (.mv (.c (.b false)))])
 .ret)
 .skip))
 (.reg [zo 18 (.mv (.t 5)),
 zo 19 (.iaA 256 1 (.t 2) (.t 18)),
 ⟨none,.st 1 (.t 19) (.c (.b true)),none⟩]))))
 (.reg [zo 10 (.mv (.t 4)),
 zo 11 (.bin .add (.t 10) (.c (.i .i64 1))),
 zo 4 (.mv (.t 11))]))))))
 (.seq (.reg [zo 20 (.ld true 256 (.t 2)),
 ⟨none,.st 256 (.t 2) (.t 20),none⟩,
 zo 3 (.mv (.c (.b true)))])
 .ret))) }
def BN:Fun:={ cin:=[.id,.id],cout:=[.id],ntmps:=10,keep:=false,res:=[(4,none)],body :=
 (.seq (.reg [zo 4 (.mv (.c (.b false)))])
 (.seq (.reg [zo 5 (.mv (.t 0)),
 zo 6 (.mv (.t 1)),
 zo 7 (.nck (.t 5)),
 zo 8 (.iaA 256 1 (.t 7) (.t 6)),
 zo 9 (.ld false 1 (.t 8)),
 zo 4 (.mv (.t 9))])
 .ret)) }
def Cu:Fun:={ cin:=[.id,.id],cout:=[.id],ntmps:=8,keep:=false,res:=[(4,none)],body :=
 (.seq (.reg [zo 4 (.mv (.c (.i .i64 0)))])
 (.seq (.reg [zo 5 (.mv (.t 0)),
 zo 6 (.mv (.t 1)),
 zo 7 (.call Ay [.t 5,.t 6]),
 zo 4 (.mv (.t 7))])
 .ret)) }
def Bk:Fun:={ cin:=[.id],cout:=[.id],ntmps:=17,keep:=false,res:=[(2,none)],body :=
 (.seq (.reg [zo 2 (.mv (.c (.b false)))])
 (.seq (.blk 0 (.seq (.reg [zo 4 (.mv (.t 0)),
 zo 5 (.bin .leq (.c (.i .i32 0)) (.t 4)),
 zo 6 (.mv (.t 5)),
 ⟨some 7,.mv (.t 0),some (6,true)⟩,
 ⟨some 8,.bin .lss (.t 7) (.c (.i .i32 55296)),some (6,true)⟩,
 zo 9 (.pick (.t 6) (.t 8) (.c (.b false))),
 zo 3 (.mv (.t 9))])
 (.cond (.t 3)
 (.seq (.reg [zo 2 (.mv (.c (.b true)))])
 .ret)
 (.seq (.reg [zo 11 (.mv (.t 0)),
 zo 12 (.bin .lss (.c (.i .i32 57343)) (.t 11)),
 zo 13 (.mv (.t 12)),
 ⟨some 14,.mv (.t 0),some (13,true)⟩,
 ⟨some 15,.bin .leq (.t 14) (.c (.i .i32 1114111)),some (13,true)⟩,
 zo 16 (.pick (.t 13) (.t 15) (.c (.b false))),
 zo 10 (.mv (.t 16))])
 (.cond (.t 10)
 (.seq (.reg [zo 2 (.mv (.c (.b true)))])
 .ret)
 .skip)))))
 (.seq (.reg [zo 2 (.mv (.c (.b false)))])
 .ret))) }
def tab:PT:=(.n 76 Cs (.n 52 E8 (.n 30 A9 (.n 25 Au (.n 21 E7 (.n 18 GM (.n 6 Ao .e .e) .e) (.n 24 F1 (.n 23 Ee .e .e) .e)) (.n 28 Ah (.n 27 Ad (.n 26 Ef .e .e) .e) (.n 29 C8 .e .e))) (.n 36 Eg (.n 33 Ba (.n 32 BR (.n 31 AI .e .e) .e) (.n 35 Bb (.n 34 Bj .e .e) .e)) (.n 50 Ci (.n 49 Gu (.n 37 BA .e .e) .e) (.n 51 AP .e .e)))) (.n 64 F2 (.n 59 C9 (.n 55 E9 (.n 54 AU (.n 53 EF .e .e) .e) (.n 58 Ds (.n 57 DP .e .e) .e)) (.n 62 AZ (.n 61 Da (.n 60 HR .e .e) .e) (.n 63 FW .e .e))) (.n 70 EI (.n 67 AO (.n 66 BS (.n 65 GX .e .e) .e) (.n 69 BT (.n 68 Av .e .e) .e)) (.n 73 AM (.n 72 AK (.n 71 Af .e .e) .e) (.n 74 BB .e .e))))) (.n 120 BC (.n 94 Du (.n 89 Ag (.n 86 FJ (.n 85 DD (.n 84 Dt .e .e) .e) (.n 88 AX (.n 87 Cm .e .e) .e)) (.n 92 Ab (.n 91 D3 (.n 90 Ct .e .e) .e) (.n 93 CK .e .e))) (.n 105 Cj (.n 102 FK (.n 101 Il (.n 95 Cp .e .e) .e) (.n 104 CU (.n 103 AQ .e .e) .e)) (.n 118 AY (.n 117 Db (.n 106 Aj .e .e) .e) (.n 119 CL .e .e)))) (.n 153 A6 (.n 144 CM (.n 127 Ap (.n 126 BU (.n 125 GY .e .e) .e) (.n 143 EQ (.n 142 Dc .e .e) .e)) (.n 148 Aw (.n 147 Bz (.n 145 Az .e .e) .e) (.n 152 CF .e .e))) (.n 171 BM (.n 165 BD (.n 163 BX (.n 154 Bt .e .e) .e) (.n 170 BJ (.n 167 CV .e .e) .e)) (.n 178 Cu (.n 173 BN (.n 172 A1 .e .e) .e) (.n 179 Bk .e .e))))))
def prog (n:Nat):Option Fun:=tab.get n
def tabC:PT:=(.n 88 AX (.n 57 DP (.n 49 Gu (.n 24 F1 (.n 21 E7 (.n 18 GM .e .e) (.n 23 Ee .e .e)) (.n 27 Ad (.n 26 EP .e .e) (.n 29 C8 .e .e))) (.n 53 EF (.n 51 AP (.n 50 Ci .e .e) (.n 52 E8 .e .e)) (.n 55 E9 (.n 54 AU .e .e) .e))) (.n 64 F2 (.n 61 Da (.n 59 C9 (.n 58 Ds .e .e) (.n 60 HR .e .e)) (.n 63 FW (.n 62 AZ .e .e) .e)) (.n 85 DD (.n 76 Cs (.n 65 GX .e .e) (.n 84 Dt .e .e)) (.n 87 Cm (.n 86 FJ .e .e) .e)))) (.n 142 Dc (.n 101 Il (.n 92 Ab (.n 90 Ct (.n 89 Ag .e .e) (.n 91 D3 .e .e)) (.n 94 Du (.n 93 CK .e .e) (.n 95 Cp .e .e))) (.n 119 CL (.n 117 Db (.n 102 FK .e .e) (.n 118 AY .e .e)) (.n 125 GY (.n 120 BC .e .e) .e))) (.n 165 BD (.n 147 Bz (.n 144 CM (.n 143 EQ .e .e) (.n 145 Az .e .e)) (.n 163 BX (.n 148 Aw .e .e) .e)) (.n 173 BN (.n 171 BM (.n 170 BJ .e .e) (.n 172 A1 .e .e)) (.n 179 Bk (.n 178 Cu .e .e) .e)))))
def progC (n:Nat):Option Fun:=tabC.get n
theorem GZ:prog DC=some Ao:=rfl
theorem Vw:prog KU=some GM:=rfl
theorem SN:prog JG=some E7:=rfl
theorem T6:prog KV=some Ee:=rfl
theorem T7:prog KX=some F1:=rfl
theorem Ho:prog BZ=some Au:=rfl
theorem HS:prog Cd=some Ef:=rfl
theorem Es:prog B3=some Ad:=rfl
theorem Gv:prog Bh=some Ah:=rfl
theorem T8:prog Gr=some C8:=rfl
theorem Hr:prog Cx=some A9:=rfl
theorem Dk:prog Ac=some AI:=rfl
theorem HT:prog Ce=some BR:=rfl
theorem Hs:prog Cy=some Ba:=rfl
theorem Im:prog CJ=some Bj:=rfl
theorem Ht:prog Cz=some Bb:=rfl
theorem T9:prog Fx=some Eg:=rfl
theorem Hu:prog B4=some BA:=rfl
theorem SO:prog JH=some Gu:=rfl
theorem OE:prog HQ=some Ci:=rfl
theorem Dv:prog BH=some AP:=rfl
theorem SP:prog Gs=some E8:=rfl
theorem Vx:prog OD=some EF:=rfl
theorem D8:prog BV=some AU:=rfl
theorem SQ:prog Gt=some E9:=rfl
theorem SR:prog JI=some DP:=rfl
theorem PA:prog FI=some Ds:=rfl
theorem KY:prog CO=some C9:=rfl
theorem Vy:prog GJ=some HR:=rfl
theorem QJ:prog Fy=some Da:=rfl
theorem Eh:prog Cf=some AZ:=rfl
theorem Lj:prog FV=some FW:=rfl
theorem UA:prog Ma=some F2:=rfl
theorem M0:prog GV=some GX:=rfl
theorem HU:prog Cg=some BS:=rfl
theorem HV:prog Bo=some AO:=rfl
theorem Hv:prog B5=some Av:=rfl
theorem HW:prog Bp=some BT:=rfl
theorem QK:prog Fz=some EI:=rfl
theorem Ek:prog BF=some Af:=rfl
theorem CY:prog Aa=some AK:=rfl
theorem C3:prog Ae=some AM:=rfl
theorem Hx:prog C1=some BB:=rfl
theorem F3:prog BI=some Cs:=rfl
theorem PB:prog Bi=some Dt:=rfl
theorem M2:prog AE=some DD:=rfl
theorem PC:prog Ax=some FJ:=rfl
theorem PD:prog GK=some Cm:=rfl
theorem EB:prog Be=some AX:=rfl
theorem El:prog BG=some Ag:=rfl
theorem Jf:prog DW=some Ct:=rfl
theorem SS:prog LI=some D3:=rfl
theorem EU:prog Bl=some Ab:=rfl
theorem FL:prog A4=some CK:=rfl
theorem Mb:prog F0=some Du:=rfl
theorem SU:prog DL=some Cp:=rfl
theorem UB:prog Ii=some Il:=rfl
theorem PE:prog GL=some FK:=rfl
theorem Hy:prog Di=some AQ:=rfl
theorem Gw:prog CS=some CU:=rfl
theorem HX:prog DX=some Cj:=rfl
theorem Hz:prog Dj=some Aj:=rfl
theorem QL:prog Je=some Db:=rfl
theorem Em:prog Bw=some AY:=rfl
theorem PF:prog Ij=some CL:=rfl
theorem Fd:prog Ch=some BC:=rfl
theorem M3:prog GW=some GY:=rfl
theorem HY:prog Bq=some BU:=rfl
theorem Io:prog Dq=some Ap:=rfl
theorem OF:prog Fc=some Dc:=rfl
theorem PG:prog Ik=some EQ:=rfl
theorem Ip:prog Dr=some CM:=rfl
theorem Eo:prog Ay=some Az:=rfl
theorem Mp:prog C6=some Bz:=rfl
theorem IM:prog CA=some Aw:=rfl
theorem Ga:prog CD=some CF:=rfl
theorem HZ:prog DY=some A6:=rfl
theorem JP:prog D7=some Bt:=rfl
theorem KZ:prog Ed=some BX:=rfl
theorem Ka:prog C7=some BD:=rfl
theorem Gx:prog DM=some CV:=rfl
theorem Jg:prog B9=some BJ:=rfl
theorem F4:prog Br=some BM:=rfl
theorem H0:prog C2=some A1:=rfl
theorem F5:prog Bs=some BN:=rfl
theorem Jh:prog DZ=some Cu:=rfl
theorem Gy:prog DN=some Bk:=rfl
end Go.Proofs.YtmnbfgfgjmmhfaaGreatDoor
