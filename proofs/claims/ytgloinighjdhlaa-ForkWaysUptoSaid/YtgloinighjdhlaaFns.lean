/-
  The functions, as the abstract machine's: numbers and texts. By program.
-/
import Derived.Test.YtgloinighjdhlaaAmKeep
import Derived.Test.YtgloinighjdhlaaAmRg
set_option linter.all false
set_option linter.unusedVariables false
set_option linter.unusedSimpArgs false
set_option linter.unusedSectionVars false
set_option maxRecDepth 100000
namespace Go.Proofs.Ytgloinighjdhlaa
open Go.Proofs.Ytgloinighjdhlaa.Am
def Bg:Nat:=3
def Az:Nat:=7
def BK:Nat:=8
def C3:Nat:=9
def Bj:Nat:=10
def A1:Nat:=11
def BL:Nat:=12
def Nv:Nat:=13
def EN:Nat:=28
def BV:Nat:=30
def Bk:Nat:=31
def Bd:Nat:=32
def Bl:Nat:=33
def DW:Nat:=34
def Af:Nat:=35
def Db:Nat:=39
def JS:Nat:=50
def L7:Nat:=51
def BO:Nat:=52
def Gk:Nat:=53
def A3:Nat:=54
def Dp:Nat:=55
def A4:Nat:=56
def D9:Nat:=57
def Dc:Nat:=58
def AX:Nat:=59
def EA:Nat:=60
def Aw:Nat:=61
def BA:Nat:=62
def BW:Nat:=63
def Ao:Nat:=64
def DH:Nat:=65
def Cv:Nat:=75
def Dd:Nat:=76
def DI:Nat:=77
def Ab:Nat:=81
def DX:Nat:=83
def Is:Nat:=84
def B7:Nat:=85
def Ce:Nat:=86
def CM:Nat:=87
def C4:Nat:=88
def CZ:Nat:=89
def CN:Nat:=90
def Cf:Nat:=91
def Cg:Nat:=92
def Bt:Nat:=93
def Ch:Nat:=94
def Ci:Nat:=95
def DJ:Nat:=96
def D5:Nat:=100
def Ca:Nat:=101
def De:Nat:=108
def Ep:Nat:=109
def Df:Nat:=110
def B6:Nat:=111
def Dx:Nat:=113
def Cw:Nat:=114
def Ac:Nat:=115
def EO:Nat:=119
def A2:Nat:=120
def Ix:Nat:=121
def Cu:Nat:=122
def CD:Nat:=126
def Bz:Nat:=127
def Cp:Nat:=128
def B2:Nat:=129
def DB:Nat:=141
def Dr:Nat:=142
def KT:Nat:=143
abbrev zo(d:Nat)(p:AOp):Am.Op:=⟨some d,p,none⟩
def Aj:Fun:={ cin:=[(.sl 6 (.agg [.id,.id,.sl 1 .id,.sl 1 .id,.id,.id])),.id,.id,.id],cout:=[.id],ntmps:=72,keep:=false,res:=[(8,none)],body :=
 (.seq (.reg [zo 8 (.mv (.c (.b false)))])
 (.seq (.seq (.reg [zo 15 (.mv (.t 0)),
 zo 16 (.call Az [.t 15])])
 (.cond (.t 16)
 (.seq (.reg [zo 17 (.call BK []),
 zo 8 (.mv (.t 17))])
 .ret)
 .skip))
 (.seq (.seq (.reg [zo 9 (.mv (.c (.i .i64 0)))])
 (.blk 0 (.loop (.seq (.seq (.reg [zo 18 (.mv (.t 9)),
 zo 19 (.bin .lss (.t 18) (.c (.i .i64 2)))])
 (.cond (.t 19)
 .skip
 (.exit 0)))
 (.seq (.blk 1 (.seq (.reg [zo 23 (.mv (.t 0)),
 zo 24 (.mv (.t 1)),
 zo 25 (.mv (.t 2)),
 zo 26 (.build [.i .i64 0,.b false] [(0,1,(.t 24)),(1,1,(.t 25))]),
 zo 27 (.mv (.t 3)),
 zo 28 (.call C3 [.t 23,.t 26,.t 27]),
 zo 22 (.mv (.t 28)),
 zo 29 (.ext (.t 22) 0),
 zo 30 (.ext (.t 22) 1),
 zo 10 (.mv (.t 29)),
 zo 11 (.mv (.t 30))])
 (.seq (.reg [zo 32 (.mv (.t 0)),
 zo 33 (.mv (.t 1)),
 zo 34 (.mv (.t 2)),
 zo 35 (.build [.i .i64 0,.b false] [(0,1,(.t 33)),(1,1,(.t 34))]),
 zo 36 (.mv (.t 3)),
 zo 37 (.call Bj [.t 32,.t 35,.t 36]),
 zo 31 (.mv (.t 37)),
 zo 38 (.ext (.t 31) 0),
 zo 39 (.ext (.t 31) 1),
 zo 12 (.mv (.t 38)),
 zo 13 (.mv (.t 39))])
 (.seq (.seq (.reg [zo 40 (.mv (.t 11)),
 zo 41 (.mv (.t 13)),
 zo 42 (.bin .neq (.t 40) (.t 41)),
 zo 43 (.mv (.t 42)),
 ⟨some 44,.mv (.t 10),some (43,false)⟩,
 ⟨some 45,.len 1 (.t 44),some (43,false)⟩,
 ⟨some 46,.mv (.t 12),some (43,false)⟩,
 ⟨some 47,.len 1 (.t 46),some (43,false)⟩,
 ⟨some 48,.bin .neq (.t 45) (.t 47),some (43,false)⟩,
 zo 49 (.pick (.t 43) (.c (.b true)) (.t 48))])
 (.cond (.t 49)
 (.seq (.reg [zo 8 (.mv (.c (.b false)))])
 .ret)
 .skip))
 (.seq (.reg [zo 14 (.mv (.c (.i .i64 0)))])
 (.blk 2 (.loop (.seq (.seq (.reg [zo 50 (.mv (.t 14)),
 zo 51 (.mv (.t 10)),
 zo 52 (.len 1 (.t 51)),
 zo 53 (.bin .lss (.t 50) (.t 52))])
 (.cond (.t 53)
 .skip
 (.exit 2)))
 (.seq (.blk 3 (.seq (.seq (.regD [zo 56 (.mv (.t 10)),
 zo 57 (.mv (.t 14)),
 zo 58 (.ia 1 (.t 56) (.t 57)),
 zo 59 (.ld false 1 (.t 58)),
 zo 60 (.mv (.t 12)),
 zo 61 (.mv (.t 14)),
 zo 62 (.ia 1 (.t 60) (.t 61)),
 zo 63 (.ld false 1 (.t 62)),
 zo 64 (.call A1 [.t 59,.t 63]),
 zo 65 (.un .not (.t 64))] [])
 (.cond (.t 65)
 (.seq (.reg [zo 8 (.mv (.c (.b false)))])
 .ret)
 .skip))
 (.reg [zo 66 (.mv (.t 10)),
 zo 67 (.mv (.t 14)),
 zo 68 (.ia 1 (.t 66) (.t 67)),
 zo 69 (.ld false 1 (.t 68)),
 zo 70 (.call BL [.t 69])])))
 (.reg [zo 54 (.mv (.t 14)),
 zo 55 (.bin .add (.t 54) (.c (.i .i64 1))),
 zo 14 (.mv (.t 55))]))))))))))
 (.reg [zo 20 (.mv (.t 9)),
 zo 21 (.bin .add (.t 20) (.c (.i .i64 1))),
 zo 9 (.mv (.t 21))]))))))
 (.seq (.reg [zo 71 (.call BK []),
 zo 8 (.mv (.t 71))])
 .ret)))) }
def BT:Fun:={ cin:=[(.sl 6 (.agg [.id,.id,.sl 1 .id,.sl 1 .id,.id,.id]))],cout:=[.id],ntmps:=50,keep:=false,res:=[(2,none)],body :=
 (.seq (.reg [zo 2 (.mv (.c (.b false)))])
 (.seq (.seq (.reg [zo 5 (.mv (.t 0)),
 zo 6 (.len 1 (.t 5)),
 zo 7 (.bin .gtr (.t 6) (.c (.i .i64 50)))])
 (.cond (.t 7)
 (.seq (.reg [zo 2 (.mv (.c (.b true)))])
 .ret)
 .skip))
 (.seq (.seq (.reg [zo 3 (.mv (.c (.i .i64 0)))])
 (.blk 0 (.loop (.seq (.seq (.reg [zo 8 (.mv (.t 3)),
 zo 9 (.mv (.t 0)),
 zo 10 (.len 1 (.t 9)),
 zo 11 (.bin .lss (.t 8) (.t 10))])
 (.cond (.t 11)
 .skip
 (.exit 0)))
 (.seq (.blk 1 (.seq (.seq (.seq (.thw 0)
 (.reg [zo 14 (.mv (.t 0)),
 zo 15 (.mv (.t 3)),
 zo 16 (.ia 6 (.t 14) (.t 15)),
 zo 17 (.fa 2 (.t 16)),
 zo 18 (.ld false 1 (.t 17)),
 zo 19 (.len 1 (.t 18)),
 zo 20 (.bin .gtr (.t 19) (.c (.i .i64 50))),
 zo 21 (.mv (.t 20)),
 ⟨some 22,.mv (.t 0),some (21,false)⟩,
 ⟨some 23,.mv (.t 3),some (21,false)⟩,
 ⟨some 24,.ia 6 (.t 22) (.t 23),some (21,false)⟩,
 ⟨some 25,.fa 3 (.t 24),some (21,false)⟩,
 ⟨some 26,.ld false 1 (.t 25),some (21,false)⟩,
 ⟨some 27,.len 1 (.t 26),some (21,false)⟩,
 ⟨some 28,.bin .gtr (.t 27) (.c (.i .i64 50)),some (21,false)⟩,
 zo 29 (.pick (.t 21) (.c (.b true)) (.t 28))]))
 (.cond (.t 29)
 (.seq (.reg [zo 2 (.mv (.c (.b true)))])
 .ret)
 .skip))
 (.seq (.reg [zo 4 (.mv (.c (.i .i64 0)))])
 (.blk 2 (.loop (.seq (.seq (.seq (.thw 0)
 (.reg [zo 30 (.mv (.t 4)),
 zo 31 (.mv (.t 0)),
 zo 32 (.mv (.t 3)),
 zo 33 (.ia 6 (.t 31) (.t 32)),
 zo 34 (.fa 2 (.t 33)),
 zo 35 (.ld false 1 (.t 34)),
 zo 36 (.len 1 (.t 35)),
 zo 37 (.bin .lss (.t 30) (.t 36))]))
 (.cond (.t 37)
 .skip
 (.exit 2)))
 (.seq (.blk 3 (.seq (.seq (.thw 0)
 (.reg [zo 40 (.mv (.t 0)),
 zo 41 (.mv (.t 3)),
 zo 42 (.ia 6 (.t 40) (.t 41)),
 zo 43 (.fa 2 (.t 42)),
 zo 44 (.ld false 1 (.t 43)),
 zo 45 (.mv (.t 4)),
 zo 46 (.ia 1 (.t 44) (.t 45)),
 zo 47 (.ld false 1 (.t 46)),
 zo 48 (.len 0 (.t 47)),
 zo 49 (.bin .gtr (.t 48) (.c (.i .i64 300)))]))
 (.cond (.t 49)
 (.seq (.reg [zo 2 (.mv (.c (.b true)))])
 .ret)
 .skip)))
 (.reg [zo 38 (.mv (.t 4)),
 zo 39 (.bin .add (.t 38) (.c (.i .i64 1))),
 zo 4 (.mv (.t 39))]))))))))
 (.reg [zo 12 (.mv (.t 3)),
 zo 13 (.bin .add (.t 12) (.c (.i .i64 1))),
 zo 3 (.mv (.t 13))]))))))
 (.seq (.reg [zo 2 (.mv (.c (.b false)))])
 .ret)))) }
def Cb:Fun:={ cin:=[],cout:=[],ntmps:=0,keep:=false,res:=[],body:=.bad,prim:=some (Pe NO) }
def EB:Fun:={ cin:=[],cout:=[.id],ntmps:=109,keep:=false,res:=[(0,none)],body :=
 (.seq (.reg [zo 0 (.mv (.c (.b false)))])
 (.seq (.reg [zo 8 (.bsl 1 [(.c (.s [97]))]),
 zo 9 (.bsl 1 [(.c (.i .i64 1))]),
 zo 10 (.build [.b false,.i .u8 0,.nsl,.nsl,.i .i64 0,.i .i64 0] [(0,1,(.c (.b true))),(1,1,(.c (.i .u8 2))),(2,1,(.t 8)),(3,1,(.t 9))]),
 zo 11 (.build [.b false,.i .u8 0,.nsl,.nsl,.i .i64 0,.i .i64 0] []),
 zo 12 (.bsl 6 [.t 10,.t 11]),
 zo 1 (.mv (.t 12))])
 (.seq (.reg [zo 14 (.mv (.t 1)),
 zo 15 (.build [.i .i64 0,.b false] [(0,1,(.c (.i .i64 1)))]),
 zo 16 (.call C3 [(.t 14),(.t 15),(.c (.b false))]),
 zo 13 (.mv (.t 16)),
 zo 17 (.ext (.t 13) 0),
 zo 18 (.ext (.t 13) 1),
 zo 2 (.mv (.t 17)),
 zo 3 (.mv (.t 18))])
 (.seq (.reg [zo 20 (.mv (.t 1)),
 zo 21 (.build [.i .i64 0,.b false] [(0,1,(.c (.i .i64 0))),(1,1,(.c (.b true)))]),
 zo 22 (.call C3 [(.t 20),(.t 21),(.c (.b false))]),
 zo 19 (.mv (.t 22)),
 zo 23 (.ext (.t 19) 0),
 zo 24 (.ext (.t 19) 1),
 zo 4 (.mv (.t 23)),
 zo 5 (.mv (.t 24))])
 (.seq (.reg [zo 26 (.mv (.t 1)),
 zo 27 (.build [.i .i64 0,.b false] [(0,1,(.c (.i .i64 1)))]),
 zo 28 (.build [.i .i64 0,.b false] [(0,1,(.c (.i .i64 0))),(1,1,(.c (.b true)))]),
 zo 29 (.bsl 2 [.t 27,.t 28]),
 zo 30 (.bsl 1 [(.c (.i .i64 2)),(.c (.i .i64 0))]),
 zo 31 (.call Nv [(.t 26),(.t 29),(.t 30),(.c (.b false))]),
 zo 25 (.mv (.t 31)),
 zo 32 (.ext (.t 25) 0),
 zo 33 (.ext (.t 25) 1),
 zo 6 (.mv (.t 32)),
 zo 7 (.mv (.t 33))])
 (.seq (.seq (.thw 6)
 (.reg [zo 34 (.mv (.t 3)),
 zo 35 (.bin .eql (.t 34) (.c (.i .i64 0))),
 zo 36 (.mv (.t 35)),
 ⟨some 37,.mv (.t 2),some (36,true)⟩,
 ⟨some 38,.len 1 (.t 37),some (36,true)⟩,
 ⟨some 39,.bin .eql (.t 38) (.c (.i .i64 3)),some (36,true)⟩,
 zo 40 (.pick (.t 36) (.t 39) (.c (.b false))),
 zo 41 (.mv (.t 40)),
 ⟨some 42,.mv (.t 2),some (41,true)⟩,
 ⟨some 43,.ia 1 (.t 42) (.c (.i .i64 1)),some (41,true)⟩,
 ⟨some 44,.ld false 1 (.t 43),some (41,true)⟩,
 ⟨some 45,.ia 6 (.t 44) (.c (.i .i64 1)),some (41,true)⟩,
 ⟨some 46,.fa 1 (.t 45),some (41,true)⟩,
 ⟨some 47,.ld false 1 (.t 46),some (41,true)⟩,
 ⟨some 48,.bin .eql (.t 47) (.c (.i .u8 1)),some (41,true)⟩,
 zo 49 (.pick (.t 41) (.t 48) (.c (.b false))),
 zo 50 (.mv (.t 49)),
 ⟨some 51,.mv (.t 5),some (50,true)⟩,
 ⟨some 52,.bin .eql (.t 51) (.c (.i .i64 0)),some (50,true)⟩,
 zo 53 (.pick (.t 50) (.t 52) (.c (.b false))),
 zo 54 (.mv (.t 53)),
 ⟨some 55,.mv (.t 4),some (54,true)⟩,
 ⟨some 56,.len 1 (.t 55),some (54,true)⟩,
 ⟨some 57,.bin .eql (.t 56) (.c (.i .i64 2)),some (54,true)⟩,
 zo 58 (.pick (.t 54) (.t 57) (.c (.b false))),
 zo 59 (.mv (.t 58)),
 ⟨some 60,.mv (.t 4),some (59,true)⟩,
 ⟨some 61,.ia 1 (.t 60) (.c (.i .i64 0)),some (59,true)⟩,
 ⟨some 62,.ld false 1 (.t 61),some (59,true)⟩,
 ⟨some 63,.ia 6 (.t 62) (.c (.i .i64 0)),some (59,true)⟩,
 ⟨some 64,.fa 4 (.t 63),some (59,true)⟩,
 ⟨some 65,.ld false 1 (.t 64),some (59,true)⟩,
 ⟨some 66,.bin .eql (.t 65) (.c (.i .i64 1)),some (59,true)⟩,
 zo 67 (.pick (.t 59) (.t 66) (.c (.b false))),
 zo 68 (.mv (.t 67)),
 ⟨some 69,.mv (.t 4),some (68,true)⟩,
 ⟨some 70,.ia 1 (.t 69) (.c (.i .i64 1)),some (68,true)⟩,
 ⟨some 71,.ld false 1 (.t 70),some (68,true)⟩,
 ⟨some 72,.ia 6 (.t 71) (.c (.i .i64 0)),some (68,true)⟩,
 ⟨some 73,.fa 4 (.t 72),some (68,true)⟩,
 ⟨some 74,.ld false 1 (.t 73),some (68,true)⟩,
 ⟨some 75,.bin .eql (.t 74) (.c (.i .i64 2)),some (68,true)⟩,
 zo 76 (.pick (.t 68) (.t 75) (.c (.b false))),
 zo 77 (.mv (.t 76)),
 ⟨some 78,.mv (.t 4),some (77,true)⟩,
 ⟨some 79,.ia 1 (.t 78) (.c (.i .i64 1)),some (77,true)⟩,
 ⟨some 80,.ld false 1 (.t 79),some (77,true)⟩,
 ⟨some 81,.ia 6 (.t 80) (.c (.i .i64 0)),some (77,true)⟩,
 ⟨some 82,.fa 5 (.t 81),some (77,true)⟩,
 ⟨some 83,.ld false 1 (.t 82),some (77,true)⟩,
 ⟨some 84,.bin .eql (.t 83) (.c (.i .i64 1)),some (77,true)⟩,
 zo 85 (.pick (.t 77) (.t 84) (.c (.b false))),
 zo 86 (.mv (.t 85)),
 ⟨some 87,.mv (.t 7),some (86,true)⟩,
 ⟨some 88,.bin .eql (.t 87) (.c (.i .i64 0)),some (86,true)⟩,
 zo 89 (.pick (.t 86) (.t 88) (.c (.b false))),
 zo 90 (.mv (.t 89)),
 ⟨some 91,.mv (.t 6),some (90,true)⟩,
 ⟨some 92,.len 1 (.t 91),some (90,true)⟩,
 ⟨some 93,.bin .eql (.t 92) (.c (.i .i64 2)),some (90,true)⟩,
 zo 94 (.pick (.t 90) (.t 93) (.c (.b false))),
 zo 95 (.mv (.t 94)),
 ⟨some 96,.mv (.t 6),some (95,true)⟩,
 ⟨some 97,.ia 6 (.t 96) (.c (.i .i64 1)),some (95,true)⟩,
 ⟨some 98,.fa 1 (.t 97),some (95,true)⟩,
 ⟨some 99,.ld false 1 (.t 98),some (95,true)⟩,
 ⟨some 100,.bin .eql (.t 99) (.c (.i .u8 2)),some (95,true)⟩,
 zo 101 (.pick (.t 95) (.t 100) (.c (.b false))),
 zo 102 (.mv (.t 101)),
 ⟨some 103,.mv (.t 6),some (102,true)⟩,
 ⟨some 104,.ia 6 (.t 103) (.c (.i .i64 0)),some (102,true)⟩,
 ⟨some 105,.fa 4 (.t 104),some (102,true)⟩,
 ⟨some 106,.ld false 1 (.t 105),some (102,true)⟩,
 ⟨some 107,.bin .eql (.t 106) (.c (.i .i64 1)),some (102,true)⟩,
 zo 108 (.pick (.t 102) (.t 107) (.c (.b false))),
 zo 0 (.mv (.t 108))]))
 .ret)))))) }
def DK:Fun:={ cin:=[(.sl 6 (.agg [.id,.id,.sl 1 .id,.sl 1 .id,.id,.id])),(.agg [.id,.id]),.id],cout:=[],ntmps:=39,keep:=true,res:=[(6,none),(7,none)],body :=
 (.seq (.reg [zo 4 (.box 30 2 (.t 1)),
 zo 6 (.mv (.c .nsl)),
 zo 7 (.mv (.c (.i .i64 0)))])
 (.seq (.reg [zo 8 (.mv (.c .nsl))])
 (.seq (.seq (.reg [zo 13 (.ld true 2 (.t 4)),
 zo 14 (.mv (.t 2)),
 zo 15 (.call BV [.t 13,.t 14]),
 zo 16 (.len 1 (.t 15)),
 zo 17 (.mv (.c (.i .i64 0)))])
 (.blk 0 (.loop (.seq (.reg [zo 18 (.bin .lss (.t 17) (.t 16))])
 (.seq (.cond (.t 18)
 .skip
 (.exit 0))
 (.seq (.blk 1 (.seq (.reg [zo 19 (.ia 1 (.t 15) (.t 17)),
 zo 20 (.ld false 1 (.t 19)),
 zo 10 (.mv (.t 20))])
 (.seq (.reg [zo 22 (.mv (.t 10)),
 zo 23 (.mv (.t 0)),
 zo 24 (.callX (.t 22) [.t 23]),
 zo 21 (.mv (.t 24)),
 zo 25 (.ext (.t 21) 0),
 zo 26 (.ext (.t 21) 1),
 zo 11 (.mv (.t 25)),
 zo 12 (.mv (.t 26))])
 (.seq (.reg [zo 27 (.mv (.t 12))])
 (.blk 2 (.seq (.reg [zo 30 (.bin .eql (.t 27) (.c (.i .i64 0))),
 zo 29 (.mv (.t 30))])
 (.cond (.t 29)
 (.reg [zo 31 (.mv (.t 8)),
 zo 32 (.mv (.t 11)),
 zo 33 (.bsl 1 [.t 32]),
 zo 34 (.app 1 22 (.t 31) (.t 33)),
 zo 8 (.mv (.t 34))])
 (.seq (.reg [zo 36 (.bin .eql (.t 27) (.c (.i .i64 67))),
 zo 35 (.mv (.t 36))])
 (.cond (.t 35)
 .skip
 (.seq (.reg [zo 28 (.mv (.t 12)),
 zo 6 (.mv (.c .nsl)),
 zo 7 (.mv (.t 28))])
 .ret))))))))))
 (.reg [zo 37 (.bin .add (.t 17) (.c (.i .i64 1))),
 zo 17 (.mv (.t 37))])))))))
 (.seq (.reg [zo 38 (.mv (.t 8)),
 zo 6 (.mv (.t 38)),
 zo 7 (.mv (.c (.i .i64 0)))])
 .ret)))) }
def AO:Fun:={ cin:=[(.sl 6 (.agg [.id,.id,.sl 1 .id,.sl 1 .id,.id,.id])),(.agg [.id,.id]),.id],cout:=[(.sl 1 (.sl 6 (.agg [.id,.id,.sl 1 .id,.sl 1 .id,.id,.id]))),.id],ntmps:=67,keep:=false,res:=[(6,none),(7,none)],body :=
 (.seq (.reg [zo 4 (.box 32 2 (.t 1)),
 zo 6 (.mv (.c .nsl)),
 zo 7 (.mv (.c (.i .i64 0)))])
 (.seq (.reg [zo 8 (.mv (.c .nsl))])
 (.seq (.seq (.reg [zo 16 (.fa 1 (.t 4)),
 zo 17 (.ld false 1 (.t 16))])
 (.cond (.t 17)
 (.seq (.reg [zo 19 (.mv (.t 0)),
 zo 20 (.fa 0 (.t 4)),
 zo 21 (.ld false 1 (.t 20)),
 zo 22 (.call Bk [.t 19,.t 21]),
 zo 18 (.mv (.t 22)),
 zo 23 (.ext (.t 18) 0),
 zo 24 (.ext (.t 18) 1),
 zo 9 (.mv (.t 23)),
 zo 10 (.mv (.t 24))])
 (.seq (.seq (.reg [zo 25 (.mv (.t 10)),
 zo 26 (.bin .neq (.t 25) (.c (.i .i64 0)))])
 (.cond (.t 26)
 (.seq (.reg [zo 27 (.mv (.t 10)),
 zo 6 (.mv (.c .nsl)),
 zo 7 (.mv (.t 27))])
 .ret)
 .skip))
 (.seq (.reg [zo 29 (.mv (.t 0)),
 zo 30 (.fa 0 (.t 4)),
 zo 31 (.ld false 1 (.t 30)),
 zo 32 (.call Bd [.t 29,.t 31]),
 zo 28 (.mv (.t 32)),
 zo 33 (.ext (.t 28) 0),
 zo 34 (.ext (.t 28) 1),
 zo 11 (.mv (.t 33)),
 zo 10 (.mv (.t 34))])
 (.seq (.seq (.reg [zo 35 (.mv (.t 10)),
 zo 36 (.bin .eql (.t 35) (.c (.i .i64 0)))])
 (.cond (.t 36)
 (.reg [zo 37 (.mv (.t 8)),
 zo 38 (.mv (.t 11)),
 zo 39 (.bsl 1 [.t 38]),
 zo 40 (.app 1 22 (.t 37) (.t 39)),
 zo 8 (.mv (.t 40))])
 .skip))
 (.seq (.reg [zo 41 (.mv (.t 8)),
 zo 42 (.mv (.t 9)),
 zo 43 (.bsl 1 [.t 42]),
 zo 44 (.app 1 22 (.t 41) (.t 43)),
 zo 6 (.mv (.t 44)),
 zo 7 (.mv (.c (.i .i64 0)))])
 .ret)))))
 .skip))
 (.seq (.reg [zo 12 (.mv (.c (.i .u8 2)))])
 (.seq (.seq (.reg [zo 45 (.mv (.t 2))])
 (.cond (.t 45)
 (.reg [zo 12 (.mv (.c (.i .u8 3)))])
 .skip))
 (.seq (.seq (.reg [zo 13 (.mv (.c (.i .u8 0)))])
 (.blk 0 (.loop (.seq (.seq (.reg [zo 46 (.mv (.t 13)),
 zo 47 (.mv (.t 12)),
 zo 48 (.bin .leq (.t 46) (.t 47))])
 (.cond (.t 48)
 .skip
 (.exit 0)))
 (.seq (.blk 1 (.seq (.reg [zo 52 (.mv (.t 0)),
 zo 53 (.fa 0 (.t 4)),
 zo 54 (.ld false 1 (.t 53)),
 zo 55 (.mv (.t 13)),
 zo 56 (.call Bl [.t 52,.t 54,.t 55]),
 zo 51 (.mv (.t 56)),
 zo 57 (.ext (.t 51) 0),
 zo 58 (.ext (.t 51) 1),
 zo 14 (.mv (.t 57)),
 zo 15 (.mv (.t 58))])
 (.seq (.seq (.reg [zo 59 (.mv (.t 15)),
 zo 60 (.bin .neq (.t 59) (.c (.i .i64 0)))])
 (.cond (.t 60)
 (.seq (.reg [zo 61 (.mv (.t 15)),
 zo 6 (.mv (.c .nsl)),
 zo 7 (.mv (.t 61))])
 .ret)
 .skip))
 (.reg [zo 62 (.mv (.t 8)),
 zo 63 (.mv (.t 14)),
 zo 64 (.bsl 1 [.t 63]),
 zo 65 (.app 1 22 (.t 62) (.t 64)),
 zo 8 (.mv (.t 65))]))))
 (.reg [zo 49 (.mv (.t 13)),
 zo 50 (.bin .add (.t 49) (.c (.i .u8 1))),
 zo 13 (.mv (.t 50))]))))))
 (.seq (.reg [zo 66 (.mv (.t 8)),
 zo 6 (.mv (.t 66)),
 zo 7 (.mv (.c (.i .i64 0)))])
 .ret))))))) }
def Bm:Fun:={ cin:=[(.sl 6 (.agg [.id,.id,.sl 1 .id,.sl 1 .id,.id,.id])),(.sl 6 (.agg [.id,.id,.sl 1 .id,.sl 1 .id,.id,.id]))],cout:=[.id],ntmps:=89,keep:=false,res:=[(4,none)],body :=
 (.seq (.reg [zo 4 (.mv (.c (.b false)))])
 (.seq (.seq (.reg [zo 9 (.mv (.t 0)),
 zo 10 (.len 1 (.t 9)),
 zo 11 (.mv (.t 1)),
 zo 12 (.len 1 (.t 11)),
 zo 13 (.bin .neq (.t 10) (.t 12))])
 (.cond (.t 13)
 (.seq (.reg [zo 4 (.mv (.c (.b false)))])
 .ret)
 .skip))
 (.seq (.seq (.reg [zo 5 (.mv (.c (.i .i64 0)))])
 (.blk 0 (.loop (.seq (.seq (.reg [zo 14 (.mv (.t 5)),
 zo 15 (.mv (.t 0)),
 zo 16 (.len 1 (.t 15)),
 zo 17 (.bin .lss (.t 14) (.t 16))])
 (.cond (.t 17)
 .skip
 (.exit 0)))
 (.seq (.blk 1 (.seq (.regD [zo 20 (.mv (.t 0)),
 zo 21 (.mv (.t 5)),
 zo 22 (.ia 6 (.t 20) (.t 21)),
 zo 23 (.ld true 6 (.t 22)),
 zo 24 (.mv (.t 1)),
 zo 25 (.mv (.t 5)),
 zo 26 (.ia 6 (.t 24) (.t 25)),
 zo 27 (.ld true 6 (.t 26)),
 ⟨none,.mv (.c (.tup [])),none⟩,
 zo 7 (.alloc 60 [.b false,.i .u8 0,.nsl,.nsl,.i .i64 0,.i .i64 0]),
 zo 6 (.adp 60 [.b false,.i .u8 0,.nsl,.nsl,.i .i64 0,.i .i64 0] 6 (.t 23)),
 ⟨none,.st 6 (.t 7) (.t 27),none⟩] [(3,(3,10)),(7,(7,11))])
 (.seq (.seq (.reg [zo 28 (.fa 0 (.t 6)),
 zo 29 (.ld false 1 (.t 28)),
 zo 30 (.fa 0 (.t 7)),
 zo 31 (.ld false 1 (.t 30)),
 zo 32 (.eq .bool true (.t 29) (.t 31)),
 zo 33 (.mv (.t 32)),
 ⟨some 34,.fa 1 (.t 6),some (33,false)⟩,
 ⟨some 35,.ld false 1 (.t 34),some (33,false)⟩,
 ⟨some 36,.fa 1 (.t 7),some (33,false)⟩,
 ⟨some 37,.ld false 1 (.t 36),some (33,false)⟩,
 ⟨some 38,.bin .neq (.t 35) (.t 37),some (33,false)⟩,
 zo 39 (.pick (.t 33) (.c (.b true)) (.t 38)),
 zo 40 (.mv (.t 39)),
 ⟨some 41,.fa 4 (.t 6),some (40,false)⟩,
 ⟨some 42,.ld false 1 (.t 41),some (40,false)⟩,
 ⟨some 43,.fa 4 (.t 7),some (40,false)⟩,
 ⟨some 44,.ld false 1 (.t 43),some (40,false)⟩,
 ⟨some 45,.bin .neq (.t 42) (.t 44),some (40,false)⟩,
 zo 46 (.pick (.t 40) (.c (.b true)) (.t 45)),
 zo 47 (.mv (.t 46)),
 ⟨some 48,.fa 5 (.t 6),some (47,false)⟩,
 ⟨some 49,.ld false 1 (.t 48),some (47,false)⟩,
 ⟨some 50,.fa 5 (.t 7),some (47,false)⟩,
 ⟨some 51,.ld false 1 (.t 50),some (47,false)⟩,
 ⟨some 52,.bin .neq (.t 49) (.t 51),some (47,false)⟩,
 zo 53 (.pick (.t 47) (.c (.b true)) (.t 52)),
 zo 54 (.mv (.t 53)),
 ⟨some 55,.fa 2 (.t 6),some (54,false)⟩,
 ⟨some 56,.ld false 1 (.t 55),some (54,false)⟩,
 ⟨some 57,.fa 2 (.t 7),some (54,false)⟩,
 ⟨some 58,.ld false 1 (.t 57),some (54,false)⟩,
 ⟨some 59,.call DW [.t 56,.t 58],some (54,false)⟩,
 ⟨some 60,.un .not (.t 59),some (54,false)⟩,
 zo 61 (.pick (.t 54) (.c (.b true)) (.t 60)),
 zo 62 (.mv (.t 61)),
 ⟨some 63,.fa 3 (.t 6),some (62,false)⟩,
 ⟨some 64,.ld false 1 (.t 63),some (62,false)⟩,
 ⟨some 65,.len 1 (.t 64),some (62,false)⟩,
 ⟨some 66,.fa 3 (.t 7),some (62,false)⟩,
 ⟨some 67,.ld false 1 (.t 66),some (62,false)⟩,
 ⟨some 68,.len 1 (.t 67),some (62,false)⟩,
 ⟨some 69,.bin .neq (.t 65) (.t 68),some (62,false)⟩,
 zo 70 (.pick (.t 62) (.c (.b true)) (.t 69))])
 (.cond (.t 70)
 (.seq (.reg [zo 4 (.mv (.c (.b false)))])
 .ret)
 .skip))
 (.seq (.reg [zo 8 (.mv (.c (.i .i64 0)))])
 (.blk 2 (.loop (.seq (.seq (.reg [zo 71 (.mv (.t 8)),
 zo 72 (.fa 3 (.t 6)),
 zo 73 (.ld false 1 (.t 72)),
 zo 74 (.len 1 (.t 73)),
 zo 75 (.bin .lss (.t 71) (.t 74))])
 (.cond (.t 75)
 .skip
 (.exit 2)))
 (.seq (.blk 3 (.seq (.regD [zo 78 (.fa 3 (.t 6)),
 zo 79 (.ld false 1 (.t 78)),
 zo 80 (.mv (.t 8)),
 zo 81 (.ia 1 (.t 79) (.t 80)),
 zo 82 (.ld false 1 (.t 81)),
 zo 83 (.fa 3 (.t 7)),
 zo 84 (.ld false 1 (.t 83)),
 zo 85 (.mv (.t 8)),
 zo 86 (.ia 1 (.t 84) (.t 85)),
 zo 87 (.ld false 1 (.t 86)),
 zo 88 (.bin .neq (.t 82) (.t 87))] [])
 (.cond (.t 88)
 (.seq (.reg [zo 4 (.mv (.c (.b false)))])
 .ret)
 .skip)))
 (.reg [zo 76 (.mv (.t 8)),
 zo 77 (.bin .add (.t 76) (.c (.i .i64 1))),
 zo 8 (.mv (.t 77))])))))))))
 (.reg [zo 18 (.mv (.t 5)),
 zo 19 (.bin .add (.t 18) (.c (.i .i64 1))),
 zo 5 (.mv (.t 19))]))))))
 (.seq (.reg [zo 4 (.mv (.c (.b true)))])
 .ret)))) }
def BM:Fun:={ cin:=[(.sl 6 (.agg [.id,.id,.sl 1 .id,.sl 1 .id,.id,.id]))],cout:=[],ntmps:=49,keep:=false,res:=[],body :=
 (.seq (.reg [zo 2 (.mv (.c (.i .i64 0)))])
 (.blk 0 (.loop (.seq (.seq (.reg [zo 5 (.mv (.t 2)),
 zo 6 (.mv (.t 0)),
 zo 7 (.len 1 (.t 6)),
 zo 8 (.bin .lss (.t 5) (.t 7))])
 (.cond (.t 8)
 .skip
 (.exit 0)))
 (.seq (.blk 1 (.seq (.seq (.reg [zo 3 (.mv (.c (.i .i64 0)))])
 (.blk 2 (.loop (.seq (.seq (.seq (.thw 0)
 (.reg [zo 11 (.mv (.t 3)),
 zo 12 (.mv (.t 0)),
 zo 13 (.mv (.t 2)),
 zo 14 (.ia 6 (.t 12) (.t 13)),
 zo 15 (.fa 2 (.t 14)),
 zo 16 (.ld false 1 (.t 15)),
 zo 17 (.len 1 (.t 16)),
 zo 18 (.bin .lss (.t 11) (.t 17))]))
 (.cond (.t 18)
 .skip
 (.exit 2)))
 (.seq (.blk 3 (.seq (.thw 0)
 (.reg [zo 21 (.mv (.t 0)),
 zo 22 (.mv (.t 2)),
 zo 23 (.ia 6 (.t 21) (.t 22)),
 zo 24 (.fa 2 (.t 23)),
 zo 25 (.ld false 1 (.t 24)),
 zo 26 (.mv (.t 3)),
 zo 27 (.ia 1 (.t 25) (.t 26)),
 ⟨none,.st 1 (.t 27) (.c (.s [115,112,111,105,108,116])),none⟩])))
 (.reg [zo 19 (.mv (.t 3)),
 zo 20 (.bin .add (.t 19) (.c (.i .i64 1))),
 zo 3 (.mv (.t 20))]))))))
 (.seq (.seq (.reg [zo 4 (.mv (.c (.i .i64 0)))])
 (.blk 4 (.loop (.seq (.seq (.seq (.thw 0)
 (.reg [zo 28 (.mv (.t 4)),
 zo 29 (.mv (.t 0)),
 zo 30 (.mv (.t 2)),
 zo 31 (.ia 6 (.t 29) (.t 30)),
 zo 32 (.fa 3 (.t 31)),
 zo 33 (.ld false 1 (.t 32)),
 zo 34 (.len 1 (.t 33)),
 zo 35 (.bin .lss (.t 28) (.t 34))]))
 (.cond (.t 35)
 .skip
 (.exit 4)))
 (.seq (.blk 5 (.seq (.thw 0)
 (.reg [zo 38 (.mv (.t 0)),
 zo 39 (.mv (.t 2)),
 zo 40 (.ia 6 (.t 38) (.t 39)),
 zo 41 (.fa 3 (.t 40)),
 zo 42 (.ld false 1 (.t 41)),
 zo 43 (.mv (.t 4)),
 zo 44 (.ia 1 (.t 42) (.t 43)),
 ⟨none,.st 1 (.t 44) (.c (.i .i64 (-7))),none⟩])))
 (.reg [zo 36 (.mv (.t 4)),
 zo 37 (.bin .add (.t 36) (.c (.i .i64 1))),
 zo 4 (.mv (.t 37))]))))))
 (.seq (.thw 0)
 (.reg [zo 45 (.mv (.t 0)),
 zo 46 (.mv (.t 2)),
 zo 47 (.ia 6 (.t 45) (.t 46)),
 zo 48 (.fa 4 (.t 47)),
 ⟨none,.st 1 (.t 48) (.c (.i .i64 9)),none⟩])))))
 (.reg [zo 9 (.mv (.t 2)),
 zo 10 (.bin .add (.t 9) (.c (.i .i64 1))),
 zo 2 (.mv (.t 10))])))))) }
def JT:Fun:={ cin:=[(.sl 6 (.agg [.id,.id,.sl 1 .id,.sl 1 .id,.id,.id])),(.sl 2 (.agg [.id,.id])),(.sl 1 .id),.id],cout:=[(.sl 6 (.agg [.id,.id,.sl 1 .id,.sl 1 .id,.id,.id])),.id],ntmps:=70,keep:=false,res:=[(8,none),(9,none)],body :=
 (.seq (.reg [zo 8 (.mv (.c .nsl)),
 zo 9 (.mv (.c (.i .i64 0)))])
 (.seq (.reg [zo 15 (.mv (.t 0)),
 zo 16 (.call Af [.t 15]),
 zo 10 (.mv (.t 16))])
 (.seq (.seq (.reg [zo 17 (.mv (.t 1)),
 zo 18 (.len 1 (.t 17)),
 zo 19 (.mv (.c (.i .i64 0)))])
 (.blk 0 (.loop (.seq (.reg [zo 20 (.bin .lss (.t 19) (.t 18))])
 (.seq (.cond (.t 20)
 .skip
 (.exit 0))
 (.seq (.blk 1 (.seq (.reg [zo 21 (.mv (.t 19)),
 zo 22 (.ia 2 (.t 17) (.t 19)),
 zo 23 (.ld true 2 (.t 22)),
 zo 12 (.alloc 30 [.i .i64 0,.b false]),
 zo 11 (.mv (.t 21)),
 ⟨none,.st 2 (.t 12) (.t 23),none⟩])
 (.seq (.reg [zo 25 (.mv (.t 10)),
 zo 26 (.ld true 2 (.t 12)),
 zo 27 (.mv (.t 3)),
 zo 28 (.call C3 [.t 25,.t 26,.t 27]),
 zo 24 (.mv (.t 28)),
 zo 29 (.ext (.t 24) 0),
 zo 30 (.ext (.t 24) 1),
 zo 13 (.mv (.t 29)),
 zo 14 (.mv (.t 30))])
 (.seq (.blk 2 (.seq (.reg [zo 32 (.mv (.t 14)),
 zo 33 (.bin .neq (.t 32) (.c (.i .i64 0))),
 zo 31 (.mv (.t 33))])
 (.cond (.t 31)
 (.seq (.reg [zo 34 (.mv (.t 14)),
 zo 8 (.mv (.c .nsl)),
 zo 9 (.mv (.t 34))])
 .ret)
 (.seq (.reg [zo 36 (.mv (.t 11)),
 zo 37 (.mv (.t 2)),
 zo 38 (.len 1 (.t 37)),
 zo 39 (.bin .geq (.t 36) (.t 38)),
 zo 40 (.mv (.t 39)),
 ⟨some 41,.mv (.t 2),some (40,false)⟩,
 ⟨some 42,.mv (.t 11),some (40,false)⟩,
 ⟨some 43,.ia 1 (.t 41) (.t 42),some (40,false)⟩,
 ⟨some 44,.ld false 1 (.t 43),some (40,false)⟩,
 ⟨some 45,.bin .lss (.t 44) (.c (.i .i64 0)),some (40,false)⟩,
 zo 46 (.pick (.t 40) (.c (.b true)) (.t 45)),
 zo 47 (.mv (.t 46)),
 ⟨some 48,.mv (.t 2),some (47,false)⟩,
 ⟨some 49,.mv (.t 11),some (47,false)⟩,
 ⟨some 50,.ia 1 (.t 48) (.t 49),some (47,false)⟩,
 ⟨some 51,.ld false 1 (.t 50),some (47,false)⟩,
 ⟨some 52,.mv (.t 13),some (47,false)⟩,
 ⟨some 53,.len 1 (.t 52),some (47,false)⟩,
 ⟨some 54,.bin .geq (.t 51) (.t 53),some (47,false)⟩,
 zo 55 (.pick (.t 47) (.c (.b true)) (.t 54)),
 zo 35 (.mv (.t 55))])
 (.cond (.t 35)
 (.seq (.reg [zo 8 (.mv (.c .nsl)),
 zo 9 (.mv (.c (.i .i64 1)))])
 .ret)
 .skip)))))
 (.reg [zo 56 (.mv (.t 13)),
 zo 57 (.mv (.t 2)),
 zo 58 (.mv (.t 11)),
 zo 59 (.ia 1 (.t 57) (.t 58)),
 zo 60 (.ld false 1 (.t 59)),
 zo 61 (.ia 1 (.t 56) (.t 60)),
 zo 62 (.ld false 1 (.t 61)),
 zo 10 (.mv (.t 62))])))))
 (.reg [zo 63 (.bin .add (.t 19) (.c (.i .i64 1))),
 zo 19 (.mv (.t 63))])))))))
 (.seq (.seq (.reg [zo 64 (.mv (.t 2)),
 zo 65 (.len 1 (.t 64)),
 zo 66 (.mv (.t 1)),
 zo 67 (.len 1 (.t 66)),
 zo 68 (.bin .gtr (.t 65) (.t 67))])
 (.cond (.t 68)
 (.seq (.reg [zo 8 (.mv (.c .nsl)),
 zo 9 (.mv (.c (.i .i64 1)))])
 .ret)
 .skip))
 (.seq (.reg [zo 69 (.mv (.t 10)),
 zo 8 (.mv (.t 69)),
 zo 9 (.mv (.c (.i .i64 0)))])
 .ret))))) }
def EP:Fun:={ cin:=[(.sl 6 (.agg [.id,.id,.sl 1 .id,.sl 1 .id,.id,.id]))],cout:=[.id],ntmps:=59,keep:=false,res:=[(2,none)],body :=
 (.seq (.reg [zo 2 (.mv (.c (.b false)))])
 (.seq (.seq (.reg [zo 8 (.mv (.t 0)),
 zo 9 (.len 1 (.t 8)),
 zo 10 (.bin .eql (.t 9) (.c (.i .i64 0))),
 zo 11 (.mv (.t 10)),
 ⟨some 12,.mv (.t 0),some (11,false)⟩,
 ⟨some 13,.ia 6 (.t 12) (.c (.i .i64 0)),some (11,false)⟩,
 ⟨some 14,.ld true 6 (.t 13),some (11,false)⟩,
 ⟨some 15,.call JS [.t 14],some (11,false)⟩,
 ⟨some 16,.un .not (.t 15),some (11,false)⟩,
 zo 17 (.pick (.t 11) (.c (.b true)) (.t 16))])
 (.cond (.t 17)
 (.seq (.reg [zo 2 (.mv (.c (.b false)))])
 .ret)
 .skip))
 (.seq (.reg [zo 18 (.mv (.t 0)),
 zo 19 (.len 1 (.t 18)),
 zo 20 (.mks 3 1 [.i .i64 0] (.t 19) (.t 19)),
 zo 3 (.mv (.t 20))])
 (.seq (.seq (.reg [zo 21 (.mv (.t 0)),
 zo 22 (.len 1 (.t 21)),
 zo 23 (.mv (.c (.i .i64 0)))])
 (.blk 0 (.loop (.seq (.reg [zo 24 (.bin .lss (.t 23) (.t 22))])
 (.seq (.cond (.t 24)
 .skip
 (.exit 0))
 (.seq (.blk 1 (.seq (.reg [zo 25 (.mv (.t 23)),
 zo 26 (.ia 6 (.t 21) (.t 23)),
 zo 27 (.ld true 6 (.t 26)),
 zo 5 (.alloc 60 [.b false,.i .u8 0,.nsl,.nsl,.i .i64 0,.i .i64 0]),
 zo 4 (.mv (.t 25)),
 ⟨none,.st 6 (.t 5) (.t 27),none⟩])
 (.seq (.seq (.reg [zo 28 (.ld true 6 (.t 5)),
 zo 29 (.call L7 [.t 28]),
 zo 30 (.un .not (.t 29))])
 (.cond (.t 30)
 (.seq (.reg [zo 2 (.mv (.c (.b false)))])
 .ret)
 .skip))
 (.seq (.reg [zo 31 (.fa 3 (.t 5)),
 zo 32 (.ld false 1 (.t 31)),
 zo 33 (.len 1 (.t 32)),
 zo 34 (.mv (.c (.i .i64 0)))])
 (.blk 2 (.loop (.seq (.reg [zo 35 (.bin .lss (.t 34) (.t 33))])
 (.seq (.cond (.t 35)
 .skip
 (.exit 2))
 (.seq (.blk 3 (.seq (.reg [zo 36 (.ia 1 (.t 32) (.t 34)),
 zo 37 (.ld false 1 (.t 36)),
 zo 7 (.mv (.t 37))])
 (.seq (.seq (.reg [zo 38 (.mv (.t 7)),
 zo 39 (.mv (.t 4)),
 zo 40 (.bin .leq (.t 38) (.t 39)),
 zo 41 (.mv (.t 40)),
 ⟨some 42,.mv (.t 7),some (41,false)⟩,
 ⟨some 43,.mv (.t 0),some (41,false)⟩,
 ⟨some 44,.len 1 (.t 43),some (41,false)⟩,
 ⟨some 45,.bin .geq (.t 42) (.t 44),some (41,false)⟩,
 zo 46 (.pick (.t 41) (.c (.b true)) (.t 45))])
 (.cond (.t 46)
 (.seq (.reg [zo 2 (.mv (.c (.b false)))])
 .ret)
 .skip))
 (.seq (.thw 3)
 (.reg [zo 47 (.mv (.t 3)),
 zo 48 (.mv (.t 7)),
 zo 49 (.ia 1 (.t 47) (.t 48)),
 zo 50 (.ld false 1 (.t 49)),
 zo 51 (.bin .add (.t 50) (.c (.i .i64 1))),
 zo 52 (.ia 1 (.t 47) (.t 48)),
 ⟨none,.st 1 (.t 52) (.t 51),none⟩])))))
 (.reg [zo 53 (.bin .add (.t 34) (.c (.i .i64 1))),
 zo 34 (.mv (.t 53))]))))))))))
 (.reg [zo 54 (.bin .add (.t 23) (.c (.i .i64 1))),
 zo 23 (.mv (.t 54))])))))))
 (.seq (.reg [zo 55 (.mv (.t 3)),
 zo 56 (.slc false 1 (.t 55) (some (.c (.i .i64 1))) none none),
 zo 57 (.call BO [(.t 56),(.c (.fn Gk []))]),
 zo 58 (.un .not (.t 57)),
 zo 2 (.mv (.t 58))])
 .ret))))) }
def AY:Fun:={ cin:=[(.agg [.id,.id]),.id],cout:=[.sl 1 .id],ntmps:=20,keep:=false,res:=[(4,none)],body :=
 (.seq (.reg [zo 2 (.box 30 2 (.t 0)),
 zo 4 (.mv (.c .nsl))])
 (.seq (.seq (.reg [zo 7 (.fa 1 (.t 2)),
 zo 8 (.ld false 1 (.t 7))])
 (.cond (.t 8)
 (.seq (.reg [zo 9 (.mkf A3 [.t 2]),
 zo 10 (.mkf A4 [.t 2]),
 zo 11 (.bsl 1 [.t 9,.t 10]),
 zo 4 (.mv (.t 11))])
 .ret)
 .skip))
 (.seq (.reg [zo 5 (.alloc 62 [.nsl])])
 (.seq (.seq (.reg [zo 12 (.mv (.t 1)),
 zo 13 (.call Dc [.t 12])])
 (.blk 0 (.rf (.t 13) [14] (.reg [zo 6 (.alloc 5 [.i .u8 0]),
 ⟨none,.st 1 (.t 6) (.t 14),none⟩])
 (.blk 1 (.reg [zo 15 (.ld false 1 (.t 5)),
 zo 16 (.mkf AX [.t 2,.t 6]),
 zo 17 (.bsl 1 [.t 16]),
 zo 18 (.app 1 64 (.t 15) (.t 17)),
 ⟨none,.st 1 (.t 5) (.t 18),none⟩])))))
 (.seq (.reg [zo 19 (.ld false 1 (.t 5)),
 zo 4 (.mv (.t 19))])
 .ret))))) }
def Ar:Fun:={ cin:=[(.sl 6 (.agg [.id,.id,.sl 1 .id,.sl 1 .id,.id,.id])),.id],cout:=[(.sl 6 (.agg [.id,.id,.sl 1 .id,.sl 1 .id,.id,.id])),.id],ntmps:=30,keep:=false,res:=[(4,none),(5,none)],body :=
 (.seq (.reg [zo 4 (.mv (.c .nsl)),
 zo 5 (.mv (.c (.i .i64 0)))])
 (.seq (.reg [zo 8 (.mv (.t 0)),
 zo 9 (.mv (.t 1)),
 zo 10 (.call Aw [.t 8,.t 9]),
 zo 6 (.mv (.t 10))])
 (.seq (.seq (.reg [zo 11 (.mv (.t 6)),
 zo 12 (.bin .neq (.t 11) (.c (.i .i64 0)))])
 (.cond (.t 12)
 (.seq (.reg [zo 13 (.mv (.t 6)),
 zo 4 (.mv (.c .nsl)),
 zo 5 (.mv (.t 13))])
 .ret)
 .skip))
 (.seq (.reg [zo 14 (.mv (.t 0)),
 zo 15 (.mv (.t 1)),
 zo 16 (.ia 6 (.t 14) (.t 15)),
 zo 17 (.ld true 6 (.t 16)),
 zo 7 (.alloc 60 [.b false,.i .u8 0,.nsl,.nsl,.i .i64 0,.i .i64 0]),
 ⟨none,.st 6 (.t 7) (.t 17),none⟩])
 (.seq (.seq (.reg [zo 18 (.fa 4 (.t 7)),
 zo 19 (.ld false 1 (.t 18)),
 zo 20 (.bin .eql (.t 19) (.c (.i .i64 1)))])
 (.cond (.t 20)
 (.seq (.reg [zo 4 (.mv (.c .nsl)),
 zo 5 (.mv (.c (.i .i64 6)))])
 .ret)
 .skip))
 (.seq (.reg [zo 21 (.fa 4 (.t 7)),
 ⟨none,.st 1 (.t 21) (.c (.i .i64 2)),none⟩])
 (.seq (.reg [zo 22 (.fa 2 (.t 7)),
 zo 23 (.ld false 1 (.t 22)),
 zo 24 (.len 1 (.t 23)),
 zo 25 (.fa 5 (.t 7)),
 ⟨none,.st 1 (.t 25) (.t 24),none⟩])
 (.seq (.reg [zo 26 (.mv (.t 0)),
 zo 27 (.mv (.t 1)),
 zo 28 (.ld true 6 (.t 7)),
 zo 29 (.call BA [.t 26,.t 27,.t 28]),
 zo 4 (.mv (.t 29)),
 zo 5 (.mv (.c (.i .i64 0)))])
 .ret)))))))) }
def Ad:Fun:={ cin:=[(.sl 6 (.agg [.id,.id,.sl 1 .id,.sl 1 .id,.id,.id])),.id],cout:=[(.sl 6 (.agg [.id,.id,.sl 1 .id,.sl 1 .id,.id,.id])),.id],ntmps:=65,keep:=false,res:=[(4,none),(5,none)],body :=
 (.seq (.reg [zo 4 (.mv (.c .nsl)),
 zo 5 (.mv (.c (.i .i64 0)))])
 (.seq (.reg [zo 11 (.mv (.t 0)),
 zo 12 (.mv (.t 1)),
 zo 13 (.call Aw [.t 11,.t 12]),
 zo 6 (.mv (.t 13))])
 (.seq (.seq (.reg [zo 14 (.mv (.t 6)),
 zo 15 (.bin .neq (.t 14) (.c (.i .i64 0)))])
 (.cond (.t 15)
 (.seq (.reg [zo 16 (.mv (.t 6)),
 zo 4 (.mv (.c .nsl)),
 zo 5 (.mv (.t 16))])
 .ret)
 .skip))
 (.seq (.reg [zo 17 (.mv (.t 0)),
 zo 18 (.mv (.t 1)),
 zo 19 (.ia 6 (.t 17) (.t 18)),
 zo 20 (.ld true 6 (.t 19)),
 zo 7 (.alloc 60 [.b false,.i .u8 0,.nsl,.nsl,.i .i64 0,.i .i64 0]),
 ⟨none,.st 6 (.t 7) (.t 20),none⟩])
 (.seq (.seq (.reg [zo 21 (.fa 4 (.t 7)),
 zo 22 (.ld false 1 (.t 21)),
 zo 23 (.bin .eql (.t 22) (.c (.i .i64 1)))])
 (.cond (.t 23)
 (.seq (.reg [zo 4 (.mv (.c .nsl)),
 zo 5 (.mv (.c (.i .i64 6)))])
 .ret)
 .skip))
 (.seq (.seq (.reg [zo 24 (.fa 4 (.t 7)),
 zo 25 (.ld false 1 (.t 24)),
 zo 26 (.bin .eql (.t 25) (.c (.i .i64 2)))])
 (.cond (.t 26)
 (.seq (.reg [zo 8 (.mv (.c (.b false)))])
 (.seq (.reg [zo 27 (.ld true 6 (.t 7)),
 zo 28 (.call BW [.t 27]),
 zo 9 (.mv (.t 28))])
 (.seq (.seq (.reg [zo 10 (.mv (.c (.i .i64 0)))])
 (.blk 0 (.loop (.seq (.seq (.reg [zo 29 (.mv (.t 10)),
 zo 30 (.mv (.t 9)),
 zo 31 (.len 1 (.t 30)),
 zo 32 (.bin .lss (.t 29) (.t 31))])
 (.cond (.t 32)
 .skip
 (.exit 0)))
 (.seq (.blk 1 (.seq (.thw 0)
 (.reg [zo 35 (.mv (.t 8)),
 zo 36 (.mv (.t 35)),
 ⟨some 37,.mv (.t 0),some (36,false)⟩,
 ⟨some 38,.mv (.t 9),some (36,false)⟩,
 ⟨some 39,.mv (.t 10),some (36,false)⟩,
 ⟨some 40,.ia 1 (.t 38) (.t 39),some (36,false)⟩,
 ⟨some 41,.ld false 1 (.t 40),some (36,false)⟩,
 ⟨some 42,.ia 6 (.t 37) (.t 41),some (36,false)⟩,
 ⟨some 43,.fa 0 (.t 42),some (36,false)⟩,
 ⟨some 44,.ld false 1 (.t 43),some (36,false)⟩,
 ⟨some 45,.mv (.t 44),some (36,false)⟩,
 ⟨some 46,.mv (.t 0),some (45,true)⟩,
 ⟨some 47,.mv (.t 9),some (45,true)⟩,
 ⟨some 48,.mv (.t 10),some (45,true)⟩,
 ⟨some 49,.ia 1 (.t 47) (.t 48),some (45,true)⟩,
 ⟨some 50,.ld false 1 (.t 49),some (45,true)⟩,
 ⟨some 51,.ia 6 (.t 46) (.t 50),some (45,true)⟩,
 ⟨some 52,.fa 1 (.t 51),some (45,true)⟩,
 ⟨some 53,.ld false 1 (.t 52),some (45,true)⟩,
 ⟨some 54,.bin .neq (.t 53) (.c (.i .u8 0)),some (45,true)⟩,
 ⟨some 55,.pick (.t 45) (.t 54) (.c (.b false)),some (36,false)⟩,
 zo 56 (.pick (.t 36) (.c (.b true)) (.t 55)),
 zo 8 (.mv (.t 56))])))
 (.reg [zo 33 (.mv (.t 10)),
 zo 34 (.bin .add (.t 33) (.c (.i .i64 1))),
 zo 10 (.mv (.t 34))]))))))
 (.seq (.reg [zo 57 (.mv (.t 8)),
 zo 58 (.un .not (.t 57))])
 (.cond (.t 58)
 (.seq (.reg [zo 4 (.mv (.c .nsl)),
 zo 5 (.mv (.c (.i .i64 67)))])
 .ret)
 .skip)))))
 .skip))
 (.seq (.reg [zo 59 (.fa 4 (.t 7)),
 ⟨none,.st 1 (.t 59) (.c (.i .i64 1)),none⟩])
 (.seq (.reg [zo 60 (.fa 5 (.t 7)),
 ⟨none,.st 1 (.t 60) (.c (.i .i64 0)),none⟩])
 (.seq (.reg [zo 61 (.mv (.t 0)),
 zo 62 (.mv (.t 1)),
 zo 63 (.ld true 6 (.t 7)),
 zo 64 (.call BA [.t 61,.t 62,.t 63]),
 zo 4 (.mv (.t 64)),
 zo 5 (.mv (.c (.i .i64 0)))])
 .ret))))))))) }
def Al:Fun:={ cin:=[(.sl 6 (.agg [.id,.id,.sl 1 .id,.sl 1 .id,.id,.id])),.id,.id],cout:=[(.sl 6 (.agg [.id,.id,.sl 1 .id,.sl 1 .id,.id,.id])),.id],ntmps:=27,keep:=false,res:=[(6,none),(7,none)],body :=
 (.seq (.reg [zo 6 (.mv (.c .nsl)),
 zo 7 (.mv (.c (.i .i64 0)))])
 (.seq (.reg [zo 9 (.mv (.t 0)),
 zo 10 (.mv (.t 1)),
 zo 11 (.call Ao [.t 9,.t 10]),
 zo 8 (.mv (.t 11))])
 (.seq (.seq (.reg [zo 12 (.mv (.t 8)),
 zo 13 (.bin .neq (.t 12) (.c (.i .i64 0)))])
 (.cond (.t 13)
 (.seq (.reg [zo 14 (.mv (.t 8)),
 zo 6 (.mv (.c .nsl)),
 zo 7 (.mv (.t 14))])
 .ret)
 .skip))
 (.seq (.seq (.seq (.thw 0)
 (.reg [zo 15 (.mv (.t 0)),
 zo 16 (.mv (.t 1)),
 zo 17 (.ia 6 (.t 15) (.t 16)),
 zo 18 (.fa 0 (.t 17)),
 zo 19 (.ld false 1 (.t 18))]))
 (.cond (.t 19)
 (.seq (.reg [zo 6 (.mv (.c .nsl)),
 zo 7 (.mv (.c (.i .i64 6)))])
 .ret)
 .skip))
 (.seq (.seq (.reg [zo 20 (.mv (.t 2)),
 zo 21 (.bin .gtr (.t 20) (.c (.i .u8 3)))])
 (.cond (.t 21)
 (.seq (.reg [zo 6 (.mv (.c .nsl)),
 zo 7 (.mv (.c (.i .i64 1)))])
 .ret)
 .skip))
 (.seq (.reg [zo 22 (.mv (.t 0)),
 zo 23 (.mv (.t 1)),
 zo 24 (.mv (.t 2)),
 zo 25 (.build [.b false,.i .u8 0,.nsl,.nsl,.i .i64 0,.i .i64 0] [(0,1,(.c (.b true))),(1,1,(.t 24))]),
 zo 26 (.call BA [.t 22,.t 23,.t 25]),
 zo 6 (.mv (.t 26)),
 zo 7 (.mv (.c (.i .i64 0)))])
 .ret)))))) }
def B9:Fun:={ cin:=[.sl 1 .id,.sl 1 .id],cout:=[.id],ntmps:=15,keep:=false,res:=[(4,none)],body :=
 (.seq (.reg [zo 4 (.mv (.c (.b false)))])
 (.seq (.reg [zo 5 (.mv (.t 0)),
 zo 6 (.len 1 (.t 5)),
 zo 7 (.mv (.t 1)),
 zo 8 (.len 1 (.t 7)),
 zo 9 (.bin .eql (.t 6) (.t 8)),
 zo 10 (.mv (.t 9)),
 ⟨some 11,.mv (.t 0),some (10,true)⟩,
 ⟨some 12,.mv (.t 1),some (10,true)⟩,
 ⟨some 13,.call DH [.t 11,.t 12],some (10,true)⟩,
 zo 14 (.pick (.t 10) (.t 13) (.c (.b false))),
 zo 4 (.mv (.t 14))])
 .ret)) }
def AM:Fun:={ cin:=[(.sl 6 (.agg [.id,.id,.sl 1 .id,.sl 1 .id,.id,.id]))],cout:=[],ntmps:=8,keep:=true,res:=[(2,none)],body :=
 (.seq (.reg [zo 2 (.mv (.c .nsl))])
 (.seq (.seq (.reg [zo 3 (.mv (.t 0)),
 zo 4 (.eq .sl false (.t 3) (.c .nsl))])
 (.cond (.t 4)
 (.seq (.reg [zo 2 (.mv (.c .nsl))])
 .ret)
 .skip))
 (.seq (.reg [zo 5 (.bsl 6 []),
 zo 6 (.mv (.t 0)),
 zo 7 (.app 6 60 (.t 5) (.t 6)),
 zo 2 (.mv (.t 7))])
 .ret))) }
def BI:Fun:={ cin:=[(.sl 6 (.agg [.id,.id,.sl 1 .id,.sl 1 .id,.id,.id]))],cout:=[.id],ntmps:=58,keep:=false,res:=[(2,none)],body :=
 (.seq (.reg [zo 2 (.mv (.c (.b false)))])
 (.seq (.seq (.reg [zo 7 (.mv (.t 0)),
 zo 8 (.len 1 (.t 7)),
 zo 9 (.bin .eql (.t 8) (.c (.i .i64 0))),
 zo 10 (.mv (.t 9)),
 ⟨some 11,.mv (.t 0),some (10,false)⟩,
 ⟨some 12,.ia 6 (.t 11) (.c (.i .i64 0)),some (10,false)⟩,
 ⟨some 13,.ld true 6 (.t 12),some (10,false)⟩,
 ⟨some 14,.call Cv [.t 13],some (10,false)⟩,
 ⟨some 15,.un .not (.t 14),some (10,false)⟩,
 zo 16 (.pick (.t 10) (.c (.b true)) (.t 15))])
 (.cond (.t 16)
 (.seq (.reg [zo 2 (.mv (.c (.b false)))])
 .ret)
 .skip))
 (.seq (.reg [zo 3 (.mv (.c (.i .i64 0)))])
 (.seq (.seq (.reg [zo 4 (.mv (.c (.i .i64 0)))])
 (.blk 0 (.loop (.seq (.seq (.reg [zo 17 (.mv (.t 4)),
 zo 18 (.mv (.t 0)),
 zo 19 (.len 1 (.t 18)),
 zo 20 (.bin .lss (.t 17) (.t 19))])
 (.cond (.t 20)
 .skip
 (.exit 0)))
 (.seq (.blk 1 (.seq (.seq (.reg [zo 23 (.mv (.t 0)),
 zo 24 (.mv (.t 4)),
 zo 25 (.ia 6 (.t 23) (.t 24)),
 zo 26 (.ld true 6 (.t 25)),
 zo 27 (.call Dd [.t 26]),
 zo 28 (.un .not (.t 27))])
 (.cond (.t 28)
 (.seq (.reg [zo 2 (.mv (.c (.b false)))])
 .ret)
 .skip))
 (.seq (.thw 0)
 (.reg [zo 29 (.mv (.t 3)),
 zo 30 (.mv (.t 0)),
 zo 31 (.mv (.t 4)),
 zo 32 (.ia 6 (.t 30) (.t 31)),
 zo 33 (.fa 3 (.t 32)),
 zo 34 (.ld false 1 (.t 33)),
 zo 35 (.len 1 (.t 34)),
 zo 36 (.bin .add (.t 29) (.t 35)),
 zo 3 (.mv (.t 36))]))))
 (.reg [zo 21 (.mv (.t 4)),
 zo 22 (.bin .add (.t 21) (.c (.i .i64 1))),
 zo 4 (.mv (.t 22))]))))))
 (.seq (.seq (.reg [zo 37 (.mv (.t 3)),
 zo 38 (.mv (.t 0)),
 zo 39 (.len 1 (.t 38)),
 zo 40 (.bin .sub (.t 39) (.c (.i .i64 1))),
 zo 41 (.bin .neq (.t 37) (.t 40))])
 (.cond (.t 41)
 (.seq (.reg [zo 2 (.mv (.c (.b false)))])
 .ret)
 .skip))
 (.seq (.seq (.reg [zo 5 (.mv (.c (.i .i64 1)))])
 (.blk 2 (.loop (.seq (.seq (.reg [zo 42 (.mv (.t 5)),
 zo 43 (.mv (.t 0)),
 zo 44 (.len 1 (.t 43)),
 zo 45 (.bin .lss (.t 42) (.t 44))])
 (.cond (.t 45)
 .skip
 (.exit 2)))
 (.seq (.blk 3 (.seq (.reg [zo 48 (.mv (.t 0)),
 zo 49 (.mv (.t 5)),
 zo 50 (.call DI [.t 48,.t 49]),
 zo 6 (.mv (.t 50))])
 (.seq (.reg [zo 51 (.mv (.t 6)),
 zo 52 (.bin .lss (.t 51) (.c (.i .i64 0))),
 zo 53 (.mv (.t 52)),
 ⟨some 54,.mv (.t 6),some (53,false)⟩,
 ⟨some 55,.mv (.t 5),some (53,false)⟩,
 ⟨some 56,.bin .geq (.t 54) (.t 55),some (53,false)⟩,
 zo 57 (.pick (.t 53) (.c (.b true)) (.t 56))])
 (.cond (.t 57)
 (.seq (.reg [zo 2 (.mv (.c (.b false)))])
 .ret)
 .skip))))
 (.reg [zo 46 (.mv (.t 5)),
 zo 47 (.bin .add (.t 46) (.c (.i .i64 1))),
 zo 5 (.mv (.t 47))]))))))
 (.seq (.reg [zo 2 (.mv (.c (.b true)))])
 .ret))))))) }
def Ey:Fun:={ cin:=[(.agg [.id,.id,.sl 1 .id,.sl 1 .id,.id,.id])],cout:=[.id],ntmps:=10,keep:=false,res:=[(2,none)],body :=
 (.seq (.reg [zo 1 (.box 60 6 (.t 0)),
 zo 2 (.mv (.c (.b false)))])
 (.seq (.reg [zo 3 (.fa 0 (.t 1)),
 zo 4 (.ld false 1 (.t 3)),
 zo 5 (.mv (.t 4)),
 ⟨some 6,.fa 1 (.t 1),some (5,true)⟩,
 ⟨some 7,.ld false 1 (.t 6),some (5,true)⟩,
 ⟨some 8,.bin .eql (.t 7) (.c (.i .u8 2)),some (5,true)⟩,
 zo 9 (.pick (.t 5) (.t 8) (.c (.b false))),
 zo 2 (.mv (.t 9))])
 .ret)) }
def Cx:Fun:={ cin:=[(.agg [.id,.id,.sl 1 .id,.sl 1 .id,.id,.id])],cout:=[.id],ntmps:=99,keep:=false,res:=[(2,none)],body :=
 (.seq (.reg [zo 1 (.box 60 6 (.t 0)),
 zo 2 (.mv (.c (.b false)))])
 (.seq (.blk 0 (.seq (.reg [zo 6 (.fa 1 (.t 1)),
 zo 7 (.ld false 1 (.t 6)),
 zo 8 (.bin .gtr (.t 7) (.c (.i .u8 3))),
 zo 9 (.mv (.t 8)),
 ⟨some 10,.fa 0 (.t 1),some (9,false)⟩,
 ⟨some 11,.ld false 1 (.t 10),some (9,false)⟩,
 ⟨some 12,.un .not (.t 11),some (9,false)⟩,
 ⟨some 13,.mv (.t 12),some (9,false)⟩,
 ⟨some 14,.fa 1 (.t 1),some (13,true)⟩,
 ⟨some 15,.ld false 1 (.t 14),some (13,true)⟩,
 ⟨some 16,.bin .neq (.t 15) (.c (.i .u8 0)),some (13,true)⟩,
 ⟨some 17,.pick (.t 13) (.t 16) (.c (.b false)),some (9,false)⟩,
 zo 18 (.pick (.t 9) (.c (.b true)) (.t 17)),
 zo 19 (.mv (.t 18)),
 ⟨some 20,.fa 2 (.t 1),some (19,false)⟩,
 ⟨some 21,.ld false 1 (.t 20),some (19,false)⟩,
 ⟨some 22,.len 1 (.t 21),some (19,false)⟩,
 ⟨some 23,.fa 3 (.t 1),some (19,false)⟩,
 ⟨some 24,.ld false 1 (.t 23),some (19,false)⟩,
 ⟨some 25,.len 1 (.t 24),some (19,false)⟩,
 ⟨some 26,.bin .neq (.t 22) (.t 25),some (19,false)⟩,
 zo 27 (.pick (.t 19) (.c (.b true)) (.t 26)),
 zo 5 (.mv (.t 27))])
 (.cond (.t 5)
 (.seq (.reg [zo 2 (.mv (.c (.b false)))])
 .ret)
 (.seq (.reg [zo 29 (.ld true 6 (.t 1)),
 zo 30 (.call JS [.t 29]),
 zo 31 (.un .not (.t 30)),
 zo 28 (.mv (.t 31))])
 (.cond (.t 28)
 (.seq (.reg [zo 32 (.fa 2 (.t 1)),
 zo 33 (.ld false 1 (.t 32)),
 zo 34 (.len 1 (.t 33)),
 zo 35 (.bin .eql (.t 34) (.c (.i .i64 0))),
 zo 36 (.mv (.t 35)),
 ⟨some 37,.fa 4 (.t 1),some (36,true)⟩,
 ⟨some 38,.ld false 1 (.t 37),some (36,true)⟩,
 ⟨some 39,.bin .eql (.t 38) (.c (.i .i64 0)),some (36,true)⟩,
 zo 40 (.pick (.t 36) (.t 39) (.c (.b false))),
 zo 41 (.mv (.t 40)),
 ⟨some 42,.fa 5 (.t 1),some (41,true)⟩,
 ⟨some 43,.ld false 1 (.t 42),some (41,true)⟩,
 ⟨some 44,.bin .eql (.t 43) (.c (.i .i64 0)),some (41,true)⟩,
 zo 45 (.pick (.t 41) (.t 44) (.c (.b false))),
 zo 2 (.mv (.t 45))])
 .ret)
 .skip)))))
 (.seq (.seq (.reg [zo 46 (.fa 2 (.t 1)),
 zo 47 (.ld false 1 (.t 46)),
 zo 48 (.len 1 (.t 47)),
 zo 49 (.mv (.c (.i .i64 0)))])
 (.blk 1 (.loop (.seq (.reg [zo 50 (.bin .lss (.t 49) (.t 48))])
 (.seq (.cond (.t 50)
 .skip
 (.exit 1))
 (.seq (.blk 2 (.seq (.reg [zo 51 (.mv (.t 49)),
 zo 52 (.ia 1 (.t 47) (.t 49)),
 zo 53 (.ld false 1 (.t 52)),
 zo 3 (.mv (.t 51)),
 zo 4 (.mv (.t 53))])
 (.seq (.reg [zo 54 (.mv (.t 4)),
 zo 55 (.call Is [.t 54]),
 zo 56 (.un .not (.t 55)),
 zo 57 (.mv (.t 56)),
 ⟨some 58,.mv (.t 3),some (57,false)⟩,
 ⟨some 59,.bin .gtr (.t 58) (.c (.i .i64 0)),some (57,false)⟩,
 ⟨some 60,.mv (.t 59),some (57,false)⟩,
 ⟨some 61,.mv (.t 4),some (60,true)⟩,
 ⟨some 62,.fa 2 (.t 1),some (60,true)⟩,
 ⟨some 63,.ld false 1 (.t 62),some (60,true)⟩,
 ⟨some 64,.mv (.t 3),some (60,true)⟩,
 ⟨some 65,.bin .sub (.t 64) (.c (.i .i64 1)),some (60,true)⟩,
 ⟨some 66,.ia 1 (.t 63) (.t 65),some (60,true)⟩,
 ⟨some 67,.ld false 1 (.t 66),some (60,true)⟩,
 ⟨some 68,.bin .leq (.t 61) (.t 67),some (60,true)⟩,
 ⟨some 69,.pick (.t 60) (.t 68) (.c (.b false)),some (57,false)⟩,
 zo 70 (.pick (.t 57) (.c (.b true)) (.t 69))])
 (.cond (.t 70)
 (.seq (.reg [zo 2 (.mv (.c (.b false)))])
 .ret)
 .skip))))
 (.reg [zo 71 (.bin .add (.t 49) (.c (.i .i64 1))),
 zo 49 (.mv (.t 71))])))))))
 (.seq (.seq (.reg [zo 72 (.fa 4 (.t 1)),
 zo 73 (.ld false 1 (.t 72)),
 zo 74 (.bin .eql (.t 73) (.c (.i .i64 2)))])
 (.cond (.t 74)
 (.seq (.reg [zo 75 (.fa 5 (.t 1)),
 zo 76 (.ld false 1 (.t 75)),
 zo 77 (.bin .geq (.t 76) (.c (.i .i64 0))),
 zo 78 (.mv (.t 77)),
 ⟨some 79,.fa 5 (.t 1),some (78,true)⟩,
 ⟨some 80,.ld false 1 (.t 79),some (78,true)⟩,
 ⟨some 81,.fa 2 (.t 1),some (78,true)⟩,
 ⟨some 82,.ld false 1 (.t 81),some (78,true)⟩,
 ⟨some 83,.len 1 (.t 82),some (78,true)⟩,
 ⟨some 84,.bin .leq (.t 80) (.t 83),some (78,true)⟩,
 zo 85 (.pick (.t 78) (.t 84) (.c (.b false))),
 zo 2 (.mv (.t 85))])
 .ret)
 .skip))
 (.seq (.reg [zo 86 (.fa 4 (.t 1)),
 zo 87 (.ld false 1 (.t 86)),
 zo 88 (.bin .eql (.t 87) (.c (.i .i64 0))),
 zo 89 (.mv (.t 88)),
 ⟨some 90,.fa 4 (.t 1),some (89,false)⟩,
 ⟨some 91,.ld false 1 (.t 90),some (89,false)⟩,
 ⟨some 92,.bin .eql (.t 91) (.c (.i .i64 1)),some (89,false)⟩,
 zo 93 (.pick (.t 89) (.c (.b true)) (.t 92)),
 zo 94 (.mv (.t 93)),
 ⟨some 95,.fa 5 (.t 1),some (94,true)⟩,
 ⟨some 96,.ld false 1 (.t 95),some (94,true)⟩,
 ⟨some 97,.bin .eql (.t 96) (.c (.i .i64 0)),some (94,true)⟩,
 zo 98 (.pick (.t 94) (.t 97) (.c (.b false))),
 zo 2 (.mv (.t 98))])
 .ret))))) }
def AN:Fun:={ cin:=[.sl 1 .id,.id],cout:=[.id],ntmps:=9,keep:=false,res:=[(4,none)],body :=
 (.seq (.reg [zo 4 (.mv (.c (.b false)))])
 (.seq (.reg [zo 5 (.mv (.t 0)),
 zo 6 (.mv (.t 1)),
 zo 7 (.call B7 [.t 5,.t 6]),
 zo 8 (.bin .geq (.t 7) (.c (.i .i64 0))),
 zo 4 (.mv (.t 8))])
 .ret)) }
def FZ:Fun:={ cin:=[.id],cout:=[.id],ntmps:=5,keep:=false,res:=[(2,none)],body :=
 (.seq (.reg [zo 2 (.mv (.c (.b false)))])
 (.seq (.reg [zo 3 (.mv (.t 0)),
 zo 4 (.bin .neq (.t 3) (.c (.i .i64 1))),
 zo 2 (.mv (.t 4))])
 .ret)) }
def BD:Fun:={ cin:=[(.sl 6 (.agg [.id,.id,.sl 1 .id,.sl 1 .id,.id,.id]))],cout:=[],ntmps:=11,keep:=true,res:=[(3,none),(4,none)],body :=
 (.seq (.reg [zo 3 (.mv (.c .nsl)),
 zo 4 (.mv (.c (.i .i64 0)))])
 (.seq (.reg [zo 5 (.mv (.t 0)),
 zo 6 (.fa 0 (.t 1)),
 zo 7 (.ld false 1 (.t 6)),
 zo 8 (.call Dp [.t 5,.t 7]),
 zo 9 (.ext (.t 8) 0),
 zo 10 (.ext (.t 8) 1),
 zo 3 (.mv (.t 9)),
 zo 4 (.mv (.t 10))])
 .ret)) }
def Cc:Fun:={ cin:=[(.sl 6 (.agg [.id,.id,.sl 1 .id,.sl 1 .id,.id,.id])),.id],cout:=[],ntmps:=12,keep:=true,res:=[(4,none),(5,none)],body :=
 (.seq (.reg [zo 2 (.box 22 1 (.t 0)),
 zo 4 (.mv (.c .nsl)),
 zo 5 (.mv (.c (.i .i64 0)))])
 (.seq (.reg [zo 6 (.ld false 1 (.t 2)),
 zo 7 (.mv (.t 1)),
 zo 8 (.mkf CM [.t 2]),
 zo 9 (.call Ce [(.t 6),(.t 7),(.t 8),(.c (.fn CN []))]),
 zo 10 (.ext (.t 9) 0),
 zo 11 (.ext (.t 9) 1),
 zo 4 (.mv (.t 10)),
 zo 5 (.mv (.t 11))])
 .ret)) }
def BE:Fun:={ cin:=[(.sl 6 (.agg [.id,.id,.sl 1 .id,.sl 1 .id,.id,.id]))],cout:=[],ntmps:=11,keep:=true,res:=[(3,none),(4,none)],body :=
 (.seq (.reg [zo 3 (.mv (.c .nsl)),
 zo 4 (.mv (.c (.i .i64 0)))])
 (.seq (.reg [zo 5 (.mv (.t 0)),
 zo 6 (.fa 0 (.t 1)),
 zo 7 (.ld false 1 (.t 6)),
 zo 8 (.call D9 [.t 5,.t 7]),
 zo 9 (.ext (.t 8) 0),
 zo 10 (.ext (.t 8) 1),
 zo 3 (.mv (.t 9)),
 zo 4 (.mv (.t 10))])
 .ret)) }
def Cy:Fun:={ cin:=[(.sl 6 (.agg [.id,.id,.sl 1 .id,.sl 1 .id,.id,.id])),.id],cout:=[],ntmps:=11,keep:=true,res:=[(4,none),(5,none)],body :=
 (.seq (.reg [zo 4 (.mv (.c .nsl)),
 zo 5 (.mv (.c (.i .i64 0)))])
 (.seq (.reg [zo 6 (.mv (.t 0)),
 zo 7 (.mv (.t 1)),
 zo 8 (.call Ce [(.t 6),(.t 7),(.c (.fn Cf [])),(.c (.fn Cg []))]),
 zo 9 (.ext (.t 8) 0),
 zo 10 (.ext (.t 8) 1),
 zo 4 (.mv (.t 9)),
 zo 5 (.mv (.t 10))])
 .ret)) }
def Cz:Fun:={ cin:=[.id],cout:=[.id],ntmps:=4,keep:=false,res:=[(2,none)],body :=
 (.seq (.reg [zo 1 (.box 4 1 (.t 0)),
 zo 2 (.mv (.c .nf))])
 (.seq (.reg [zo 3 (.mkf Bt [.t 1]),
 zo 2 (.mv (.t 3))])
 .ret)) }
def BF:Fun:={ cin:=[(.sl 6 (.agg [.id,.id,.sl 1 .id,.sl 1 .id,.id,.id]))],cout:=[],ntmps:=13,keep:=true,res:=[(4,none),(5,none)],body :=
 (.seq (.reg [zo 4 (.mv (.c .nsl)),
 zo 5 (.mv (.c (.i .i64 0)))])
 (.seq (.reg [zo 6 (.mv (.t 0)),
 zo 7 (.fa 0 (.t 1)),
 zo 8 (.ld false 1 (.t 7)),
 zo 9 (.ld false 1 (.t 2)),
 zo 10 (.call EA [.t 6,.t 8,.t 9]),
 zo 11 (.ext (.t 10) 0),
 zo 12 (.ext (.t 10) 1),
 zo 4 (.mv (.t 11)),
 zo 5 (.mv (.t 12))])
 .ret)) }
def C1:Fun:={ cin:=[(.sl 6 (.agg [.id,.id,.sl 1 .id,.sl 1 .id,.id,.id])),.id,.id],cout:=[],ntmps:=15,keep:=true,res:=[(6,none),(7,none)],body :=
 (.seq (.reg [zo 5 (.box 5 1 (.t 2)),
 zo 6 (.mv (.c .nsl)),
 zo 7 (.mv (.c (.i .i64 0)))])
 (.seq (.reg [zo 8 (.mv (.t 0)),
 zo 9 (.mv (.t 1)),
 zo 10 (.mkf Ch [.t 5]),
 zo 11 (.mkf Ci [.t 5]),
 zo 12 (.call Ce [.t 8,.t 9,.t 10,.t 11]),
 zo 13 (.ext (.t 12) 0),
 zo 14 (.ext (.t 12) 1),
 zo 6 (.mv (.t 13)),
 zo 7 (.mv (.t 14))])
 .ret)) }
def A5:Fun:={ cin:=[(.sl 6 (.agg [.id,.id,.sl 1 .id,.sl 1 .id,.id,.id])),.id],cout:=[.id],ntmps:=28,keep:=false,res:=[(4,none)],body :=
 (.seq (.reg [zo 4 (.mv (.c (.i .i64 0)))])
 (.seq (.reg [zo 6 (.mv (.t 0)),
 zo 7 (.mv (.t 1)),
 zo 8 (.call Ao [.t 6,.t 7]),
 zo 5 (.mv (.t 8))])
 (.seq (.seq (.seq (.thw 0)
 (.reg [zo 9 (.mv (.t 5)),
 zo 10 (.bin .eql (.t 9) (.c (.i .i64 0))),
 zo 11 (.mv (.t 10)),
 ⟨some 12,.mv (.t 0),some (11,true)⟩,
 ⟨some 13,.mv (.t 1),some (11,true)⟩,
 ⟨some 14,.ia 6 (.t 12) (.t 13),some (11,true)⟩,
 ⟨some 15,.fa 0 (.t 14),some (11,true)⟩,
 ⟨some 16,.ld false 1 (.t 15),some (11,true)⟩,
 ⟨some 17,.un .not (.t 16),some (11,true)⟩,
 ⟨some 18,.mv (.t 17),some (11,true)⟩,
 ⟨some 19,.mv (.t 0),some (18,false)⟩,
 ⟨some 20,.mv (.t 1),some (18,false)⟩,
 ⟨some 21,.ia 6 (.t 19) (.t 20),some (18,false)⟩,
 ⟨some 22,.fa 1 (.t 21),some (18,false)⟩,
 ⟨some 23,.ld false 1 (.t 22),some (18,false)⟩,
 ⟨some 24,.bin .neq (.t 23) (.c (.i .u8 2)),some (18,false)⟩,
 ⟨some 25,.pick (.t 18) (.c (.b true)) (.t 24),some (11,true)⟩,
 zo 26 (.pick (.t 11) (.t 25) (.c (.b false)))]))
 (.cond (.t 26)
 (.seq (.reg [zo 4 (.mv (.c (.i .i64 1)))])
 .ret)
 .skip))
 (.seq (.reg [zo 27 (.mv (.t 5)),
 zo 4 (.mv (.t 27))])
 .ret)))) }
def c_touchstoneref22_with:Fun:={ cin:=[(.sl 6 (.agg [.id,.id,.sl 1 .id,.sl 1 .id,.id,.id])),.id,(.agg [.id,.id,.sl 1 .id,.sl 1 .id,.id,.id])],cout:=[(.sl 6 (.agg [.id,.id,.sl 1 .id,.sl 1 .id,.id,.id]))],ntmps:=16,keep:=false,res:=[(6,none)],body :=
 (.seq (.reg [zo 5 (.box 60 6 (.t 2)),
 zo 6 (.mv (.c .nsl))])
 (.seq (.reg [zo 8 (.bsl 6 []),
 zo 9 (.mv (.t 0)),
 zo 10 (.app 6 60 (.t 8) (.t 9)),
 zo 7 (.mv (.t 10))])
 (.seq (.seq (.thw 7)
 (.reg [zo 11 (.mv (.t 7)),
 zo 12 (.mv (.t 1)),
 zo 13 (.ld true 6 (.t 5)),
 zo 14 (.ia 6 (.t 11) (.t 12)),
 ⟨none,.st 6 (.t 14) (.t 13),none⟩]))
 (.seq (.reg [zo 15 (.mv (.t 7)),
 zo 6 (.mv (.t 15))])
 .ret)))) }
def Ai:Fun:={ cin:=[(.agg [.id,.id,.sl 1 .id,.sl 1 .id,.id,.id])],cout:=[.sl 1 .id],ntmps:=58,keep:=false,res:=[(2,none)],body :=
 (.seq (.reg [zo 1 (.box 60 6 (.t 0)),
 zo 2 (.mv (.c .nsl))])
 (.seq (.reg [zo 3 (.mv (.c .nsl))])
 (.seq (.seq (.reg [zo 4 (.mv (.c (.i .i64 0)))])
 (.blk 0 (.loop (.seq (.seq (.reg [zo 7 (.mv (.t 4)),
 zo 8 (.fa 3 (.t 1)),
 zo 9 (.ld false 1 (.t 8)),
 zo 10 (.len 1 (.t 9)),
 zo 11 (.bin .lss (.t 7) (.t 10))])
 (.cond (.t 11)
 .skip
 (.exit 0)))
 (.seq (.blk 1 (.seq (.reg [zo 14 (.mv (.t 3)),
 zo 15 (.len 1 (.t 14)),
 zo 5 (.mv (.t 15))])
 (.seq (.blk 2 (.loop (.seq (.seq (.regD [zo 16 (.mv (.t 5)),
 zo 17 (.bin .gtr (.t 16) (.c (.i .i64 0))),
 zo 18 (.mv (.t 17)),
 ⟨some 19,.mv (.t 3),some (18,true)⟩,
 ⟨some 20,.mv (.t 5),some (18,true)⟩,
 ⟨some 21,.bin .sub (.t 20) (.c (.i .i64 1)),some (18,true)⟩,
 ⟨some 22,.ia 1 (.t 19) (.t 21),some (18,true)⟩,
 ⟨some 23,.ld false 1 (.t 22),some (18,true)⟩,
 ⟨some 24,.fa 3 (.t 1),some (18,true)⟩,
 ⟨some 25,.ld false 1 (.t 24),some (18,true)⟩,
 ⟨some 26,.mv (.t 4),some (18,true)⟩,
 ⟨some 27,.ia 1 (.t 25) (.t 26),some (18,true)⟩,
 ⟨some 28,.ld false 1 (.t 27),some (18,true)⟩,
 ⟨some 29,.bin .gtr (.t 23) (.t 28),some (18,true)⟩,
 zo 30 (.pick (.t 18) (.t 29) (.c (.b false)))] [])
 (.cond (.t 30)
 .skip
 (.exit 2)))
 (.blk 3 (.reg [zo 31 (.mv (.t 5)),
 zo 32 (.bin .sub (.t 31) (.c (.i .i64 1))),
 zo 5 (.mv (.t 32))])))))
 (.seq (.reg [zo 33 (.bsl 1 []),
 zo 34 (.mv (.t 3)),
 zo 35 (.mv (.t 5)),
 zo 36 (.slc false 1 (.t 34) none (some (.t 35)) none),
 zo 37 (.app 1 3 (.t 33) (.t 36)),
 zo 6 (.mv (.t 37))])
 (.seq (.reg [zo 38 (.mv (.t 6)),
 zo 39 (.fa 3 (.t 1)),
 zo 40 (.ld false 1 (.t 39)),
 zo 41 (.mv (.t 4)),
 zo 42 (.ia 1 (.t 40) (.t 41)),
 zo 43 (.ld false 1 (.t 42)),
 zo 44 (.bsl 1 [.t 43]),
 zo 45 (.app 1 3 (.t 38) (.t 44)),
 zo 6 (.mv (.t 45))])
 (.reg [zo 46 (.mv (.t 6)),
 zo 47 (.mv (.t 3)),
 zo 48 (.mv (.t 5)),
 zo 49 (.slc false 1 (.t 47) (some (.t 48)) none none),
 zo 50 (.app 1 3 (.t 46) (.t 49)),
 zo 3 (.mv (.t 50))]))))))
 (.reg [zo 12 (.mv (.t 4)),
 zo 13 (.bin .add (.t 12) (.c (.i .i64 1))),
 zo 4 (.mv (.t 13))]))))))
 (.seq (.reg [zo 51 (.mv (.t 3)),
 zo 52 (.fa 5 (.t 1)),
 zo 53 (.ld false 1 (.t 52)),
 zo 54 (.mv (.t 3)),
 zo 55 (.len 1 (.t 54)),
 zo 56 (.mm false (.t 53) (.t 55)),
 zo 57 (.slc false 1 (.t 51) (some (.t 56)) none none),
 zo 2 (.mv (.t 57))])
 .ret)))) }
def Au:Fun:={ cin:=[(.sl 6 (.agg [.id,.id,.sl 1 .id,.sl 1 .id,.id,.id])),.id],cout:=[.id],ntmps:=16,keep:=false,res:=[(4,none)],body :=
 (.seq (.reg [zo 4 (.mv (.c (.i .i64 0)))])
 (.seq (.seq (.reg [zo 5 (.mv (.t 0)),
 zo 6 (.call Db [.t 5]),
 zo 7 (.un .not (.t 6))])
 (.cond (.t 7)
 (.seq (.reg [zo 4 (.mv (.c (.i .i64 4)))])
 .ret)
 .skip))
 (.seq (.seq (.reg [zo 8 (.mv (.t 1)),
 zo 9 (.bin .lss (.t 8) (.c (.i .i64 0))),
 zo 10 (.mv (.t 9)),
 ⟨some 11,.mv (.t 1),some (10,false)⟩,
 ⟨some 12,.mv (.t 0),some (10,false)⟩,
 ⟨some 13,.len 1 (.t 12),some (10,false)⟩,
 ⟨some 14,.bin .geq (.t 11) (.t 13),some (10,false)⟩,
 zo 15 (.pick (.t 10) (.c (.b true)) (.t 14))])
 (.cond (.t 15)
 (.seq (.reg [zo 4 (.mv (.c (.i .i64 1)))])
 .ret)
 .skip))
 (.seq (.reg [zo 4 (.mv (.c (.i .i64 0)))])
 .ret)))) }
def Cd:Fun:={ cin:=[.sl 1 .id,.sl 1 .id],cout:=[.id],ntmps:=26,keep:=false,res:=[(4,none)],body :=
 (.seq (.reg [zo 4 (.mv (.c (.b false)))])
 (.seq (.seq (.reg [zo 6 (.mv (.t 0)),
 zo 7 (.len 1 (.t 6)),
 zo 8 (.mv (.t 1)),
 zo 9 (.len 1 (.t 8)),
 zo 10 (.bin .gtr (.t 7) (.t 9))])
 (.cond (.t 10)
 (.seq (.reg [zo 4 (.mv (.c (.b false)))])
 .ret)
 .skip))
 (.seq (.seq (.reg [zo 5 (.mv (.c (.i .i64 0)))])
 (.blk 0 (.loop (.seq (.seq (.reg [zo 11 (.mv (.t 5)),
 zo 12 (.mv (.t 0)),
 zo 13 (.len 1 (.t 12)),
 zo 14 (.bin .lss (.t 11) (.t 13))])
 (.cond (.t 14)
 .skip
 (.exit 0)))
 (.seq (.blk 1 (.seq (.regD [zo 17 (.mv (.t 0)),
 zo 18 (.mv (.t 5)),
 zo 19 (.ia 1 (.t 17) (.t 18)),
 zo 20 (.ld false 1 (.t 19)),
 zo 21 (.mv (.t 1)),
 zo 22 (.mv (.t 5)),
 zo 23 (.ia 1 (.t 21) (.t 22)),
 zo 24 (.ld false 1 (.t 23)),
 zo 25 (.bin .neq (.t 20) (.t 24))] [])
 (.cond (.t 25)
 (.seq (.reg [zo 4 (.mv (.c (.b false)))])
 .ret)
 .skip)))
 (.reg [zo 15 (.mv (.t 5)),
 zo 16 (.bin .add (.t 15) (.c (.i .i64 1))),
 zo 5 (.mv (.t 16))]))))))
 (.seq (.reg [zo 4 (.mv (.c (.b true)))])
 .ret)))) }
def BX:Fun:={ cin:=[(.agg [.id,.id,.sl 1 .id,.sl 1 .id,.id,.id])],cout:=[.id],ntmps:=10,keep:=false,res:=[(2,none)],body :=
 (.seq (.reg [zo 1 (.box 60 6 (.t 0)),
 zo 2 (.mv (.c (.b false)))])
 (.seq (.reg [zo 3 (.fa 0 (.t 1)),
 zo 4 (.ld false 1 (.t 3)),
 zo 5 (.mv (.t 4)),
 ⟨some 6,.fa 1 (.t 1),some (5,true)⟩,
 ⟨some 7,.ld false 1 (.t 6),some (5,true)⟩,
 ⟨some 8,.bin .eql (.t 7) (.c (.i .u8 2)),some (5,true)⟩,
 zo 9 (.pick (.t 5) (.t 8) (.c (.b false))),
 zo 2 (.mv (.t 9))])
 .ret)) }
def Aa:Fun:={ cin:=[(.agg [.id,.id,.sl 1 .id,.sl 1 .id,.id,.id])],cout:=[.id],ntmps:=102,keep:=false,res:=[(2,none)],body :=
 (.seq (.reg [zo 1 (.box 60 6 (.t 0)),
 zo 2 (.mv (.c (.b false)))])
 (.seq (.seq (.reg [zo 4 (.fa 1 (.t 1)),
 zo 5 (.ld false 1 (.t 4)),
 zo 6 (.bin .gtr (.t 5) (.c (.i .u8 3))),
 zo 7 (.mv (.t 6)),
 ⟨some 8,.fa 0 (.t 1),some (7,false)⟩,
 ⟨some 9,.ld false 1 (.t 8),some (7,false)⟩,
 ⟨some 10,.un .not (.t 9),some (7,false)⟩,
 ⟨some 11,.mv (.t 10),some (7,false)⟩,
 ⟨some 12,.fa 1 (.t 1),some (11,true)⟩,
 ⟨some 13,.ld false 1 (.t 12),some (11,true)⟩,
 ⟨some 14,.bin .neq (.t 13) (.c (.i .u8 0)),some (11,true)⟩,
 ⟨some 15,.pick (.t 11) (.t 14) (.c (.b false)),some (7,false)⟩,
 zo 16 (.pick (.t 7) (.c (.b true)) (.t 15)),
 zo 17 (.mv (.t 16)),
 ⟨some 18,.fa 2 (.t 1),some (17,false)⟩,
 ⟨some 19,.ld false 1 (.t 18),some (17,false)⟩,
 ⟨some 20,.len 1 (.t 19),some (17,false)⟩,
 ⟨some 21,.fa 3 (.t 1),some (17,false)⟩,
 ⟨some 22,.ld false 1 (.t 21),some (17,false)⟩,
 ⟨some 23,.len 1 (.t 22),some (17,false)⟩,
 ⟨some 24,.bin .neq (.t 20) (.t 23),some (17,false)⟩,
 zo 25 (.pick (.t 17) (.c (.b true)) (.t 24))])
 (.cond (.t 25)
 (.seq (.reg [zo 2 (.mv (.c (.b false)))])
 .ret)
 .skip))
 (.seq (.seq (.reg [zo 26 (.ld true 6 (.t 1)),
 zo 27 (.call Cv [.t 26]),
 zo 28 (.un .not (.t 27))])
 (.cond (.t 28)
 (.seq (.reg [zo 29 (.fa 2 (.t 1)),
 zo 30 (.ld false 1 (.t 29)),
 zo 31 (.len 1 (.t 30)),
 zo 32 (.bin .eql (.t 31) (.c (.i .i64 0))),
 zo 33 (.mv (.t 32)),
 ⟨some 34,.fa 4 (.t 1),some (33,true)⟩,
 ⟨some 35,.ld false 1 (.t 34),some (33,true)⟩,
 ⟨some 36,.bin .eql (.t 35) (.c (.i .i64 0)),some (33,true)⟩,
 zo 37 (.pick (.t 33) (.t 36) (.c (.b false))),
 zo 38 (.mv (.t 37)),
 ⟨some 39,.fa 5 (.t 1),some (38,true)⟩,
 ⟨some 40,.ld false 1 (.t 39),some (38,true)⟩,
 ⟨some 41,.bin .eql (.t 40) (.c (.i .i64 0)),some (38,true)⟩,
 zo 42 (.pick (.t 38) (.t 41) (.c (.b false))),
 zo 2 (.mv (.t 42))])
 .ret)
 .skip))
 (.seq (.seq (.reg [zo 3 (.mv (.c (.i .i64 0)))])
 (.blk 0 (.loop (.seq (.seq (.reg [zo 43 (.mv (.t 3)),
 zo 44 (.fa 2 (.t 1)),
 zo 45 (.ld false 1 (.t 44)),
 zo 46 (.len 1 (.t 45)),
 zo 47 (.bin .lss (.t 43) (.t 46))])
 (.cond (.t 47)
 .skip
 (.exit 0)))
 (.seq (.blk 1 (.seq (.regD [zo 50 (.fa 2 (.t 1)),
 zo 51 (.ld false 1 (.t 50)),
 zo 52 (.mv (.t 3)),
 zo 53 (.ia 1 (.t 51) (.t 52)),
 zo 54 (.ld false 1 (.t 53)),
 zo 55 (.call DX [.t 54]),
 zo 56 (.un .not (.t 55)),
 zo 57 (.mv (.t 56)),
 ⟨some 58,.mv (.t 3),some (57,false)⟩,
 ⟨some 59,.bin .gtr (.t 58) (.c (.i .i64 0)),some (57,false)⟩,
 ⟨some 60,.mv (.t 59),some (57,false)⟩,
 ⟨some 61,.fa 2 (.t 1),some (60,true)⟩,
 ⟨some 62,.ld false 1 (.t 61),some (60,true)⟩,
 ⟨some 63,.mv (.t 3),some (60,true)⟩,
 ⟨some 64,.ia 1 (.t 62) (.t 63),some (60,true)⟩,
 ⟨some 65,.ld false 1 (.t 64),some (60,true)⟩,
 ⟨some 66,.fa 2 (.t 1),some (60,true)⟩,
 ⟨some 67,.ld false 1 (.t 66),some (60,true)⟩,
 ⟨some 68,.mv (.t 3),some (60,true)⟩,
 ⟨some 69,.bin .sub (.t 68) (.c (.i .i64 1)),some (60,true)⟩,
 ⟨some 70,.ia 1 (.t 67) (.t 69),some (60,true)⟩,
 ⟨some 71,.ld false 1 (.t 70),some (60,true)⟩,
 ⟨some 72,.bin .leq (.t 65) (.t 71),some (60,true)⟩,
 ⟨some 73,.pick (.t 60) (.t 72) (.c (.b false)),some (57,false)⟩,
 zo 74 (.pick (.t 57) (.c (.b true)) (.t 73))] [])
 (.cond (.t 74)
 (.seq (.reg [zo 2 (.mv (.c (.b false)))])
 .ret)
 .skip)))
 (.reg [zo 48 (.mv (.t 3)),
 zo 49 (.bin .add (.t 48) (.c (.i .i64 1))),
 zo 3 (.mv (.t 49))]))))))
 (.seq (.seq (.reg [zo 75 (.fa 4 (.t 1)),
 zo 76 (.ld false 1 (.t 75)),
 zo 77 (.bin .eql (.t 76) (.c (.i .i64 2)))])
 (.cond (.t 77)
 (.seq (.reg [zo 78 (.fa 5 (.t 1)),
 zo 79 (.ld false 1 (.t 78)),
 zo 80 (.bin .geq (.t 79) (.c (.i .i64 0))),
 zo 81 (.mv (.t 80)),
 ⟨some 82,.fa 5 (.t 1),some (81,true)⟩,
 ⟨some 83,.ld false 1 (.t 82),some (81,true)⟩,
 ⟨some 84,.fa 2 (.t 1),some (81,true)⟩,
 ⟨some 85,.ld false 1 (.t 84),some (81,true)⟩,
 ⟨some 86,.len 1 (.t 85),some (81,true)⟩,
 ⟨some 87,.bin .leq (.t 83) (.t 86),some (81,true)⟩,
 zo 88 (.pick (.t 81) (.t 87) (.c (.b false))),
 zo 2 (.mv (.t 88))])
 .ret)
 .skip))
 (.seq (.reg [zo 89 (.fa 4 (.t 1)),
 zo 90 (.ld false 1 (.t 89)),
 zo 91 (.bin .eql (.t 90) (.c (.i .i64 0))),
 zo 92 (.mv (.t 91)),
 ⟨some 93,.fa 4 (.t 1),some (92,false)⟩,
 ⟨some 94,.ld false 1 (.t 93),some (92,false)⟩,
 ⟨some 95,.bin .eql (.t 94) (.c (.i .i64 1)),some (92,false)⟩,
 zo 96 (.pick (.t 92) (.c (.b true)) (.t 95)),
 zo 97 (.mv (.t 96)),
 ⟨some 98,.fa 5 (.t 1),some (97,true)⟩,
 ⟨some 99,.ld false 1 (.t 98),some (97,true)⟩,
 ⟨some 100,.bin .eql (.t 99) (.c (.i .i64 0)),some (97,true)⟩,
 zo 101 (.pick (.t 97) (.t 100) (.c (.b false))),
 zo 2 (.mv (.t 101))])
 .ret)))))) }
def Be:Fun:={ cin:=[(.sl 6 (.agg [.id,.id,.sl 1 .id,.sl 1 .id,.id,.id])),.id],cout:=[.id],ntmps:=38,keep:=false,res:=[(4,none)],body :=
 (.seq (.reg [zo 4 (.mv (.c (.i .i64 0)))])
 (.seq (.reg [zo 5 (.mv (.c (.i .i64 (-1))))])
 (.seq (.seq (.reg [zo 6 (.mv (.c (.i .i64 0)))])
 (.blk 0 (.loop (.seq (.seq (.reg [zo 8 (.mv (.t 6)),
 zo 9 (.mv (.t 0)),
 zo 10 (.len 1 (.t 9)),
 zo 11 (.bin .lss (.t 8) (.t 10))])
 (.cond (.t 11)
 .skip
 (.exit 0)))
 (.seq (.blk 1 (.seq (.reg [zo 7 (.mv (.c (.i .i64 0)))])
 (.blk 2 (.loop (.seq (.seq (.seq (.thw 0)
 (.reg [zo 14 (.mv (.t 7)),
 zo 15 (.mv (.t 0)),
 zo 16 (.mv (.t 6)),
 zo 17 (.ia 6 (.t 15) (.t 16)),
 zo 18 (.fa 3 (.t 17)),
 zo 19 (.ld false 1 (.t 18)),
 zo 20 (.len 1 (.t 19)),
 zo 21 (.bin .lss (.t 14) (.t 20))]))
 (.cond (.t 21)
 .skip
 (.exit 2)))
 (.seq (.blk 3 (.seq (.seq (.thw 0)
 (.reg [zo 24 (.mv (.t 0)),
 zo 25 (.mv (.t 6)),
 zo 26 (.ia 6 (.t 24) (.t 25)),
 zo 27 (.fa 3 (.t 26)),
 zo 28 (.ld false 1 (.t 27)),
 zo 29 (.mv (.t 7)),
 zo 30 (.ia 1 (.t 28) (.t 29)),
 zo 31 (.ld false 1 (.t 30)),
 zo 32 (.mv (.t 1)),
 zo 33 (.bin .eql (.t 31) (.t 32))]))
 (.cond (.t 33)
 (.seq (.seq (.reg [zo 34 (.mv (.t 5)),
 zo 35 (.bin .geq (.t 34) (.c (.i .i64 0)))])
 (.cond (.t 35)
 (.seq (.reg [zo 4 (.mv (.c (.i .i64 (-1))))])
 .ret)
 .skip))
 (.reg [zo 36 (.mv (.t 6)),
 zo 5 (.mv (.t 36))]))
 .skip)))
 (.reg [zo 22 (.mv (.t 7)),
 zo 23 (.bin .add (.t 22) (.c (.i .i64 1))),
 zo 7 (.mv (.t 23))])))))))
 (.reg [zo 12 (.mv (.t 6)),
 zo 13 (.bin .add (.t 12) (.c (.i .i64 1))),
 zo 6 (.mv (.t 13))]))))))
 (.seq (.reg [zo 37 (.mv (.t 5)),
 zo 4 (.mv (.t 37))])
 .ret)))) }
def AL:Fun:={ cin:=[.sl 1 .id],cout:=[],ntmps:=8,keep:=true,res:=[(2,none)],body :=
 (.seq (.reg [zo 2 (.mv (.c .nsl))])
 (.seq (.seq (.reg [zo 3 (.mv (.t 0)),
 zo 4 (.eq .sl false (.t 3) (.c .nsl))])
 (.cond (.t 4)
 (.seq (.reg [zo 2 (.mv (.c .nsl))])
 .ret)
 .skip))
 (.seq (.reg [zo 5 (.bsl 1 []),
 zo 6 (.mv (.t 0)),
 zo 7 (.app 1 9 (.t 5) (.t 6)),
 zo 2 (.mv (.t 7))])
 .ret))) }
def BB:Fun:={ cin:=[.id],cout:=[.id],ntmps:=41,keep:=false,res:=[(2,none)],body :=
 (.seq (.reg [zo 2 (.mv (.c (.b false)))])
 (.seq (.seq (.reg [zo 4 (.mv (.t 0)),
 zo 5 (.bin .eql (.t 4) (.c (.s []))),
 zo 6 (.mv (.t 5)),
 ⟨some 7,.mv (.t 0),some (6,false)⟩,
 ⟨some 8,.len 0 (.t 7),some (6,false)⟩,
 ⟨some 9,.bin .gtr (.t 8) (.c (.i .i64 64)),some (6,false)⟩,
 zo 10 (.pick (.t 6) (.c (.b true)) (.t 9)),
 zo 11 (.mv (.t 10)),
 ⟨some 12,.mv (.t 0),some (11,false)⟩,
 ⟨some 13,.bin .eql (.t 12) (.c (.s [46])),some (11,false)⟩,
 zo 14 (.pick (.t 11) (.c (.b true)) (.t 13)),
 zo 15 (.mv (.t 14)),
 ⟨some 16,.mv (.t 0),some (15,false)⟩,
 ⟨some 17,.bin .eql (.t 16) (.c (.s [46,46])),some (15,false)⟩,
 zo 18 (.pick (.t 15) (.c (.b true)) (.t 17))])
 (.cond (.t 18)
 (.seq (.reg [zo 2 (.mv (.c (.b false)))])
 .ret)
 .skip))
 (.seq (.seq (.reg [zo 3 (.mv (.c (.i .i64 0)))])
 (.blk 0 (.loop (.seq (.seq (.reg [zo 19 (.mv (.t 3)),
 zo 20 (.mv (.t 0)),
 zo 21 (.len 0 (.t 20)),
 zo 22 (.bin .lss (.t 19) (.t 21))])
 (.cond (.t 22)
 .skip
 (.exit 0)))
 (.seq (.blk 1 (.seq (.reg [zo 25 (.mv (.t 0)),
 zo 26 (.mv (.t 3)),
 zo 27 (.ixS (.t 25) (.t 26)),
 zo 28 (.bin .eql (.t 27) (.c (.i .u8 0))),
 zo 29 (.mv (.t 28)),
 ⟨some 30,.mv (.t 0),some (29,false)⟩,
 ⟨some 31,.mv (.t 3),some (29,false)⟩,
 ⟨some 32,.ixS (.t 30) (.t 31),some (29,false)⟩,
 ⟨some 33,.bin .eql (.t 32) (.c (.i .u8 47)),some (29,false)⟩,
 zo 34 (.pick (.t 29) (.c (.b true)) (.t 33)),
 zo 35 (.mv (.t 34)),
 ⟨some 36,.mv (.t 0),some (35,false)⟩,
 ⟨some 37,.mv (.t 3),some (35,false)⟩,
 ⟨some 38,.ixS (.t 36) (.t 37),some (35,false)⟩,
 ⟨some 39,.bin .eql (.t 38) (.c (.i .u8 10)),some (35,false)⟩,
 zo 40 (.pick (.t 35) (.c (.b true)) (.t 39))])
 (.cond (.t 40)
 (.seq (.reg [zo 2 (.mv (.c (.b false)))])
 .ret)
 .skip)))
 (.reg [zo 23 (.mv (.t 3)),
 zo 24 (.bin .add (.t 23) (.c (.i .i64 1))),
 zo 3 (.mv (.t 24))]))))))
 (.seq (.reg [zo 2 (.mv (.c (.b true)))])
 .ret)))) }
def DL:Fun:={ cin:=[.id],cout:=[.id],ntmps:=23,keep:=false,res:=[(2,none)],body :=
 (.seq (.reg [zo 2 (.mv (.c (.b false)))])
 (.seq (.reg [zo 3 (.mv (.t 0)),
 zo 4 (.bin .neq (.t 3) (.c (.s []))),
 zo 5 (.mv (.t 4)),
 ⟨some 6,.mv (.t 0),some (5,true)⟩,
 ⟨some 7,.len 0 (.t 6),some (5,true)⟩,
 ⟨some 8,.bin .leq (.t 7) (.c (.i .i64 64)),some (5,true)⟩,
 zo 9 (.pick (.t 5) (.t 8) (.c (.b false))),
 zo 10 (.mv (.t 9)),
 ⟨some 11,.mv (.t 0),some (10,true)⟩,
 ⟨some 12,.bin .neq (.t 11) (.c (.s [46])),some (10,true)⟩,
 zo 13 (.pick (.t 10) (.t 12) (.c (.b false))),
 zo 14 (.mv (.t 13)),
 ⟨some 15,.mv (.t 0),some (14,true)⟩,
 ⟨some 16,.bin .neq (.t 15) (.c (.s [46,46])),some (14,true)⟩,
 zo 17 (.pick (.t 14) (.t 16) (.c (.b false))),
 zo 18 (.mv (.t 17)),
 ⟨some 19,.mv (.t 0),some (18,true)⟩,
 ⟨some 20,.call De [(.t 19),(.c (.s [47,0,10]))],some (18,true)⟩,
 ⟨some 21,.un .not (.t 20),some (18,true)⟩,
 zo 22 (.pick (.t 18) (.t 21) (.c (.b false))),
 zo 2 (.mv (.t 22))])
 .ret)) }
def AZ:Fun:={ cin:=[.sl 1 .id,.id],cout:=[.id],ntmps:=19,keep:=false,res:=[(4,none)],body :=
 (.seq (.reg [zo 4 (.mv (.c (.i .i64 0)))])
 (.seq (.seq (.reg [zo 6 (.mv (.t 0)),
 zo 7 (.len 1 (.t 6)),
 zo 8 (.mv (.c (.i .i64 0)))])
 (.blk 0 (.loop (.seq (.reg [zo 9 (.bin .lss (.t 8) (.t 7))])
 (.seq (.cond (.t 9)
 .skip
 (.exit 0))
 (.seq (.blk 1 (.seq (.reg [zo 10 (.mv (.t 8)),
 zo 5 (.mv (.t 10))])
 (.seq (.reg [zo 11 (.mv (.t 1)),
 zo 12 (.mv (.t 0)),
 zo 13 (.mv (.t 5)),
 zo 14 (.ia 1 (.t 12) (.t 13)),
 zo 15 (.ld false 1 (.t 14)),
 zo 16 (.callX (.t 11) [.t 15])])
 (.cond (.t 16)
 (.seq (.reg [zo 17 (.mv (.t 5)),
 zo 4 (.mv (.t 17))])
 .ret)
 .skip))))
 (.reg [zo 18 (.bin .add (.t 8) (.c (.i .i64 1))),
 zo 8 (.mv (.t 18))])))))))
 (.seq (.reg [zo 4 (.mv (.c (.i .i64 (-1))))])
 .ret))) }
def BP:Fun:={ cin:=[(.sl 6 (.agg [.id,.id,.sl 1 .id,.sl 1 .id,.id,.id])),.id,.id,.id],cout:=[],ntmps:=42,keep:=true,res:=[(8,none),(9,none)],body :=
 (.seq (.reg [zo 8 (.mv (.c .nsl)),
 zo 9 (.mv (.c (.i .i64 0)))])
 (.seq (.blk 0 (.seq (.reg [zo 13 (.mv (.t 0)),
 zo 14 (.call EN [.t 13]),
 zo 15 (.un .not (.t 14)),
 zo 12 (.mv (.t 15))])
 (.cond (.t 12)
 (.seq (.reg [zo 8 (.mv (.c .nsl)),
 zo 9 (.mv (.c (.i .i64 4)))])
 .ret)
 (.seq (.reg [zo 17 (.mv (.t 1)),
 zo 18 (.bin .lss (.t 17) (.c (.i .i64 0))),
 zo 19 (.mv (.t 18)),
 ⟨some 20,.mv (.t 1),some (19,false)⟩,
 ⟨some 21,.mv (.t 0),some (19,false)⟩,
 ⟨some 22,.len 1 (.t 21),some (19,false)⟩,
 ⟨some 23,.bin .geq (.t 20) (.t 22),some (19,false)⟩,
 zo 24 (.pick (.t 19) (.c (.b true)) (.t 23)),
 zo 16 (.mv (.t 24))])
 (.cond (.t 16)
 (.seq (.reg [zo 8 (.mv (.c .nsl)),
 zo 9 (.mv (.c (.i .i64 1)))])
 .ret)
 .skip)))))
 (.seq (.seq (.reg [zo 25 (.mv (.t 2)),
 zo 26 (.mv (.t 0)),
 zo 27 (.mv (.t 1)),
 zo 28 (.ia 6 (.t 26) (.t 27)),
 zo 29 (.ld true 6 (.t 28)),
 zo 30 (.callX (.t 25) [.t 29]),
 zo 10 (.mv (.t 30))])
 (.seq (.reg [zo 31 (.mv (.t 10)),
 zo 32 (.bin .neq (.t 31) (.c (.i .i64 0)))])
 (.cond (.t 32)
 (.seq (.reg [zo 33 (.mv (.t 10)),
 zo 8 (.mv (.c .nsl)),
 zo 9 (.mv (.t 33))])
 .ret)
 .skip)))
 (.seq (.reg [zo 34 (.mv (.t 0)),
 zo 35 (.call Ep [.t 34]),
 zo 11 (.mv (.t 35))])
 (.seq (.seq (.thw 11)
 (.reg [zo 36 (.mv (.t 3)),
 zo 37 (.mv (.t 11)),
 zo 38 (.mv (.t 1)),
 zo 39 (.ia 6 (.t 37) (.t 38)),
 zo 40 (.callX (.t 36) [.t 39])]))
 (.seq (.reg [zo 41 (.mv (.t 11)),
 zo 8 (.mv (.t 41)),
 zo 9 (.mv (.c (.i .i64 0)))])
 .ret)))))) }
def BH:Fun:={ cin:=[(.agg [.id,.id,.sl 1 .id,.sl 1 .id,.id,.id])],cout:=[.id],ntmps:=22,keep:=false,res:=[(3,none)],body :=
 (.seq (.reg [zo 2 (.box 60 6 (.t 0)),
 zo 3 (.mv (.c (.i .i64 0)))])
 (.seq (.blk 0 (.seq (.reg [zo 5 (.ld true 6 (.t 2)),
 zo 6 (.call C4 [.t 5]),
 zo 7 (.un .not (.t 6)),
 zo 4 (.mv (.t 7))])
 (.cond (.t 4)
 (.seq (.reg [zo 3 (.mv (.c (.i .i64 1)))])
 .ret)
 (.seq (.reg [zo 9 (.fa 4 (.t 2)),
 zo 10 (.ld false 1 (.t 9)),
 zo 11 (.bin .eql (.t 10) (.c (.i .i64 1))),
 zo 8 (.mv (.t 11))])
 (.cond (.t 8)
 (.seq (.reg [zo 3 (.mv (.c (.i .i64 6)))])
 .ret)
 (.seq (.reg [zo 13 (.fa 4 (.t 2)),
 zo 14 (.ld false 1 (.t 13)),
 zo 15 (.bin .eql (.t 14) (.c (.i .i64 2))),
 zo 16 (.mv (.t 15)),
 ⟨some 17,.ld false 1 (.t 1),some (16,true)⟩,
 ⟨some 18,.ld true 6 (.t 2),some (16,true)⟩,
 ⟨some 19,.call CZ [.t 17,.t 18],some (16,true)⟩,
 ⟨some 20,.un .not (.t 19),some (16,true)⟩,
 zo 21 (.pick (.t 16) (.t 20) (.c (.b false))),
 zo 12 (.mv (.t 21))])
 (.cond (.t 12)
 (.seq (.reg [zo 3 (.mv (.c (.i .i64 67)))])
 .ret)
 .skip)))))))
 (.seq (.reg [zo 3 (.mv (.c (.i .i64 0)))])
 .ret))) }
def Dg:Fun:={ cin:=[(.agg [.id,.id,.sl 1 .id,.sl 1 .id,.id,.id])],cout:=[.id],ntmps:=10,keep:=false,res:=[(2,none)],body :=
 (.seq (.reg [zo 1 (.box 60 6 (.t 0)),
 zo 2 (.mv (.c (.b false)))])
 (.seq (.reg [zo 3 (.fa 0 (.t 1)),
 zo 4 (.ld false 1 (.t 3)),
 zo 5 (.mv (.t 4)),
 ⟨some 6,.fa 1 (.t 1),some (5,true)⟩,
 ⟨some 7,.ld false 1 (.t 6),some (5,true)⟩,
 ⟨some 8,.bin .eql (.t 7) (.c (.i .u8 2)),some (5,true)⟩,
 zo 9 (.pick (.t 5) (.t 8) (.c (.b false))),
 zo 2 (.mv (.t 9))])
 .ret)) }
def DM:Fun:={ cin:=[(.sl 6 (.agg [.id,.id,.sl 1 .id,.sl 1 .id,.id,.id])),(.agg [.id,.id,.sl 1 .id,.sl 1 .id,.id,.id])],cout:=[.id],ntmps:=16,keep:=false,res:=[(4,none)],body :=
 (.seq (.reg [zo 2 (.box 22 1 (.t 0)),
 zo 3 (.box 60 6 (.t 1)),
 zo 4 (.mv (.c (.b false)))])
 (.seq (.reg [zo 6 (.fa 3 (.t 3)),
 zo 7 (.ld false 1 (.t 6)),
 zo 8 (.call Ca [.t 7]),
 zo 9 (.call D5 [.t 8]),
 zo 5 (.mv (.t 9))])
 (.seq (.reg [zo 10 (.mv (.t 5)),
 zo 11 (.fa 5 (.t 3)),
 zo 12 (.ld false 1 (.t 11)),
 zo 13 (.slc false 1 (.t 10) (some (.t 12)) none none),
 zo 14 (.mkf Df [.t 2]),
 zo 15 (.call BO [.t 13,.t 14]),
 zo 4 (.mv (.t 15))])
 .ret))) }
def Cl:Fun:={ cin:=[.id],cout:=[],ntmps:=8,keep:=false,res:=[],body :=
 (.reg [zo 2 (.mv (.t 0)),
 zo 3 (.mv (.t 0)),
 zo 4 (.nck (.t 2)),
 zo 5 (.fa 4 (.t 4)),
 ⟨none,.st 1 (.t 5) (.c (.i .i64 1)),none⟩,
 zo 6 (.nck (.t 3)),
 zo 7 (.fa 5 (.t 6)),
 ⟨none,.st 1 (.t 7) (.c (.i .i64 0)),none⟩]) }
def Bp:Fun:={ cin:=[(.agg [.id,.id,.sl 1 .id,.sl 1 .id,.id,.id])],cout:=[.id],ntmps:=11,keep:=false,res:=[(2,none)],body :=
 (.seq (.reg [zo 1 (.box 60 6 (.t 0)),
 zo 2 (.mv (.c (.i .i64 0)))])
 (.seq (.blk 0 (.seq (.reg [zo 4 (.ld true 6 (.t 1)),
 zo 5 (.call C4 [.t 4]),
 zo 6 (.un .not (.t 5)),
 zo 3 (.mv (.t 6))])
 (.cond (.t 3)
 (.seq (.reg [zo 2 (.mv (.c (.i .i64 1)))])
 .ret)
 (.seq (.reg [zo 8 (.fa 4 (.t 1)),
 zo 9 (.ld false 1 (.t 8)),
 zo 10 (.bin .eql (.t 9) (.c (.i .i64 1))),
 zo 7 (.mv (.t 10))])
 (.cond (.t 7)
 (.seq (.reg [zo 2 (.mv (.c (.i .i64 6)))])
 .ret)
 .skip)))))
 (.seq (.reg [zo 2 (.mv (.c (.i .i64 0)))])
 .ret))) }
def C5:Fun:={ cin:=[.id],cout:=[],ntmps:=13,keep:=false,res:=[],body :=
 (.reg [zo 2 (.mv (.t 0)),
 zo 3 (.mv (.t 0)),
 zo 4 (.mv (.t 0)),
 zo 5 (.nck (.t 4)),
 zo 6 (.fa 2 (.t 5)),
 zo 7 (.ld false 1 (.t 6)),
 zo 8 (.len 1 (.t 7)),
 zo 9 (.nck (.t 2)),
 zo 10 (.fa 4 (.t 9)),
 ⟨none,.st 1 (.t 10) (.c (.i .i64 2)),none⟩,
 zo 11 (.nck (.t 3)),
 zo 12 (.fa 5 (.t 11)),
 ⟨none,.st 1 (.t 12) (.t 8),none⟩]) }
def CJ:Fun:={ cin:=[.id],cout:=[],ntmps:=19,keep:=false,res:=[],body :=
 (.seq (.reg [zo 4 (.mv (.c (.i .u8 0)))])
 (.blk 0 (.loop (.seq (.reg [zo 5 (.bin .lss (.t 4) (.c (.i .u8 4)))])
 (.seq (.cond (.t 5)
 .skip
 (.exit 0))
 (.seq (.blk 1 (.seq (.reg [zo 6 (.mv (.t 4)),
 zo 3 (.mv (.t 6))])
 (.seq (.reg [zo 7 (.mv (.t 3)),
 zo 8 (.bin .neq (.t 7) (.c (.i .u8 3))),
 zo 9 (.mv (.t 8)),
 ⟨some 10,.ld false 1 (.t 1),some (9,false)⟩,
 zo 11 (.pick (.t 9) (.c (.b true)) (.t 10)),
 zo 12 (.mv (.t 11)),
 ⟨some 13,.mv (.t 0),some (12,true)⟩,
 ⟨some 14,.mv (.t 3),some (12,true)⟩,
 ⟨some 15,.callX (.t 13) [.t 14],some (12,true)⟩,
 ⟨some 16,.un .not (.t 15),some (12,true)⟩,
 zo 17 (.pick (.t 12) (.t 16) (.c (.b false)))])
 (.cond (.t 17)
 .ret
 .skip))))
 (.reg [zo 18 (.bin .add (.t 4) (.c (.i .u8 1))),
 zo 4 (.mv (.t 18))]))))))) }
def Bq:Fun:={ cin:=[(.agg [.id,.id,.sl 1 .id,.sl 1 .id,.id,.id])],cout:=[.id],ntmps:=10,keep:=false,res:=[(3,none)],body :=
 (.seq (.reg [zo 2 (.box 60 6 (.t 0)),
 zo 3 (.mv (.c (.i .i64 0)))])
 (.seq (.blk 0 (.seq (.reg [zo 5 (.fa 0 (.t 2)),
 zo 6 (.ld false 1 (.t 5)),
 zo 4 (.mv (.t 6))])
 (.cond (.t 4)
 (.seq (.reg [zo 3 (.mv (.c (.i .i64 6)))])
 .ret)
 (.seq (.reg [zo 8 (.ld false 1 (.t 1)),
 zo 9 (.bin .gtr (.t 8) (.c (.i .u8 3))),
 zo 7 (.mv (.t 9))])
 (.cond (.t 7)
 (.seq (.reg [zo 3 (.mv (.c (.i .i64 1)))])
 .ret)
 .skip)))))
 (.seq (.reg [zo 3 (.mv (.c (.i .i64 0)))])
 .ret))) }
def C6:Fun:={ cin:=[.id],cout:=[],ntmps:=10,keep:=false,res:=[],body :=
 (.regD [zo 3 (.mv (.t 0)),
 zo 4 (.mv (.t 0)),
 zo 5 (.ld false 1 (.t 1)),
 zo 6 (.nck (.t 3)),
 zo 7 (.fa 0 (.t 6)),
 ⟨none,.st 1 (.t 7) (.c (.b true)),none⟩,
 zo 8 (.nck (.t 4)),
 zo 9 (.fa 1 (.t 8)),
 ⟨none,.st 1 (.t 9) (.t 5),none⟩] [(2,(2,6))]) }
def Cm:Fun:={ cin:=[.id,.id],cout:=[.id],ntmps:=8,keep:=false,res:=[(4,none)],body :=
 (.seq (.reg [zo 4 (.mv (.c (.i .i64 0)))])
 (.seq (.reg [zo 5 (.mv (.t 0)),
 zo 6 (.mv (.t 1)),
 zo 7 (.call B6 [.t 5,.t 6]),
 zo 4 (.mv (.t 7))])
 .ret)) }
def BZ:Fun:={ cin:=[.id],cout:=[.sl 1 .id],ntmps:=9,keep:=false,res:=[(2,none)],body :=
 (.seq (.reg [zo 2 (.mv (.c .nsl))])
 (.seq (.reg [zo 4 (.mv (.t 0)),
 zo 5 (.call Dx [.t 4]),
 zo 3 (.mv (.t 5))])
 (.seq (.seq (.thw 3)
 (.reg [zo 6 (.mv (.t 3)),
 zo 7 (.call Cw [.t 6])]))
 (.seq (.reg [zo 8 (.mv (.t 3)),
 zo 2 (.mv (.t 8))])
 .ret)))) }
def BN:Fun:={ cin:=[.sl 1 .id],cout:=[.id],ntmps:=4,keep:=false,res:=[(2,none)],body :=
 (.seq (.reg [zo 1 (.box 37 1 (.t 0)),
 zo 2 (.mv (.c .nf))])
 (.seq (.reg [zo 3 (.mkf Ac [.t 1]),
 zo 2 (.mv (.t 3))])
 .ret)) }
def CO:Fun:={ cin:=[.id,.id],cout:=[.id],ntmps:=9,keep:=false,res:=[(4,none)],body :=
 (.seq (.reg [zo 4 (.mv (.c (.b false)))])
 (.seq (.reg [zo 5 (.mv (.t 0)),
 zo 6 (.mv (.t 1)),
 zo 7 (.call EO [.t 5,.t 6]),
 zo 8 (.bin .geq (.t 7) (.c (.i .i64 0))),
 zo 4 (.mv (.t 8))])
 .ret)) }
def DN:Fun:={ cin:=[(.sl 6 (.agg [.id,.id,.sl 1 .id,.sl 1 .id,.id,.id]))],cout:=[],ntmps:=31,keep:=true,res:=[(2,none)],body :=
 (.seq (.reg [zo 2 (.mv (.c .nsl))])
 (.seq (.reg [zo 6 (.mv (.t 0)),
 zo 7 (.call Af [.t 6]),
 zo 3 (.mv (.t 7))])
 (.seq (.seq (.reg [zo 8 (.mv (.t 0)),
 zo 9 (.len 1 (.t 8)),
 zo 10 (.mv (.c (.i .i64 0)))])
 (.blk 0 (.loop (.seq (.reg [zo 11 (.bin .lss (.t 10) (.t 9))])
 (.seq (.cond (.t 11)
 .skip
 (.exit 0))
 (.seq (.blk 1 (.seq (.reg [zo 12 (.mv (.t 10)),
 zo 13 (.ia 6 (.t 8) (.t 10)),
 zo 14 (.ld true 6 (.t 13)),
 zo 5 (.alloc 60 [.b false,.i .u8 0,.nsl,.nsl,.i .i64 0,.i .i64 0]),
 zo 4 (.mv (.t 12)),
 ⟨none,.st 6 (.t 5) (.t 14),none⟩])
 (.seq (.thw 3)
 (.regD [zo 15 (.mv (.t 3)),
 zo 16 (.mv (.t 4)),
 zo 17 (.mv (.t 3)),
 zo 18 (.mv (.t 4)),
 zo 19 (.fa 2 (.t 5)),
 zo 20 (.ld false 1 (.t 19)),
 zo 21 (.callQ true Ab [.t 20]),
 zo 22 (.fa 3 (.t 5)),
 zo 23 (.ld false 1 (.t 22)),
 zo 24 (.callQ true A2 [.t 23]),
 zo 25 (.ia 6 (.t 15) (.t 16)),
 zo 26 (.fa 2 (.t 25)),
 ⟨none,.st 1 (.t 26) (.t 21),none⟩,
 zo 27 (.ia 6 (.t 17) (.t 18)),
 zo 28 (.fa 3 (.t 27)),
 ⟨none,.st 1 (.t 28) (.t 24),none⟩] [(8,(6,8))]))))
 (.reg [zo 29 (.bin .add (.t 10) (.c (.i .i64 1))),
 zo 10 (.mv (.t 29))])))))))
 (.seq (.reg [zo 30 (.mv (.t 3)),
 zo 2 (.mv (.t 30))])
 .ret)))) }
def DC:Fun:={ cin:=[.id],cout:=[.id],ntmps:=17,keep:=false,res:=[(3,none)],body :=
 (.seq (.reg [zo 3 (.mv (.c (.b false)))])
 (.seq (.seq (.thw 1)
 (.reg [zo 4 (.ld false 1 (.t 1)),
 zo 5 (.mv (.t 0)),
 zo 6 (.ia 6 (.t 4) (.t 5)),
 zo 7 (.fa 0 (.t 6)),
 zo 8 (.ld false 1 (.t 7)),
 zo 9 (.mv (.t 8)),
 ⟨some 10,.ld false 1 (.t 1),some (9,true)⟩,
 ⟨some 11,.mv (.t 0),some (9,true)⟩,
 ⟨some 12,.ia 6 (.t 10) (.t 11),some (9,true)⟩,
 ⟨some 13,.fa 1 (.t 12),some (9,true)⟩,
 ⟨some 14,.ld false 1 (.t 13),some (9,true)⟩,
 ⟨some 15,.bin .neq (.t 14) (.c (.i .u8 0)),some (9,true)⟩,
 zo 16 (.pick (.t 9) (.t 15) (.c (.b false))),
 zo 3 (.mv (.t 16))]))
 .ret)) }
def A8:Fun:={ cin:=[.id,.id],cout:=[.id],ntmps:=8,keep:=false,res:=[(4,none)],body :=
 (.seq (.reg [zo 4 (.mv (.c (.i .i64 0)))])
 (.seq (.reg [zo 5 (.mv (.t 0)),
 zo 6 (.mv (.t 1)),
 zo 7 (.xtn 0 [.t 5,.t 6]),
 zo 4 (.mv (.t 7))])
 .ret)) }
def CV:Fun:={ cin:=[.id],cout:=[],ntmps:=5,keep:=true,res:=[(2,none)],body :=
 (.seq (.reg [zo 2 (.mv (.c .nsl))])
 (.seq (.reg [zo 3 (.mv (.t 0)),
 zo 4 (.call Cu [.c .nsl,.t 3]),
 zo 2 (.mv (.t 4))])
 .ret)) }
def Dh:Fun:={ cin:=[],cout:=[],ntmps:=0,keep:=false,res:=[],body:=.bad,prim:=some GE }
def A6:Fun:={ cin:=[.id],cout:=[],ntmps:=16,keep:=false,res:=[],body :=
 (.seq (.reg [zo 5 (.ld false 1 (.t 1)),
 zo 6 (.len 1 (.t 5)),
 zo 7 (.mv (.c (.i .i64 0)))])
 (.blk 0 (.loop (.seq (.reg [zo 8 (.bin .lss (.t 7) (.t 6))])
 (.seq (.cond (.t 8)
 .skip
 (.exit 0))
 (.seq (.blk 1 (.seq (.reg [zo 9 (.ia 1 (.t 5) (.t 7)),
 zo 10 (.ld false 1 (.t 9)),
 zo 4 (.mv (.t 10))])
 (.seq (.reg [zo 11 (.mv (.t 0)),
 zo 12 (.mv (.t 4)),
 zo 13 (.callX (.t 11) [.t 12]),
 zo 14 (.un .not (.t 13))])
 (.cond (.t 14)
 .ret
 .skip))))
 (.reg [zo 15 (.bin .add (.t 7) (.c (.i .i64 1))),
 zo 7 (.mv (.t 15))]))))))) }
def Bi:Fun:={ cin:=[.id,.id],cout:=[.id],ntmps:=55,keep:=false,res:=[(4,none)],body :=
 (.seq (.reg [zo 4 (.mv (.c (.i .i64 0)))])
 (.seq (.seq (.reg [zo 11 (.mv (.t 1)),
 zo 12 (.bin .eql (.t 11) (.c (.s [])))])
 (.cond (.t 12)
 (.seq (.reg [zo 4 (.mv (.c (.i .i64 (-1))))])
 .ret)
 .skip))
 (.seq (.seq (.reg [zo 13 (.mv (.t 1)),
 zo 14 (.len 0 (.t 13)),
 zo 15 (.bin .eql (.t 14) (.c (.i .i64 1)))])
 (.cond (.t 15)
 (.seq (.reg [zo 16 (.mv (.t 1)),
 zo 17 (.ixS (.t 16) (.c (.i .i64 0))),
 zo 18 (.cvI .i32 (.t 17)),
 zo 5 (.mv (.t 18))])
 (.seq (.seq (.reg [zo 19 (.mv (.t 5)),
 zo 20 (.bin .geq (.t 19) (.c (.i .i32 128)))])
 (.cond (.t 20)
 (.reg [zo 5 (.mv (.c (.i .i32 65533)))])
 .skip))
 (.seq (.reg [zo 21 (.mv (.t 0)),
 zo 22 (.mv (.t 5)),
 zo 23 (.call CD [.t 21,.t 22]),
 zo 4 (.mv (.t 23))])
 .ret)))
 .skip))
 (.seq (.seq (.reg [zo 24 (.mv (.t 0)),
 zo 25 (.len 0 (.t 24)),
 zo 26 (.call Bz [.t 25])])
 (.cond (.t 26)
 (.seq (.reg [zo 28 (.mv (.t 1)),
 zo 29 (.call Cp [.t 28]),
 zo 27 (.mv (.t 29)),
 zo 30 (.ext (.t 27) 0),
 zo 31 (.ext (.t 27) 1),
 zo 6 (.alloc 130 [.b false,.b false,.b false,.b false,.b false,.b false,.b false,.b false,.b false,.b false,.b false,.b false,.b false,.b false,.b false,.b false,.b false,.b false,.b false,.b false,.b false,.b false,.b false,.b false,.b false,.b false,.b false,.b false,.b false,.b false,.b false,.b false,.b false,.b false,.b false,.b false,.b false,.b false,.b false,.b false,.b false,.b false,.b false,.b false,.b false,.b false,.b false,.b false,.b false,.b false,.b false,.b false,.b false,.b false,.b false,.b false,.b false,.b false,.b false,.b false,.b false,.b false,.b false,.b false,.b false,.b false,.b false,.b false,.b false,.b false,.b false,.b false,.b false,.b false,.b false,.b false,.b false,.b false,.b false,.b false,.b false,.b false,.b false,.b false,.b false,.b false,.b false,.b false,.b false,.b false,.b false,.b false,.b false,.b false,.b false,.b false,.b false,.b false,.b false,.b false,.b false,.b false,.b false,.b false,.b false,.b false,.b false,.b false,.b false,.b false,.b false,.b false,.b false,.b false,.b false,.b false,.b false,.b false,.b false,.b false,.b false,.b false,.b false,.b false,.b false,.b false,.b false,.b false,.b false,.b false,.b false,.b false,.b false,.b false,.b false,.b false,.b false,.b false,.b false,.b false,.b false,.b false,.b false,.b false,.b false,.b false,.b false,.b false,.b false,.b false,.b false,.b false,.b false,.b false,.b false,.b false,.b false,.b false,.b false,.b false,.b false,.b false,.b false,.b false,.b false,.b false,.b false,.b false,.b false,.b false,.b false,.b false,.b false,.b false,.b false,.b false,.b false,.b false,.b false,.b false,.b false,.b false,.b false,.b false,.b false,.b false,.b false,.b false,.b false,.b false,.b false,.b false,.b false,.b false,.b false,.b false,.b false,.b false,.b false,.b false,.b false,.b false,.b false,.b false,.b false,.b false,.b false,.b false,.b false,.b false,.b false,.b false,.b false,.b false,.b false,.b false,.b false,.b false,.b false,.b false,.b false,.b false,.b false,.b false,.b false,.b false,.b false,.b false,.b false,.b false,.b false,.b false,.b false,.b false,.b false,.b false,.b false,.b false,.b false,.b false,.b false,.b false,.b false,.b false,.b false,.b false,.b false,.b false,.b false,.b false,.b false,.b false,.b false,.b false,.b false,.b false]),
 ⟨none,.st 256 (.t 6) (.t 30),none⟩,
 zo 7 (.mv (.t 31))])
 (.seq (.reg [zo 32 (.mv (.t 7))])
 (.cond (.t 32)
 (.seq (.seq (.reg [zo 8 (.mv (.c (.i .i64 0)))])
 (.blk 0 (.loop (.seq (.seq (.reg [zo 33 (.mv (.t 8)),
 zo 34 (.mv (.t 0)),
 zo 35 (.len 0 (.t 34)),
 zo 36 (.bin .lss (.t 33) (.t 35))])
 (.cond (.t 36)
 .skip
 (.exit 0)))
 (.seq (.blk 1 (.seq (.reg [zo 39 (.mv (.t 0)),
 zo 40 (.mv (.t 8)),
 zo 41 (.ixS (.t 39) (.t 40)),
 zo 42 (.call B2 [.t 6,.t 41])])
 (.cond (.t 42)
 (.seq (.reg [zo 43 (.mv (.t 8)),
 zo 4 (.mv (.t 43))])
 .ret)
 .skip)))
 (.reg [zo 37 (.mv (.t 8)),
 zo 38 (.bin .add (.t 37) (.c (.i .i64 1))),
 zo 8 (.mv (.t 38))]))))))
 (.seq (.reg [zo 4 (.mv (.c (.i .i64 (-1))))])
 .ret))
 .skip)))
 .skip))
 (.seq (.seq (.reg [zo 44 (.mv (.t 0)),
 zo 45 (.siter (.t 44))])
 (.blk 2 (.loop (.seq (.reg [zo 46 (.snext (.t 45)),
 zo 47 (.ext (.t 46) 0)])
 (.seq (.cond (.t 47)
 .skip
 (.exit 2))
 (.blk 3 (.seq (.reg [zo 48 (.ext (.t 46) 1),
 zo 49 (.ext (.t 46) 2),
 zo 9 (.mv (.t 48)),
 zo 10 (.mv (.t 49))])
 (.seq (.reg [zo 50 (.mv (.t 1)),
 zo 51 (.mv (.t 10)),
 zo 52 (.call CD [.t 50,.t 51]),
 zo 53 (.bin .geq (.t 52) (.c (.i .i64 0)))])
 (.cond (.t 53)
 (.seq (.reg [zo 54 (.mv (.t 9)),
 zo 4 (.mv (.t 54))])
 .ret)
 .skip)))))))))
 (.seq (.reg [zo 4 (.mv (.c (.i .i64 (-1))))])
 .ret)))))) }
def AP:Fun:={ cin:=[.sl 1 .id],cout:=[],ntmps:=8,keep:=true,res:=[(2,none)],body :=
 (.seq (.reg [zo 2 (.mv (.c .nsl))])
 (.seq (.seq (.reg [zo 3 (.mv (.t 0)),
 zo 4 (.eq .sl false (.t 3) (.c .nsl))])
 (.cond (.t 4)
 (.seq (.reg [zo 2 (.mv (.c .nsl))])
 .ret)
 .skip))
 (.seq (.reg [zo 5 (.bsl 1 []),
 zo 6 (.mv (.t 0)),
 zo 7 (.app 1 3 (.t 5) (.t 6)),
 zo 2 (.mv (.t 7))])
 .ret))) }
def Ak:Fun:={ cin:=[],cout:=[],ntmps:=13,keep:=true,res:=[(4,none)],body :=
 (.seq (.reg [zo 2 (.box 37 1 (.t 0)),
 zo 4 (.mv (.c .nsl))])
 (.seq (.seq (.reg [zo 6 (.mv (.t 1))])
 (.blk 0 (.rf (.t 6) [7] (.reg [zo 5 (.mv (.t 7))])
 (.blk 1 (.reg [zo 8 (.ld false 1 (.t 2)),
 zo 9 (.mv (.t 5)),
 zo 10 (.bsl 1 [.t 9]),
 zo 11 (.app 1 3 (.t 8) (.t 10)),
 ⟨none,.st 1 (.t 2) (.t 11),none⟩])))))
 (.seq (.reg [zo 12 (.ld false 1 (.t 2)),
 zo 4 (.mv (.t 12))])
 .ret))) }
def A7:Fun:={ cin:=[.id,.id],cout:=[.id],ntmps:=187,keep:=false,res:=[(4,none)],body :=
 (.seq (.reg [zo 4 (.mv (.c (.i .i64 0)))])
 (.blk 0 (.seq (.reg [zo 161 (.mv (.t 1)),
 zo 162 (.bin .leq (.c (.i .i32 0)) (.t 161)),
 zo 163 (.mv (.t 162)),
 ⟨some 164,.mv (.t 1),some (163,true)⟩,
 ⟨some 165,.bin .lss (.t 164) (.c (.i .i32 128)),some (163,true)⟩,
 zo 166 (.pick (.t 163) (.t 165) (.c (.b false))),
 zo 160 (.mv (.t 166))])
 (.cond (.t 160)
 (.seq (.reg [zo 167 (.mv (.t 0)),
 zo 168 (.mv (.t 1)),
 zo 169 (.cvI .u8 (.t 168)),
 zo 170 (.call DJ [.t 167,.t 169]),
 zo 4 (.mv (.t 170))])
 .ret)
 (.seq (.reg [zo 172 (.mv (.t 1)),
 zo 173 (.bin .eql (.t 172) (.c (.i .i32 65533))),
 zo 171 (.mv (.t 173))])
 (.cond (.t 171)
 (.seq (.seq (.reg [zo 174 (.mv (.t 0)),
 zo 175 (.siter (.t 174))])
 (.blk 9 (.loop (.seq (.reg [zo 176 (.snext (.t 175)),
 zo 177 (.ext (.t 176) 0)])
 (.seq (.cond (.t 177)
 .skip
 (.exit 9))
 (.blk 10 (.seq (.reg [zo 178 (.ext (.t 176) 1),
 zo 179 (.ext (.t 176) 2),
 zo 5 (.mv (.t 178)),
 zo 6 (.mv (.t 179))])
 (.seq (.reg [zo 180 (.mv (.t 6)),
 zo 181 (.bin .eql (.t 180) (.c (.i .i32 65533)))])
 (.cond (.t 181)
 (.seq (.reg [zo 182 (.mv (.t 5)),
 zo 4 (.mv (.t 182))])
 .ret)
 .skip)))))))))
 (.seq (.reg [zo 4 (.mv (.c (.i .i64 (-1))))])
 .ret))
 (.seq (.reg [zo 184 (.mv (.t 1)),
 zo 185 (.call DB [.t 184]),
 zo 186 (.un .not (.t 185)),
 zo 183 (.mv (.t 186))])
 (.cond (.t 183)
 (.seq (.reg [zo 4 (.mv (.c (.i .i64 (-1))))])
 .ret)
 (.seq (.reg [zo 17 (.mv (.t 1)),
 zo 18 (.cvRS (.t 17)),
 zo 7 (.mv (.t 18))])
 (.seq (.reg [zo 19 (.mv (.t 7)),
 zo 20 (.len 0 (.t 19)),
 zo 21 (.bin .sub (.t 20) (.c (.i .i64 1))),
 zo 8 (.mv (.t 21))])
 (.seq (.reg [zo 22 (.mv (.t 8)),
 zo 9 (.mv (.t 22))])
 (.seq (.reg [zo 10 (.mv (.c (.i .i64 0)))])
 (.seq (.blk 1 (.loop (.seq (.seq (.reg [zo 23 (.mv (.t 9)),
 zo 24 (.mv (.t 0)),
 zo 25 (.len 0 (.t 24)),
 zo 26 (.bin .lss (.t 23) (.t 25))])
 (.cond (.t 26)
 .skip
 (.exit 1)))
 (.blk 2 (.seq (.seq (.regD [zo 27 (.mv (.t 0)),
 zo 28 (.mv (.t 9)),
 zo 29 (.ixS (.t 27) (.t 28)),
 zo 30 (.mv (.t 7)),
 zo 31 (.mv (.t 8)),
 zo 32 (.ixS (.t 30) (.t 31)),
 zo 33 (.bin .neq (.t 29) (.t 32))] [])
 (.cond (.t 33)
 (.seq (.regD [zo 34 (.mv (.t 0)),
 zo 35 (.mv (.t 9)),
 zo 36 (.bin .add (.t 35) (.c (.i .i64 1))),
 zo 37 (.slS (.t 34) (some (.t 36)) none),
 zo 38 (.mv (.t 7)),
 zo 39 (.mv (.t 8)),
 zo 40 (.ixS (.t 38) (.t 39)),
 zo 41 (.call DJ [.t 37,.t 40]),
 zo 11 (.mv (.t 41))] [])
 (.seq (.seq (.reg [zo 42 (.mv (.t 11)),
 zo 43 (.bin .lss (.t 42) (.c (.i .i64 0)))])
 (.cond (.t 43)
 (.seq (.reg [zo 4 (.mv (.c (.i .i64 (-1))))])
 .ret)
 .skip))
 (.reg [zo 44 (.mv (.t 9)),
 zo 45 (.mv (.t 11)),
 zo 46 (.bin .add (.t 45) (.c (.i .i64 1))),
 zo 47 (.bin .add (.t 44) (.t 46)),
 zo 9 (.mv (.t 47))])))
 .skip))
 (.seq (.seq (.reg [zo 12 (.mv (.c (.i .i64 1)))])
 (.blk 3 (.loop (.seq (.seq (.reg [zo 48 (.mv (.t 12)),
 zo 49 (.mv (.t 7)),
 zo 50 (.len 0 (.t 49)),
 zo 51 (.bin .lss (.t 48) (.t 50))])
 (.cond (.t 51)
 .skip
 (.exit 3)))
 (.seq (.blk 4 (.seq (.regD [zo 54 (.mv (.t 0)),
 zo 55 (.mv (.t 9)),
 zo 56 (.mv (.t 12)),
 zo 57 (.bin .sub (.t 55) (.t 56)),
 zo 58 (.ixS (.t 54) (.t 57)),
 zo 59 (.mv (.t 7)),
 zo 60 (.mv (.t 8)),
 zo 61 (.mv (.t 12)),
 zo 62 (.bin .sub (.t 60) (.t 61)),
 zo 63 (.ixS (.t 59) (.t 62)),
 zo 64 (.bin .neq (.t 58) (.t 63))] [])
 (.cond (.t 64)
 .bad
 .skip)))
 (.reg [zo 52 (.mv (.t 12)),
 zo 53 (.bin .add (.t 52) (.c (.i .i64 1))),
 zo 12 (.mv (.t 53))]))))))
 (.seq (.seq (.reg [zo 65 (.mv (.t 9)),
 zo 66 (.mv (.t 8)),
 zo 67 (.bin .sub (.t 65) (.t 66)),
 zo 4 (.mv (.t 67))])
 .ret)
 (.seq .skip
 (.seq (.reg [zo 68 (.mv (.t 10)),
 zo 69 (.bin .add (.t 68) (.c (.i .i64 1))),
 zo 10 (.mv (.t 69))])
 (.seq (.reg [zo 70 (.mv (.t 9)),
 zo 71 (.bin .add (.t 70) (.c (.i .i64 1))),
 zo 9 (.mv (.t 71))])
 (.seq (.reg [zo 72 (.mv (.c (.b true))),
 ⟨some 73,.mv (.t 10),some (72,true)⟩,
 ⟨some 74,.mv (.t 9),some (72,true)⟩,
 ⟨some 75,.call Dr [.t 74],some (72,true)⟩,
 ⟨some 76,.bin .gtr (.t 73) (.t 75),some (72,true)⟩,
 zo 77 (.pick (.t 72) (.t 76) (.c (.b false))),
 zo 78 (.mv (.t 77)),
 ⟨some 79,.mv (.t 9),some (78,true)⟩,
 ⟨some 80,.mv (.t 0),some (78,true)⟩,
 ⟨some 81,.len 0 (.t 80),some (78,true)⟩,
 ⟨some 82,.bin .lss (.t 79) (.t 81),some (78,true)⟩,
 zo 83 (.pick (.t 78) (.t 82) (.c (.b false))),
 zo 84 (.mv (.t 83)),
 ⟨some 85,.mv (.c (.b false)),some (84,false)⟩,
 ⟨some 86,.mv (.t 10),some (85,true)⟩,
 ⟨some 87,.mv (.t 9),some (85,true)⟩,
 ⟨some 88,.bin .shr (.t 87) (.c (.i .u64 4)),some (85,true)⟩,
 ⟨some 89,.bin .add (.c (.i .i64 4)) (.t 88),some (85,true)⟩,
 ⟨some 90,.bin .geq (.t 86) (.t 89),some (85,true)⟩,
 ⟨some 91,.pick (.t 85) (.t 90) (.c (.b false)),some (84,false)⟩,
 ⟨some 92,.mv (.t 91),some (84,false)⟩,
 ⟨some 93,.mv (.t 9),some (92,true)⟩,
 ⟨some 94,.mv (.t 0),some (92,true)⟩,
 ⟨some 95,.len 0 (.t 94),some (92,true)⟩,
 ⟨some 96,.bin .lss (.t 93) (.t 95),some (92,true)⟩,
 ⟨some 97,.pick (.t 92) (.t 96) (.c (.b false)),some (84,false)⟩,
 zo 98 (.pick (.t 84) (.c (.b true)) (.t 97))])
 (.cond (.t 98)
 .bad
 .skip))))))))))))
 (.seq (.seq (.reg [zo 4 (.mv (.c (.i .i64 (-1))))])
 .ret)
 (.seq .skip
 (.seq (.cond (.c (.b true))
 (.seq (.reg [zo 99 (.mv (.t 0)),
 zo 100 (.mv (.t 9)),
 zo 101 (.mv (.t 8)),
 zo 102 (.bin .sub (.t 100) (.t 101)),
 zo 103 (.slS (.t 99) (some (.t 102)) none),
 zo 104 (.mv (.t 1)),
 zo 105 (.cvRS (.t 104)),
 zo 106 (.bad),
 zo 13 (.mv (.t 106))])
 (.seq (.reg [zo 107 (.mv (.t 13)),
 zo 108 (.bin .geq (.t 107) (.c (.i .i64 0)))])
 (.cond (.t 108)
 (.seq (.reg [zo 109 (.mv (.t 9)),
 zo 110 (.mv (.t 13)),
 zo 111 (.bin .add (.t 109) (.t 110)),
 zo 112 (.mv (.t 8)),
 zo 113 (.bin .sub (.t 111) (.t 112)),
 zo 4 (.mv (.t 113))])
 .ret)
 .skip)))
 (.seq (.reg [zo 114 (.mv (.t 7)),
 zo 115 (.mv (.t 8)),
 zo 116 (.ixS (.t 114) (.t 115)),
 zo 14 (.mv (.t 116))])
 (.seq (.reg [zo 117 (.mv (.t 7)),
 zo 118 (.mv (.t 8)),
 zo 119 (.bin .sub (.t 118) (.c (.i .i64 1))),
 zo 120 (.ixS (.t 117) (.t 119)),
 zo 15 (.mv (.t 120))])
 (.seq .skip
 (.blk 5 (.loop (.seq (.seq (.reg [zo 121 (.mv (.t 9)),
 zo 122 (.mv (.t 0)),
 zo 123 (.len 0 (.t 122)),
 zo 124 (.bin .lss (.t 121) (.t 123))])
 (.cond (.t 124)
 .skip
 (.exit 5)))
 (.seq (.blk 6 (.seq (.reg [zo 127 (.mv (.t 0)),
 zo 128 (.mv (.t 9)),
 zo 129 (.ixS (.t 127) (.t 128)),
 zo 130 (.mv (.t 14)),
 zo 131 (.bin .eql (.t 129) (.t 130)),
 zo 132 (.mv (.t 131)),
 ⟨some 133,.mv (.t 0),some (132,true)⟩,
 ⟨some 134,.mv (.t 9),some (132,true)⟩,
 ⟨some 135,.bin .sub (.t 134) (.c (.i .i64 1)),some (132,true)⟩,
 ⟨some 136,.ixS (.t 133) (.t 135),some (132,true)⟩,
 ⟨some 137,.mv (.t 15),some (132,true)⟩,
 ⟨some 138,.bin .eql (.t 136) (.t 137),some (132,true)⟩,
 zo 139 (.pick (.t 132) (.t 138) (.c (.b false)))])
 (.cond (.t 139)
 (.seq (.seq (.reg [zo 16 (.mv (.c (.i .i64 2)))])
 (.blk 7 (.loop (.seq (.seq (.reg [zo 140 (.mv (.t 16)),
 zo 141 (.mv (.t 7)),
 zo 142 (.len 0 (.t 141)),
 zo 143 (.bin .lss (.t 140) (.t 142))])
 (.cond (.t 143)
 .skip
 (.exit 7)))
 (.seq (.blk 8 (.seq (.regD [zo 146 (.mv (.t 0)),
 zo 147 (.mv (.t 9)),
 zo 148 (.mv (.t 16)),
 zo 149 (.bin .sub (.t 147) (.t 148)),
 zo 150 (.ixS (.t 146) (.t 149)),
 zo 151 (.mv (.t 7)),
 zo 152 (.mv (.t 8)),
 zo 153 (.mv (.t 16)),
 zo 154 (.bin .sub (.t 152) (.t 153)),
 zo 155 (.ixS (.t 151) (.t 154)),
 zo 156 (.bin .neq (.t 150) (.t 155))] [])
 (.cond (.t 156)
 (.exit 6)
 .skip)))
 (.reg [zo 144 (.mv (.t 16)),
 zo 145 (.bin .add (.t 144) (.c (.i .i64 1))),
 zo 16 (.mv (.t 145))]))))))
 (.seq (.reg [zo 157 (.mv (.t 9)),
 zo 158 (.mv (.t 8)),
 zo 159 (.bin .sub (.t 157) (.t 158)),
 zo 4 (.mv (.t 159))])
 .ret))
 .skip)))
 (.reg [zo 125 (.mv (.t 9)),
 zo 126 (.bin .add (.t 125) (.c (.i .i64 1))),
 zo 9 (.mv (.t 126))])))))))))
 (.seq (.reg [zo 4 (.mv (.c (.i .i64 (-1))))])
 .ret))))))))))))))))) }
def Ba:Fun:={ cin:=[.id],cout:=[.id],ntmps:=5,keep:=false,res:=[(2,none)],body :=
 (.seq (.reg [zo 2 (.mv (.c (.b false)))])
 (.seq (.reg [zo 3 (.mv (.t 0)),
 zo 4 (.bin .gtr (.t 3) (.c (.i .i64 8))),
 zo 2 (.mv (.t 4))])
 .ret)) }
def BU:Fun:={ cin:=[.id],cout:=[(.agg [.id,.id,.id,.id,.id,.id,.id,.id,.id,.id,.id,.id,.id,.id,.id,.id,.id,.id,.id,.id,.id,.id,.id,.id,.id,.id,.id,.id,.id,.id,.id,.id,.id,.id,.id,.id,.id,.id,.id,.id,.id,.id,.id,.id,.id,.id,.id,.id,.id,.id,.id,.id,.id,.id,.id,.id,.id,.id,.id,.id,.id,.id,.id,.id,.id,.id,.id,.id,.id,.id,.id,.id,.id,.id,.id,.id,.id,.id,.id,.id,.id,.id,.id,.id,.id,.id,.id,.id,.id,.id,.id,.id,.id,.id,.id,.id,.id,.id,.id,.id,.id,.id,.id,.id,.id,.id,.id,.id,.id,.id,.id,.id,.id,.id,.id,.id,.id,.id,.id,.id,.id,.id,.id,.id,.id,.id,.id,.id,.id,.id,.id,.id,.id,.id,.id,.id,.id,.id,.id,.id,.id,.id,.id,.id,.id,.id,.id,.id,.id,.id,.id,.id,.id,.id,.id,.id,.id,.id,.id,.id,.id,.id,.id,.id,.id,.id,.id,.id,.id,.id,.id,.id,.id,.id,.id,.id,.id,.id,.id,.id,.id,.id,.id,.id,.id,.id,.id,.id,.id,.id,.id,.id,.id,.id,.id,.id,.id,.id,.id,.id,.id,.id,.id,.id,.id,.id,.id,.id,.id,.id,.id,.id,.id,.id,.id,.id,.id,.id,.id,.id,.id,.id,.id,.id,.id,.id,.id,.id,.id,.id,.id,.id,.id,.id,.id,.id,.id,.id,.id,.id,.id,.id,.id,.id,.id,.id,.id,.id,.id,.id,.id,.id,.id,.id,.id,.id]),.id],ntmps:=21,keep:=false,res:=[(2,some (true,256)),(3,none)],body :=
 (.seq (.reg [zo 2 (.alloc 130 [.b false,.b false,.b false,.b false,.b false,.b false,.b false,.b false,.b false,.b false,.b false,.b false,.b false,.b false,.b false,.b false,.b false,.b false,.b false,.b false,.b false,.b false,.b false,.b false,.b false,.b false,.b false,.b false,.b false,.b false,.b false,.b false,.b false,.b false,.b false,.b false,.b false,.b false,.b false,.b false,.b false,.b false,.b false,.b false,.b false,.b false,.b false,.b false,.b false,.b false,.b false,.b false,.b false,.b false,.b false,.b false,.b false,.b false,.b false,.b false,.b false,.b false,.b false,.b false,.b false,.b false,.b false,.b false,.b false,.b false,.b false,.b false,.b false,.b false,.b false,.b false,.b false,.b false,.b false,.b false,.b false,.b false,.b false,.b false,.b false,.b false,.b false,.b false,.b false,.b false,.b false,.b false,.b false,.b false,.b false,.b false,.b false,.b false,.b false,.b false,.b false,.b false,.b false,.b false,.b false,.b false,.b false,.b false,.b false,.b false,.b false,.b false,.b false,.b false,.b false,.b false,.b false,.b false,.b false,.b false,.b false,.b false,.b false,.b false,.b false,.b false,.b false,.b false,.b false,.b false,.b false,.b false,.b false,.b false,.b false,.b false,.b false,.b false,.b false,.b false,.b false,.b false,.b false,.b false,.b false,.b false,.b false,.b false,.b false,.b false,.b false,.b false,.b false,.b false,.b false,.b false,.b false,.b false,.b false,.b false,.b false,.b false,.b false,.b false,.b false,.b false,.b false,.b false,.b false,.b false,.b false,.b false,.b false,.b false,.b false,.b false,.b false,.b false,.b false,.b false,.b false,.b false,.b false,.b false,.b false,.b false,.b false,.b false,.b false,.b false,.b false,.b false,.b false,.b false,.b false,.b false,.b false,.b false,.b false,.b false,.b false,.b false,.b false,.b false,.b false,.b false,.b false,.b false,.b false,.b false,.b false,.b false,.b false,.b false,.b false,.b false,.b false,.b false,.b false,.b false,.b false,.b false,.b false,.b false,.b false,.b false,.b false,.b false,.b false,.b false,.b false,.b false,.b false,.b false,.b false,.b false,.b false,.b false,.b false,.b false,.b false,.b false,.b false,.b false,.b false,.b false,.b false,.b false,.b false,.b false,.b false,.b false,.b false,.b false,.b false,.b false]),
 zo 3 (.mv (.c (.b false)))])
 (.seq (.seq (.reg [zo 4 (.mv (.c (.i .i64 0)))])
 (.blk 0 (.loop (.seq (.seq (.reg [zo 6 (.mv (.t 4)),
 zo 7 (.mv (.t 0)),
 zo 8 (.len 0 (.t 7)),
 zo 9 (.bin .lss (.t 6) (.t 8))])
 (.cond (.t 9)
 .skip
 (.exit 0)))
 (.seq (.blk 1 (.seq (.reg [zo 12 (.mv (.t 0)),
 zo 13 (.mv (.t 4)),
 zo 14 (.ixS (.t 12) (.t 13)),
 zo 5 (.mv (.t 14))])
 (.seq (.seq (.reg [zo 15 (.mv (.t 5)),
 zo 16 (.bin .geq (.t 15) (.c (.i .u8 128)))])
 (.cond (.t 16)
 (.seq (.reg [zo 17 (.ld true 256 (.t 2)),
 ⟨none,.st 256 (.t 2) (.t 17),none⟩,
 zo 3 (.mv (.c (.b false)))])
 .ret)
 .skip))
 (.reg [zo 18 (.mv (.t 5)),
 zo 19 (.iaA 256 1 (.t 2) (.t 18)),
 ⟨none,.st 1 (.t 19) (.c (.b true)),none⟩]))))
 (.reg [zo 10 (.mv (.t 4)),
 zo 11 (.bin .add (.t 10) (.c (.i .i64 1))),
 zo 4 (.mv (.t 11))]))))))
 (.seq (.reg [zo 20 (.ld true 256 (.t 2)),
 ⟨none,.st 256 (.t 2) (.t 20),none⟩,
 zo 3 (.mv (.c (.b true)))])
 .ret))) }
def Bb:Fun:={ cin:=[.id,.id],cout:=[.id],ntmps:=10,keep:=false,res:=[(4,none)],body :=
 (.seq (.reg [zo 4 (.mv (.c (.b false)))])
 (.seq (.reg [zo 5 (.mv (.t 0)),
 zo 6 (.mv (.t 1)),
 zo 7 (.nck (.t 5)),
 zo 8 (.iaA 256 1 (.t 7) (.t 6)),
 zo 9 (.ld false 1 (.t 8)),
 zo 4 (.mv (.t 9))])
 .ret)) }
def Br:Fun:={ cin:=[.id],cout:=[.id],ntmps:=17,keep:=false,res:=[(2,none)],body :=
 (.seq (.reg [zo 2 (.mv (.c (.b false)))])
 (.seq (.blk 0 (.seq (.reg [zo 4 (.mv (.t 0)),
 zo 5 (.bin .leq (.c (.i .i32 0)) (.t 4)),
 zo 6 (.mv (.t 5)),
 ⟨some 7,.mv (.t 0),some (6,true)⟩,
 ⟨some 8,.bin .lss (.t 7) (.c (.i .i32 55296)),some (6,true)⟩,
 zo 9 (.pick (.t 6) (.t 8) (.c (.b false))),
 zo 3 (.mv (.t 9))])
 (.cond (.t 3)
 (.seq (.reg [zo 2 (.mv (.c (.b true)))])
 .ret)
 (.seq (.reg [zo 11 (.mv (.t 0)),
 zo 12 (.bin .lss (.c (.i .i32 57343)) (.t 11)),
 zo 13 (.mv (.t 12)),
 ⟨some 14,.mv (.t 0),some (13,true)⟩,
 ⟨some 15,.bin .leq (.t 14) (.c (.i .i32 1114111)),some (13,true)⟩,
 zo 16 (.pick (.t 13) (.t 15) (.c (.b false))),
 zo 10 (.mv (.t 16))])
 (.cond (.t 10)
 (.seq (.reg [zo 2 (.mv (.c (.b true)))])
 .ret)
 .skip)))))
 (.seq (.reg [zo 2 (.mv (.c (.b false)))])
 .ret))) }
def B8:Fun:={ cin:=[.id],cout:=[.id],ntmps:=6,keep:=false,res:=[(2,none)],body :=
 (.seq (.reg [zo 2 (.mv (.c (.i .i64 0)))])
 (.seq (.reg [zo 3 (.mv (.t 0)),
 zo 4 (.bin .add (.t 3) (.c (.i .i64 16))),
 zo 5 (.bin .quo (.t 4) (.c (.i .i64 8))),
 zo 2 (.mv (.t 5))])
 .ret)) }
def tab:PT:=(.n 77 Be (.n 51 Cx (.n 30 AY (.n 10 AO (.n 8 Cb (.n 7 BT (.n 3 Aj .e .e) .e) (.n 9 DK .e .e)) (.n 12 BM (.n 11 Bm .e .e) (.n 28 EP .e .e))) (.n 34 B9 (.n 32 Ad (.n 31 Ar .e .e) (.n 33 Al .e .e)) (.n 39 BI (.n 35 AM .e .e) (.n 50 Ey .e .e)))) (.n 60 C1 (.n 56 BE (.n 54 BD (.n 53 FZ (.n 52 AN .e .e) .e) (.n 55 Cc .e .e)) (.n 58 Cz (.n 57 Cy .e .e) (.n 59 BF .e .e))) (.n 64 Au (.n 62 c_touchstoneref22_with (.n 61 A5 .e .e) (.n 63 Ai .e .e)) (.n 75 BX (.n 65 Cd .e .e) (.n 76 Aa .e .e))))) (.n 101 BN (.n 90 Cl (.n 86 BP (.n 84 DL (.n 83 BB (.n 81 AL .e .e) .e) (.n 85 AZ .e .e)) (.n 88 Dg (.n 87 BH .e .e) (.n 89 DM .e .e))) (.n 94 Bq (.n 92 C5 (.n 91 Bp .e .e) (.n 93 CJ .e .e)) (.n 96 Cm (.n 95 C6 .e .e) (.n 100 BZ .e .e)))) (.n 120 AP (.n 113 CV (.n 110 DC (.n 109 DN (.n 108 CO .e .e) .e) (.n 111 A8 .e .e)) (.n 115 A6 (.n 114 Dh .e .e) (.n 119 Bi .e .e))) (.n 128 BU (.n 126 A7 (.n 122 Ak .e .e) (.n 127 Ba .e .e)) (.n 141 Br (.n 129 Bb .e .e) (.n 142 B8 .e .e))))))
def prog (n:Nat):Option Fun:=tab.get n
def tabC:PT:=(.n 90 Cl (.n 56 BE (.n 50 Ey (.n 28 EP (.n 9 DK (.n 8 EB .e .e) (.n 13 JT .e .e)) (.n 35 AM (.n 30 AY .e .e) .e)) (.n 53 FZ (.n 52 AN (.n 51 Cx .e .e) .e) (.n 55 Cc (.n 54 BD .e .e) .e))) (.n 84 DL (.n 59 BF (.n 58 Cz (.n 57 Cy .e .e) .e) (.n 81 AL (.n 60 C1 .e .e) .e)) (.n 87 BH (.n 86 BP (.n 85 AZ .e .e) .e) (.n 89 DM (.n 88 Dg .e .e) .e)))) (.n 113 CV (.n 100 BZ (.n 94 Bq (.n 92 C5 (.n 91 Bp .e .e) (.n 93 CJ .e .e)) (.n 96 Cm (.n 95 C6 .e .e) .e)) (.n 109 DN (.n 108 CO (.n 101 BN .e .e) .e) (.n 111 A8 (.n 110 DC .e .e) .e))) (.n 126 A7 (.n 119 Bi (.n 115 A6 (.n 114 Dh .e .e) .e) (.n 122 Ak (.n 120 AP .e .e) .e)) (.n 129 Bb (.n 128 BU (.n 127 Ba .e .e) .e) (.n 142 B8 (.n 141 Br .e .e) .e)))))
def progC (n:Nat):Option Fun:=tabC.get n
theorem Fj:prog Bg=some Aj:=rfl
theorem EZ:prog Az=some BT:=rfl
theorem Gl:prog BK=some Cb:=rfl
theorem QD:prog C3=some DK:=rfl
theorem G7:prog Bj=some AO:=rfl
theorem Ea:prog A1=some Bm:=rfl
theorem Gm:prog BL=some BM:=rfl
theorem O2:prog EN=some EP:=rfl
theorem JU:prog BV=some AY:=rfl
theorem G8:prog Bk=some Ar:=rfl
theorem Gn:prog Bd=some Ad:=rfl
theorem G9:prog Bl=some Al:=rfl
theorem HA:prog DW=some B9:=rfl
theorem EW:prog Af=some AM:=rfl
theorem He:prog Db=some BI:=rfl
theorem T1:prog JS=some Ey:=rfl
theorem T3:prog L7=some Cx:=rfl
theorem DS:prog BO=some AN:=rfl
theorem QE:prog Gk=some FZ:=rfl
theorem II:prog A3=some BD:=rfl
theorem Nw:prog Dp=some Cc:=rfl
theorem IJ:prog A4=some BE:=rfl
theorem O3:prog D9=some Cy:=rfl
theorem O4:prog Dc=some Cz:=rfl
theorem IK:prog AX=some BF:=rfl
theorem O5:prog EA=some C1:=rfl
theorem Ez:prog Aw=some A5:=rfl
theorem HC:prog BA=some c_touchstoneref22_with:=rfl
theorem GH:prog BW=some Ai:=rfl
theorem EQ:prog Ao=some Au:=rfl
theorem Gp:prog DH=some Cd:=rfl
theorem Hf:prog Cv=some BX:=rfl
theorem Hg:prog Dd=some Aa:=rfl
theorem Gq:prog DI=some Be:=rfl
theorem FC:prog Ab=some AL:=rfl
theorem HD:prog DX=some BB:=rfl
theorem QF:prog Is=some DL:=rfl
theorem Ds:prog B7=some AZ:=rfl
theorem Mm:prog Ce=some BP:=rfl
theorem L8:prog CM=some BH:=rfl
theorem L9:prog C4=some Dg:=rfl
theorem JV:prog CZ=some DM:=rfl
theorem MA:prog CN=some Cl:=rfl
theorem Mn:prog Cf=some Bp:=rfl
theorem Mo:prog Cg=some C5:=rfl
theorem Mp:prog Bt=some CJ:=rfl
theorem Mq:prog Ch=some Bq:=rfl
theorem Mr:prog Ci=some C6:=rfl
theorem It:prog DJ=some Cm:=rfl
theorem Iu:prog D5=some BZ:=rfl
theorem Gr:prog Ca=some BN:=rfl
theorem Hh:prog De=some CO:=rfl
theorem QG:prog Ep=some DN:=rfl
theorem MB:prog Df=some DC:=rfl
theorem EY:prog B6=some A8:=rfl
theorem IL:prog Dx=some CV:=rfl
theorem E0:prog Cw=some Dh:=rfl
theorem Fz:prog Ac=some A6:=rfl
theorem JW:prog EO=some Bi:=rfl
theorem HG:prog A2=some AP:=rfl
theorem Fk:prog Cu=some Ak:=rfl
theorem Iv:prog CD=some A7:=rfl
theorem Fa:prog Bz=some Ba:=rfl
theorem HH:prog Cp=some BU:=rfl
theorem Fb:prog B2=some Bb:=rfl
theorem GI:prog DB=some Br:=rfl
theorem Me:prog Dr=some B8:=rfl
end Go.Proofs.Ytgloinighjdhlaa
