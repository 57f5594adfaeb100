/-
  The functions, as the abstract machine's: numbers and texts. By program.
-/
import Derived.Test.YtgloinighjdhlaaGreatAmKeep
import Derived.Test.YtgloinighjdhlaaGreatAmDeleg2
set_option linter.all false
set_option linter.unusedVariables false
set_option linter.unusedSimpArgs false
set_option linter.unusedSectionVars false
set_option maxRecDepth 100000
namespace Go.Proofs.YtgloinighjdhlaaGreat
open Go.Proofs.YtgloinighjdhlaaGreat.Am
def Bm:Nat:=4
def Eo:Nat:=12
def EE:Nat:=14
def Ep:Nat:=16
def Aw:Nat:=19
def A1:Nat:=20
def Ad:Nat:=21
def BJ:Nat:=22
def Db:Nat:=23
def CO:Nat:=24
def DQ:Nat:=25
def Af:Nat:=26
def BK:Nat:=27
def Cn:Nat:=29
def DG:Nat:=31
def Hk:Nat:=32
def BL:Nat:=34
def Dt:Nat:=38
def Co:Nat:=40
def Cp:Nat:=41
def CV:Nat:=43
def Cj:Nat:=44
def CW:Nat:=45
def Cq:Nat:=47
def Cr:Nat:=48
def C2:Nat:=50
def C3:Nat:=51
def PO:Nat:=52
def BX:Nat:=53
def Hl:Nat:=54
def J7:Nat:=55
def Mx:Nat:=56
def BQ:Nat:=57
def Hm:Nat:=58
def Fb:Nat:=59
def D4:Nat:=60
def Fc:Nat:=61
def C7:Nat:=62
def Dc:Nat:=68
def Bx:Nat:=69
def D5:Nat:=70
def Du:Nat:=72
def Ae:Nat:=73
def Ay:Nat:=74
def Az:Nat:=75
def D6:Nat:=76
def AZ:Nat:=77
def JY:Nat:=78
def Ig:Nat:=79
def GS:Nat:=80
def CB:Nat:=81
def AN:Nat:=82
def Ax:Nat:=83
def E6:Nat:=84
def Dw:Nat:=85
def EV:Nat:=91
def C8:Nat:=92
def Ac:Nat:=93
def Bu:Nat:=94
def Ft:Nat:=95
def F8:Nat:=96
def F9:Nat:=97
def JZ:Nat:=98
def K9:Nat:=99
def EG:Nat:=100
def BM:Nat:=101
def DR:Nat:=102
def DS:Nat:=103
def CL:Nat:=104
def Bz:Nat:=105
def C4:Nat:=106
def B2:Nat:=107
def C6:Nat:=110
def CM:Nat:=113
def Fd:Nat:=114
def Ih:Nat:=115
def Hn:Nat:=116
def Av:Nat:=117
def DH:Nat:=118
def B9:Nat:=119
def DT:Nat:=120
def EO:Nat:=121
def La:Nat:=122
def CA:Nat:=134
def B4:Nat:=135
def Dv:Nat:=136
def Jg:Nat:=143
abbrev zo(d:Nat)(p:AOp):Am.Op:=⟨some d,p,none⟩
def AF:Fun:={ cin:=[(.sl 6 (.agg [.id,.id,.sl 1 .id,.sl 1 .id,.id,.id])),(.agg [.id,.id,(.sl 1 .id),(.sl 4 (.agg [.id,.id,(.sl 1 .id),(.sl 4 (.agg [.id,.id,.sl 1 .id,.sl 4 .id]))]))]),.id,.id,.id],cout:=[.id],ntmps:=154,keep:=false,res:=[(10,none)],body :=
 (.seq (.reg [zo 6 (.box 37 4 (.t 1)),
 zo 10 (.mv (.c (.b false)))])
 (.seq (.seq (.reg [zo 20 (.mv (.t 0)),
 zo 21 (.call Aw [.t 20]),
 zo 22 (.mv (.t 21)),
 ⟨some 23,.ld true 4 (.t 6),some (22,false)⟩,
 ⟨some 24,.call A1 [.t 23],some (22,false)⟩,
 ⟨some 25,.un .not (.t 24),some (22,false)⟩,
 zo 26 (.pick (.t 22) (.c (.b true)) (.t 25)),
 zo 27 (.mv (.t 26)),
 ⟨some 28,.ld true 4 (.t 6),some (27,false)⟩,
 ⟨some 29,.call Ad [.t 28],some (27,false)⟩,
 ⟨some 30,.bin .gtr (.t 29) (.c (.i .i64 150)),some (27,false)⟩,
 zo 31 (.pick (.t 27) (.c (.b true)) (.t 30)),
 zo 32 (.mv (.t 31)),
 ⟨some 33,.call BJ [],some (32,false)⟩,
 ⟨some 34,.un .not (.t 33),some (32,false)⟩,
 zo 35 (.pick (.t 32) (.c (.b true)) (.t 34))])
 (.cond (.t 35)
 (.seq (.reg [zo 36 (.call BJ []),
 zo 10 (.mv (.t 36))])
 .ret)
 .skip))
 (.seq (.reg [zo 38 (.mv (.t 0)),
 zo 39 (.mv (.t 2)),
 zo 40 (.mv (.t 3)),
 zo 41 (.build [.i .i64 0,.b false] [(0,1,(.t 39)),(1,1,(.t 40))]),
 zo 42 (.mv (.t 4)),
 zo 43 (.call Db [.t 38,.t 41,.t 42]),
 zo 37 (.mv (.t 43)),
 zo 44 (.ext (.t 37) 0),
 zo 45 (.ext (.t 37) 1),
 zo 11 (.mv (.t 44)),
 zo 12 (.mv (.t 45))])
 (.seq (.seq (.reg [zo 46 (.mv (.t 12)),
 zo 47 (.bin .neq (.t 46) (.c (.i .i64 0)))])
 (.cond (.t 47)
 (.seq (.reg [zo 48 (.mv (.t 11)),
 zo 49 (.len 1 (.t 48)),
 zo 50 (.bin .eql (.t 49) (.c (.i .i64 0))),
 zo 10 (.mv (.t 50))])
 .ret)
 .skip))
 (.seq (.reg [zo 51 (.mv (.t 0)),
 zo 52 (.ld true 4 (.t 6)),
 zo 53 (.call CO [.t 51,.t 52]),
 zo 13 (.mv (.t 53))])
 (.seq (.reg [zo 14 (.mv (.c (.i .i64 0)))])
 (.seq (.seq (.reg [zo 15 (.mv (.c (.i .i64 0)))])
 (.blk 0 (.loop (.seq (.seq (.reg [zo 54 (.mv (.t 15)),
 zo 55 (.mv (.t 11)),
 zo 56 (.len 1 (.t 55)),
 zo 57 (.bin .lss (.t 54) (.t 56))])
 (.cond (.t 57)
 .skip
 (.exit 0)))
 (.seq (.blk 1 (.seq (.seq (.reg [zo 60 (.mv (.t 11)),
 zo 61 (.mv (.t 15)),
 zo 62 (.ia 1 (.t 60) (.t 61)),
 zo 63 (.ld false 1 (.t 62)),
 zo 64 (.call DQ [.t 63]),
 zo 65 (.un .not (.t 64))])
 (.cond (.t 65)
 (.seq (.reg [zo 10 (.mv (.c (.b false)))])
 .ret)
 .skip))
 (.seq (.regD [zo 66 (.mv (.t 11)),
 zo 67 (.mv (.t 15)),
 zo 68 (.ia 1 (.t 66) (.t 67)),
 zo 69 (.ld false 1 (.t 68)),
 zo 70 (.ld true 4 (.t 6)),
 zo 71 (.call CO [.t 69,.t 70])] [])
 (.cond (.t 71)
 (.reg [zo 72 (.mv (.t 14)),
 zo 73 (.bin .add (.t 72) (.c (.i .i64 1))),
 zo 14 (.mv (.t 73))])
 .skip))))
 (.reg [zo 58 (.mv (.t 15)),
 zo 59 (.bin .add (.t 58) (.c (.i .i64 1))),
 zo 15 (.mv (.t 59))]))))))
 (.seq (.reg [zo 16 (.mv (.c (.b true)))])
 (.seq (.seq (.reg [zo 17 (.mv (.c (.i .i64 0)))])
 (.blk 2 (.loop (.seq (.seq (.seq (.thw 0)
 (.reg [zo 74 (.mv (.t 17)),
 zo 75 (.mv (.t 0)),
 zo 76 (.mv (.t 2)),
 zo 77 (.ia 6 (.t 75) (.t 76)),
 zo 78 (.fa 3 (.t 77)),
 zo 79 (.ld false 1 (.t 78)),
 zo 80 (.len 1 (.t 79)),
 zo 81 (.bin .lss (.t 74) (.t 80))]))
 (.cond (.t 81)
 .skip
 (.exit 2)))
 (.seq (.blk 3 (.seq (.thw 0)
 (.reg [zo 84 (.mv (.t 16)),
 zo 85 (.mv (.t 84)),
 ⟨some 86,.mv (.t 0),some (85,true)⟩,
 ⟨some 87,.mv (.t 0),some (85,true)⟩,
 ⟨some 88,.mv (.t 2),some (85,true)⟩,
 ⟨some 89,.ia 6 (.t 87) (.t 88),some (85,true)⟩,
 ⟨some 90,.fa 3 (.t 89),some (85,true)⟩,
 ⟨some 91,.ld false 1 (.t 90),some (85,true)⟩,
 ⟨some 92,.mv (.t 17),some (85,true)⟩,
 ⟨some 93,.ia 1 (.t 91) (.t 92),some (85,true)⟩,
 ⟨some 94,.ld false 1 (.t 93),some (85,true)⟩,
 ⟨some 95,.ia 6 (.t 86) (.t 94),some (85,true)⟩,
 ⟨some 96,.fa 0 (.t 95),some (85,true)⟩,
 ⟨some 97,.ld false 1 (.t 96),some (85,true)⟩,
 zo 98 (.pick (.t 85) (.t 97) (.c (.b false))),
 zo 16 (.mv (.t 98))])))
 (.reg [zo 82 (.mv (.t 17)),
 zo 83 (.bin .add (.t 82) (.c (.i .i64 1))),
 zo 17 (.mv (.t 83))]))))))
 (.seq (.seq (.reg [zo 99 (.mv (.t 13)),
 zo 100 (.un .not (.t 99)),
 zo 101 (.mv (.t 100)),
 ⟨some 102,.mv (.t 14),some (101,true)⟩,
 ⟨some 103,.bin .neq (.t 102) (.c (.i .i64 0)),some (101,true)⟩,
 zo 104 (.pick (.t 101) (.t 103) (.c (.b false))),
 zo 105 (.mv (.t 104)),
 ⟨some 106,.mv (.t 14),some (105,false)⟩,
 ⟨some 107,.bin .gtr (.t 106) (.c (.i .i64 1)),some (105,false)⟩,
 zo 108 (.pick (.t 105) (.c (.b true)) (.t 107))])
 (.cond (.t 108)
 (.seq (.reg [zo 10 (.mv (.c (.b false)))])
 .ret)
 .skip))
 (.seq (.seq (.reg [zo 109 (.mv (.t 13)),
 zo 110 (.mv (.t 109)),
 ⟨some 111,.mv (.t 14),some (110,true)⟩,
 ⟨some 112,.bin .neq (.t 111) (.c (.i .i64 1)),some (110,true)⟩,
 zo 113 (.pick (.t 110) (.t 112) (.c (.b false))),
 zo 114 (.mv (.t 113)),
 ⟨some 115,.mv (.t 4),some (114,true)⟩,
 ⟨some 116,.mv (.t 115),some (114,true)⟩,
 ⟨some 117,.ld true 4 (.t 6),some (116,false)⟩,
 ⟨some 118,.call Af [.t 117],some (116,false)⟩,
 ⟨some 119,.un .not (.t 118),some (116,false)⟩,
 ⟨some 120,.pick (.t 116) (.c (.b true)) (.t 119),some (114,true)⟩,
 zo 121 (.pick (.t 114) (.t 120) (.c (.b false))),
 zo 122 (.mv (.t 121)),
 ⟨some 123,.mv (.t 3),some (122,true)⟩,
 ⟨some 124,.un .not (.t 123),some (122,true)⟩,
 ⟨some 125,.mv (.t 124),some (122,true)⟩,
 ⟨some 126,.mv (.t 16),some (125,false)⟩,
 ⟨some 127,.pick (.t 125) (.c (.b true)) (.t 126),some (122,true)⟩,
 zo 128 (.pick (.t 122) (.t 127) (.c (.b false)))])
 (.cond (.t 128)
 (.seq (.reg [zo 10 (.mv (.c (.b false)))])
 .ret)
 .skip))
 (.seq (.seq (.reg [zo 18 (.mv (.c (.i .i64 0)))])
 (.blk 4 (.loop (.seq (.seq (.reg [zo 129 (.mv (.t 18)),
 zo 130 (.mv (.t 11)),
 zo 131 (.len 1 (.t 130)),
 zo 132 (.bin .lss (.t 129) (.t 131))])
 (.cond (.t 132)
 .skip
 (.exit 4)))
 (.seq (.blk 5 (.seq (.reg [zo 135 (.mv (.t 11)),
 zo 136 (.mv (.t 18)),
 zo 137 (.ia 1 (.t 135) (.t 136)),
 zo 138 (.ld false 1 (.t 137)),
 zo 139 (.call BK [.t 138])])
 (.seq (.reg [zo 140 (.mv (.t 18)),
 zo 141 (.bin .add (.t 140) (.c (.i .i64 1))),
 zo 19 (.mv (.t 141))])
 (.blk 6 (.loop (.seq (.seq (.reg [zo 142 (.mv (.t 19)),
 zo 143 (.mv (.t 11)),
 zo 144 (.len 1 (.t 143)),
 zo 145 (.bin .lss (.t 142) (.t 144))])
 (.cond (.t 145)
 .skip
 (.exit 6)))
 (.seq (.blk 7 (.seq (.reg [zo 148 (.mv (.t 11)),
 zo 149 (.mv (.t 19)),
 zo 150 (.ia 1 (.t 148) (.t 149)),
 zo 151 (.ld false 1 (.t 150)),
 zo 152 (.call DQ [.t 151]),
 zo 153 (.un .not (.t 152))])
 (.cond (.t 153)
 (.seq (.reg [zo 10 (.mv (.c (.b false)))])
 .ret)
 .skip)))
 (.reg [zo 146 (.mv (.t 19)),
 zo 147 (.bin .add (.t 146) (.c (.i .i64 1))),
 zo 19 (.mv (.t 147))]))))))))
 (.reg [zo 133 (.mv (.t 18)),
 zo 134 (.bin .add (.t 133) (.c (.i .i64 1))),
 zo 18 (.mv (.t 134))]))))))
 (.seq (.reg [zo 10 (.mv (.c (.b true)))])
 .ret))))))))))))) }
def C9:Fun:={ cin:=[(.sl 6 (.agg [.id,.id,.sl 1 .id,.sl 1 .id,.id,.id])),.id,.id],cout:=[],ntmps:=15,keep:=true,res:=[(6,none),(7,none)],body :=
 (.seq (.reg [zo 5 (.box 5 1 (.t 2)),
 zo 6 (.mv (.c .nsl)),
 zo 7 (.mv (.c (.i .i64 0)))])
 (.seq (.reg [zo 8 (.mv (.t 0)),
 zo 9 (.mv (.t 1)),
 zo 10 (.mkf Co [.t 5]),
 zo 11 (.mkf Cp [.t 5]),
 zo 12 (.call Cn [.t 8,.t 9,.t 10,.t 11]),
 zo 13 (.ext (.t 12) 0),
 zo 14 (.ext (.t 12) 1),
 zo 6 (.mv (.t 13)),
 zo 7 (.mv (.t 14))])
 .ret)) }
def Ck:Fun:={ cin:=[(.sl 6 (.agg [.id,.id,.sl 1 .id,.sl 1 .id,.id,.id])),.id],cout:=[],ntmps:=12,keep:=true,res:=[(4,none),(5,none)],body :=
 (.seq (.reg [zo 2 (.box 22 1 (.t 0)),
 zo 4 (.mv (.c .nsl)),
 zo 5 (.mv (.c (.i .i64 0)))])
 (.seq (.reg [zo 6 (.ld false 1 (.t 2)),
 zo 7 (.mv (.t 1)),
 zo 8 (.mkf CV [.t 2]),
 zo 9 (.call Cn [(.t 6),(.t 7),(.t 8),(.c (.fn CW []))]),
 zo 10 (.ext (.t 9) 0),
 zo 11 (.ext (.t 9) 1),
 zo 4 (.mv (.t 10)),
 zo 5 (.mv (.t 11))])
 .ret)) }
def DA:Fun:={ cin:=[(.sl 6 (.agg [.id,.id,.sl 1 .id,.sl 1 .id,.id,.id])),.id],cout:=[],ntmps:=11,keep:=true,res:=[(4,none),(5,none)],body :=
 (.seq (.reg [zo 4 (.mv (.c .nsl)),
 zo 5 (.mv (.c (.i .i64 0)))])
 (.seq (.reg [zo 6 (.mv (.t 0)),
 zo 7 (.mv (.t 1)),
 zo 8 (.call Cn [(.t 6),(.t 7),(.c (.fn Cq [])),(.c (.fn Cr []))]),
 zo 9 (.ext (.t 8) 0),
 zo 10 (.ext (.t 8) 1),
 zo 4 (.mv (.t 9)),
 zo 5 (.mv (.t 10))])
 .ret)) }
def BV:Fun:={ cin:=[(.sl 6 (.agg [.id,.id,.sl 1 .id,.sl 1 .id,.id,.id]))],cout:=[.id],ntmps:=50,keep:=false,res:=[(2,none)],body :=
 (.seq (.reg [zo 2 (.mv (.c (.b false)))])
 (.seq (.seq (.reg [zo 5 (.mv (.t 0)),
 zo 6 (.len 1 (.t 5)),
 zo 7 (.bin .gtr (.t 6) (.c (.i .i64 50)))])
 (.cond (.t 7)
 (.seq (.reg [zo 2 (.mv (.c (.b true)))])
 .ret)
 .skip))
 (.seq (.seq (.reg [zo 3 (.mv (.c (.i .i64 0)))])
 (.blk 0 (.loop (.seq (.seq (.reg [zo 8 (.mv (.t 3)),
 zo 9 (.mv (.t 0)),
 zo 10 (.len 1 (.t 9)),
 zo 11 (.bin .lss (.t 8) (.t 10))])
 (.cond (.t 11)
 .skip
 (.exit 0)))
 (.seq (.blk 1 (.seq (.seq (.seq (.thw 0)
 (.reg [zo 14 (.mv (.t 0)),
 zo 15 (.mv (.t 3)),
 zo 16 (.ia 6 (.t 14) (.t 15)),
 zo 17 (.fa 2 (.t 16)),
 zo 18 (.ld false 1 (.t 17)),
 zo 19 (.len 1 (.t 18)),
 zo 20 (.bin .gtr (.t 19) (.c (.i .i64 50))),
 zo 21 (.mv (.t 20)),
 ⟨some 22,.mv (.t 0),some (21,false)⟩,
 ⟨some 23,.mv (.t 3),some (21,false)⟩,
 ⟨some 24,.ia 6 (.t 22) (.t 23),some (21,false)⟩,
 ⟨some 25,.fa 3 (.t 24),some (21,false)⟩,
 ⟨some 26,.ld false 1 (.t 25),some (21,false)⟩,
 ⟨some 27,.len 1 (.t 26),some (21,false)⟩,
 ⟨some 28,.bin .gtr (.t 27) (.c (.i .i64 50)),some (21,false)⟩,
 zo 29 (.pick (.t 21) (.c (.b true)) (.t 28))]))
 (.cond (.t 29)
 (.seq (.reg [zo 2 (.mv (.c (.b true)))])
 .ret)
 .skip))
 (.seq (.reg [zo 4 (.mv (.c (.i .i64 0)))])
 (.blk 2 (.loop (.seq (.seq (.seq (.thw 0)
 (.reg [zo 30 (.mv (.t 4)),
 zo 31 (.mv (.t 0)),
 zo 32 (.mv (.t 3)),
 zo 33 (.ia 6 (.t 31) (.t 32)),
 zo 34 (.fa 2 (.t 33)),
 zo 35 (.ld false 1 (.t 34)),
 zo 36 (.len 1 (.t 35)),
 zo 37 (.bin .lss (.t 30) (.t 36))]))
 (.cond (.t 37)
 .skip
 (.exit 2)))
 (.seq (.blk 3 (.seq (.seq (.thw 0)
 (.reg [zo 40 (.mv (.t 0)),
 zo 41 (.mv (.t 3)),
 zo 42 (.ia 6 (.t 40) (.t 41)),
 zo 43 (.fa 2 (.t 42)),
 zo 44 (.ld false 1 (.t 43)),
 zo 45 (.mv (.t 4)),
 zo 46 (.ia 1 (.t 44) (.t 45)),
 zo 47 (.ld false 1 (.t 46)),
 zo 48 (.len 0 (.t 47)),
 zo 49 (.bin .gtr (.t 48) (.c (.i .i64 300)))]))
 (.cond (.t 49)
 (.seq (.reg [zo 2 (.mv (.c (.b true)))])
 .ret)
 .skip)))
 (.reg [zo 38 (.mv (.t 4)),
 zo 39 (.bin .add (.t 38) (.c (.i .i64 1))),
 zo 4 (.mv (.t 39))]))))))))
 (.reg [zo 12 (.mv (.t 3)),
 zo 13 (.bin .add (.t 12) (.c (.i .i64 1))),
 zo 3 (.mv (.t 13))]))))))
 (.seq (.reg [zo 2 (.mv (.c (.b false)))])
 .ret)))) }
def A2:Fun:={ cin:=[(.agg [.id,.id,(.sl 1 .id),(.sl 4 (.agg [.id,.id,(.sl 1 .id),(.sl 4 (.agg [.id,.id,.sl 1 .id,.sl 4 .id]))]))])],cout:=[.id],ntmps:=20,keep:=false,res:=[(2,none)],body :=
 (.seq (.reg [zo 1 (.box 37 4 (.t 0)),
 zo 2 (.mv (.c (.b false)))])
 (.seq (.reg [zo 3 (.fa 0 (.t 1)),
 zo 4 (.ld false 1 (.t 3)),
 zo 5 (.bin .eql (.t 4) (.c (.i .u8 2))),
 zo 6 (.mv (.t 5)),
 ⟨some 7,.ld true 4 (.t 1),some (6,true)⟩,
 ⟨some 8,.call C2 [.t 7],some (6,true)⟩,
 zo 9 (.pick (.t 6) (.t 8) (.c (.b false))),
 zo 10 (.mv (.t 9)),
 ⟨some 11,.ld true 4 (.t 1),some (10,true)⟩,
 ⟨some 12,.call Ad [.t 11],some (10,true)⟩,
 ⟨some 13,.bin .leq (.t 12) (.c (.i .i64 1024)),some (10,true)⟩,
 zo 14 (.pick (.t 10) (.t 13) (.c (.b false))),
 zo 15 (.mv (.t 14)),
 ⟨some 16,.ld true 4 (.t 1),some (15,true)⟩,
 ⟨some 17,.call C3 [.t 16],some (15,true)⟩,
 ⟨some 18,.bin .leq (.t 17) (.c (.i .i64 24)),some (15,true)⟩,
 zo 19 (.pick (.t 15) (.t 18) (.c (.b false))),
 zo 2 (.mv (.t 19))])
 .ret)) }
def Bd:Fun:={ cin:=[(.agg [.id,.id,(.sl 1 .id),(.sl 4 (.agg [.id,.id,(.sl 1 .id),(.sl 4 (.agg [.id,.id,.sl 1 .id,.sl 4 .id]))]))])],cout:=[.id],ntmps:=21,keep:=false,res:=[(2,none)],body :=
 (.seq (.reg [zo 1 (.box 37 4 (.t 0)),
 zo 2 (.mv (.c (.i .i64 0)))])
 (.seq (.reg [zo 3 (.mv (.c (.i .i64 1)))])
 (.seq (.seq (.reg [zo 4 (.mv (.c (.i .i64 0)))])
 (.blk 0 (.loop (.seq (.seq (.reg [zo 5 (.mv (.t 4)),
 zo 6 (.fa 3 (.t 1)),
 zo 7 (.ld false 1 (.t 6)),
 zo 8 (.len 1 (.t 7)),
 zo 9 (.bin .lss (.t 5) (.t 8))])
 (.cond (.t 9)
 .skip
 (.exit 0)))
 (.seq (.blk 1 (.reg [zo 12 (.mv (.t 3)),
 zo 13 (.fa 3 (.t 1)),
 zo 14 (.ld false 1 (.t 13)),
 zo 15 (.mv (.t 4)),
 zo 16 (.ia 4 (.t 14) (.t 15)),
 zo 17 (.ld true 4 (.t 16)),
 zo 18 (.call Ad [.t 17]),
 zo 19 (.bin .add (.t 12) (.t 18)),
 zo 3 (.mv (.t 19))]))
 (.reg [zo 10 (.mv (.t 4)),
 zo 11 (.bin .add (.t 10) (.c (.i .i64 1))),
 zo 4 (.mv (.t 11))]))))))
 (.seq (.reg [zo 20 (.mv (.t 3)),
 zo 2 (.mv (.t 20))])
 .ret)))) }
def Cl:Fun:={ cin:=[],cout:=[],ntmps:=0,keep:=false,res:=[],body:=.bad,prim:=some (Rh On) }
def Er:Fun:={ cin:=[],cout:=[.id],ntmps:=109,keep:=false,res:=[(0,none)],body :=
 (.seq (.reg [zo 0 (.mv (.c (.b false)))])
 (.seq (.reg [zo 8 (.bsl 1 [(.c (.s [97]))]),
 zo 9 (.bsl 1 [(.c (.i .i64 1))]),
 zo 10 (.build [.b false,.i .u8 0,.nsl,.nsl,.i .i64 0,.i .i64 0] [(0,1,(.c (.b true))),(1,1,(.c (.i .u8 2))),(2,1,(.t 8)),(3,1,(.t 9))]),
 zo 11 (.build [.b false,.i .u8 0,.nsl,.nsl,.i .i64 0,.i .i64 0] []),
 zo 12 (.bsl 6 [.t 10,.t 11]),
 zo 1 (.mv (.t 12))])
 (.seq (.reg [zo 14 (.mv (.t 1)),
 zo 15 (.build [.i .i64 0,.b false] [(0,1,(.c (.i .i64 1)))]),
 zo 16 (.call Db [(.t 14),(.t 15),(.c (.b false))]),
 zo 13 (.mv (.t 16)),
 zo 17 (.ext (.t 13) 0),
 zo 18 (.ext (.t 13) 1),
 zo 2 (.mv (.t 17)),
 zo 3 (.mv (.t 18))])
 (.seq (.reg [zo 20 (.mv (.t 1)),
 zo 21 (.build [.i .i64 0,.b false] [(0,1,(.c (.i .i64 0))),(1,1,(.c (.b true)))]),
 zo 22 (.call Db [(.t 20),(.t 21),(.c (.b false))]),
 zo 19 (.mv (.t 22)),
 zo 23 (.ext (.t 19) 0),
 zo 24 (.ext (.t 19) 1),
 zo 4 (.mv (.t 23)),
 zo 5 (.mv (.t 24))])
 (.seq (.reg [zo 26 (.mv (.t 1)),
 zo 27 (.build [.i .i64 0,.b false] [(0,1,(.c (.i .i64 1)))]),
 zo 28 (.build [.i .i64 0,.b false] [(0,1,(.c (.i .i64 0))),(1,1,(.c (.b true)))]),
 zo 29 (.bsl 2 [.t 27,.t 28]),
 zo 30 (.bsl 1 [(.c (.i .i64 2)),(.c (.i .i64 0))]),
 zo 31 (.call PO [(.t 26),(.t 29),(.t 30),(.c (.b false))]),
 zo 25 (.mv (.t 31)),
 zo 32 (.ext (.t 25) 0),
 zo 33 (.ext (.t 25) 1),
 zo 6 (.mv (.t 32)),
 zo 7 (.mv (.t 33))])
 (.seq (.seq (.thw 6)
 (.reg [zo 34 (.mv (.t 3)),
 zo 35 (.bin .eql (.t 34) (.c (.i .i64 0))),
 zo 36 (.mv (.t 35)),
 ⟨some 37,.mv (.t 2),some (36,true)⟩,
 ⟨some 38,.len 1 (.t 37),some (36,true)⟩,
 ⟨some 39,.bin .eql (.t 38) (.c (.i .i64 3)),some (36,true)⟩,
 zo 40 (.pick (.t 36) (.t 39) (.c (.b false))),
 zo 41 (.mv (.t 40)),
 ⟨some 42,.mv (.t 2),some (41,true)⟩,
 ⟨some 43,.ia 1 (.t 42) (.c (.i .i64 1)),some (41,true)⟩,
 ⟨some 44,.ld false 1 (.t 43),some (41,true)⟩,
 ⟨some 45,.ia 6 (.t 44) (.c (.i .i64 1)),some (41,true)⟩,
 ⟨some 46,.fa 1 (.t 45),some (41,true)⟩,
 ⟨some 47,.ld false 1 (.t 46),some (41,true)⟩,
 ⟨some 48,.bin .eql (.t 47) (.c (.i .u8 1)),some (41,true)⟩,
 zo 49 (.pick (.t 41) (.t 48) (.c (.b false))),
 zo 50 (.mv (.t 49)),
 ⟨some 51,.mv (.t 5),some (50,true)⟩,
 ⟨some 52,.bin .eql (.t 51) (.c (.i .i64 0)),some (50,true)⟩,
 zo 53 (.pick (.t 50) (.t 52) (.c (.b false))),
 zo 54 (.mv (.t 53)),
 ⟨some 55,.mv (.t 4),some (54,true)⟩,
 ⟨some 56,.len 1 (.t 55),some (54,true)⟩,
 ⟨some 57,.bin .eql (.t 56) (.c (.i .i64 2)),some (54,true)⟩,
 zo 58 (.pick (.t 54) (.t 57) (.c (.b false))),
 zo 59 (.mv (.t 58)),
 ⟨some 60,.mv (.t 4),some (59,true)⟩,
 ⟨some 61,.ia 1 (.t 60) (.c (.i .i64 0)),some (59,true)⟩,
 ⟨some 62,.ld false 1 (.t 61),some (59,true)⟩,
 ⟨some 63,.ia 6 (.t 62) (.c (.i .i64 0)),some (59,true)⟩,
 ⟨some 64,.fa 4 (.t 63),some (59,true)⟩,
 ⟨some 65,.ld false 1 (.t 64),some (59,true)⟩,
 ⟨some 66,.bin .eql (.t 65) (.c (.i .i64 1)),some (59,true)⟩,
 zo 67 (.pick (.t 59) (.t 66) (.c (.b false))),
 zo 68 (.mv (.t 67)),
 ⟨some 69,.mv (.t 4),some (68,true)⟩,
 ⟨some 70,.ia 1 (.t 69) (.c (.i .i64 1)),some (68,true)⟩,
 ⟨some 71,.ld false 1 (.t 70),some (68,true)⟩,
 ⟨some 72,.ia 6 (.t 71) (.c (.i .i64 0)),some (68,true)⟩,
 ⟨some 73,.fa 4 (.t 72),some (68,true)⟩,
 ⟨some 74,.ld false 1 (.t 73),some (68,true)⟩,
 ⟨some 75,.bin .eql (.t 74) (.c (.i .i64 2)),some (68,true)⟩,
 zo 76 (.pick (.t 68) (.t 75) (.c (.b false))),
 zo 77 (.mv (.t 76)),
 ⟨some 78,.mv (.t 4),some (77,true)⟩,
 ⟨some 79,.ia 1 (.t 78) (.c (.i .i64 1)),some (77,true)⟩,
 ⟨some 80,.ld false 1 (.t 79),some (77,true)⟩,
 ⟨some 81,.ia 6 (.t 80) (.c (.i .i64 0)),some (77,true)⟩,
 ⟨some 82,.fa 5 (.t 81),some (77,true)⟩,
 ⟨some 83,.ld false 1 (.t 82),some (77,true)⟩,
 ⟨some 84,.bin .eql (.t 83) (.c (.i .i64 1)),some (77,true)⟩,
 zo 85 (.pick (.t 77) (.t 84) (.c (.b false))),
 zo 86 (.mv (.t 85)),
 ⟨some 87,.mv (.t 7),some (86,true)⟩,
 ⟨some 88,.bin .eql (.t 87) (.c (.i .i64 0)),some (86,true)⟩,
 zo 89 (.pick (.t 86) (.t 88) (.c (.b false))),
 zo 90 (.mv (.t 89)),
 ⟨some 91,.mv (.t 6),some (90,true)⟩,
 ⟨some 92,.len 1 (.t 91),some (90,true)⟩,
 ⟨some 93,.bin .eql (.t 92) (.c (.i .i64 2)),some (90,true)⟩,
 zo 94 (.pick (.t 90) (.t 93) (.c (.b false))),
 zo 95 (.mv (.t 94)),
 ⟨some 96,.mv (.t 6),some (95,true)⟩,
 ⟨some 97,.ia 6 (.t 96) (.c (.i .i64 1)),some (95,true)⟩,
 ⟨some 98,.fa 1 (.t 97),some (95,true)⟩,
 ⟨some 99,.ld false 1 (.t 98),some (95,true)⟩,
 ⟨some 100,.bin .eql (.t 99) (.c (.i .u8 2)),some (95,true)⟩,
 zo 101 (.pick (.t 95) (.t 100) (.c (.b false))),
 zo 102 (.mv (.t 101)),
 ⟨some 103,.mv (.t 6),some (102,true)⟩,
 ⟨some 104,.ia 6 (.t 103) (.c (.i .i64 0)),some (102,true)⟩,
 ⟨some 105,.fa 4 (.t 104),some (102,true)⟩,
 ⟨some 106,.ld false 1 (.t 105),some (102,true)⟩,
 ⟨some 107,.bin .eql (.t 106) (.c (.i .i64 1)),some (102,true)⟩,
 zo 108 (.pick (.t 102) (.t 107) (.c (.b false))),
 zo 0 (.mv (.t 108))]))
 .ret)))))) }
def Dd:Fun:={ cin:=[(.sl 6 (.agg [.id,.id,.sl 1 .id,.sl 1 .id,.id,.id])),(.agg [.id,.id]),.id],cout:=[],ntmps:=39,keep:=true,res:=[(6,none),(7,none)],body :=
 (.seq (.reg [zo 4 (.box 44 2 (.t 1)),
 zo 6 (.mv (.c .nsl)),
 zo 7 (.mv (.c (.i .i64 0)))])
 (.seq (.reg [zo 8 (.mv (.c .nsl))])
 (.seq (.seq (.reg [zo 13 (.ld true 2 (.t 4)),
 zo 14 (.mv (.t 2)),
 zo 15 (.call BX [.t 13,.t 14]),
 zo 16 (.len 1 (.t 15)),
 zo 17 (.mv (.c (.i .i64 0)))])
 (.blk 0 (.loop (.seq (.reg [zo 18 (.bin .lss (.t 17) (.t 16))])
 (.seq (.cond (.t 18)
 .skip
 (.exit 0))
 (.seq (.blk 1 (.seq (.reg [zo 19 (.ia 1 (.t 15) (.t 17)),
 zo 20 (.ld false 1 (.t 19)),
 zo 10 (.mv (.t 20))])
 (.seq (.reg [zo 22 (.mv (.t 10)),
 zo 23 (.mv (.t 0)),
 zo 24 (.callX (.t 22) [.t 23]),
 zo 21 (.mv (.t 24)),
 zo 25 (.ext (.t 21) 0),
 zo 26 (.ext (.t 21) 1),
 zo 11 (.mv (.t 25)),
 zo 12 (.mv (.t 26))])
 (.seq (.reg [zo 27 (.mv (.t 12))])
 (.blk 2 (.seq (.reg [zo 30 (.bin .eql (.t 27) (.c (.i .i64 0))),
 zo 29 (.mv (.t 30))])
 (.cond (.t 29)
 (.reg [zo 31 (.mv (.t 8)),
 zo 32 (.mv (.t 11)),
 zo 33 (.bsl 1 [.t 32]),
 zo 34 (.app 1 22 (.t 31) (.t 33)),
 zo 8 (.mv (.t 34))])
 (.seq (.reg [zo 36 (.bin .eql (.t 27) (.c (.i .i64 67))),
 zo 35 (.mv (.t 36))])
 (.cond (.t 35)
 .skip
 (.seq (.reg [zo 28 (.mv (.t 12)),
 zo 6 (.mv (.c .nsl)),
 zo 7 (.mv (.t 28))])
 .ret))))))))))
 (.reg [zo 37 (.bin .add (.t 17) (.c (.i .i64 1))),
 zo 17 (.mv (.t 37))])))))))
 (.seq (.reg [zo 38 (.mv (.t 8)),
 zo 6 (.mv (.t 38)),
 zo 7 (.mv (.c (.i .i64 0)))])
 .ret)))) }
def EH:Fun:={ cin:=[(.sl 6 (.agg [.id,.id,.sl 1 .id,.sl 1 .id,.id,.id])),(.agg [.id,.id,(.sl 1 .id),(.sl 4 (.agg [.id,.id,(.sl 1 .id),(.sl 4 (.agg [.id,.id,.sl 1 .id,.sl 4 .id]))]))])],cout:=[.id],ntmps:=19,keep:=false,res:=[(4,none)],body :=
 (.seq (.reg [zo 3 (.box 37 4 (.t 1)),
 zo 4 (.mv (.c (.b false)))])
 (.seq (.reg [zo 8 (.mv (.t 0)),
 zo 9 (.ld true 4 (.t 3)),
 zo 10 (.call Hl [.t 8,.t 9]),
 zo 7 (.mv (.t 10)),
 zo 11 (.ext (.t 7) 0),
 zo 12 (.ext (.t 7) 1),
 zo 5 (.mv (.t 11)),
 zo 6 (.mv (.t 12))])
 (.seq (.reg [zo 13 (.mv (.t 6)),
 zo 14 (.bin .eql (.t 13) (.c (.i .i64 0))),
 zo 15 (.mv (.t 14)),
 ⟨some 16,.mv (.t 5),some (15,true)⟩,
 ⟨some 17,.bin .lss (.t 16) (.c (.i .i64 0)),some (15,true)⟩,
 zo 18 (.pick (.t 15) (.t 17) (.c (.b false))),
 zo 4 (.mv (.t 18))])
 .ret))) }
def E7:Fun:={ cin:=[(.sl 6 (.agg [.id,.id,.sl 1 .id,.sl 1 .id,.id,.id]))],cout:=[.id],ntmps:=59,keep:=false,res:=[(2,none)],body :=
 (.seq (.reg [zo 2 (.mv (.c (.b false)))])
 (.seq (.seq (.reg [zo 8 (.mv (.t 0)),
 zo 9 (.len 1 (.t 8)),
 zo 10 (.bin .eql (.t 9) (.c (.i .i64 0))),
 zo 11 (.mv (.t 10)),
 ⟨some 12,.mv (.t 0),some (11,false)⟩,
 ⟨some 13,.ia 6 (.t 12) (.c (.i .i64 0)),some (11,false)⟩,
 ⟨some 14,.ld true 6 (.t 13),some (11,false)⟩,
 ⟨some 15,.call J7 [.t 14],some (11,false)⟩,
 ⟨some 16,.un .not (.t 15),some (11,false)⟩,
 zo 17 (.pick (.t 11) (.c (.b true)) (.t 16))])
 (.cond (.t 17)
 (.seq (.reg [zo 2 (.mv (.c (.b false)))])
 .ret)
 .skip))
 (.seq (.reg [zo 18 (.mv (.t 0)),
 zo 19 (.len 1 (.t 18)),
 zo 20 (.mks 3 1 [.i .i64 0] (.t 19) (.t 19)),
 zo 3 (.mv (.t 20))])
 (.seq (.seq (.reg [zo 21 (.mv (.t 0)),
 zo 22 (.len 1 (.t 21)),
 zo 23 (.mv (.c (.i .i64 0)))])
 (.blk 0 (.loop (.seq (.reg [zo 24 (.bin .lss (.t 23) (.t 22))])
 (.seq (.cond (.t 24)
 .skip
 (.exit 0))
 (.seq (.blk 1 (.seq (.reg [zo 25 (.mv (.t 23)),
 zo 26 (.ia 6 (.t 21) (.t 23)),
 zo 27 (.ld true 6 (.t 26)),
 zo 5 (.alloc 48 [.b false,.i .u8 0,.nsl,.nsl,.i .i64 0,.i .i64 0]),
 zo 4 (.mv (.t 25)),
 ⟨none,.st 6 (.t 5) (.t 27),none⟩])
 (.seq (.seq (.reg [zo 28 (.ld true 6 (.t 5)),
 zo 29 (.call Mx [.t 28]),
 zo 30 (.un .not (.t 29))])
 (.cond (.t 30)
 (.seq (.reg [zo 2 (.mv (.c (.b false)))])
 .ret)
 .skip))
 (.seq (.reg [zo 31 (.fa 3 (.t 5)),
 zo 32 (.ld false 1 (.t 31)),
 zo 33 (.len 1 (.t 32)),
 zo 34 (.mv (.c (.i .i64 0)))])
 (.blk 2 (.loop (.seq (.reg [zo 35 (.bin .lss (.t 34) (.t 33))])
 (.seq (.cond (.t 35)
 .skip
 (.exit 2))
 (.seq (.blk 3 (.seq (.reg [zo 36 (.ia 1 (.t 32) (.t 34)),
 zo 37 (.ld false 1 (.t 36)),
 zo 7 (.mv (.t 37))])
 (.seq (.seq (.reg [zo 38 (.mv (.t 7)),
 zo 39 (.mv (.t 4)),
 zo 40 (.bin .leq (.t 38) (.t 39)),
 zo 41 (.mv (.t 40)),
 ⟨some 42,.mv (.t 7),some (41,false)⟩,
 ⟨some 43,.mv (.t 0),some (41,false)⟩,
 ⟨some 44,.len 1 (.t 43),some (41,false)⟩,
 ⟨some 45,.bin .geq (.t 42) (.t 44),some (41,false)⟩,
 zo 46 (.pick (.t 41) (.c (.b true)) (.t 45))])
 (.cond (.t 46)
 (.seq (.reg [zo 2 (.mv (.c (.b false)))])
 .ret)
 .skip))
 (.seq (.thw 3)
 (.reg [zo 47 (.mv (.t 3)),
 zo 48 (.mv (.t 7)),
 zo 49 (.ia 1 (.t 47) (.t 48)),
 zo 50 (.ld false 1 (.t 49)),
 zo 51 (.bin .add (.t 50) (.c (.i .i64 1))),
 zo 52 (.ia 1 (.t 47) (.t 48)),
 ⟨none,.st 1 (.t 52) (.t 51),none⟩])))))
 (.reg [zo 53 (.bin .add (.t 34) (.c (.i .i64 1))),
 zo 34 (.mv (.t 53))]))))))))))
 (.reg [zo 54 (.bin .add (.t 23) (.c (.i .i64 1))),
 zo 23 (.mv (.t 54))])))))))
 (.seq (.reg [zo 55 (.mv (.t 3)),
 zo 56 (.slc false 1 (.t 55) (some (.c (.i .i64 1))) none none),
 zo 57 (.call BQ [(.t 56),(.c (.fn Hm []))]),
 zo 58 (.un .not (.t 57)),
 zo 2 (.mv (.t 58))])
 .ret))))) }
def BE:Fun:={ cin:=[(.agg [.id,.id,(.sl 1 .id),(.sl 4 (.agg [.id,.id,(.sl 1 .id),(.sl 4 (.agg [.id,.id,.sl 1 .id,.sl 4 .id]))]))])],cout:=[.id],ntmps:=20,keep:=false,res:=[(2,none)],body :=
 (.seq (.reg [zo 1 (.box 37 4 (.t 0)),
 zo 2 (.mv (.c (.b false)))])
 (.seq (.seq (.reg [zo 4 (.fa 0 (.t 1)),
 zo 5 (.ld false 1 (.t 4)),
 zo 6 (.bin .eql (.t 5) (.c (.i .u8 3)))])
 (.cond (.t 6)
 (.seq (.reg [zo 2 (.mv (.c (.b true)))])
 .ret)
 .skip))
 (.seq (.seq (.reg [zo 3 (.mv (.c (.i .i64 0)))])
 (.blk 0 (.loop (.seq (.seq (.reg [zo 7 (.mv (.t 3)),
 zo 8 (.fa 3 (.t 1)),
 zo 9 (.ld false 1 (.t 8)),
 zo 10 (.len 1 (.t 9)),
 zo 11 (.bin .lss (.t 7) (.t 10))])
 (.cond (.t 11)
 .skip
 (.exit 0)))
 (.seq (.blk 1 (.seq (.reg [zo 14 (.fa 3 (.t 1)),
 zo 15 (.ld false 1 (.t 14)),
 zo 16 (.mv (.t 3)),
 zo 17 (.ia 4 (.t 15) (.t 16)),
 zo 18 (.ld true 4 (.t 17)),
 zo 19 (.call Af [.t 18])])
 (.cond (.t 19)
 (.seq (.reg [zo 2 (.mv (.c (.b true)))])
 .ret)
 .skip)))
 (.reg [zo 12 (.mv (.t 3)),
 zo 13 (.bin .add (.t 12) (.c (.i .i64 1))),
 zo 3 (.mv (.t 13))]))))))
 (.seq (.reg [zo 2 (.mv (.c (.b false)))])
 .ret)))) }
def BN:Fun:={ cin:=[(.sl 6 (.agg [.id,.id,.sl 1 .id,.sl 1 .id,.id,.id]))],cout:=[],ntmps:=49,keep:=false,res:=[],body :=
 (.seq (.reg [zo 2 (.mv (.c (.i .i64 0)))])
 (.blk 0 (.loop (.seq (.seq (.reg [zo 5 (.mv (.t 2)),
 zo 6 (.mv (.t 0)),
 zo 7 (.len 1 (.t 6)),
 zo 8 (.bin .lss (.t 5) (.t 7))])
 (.cond (.t 8)
 .skip
 (.exit 0)))
 (.seq (.blk 1 (.seq (.seq (.reg [zo 3 (.mv (.c (.i .i64 0)))])
 (.blk 2 (.loop (.seq (.seq (.seq (.thw 0)
 (.reg [zo 11 (.mv (.t 3)),
 zo 12 (.mv (.t 0)),
 zo 13 (.mv (.t 2)),
 zo 14 (.ia 6 (.t 12) (.t 13)),
 zo 15 (.fa 2 (.t 14)),
 zo 16 (.ld false 1 (.t 15)),
 zo 17 (.len 1 (.t 16)),
 zo 18 (.bin .lss (.t 11) (.t 17))]))
 (.cond (.t 18)
 .skip
 (.exit 2)))
 (.seq (.blk 3 (.seq (.thw 0)
 (.reg [zo 21 (.mv (.t 0)),
 zo 22 (.mv (.t 2)),
 zo 23 (.ia 6 (.t 21) (.t 22)),
 zo 24 (.fa 2 (.t 23)),
 zo 25 (.ld false 1 (.t 24)),
 zo 26 (.mv (.t 3)),
 zo 27 (.ia 1 (.t 25) (.t 26)),
 ⟨none,.st 1 (.t 27) (.c (.s [115,112,111,105,108,116])),none⟩])))
 (.reg [zo 19 (.mv (.t 3)),
 zo 20 (.bin .add (.t 19) (.c (.i .i64 1))),
 zo 3 (.mv (.t 20))]))))))
 (.seq (.seq (.reg [zo 4 (.mv (.c (.i .i64 0)))])
 (.blk 4 (.loop (.seq (.seq (.seq (.thw 0)
 (.reg [zo 28 (.mv (.t 4)),
 zo 29 (.mv (.t 0)),
 zo 30 (.mv (.t 2)),
 zo 31 (.ia 6 (.t 29) (.t 30)),
 zo 32 (.fa 3 (.t 31)),
 zo 33 (.ld false 1 (.t 32)),
 zo 34 (.len 1 (.t 33)),
 zo 35 (.bin .lss (.t 28) (.t 34))]))
 (.cond (.t 35)
 .skip
 (.exit 4)))
 (.seq (.blk 5 (.seq (.thw 0)
 (.reg [zo 38 (.mv (.t 0)),
 zo 39 (.mv (.t 2)),
 zo 40 (.ia 6 (.t 38) (.t 39)),
 zo 41 (.fa 3 (.t 40)),
 zo 42 (.ld false 1 (.t 41)),
 zo 43 (.mv (.t 4)),
 zo 44 (.ia 1 (.t 42) (.t 43)),
 ⟨none,.st 1 (.t 44) (.c (.i .i64 (-7))),none⟩])))
 (.reg [zo 36 (.mv (.t 4)),
 zo 37 (.bin .add (.t 36) (.c (.i .i64 1))),
 zo 4 (.mv (.t 37))]))))))
 (.seq (.thw 0)
 (.reg [zo 45 (.mv (.t 0)),
 zo 46 (.mv (.t 2)),
 zo 47 (.ia 6 (.t 45) (.t 46)),
 zo 48 (.fa 4 (.t 47)),
 ⟨none,.st 1 (.t 48) (.c (.i .i64 9)),none⟩])))))
 (.reg [zo 9 (.mv (.t 2)),
 zo 10 (.bin .add (.t 9) (.c (.i .i64 1))),
 zo 2 (.mv (.t 10))])))))) }
def BR:Fun:={ cin:=[(.sl 6 (.agg [.id,.id,.sl 1 .id,.sl 1 .id,.id,.id])),.id,.id,.id],cout:=[],ntmps:=42,keep:=true,res:=[(8,none),(9,none)],body :=
 (.seq (.reg [zo 8 (.mv (.c .nsl)),
 zo 9 (.mv (.c (.i .i64 0)))])
 (.seq (.blk 0 (.seq (.reg [zo 13 (.mv (.t 0)),
 zo 14 (.call DQ [.t 13]),
 zo 15 (.un .not (.t 14)),
 zo 12 (.mv (.t 15))])
 (.cond (.t 12)
 (.seq (.reg [zo 8 (.mv (.c .nsl)),
 zo 9 (.mv (.c (.i .i64 4)))])
 .ret)
 (.seq (.reg [zo 17 (.mv (.t 1)),
 zo 18 (.bin .lss (.t 17) (.c (.i .i64 0))),
 zo 19 (.mv (.t 18)),
 ⟨some 20,.mv (.t 1),some (19,false)⟩,
 ⟨some 21,.mv (.t 0),some (19,false)⟩,
 ⟨some 22,.len 1 (.t 21),some (19,false)⟩,
 ⟨some 23,.bin .geq (.t 20) (.t 22),some (19,false)⟩,
 zo 24 (.pick (.t 19) (.c (.b true)) (.t 23)),
 zo 16 (.mv (.t 24))])
 (.cond (.t 16)
 (.seq (.reg [zo 8 (.mv (.c .nsl)),
 zo 9 (.mv (.c (.i .i64 1)))])
 .ret)
 .skip)))))
 (.seq (.seq (.reg [zo 25 (.mv (.t 2)),
 zo 26 (.mv (.t 0)),
 zo 27 (.mv (.t 1)),
 zo 28 (.ia 6 (.t 26) (.t 27)),
 zo 29 (.ld true 6 (.t 28)),
 zo 30 (.callX (.t 25) [.t 29]),
 zo 10 (.mv (.t 30))])
 (.seq (.reg [zo 31 (.mv (.t 10)),
 zo 32 (.bin .neq (.t 31) (.c (.i .i64 0)))])
 (.cond (.t 32)
 (.seq (.reg [zo 33 (.mv (.t 10)),
 zo 8 (.mv (.c .nsl)),
 zo 9 (.mv (.t 33))])
 .ret)
 .skip)))
 (.seq (.reg [zo 34 (.mv (.t 0)),
 zo 35 (.call Fb [.t 34]),
 zo 11 (.mv (.t 35))])
 (.seq (.seq (.thw 11)
 (.reg [zo 36 (.mv (.t 3)),
 zo 37 (.mv (.t 11)),
 zo 38 (.mv (.t 1)),
 zo 39 (.ia 6 (.t 37) (.t 38)),
 zo 40 (.callX (.t 36) [.t 39])]))
 (.seq (.reg [zo 41 (.mv (.t 11)),
 zo 8 (.mv (.t 41)),
 zo 9 (.mv (.c (.i .i64 0)))])
 .ret)))))) }
def D7:Fun:={ cin:=[(.agg [.id,.id,.sl 1 .id,.sl 1 .id,.id,.id])],cout:=[.id],ntmps:=10,keep:=false,res:=[(2,none)],body :=
 (.seq (.reg [zo 1 (.box 48 6 (.t 0)),
 zo 2 (.mv (.c (.b false)))])
 (.seq (.reg [zo 3 (.fa 0 (.t 1)),
 zo 4 (.ld false 1 (.t 3)),
 zo 5 (.mv (.t 4)),
 ⟨some 6,.fa 1 (.t 1),some (5,true)⟩,
 ⟨some 7,.ld false 1 (.t 6),some (5,true)⟩,
 ⟨some 8,.bin .eql (.t 7) (.c (.i .u8 2)),some (5,true)⟩,
 zo 9 (.pick (.t 5) (.t 8) (.c (.b false))),
 zo 2 (.mv (.t 9))])
 .ret)) }
def De:Fun:={ cin:=[.id],cout:=[.id],ntmps:=23,keep:=false,res:=[(2,none)],body :=
 (.seq (.reg [zo 2 (.mv (.c (.b false)))])
 (.seq (.reg [zo 3 (.mv (.t 0)),
 zo 4 (.bin .neq (.t 3) (.c (.s []))),
 zo 5 (.mv (.t 4)),
 ⟨some 6,.mv (.t 0),some (5,true)⟩,
 ⟨some 7,.len 0 (.t 6),some (5,true)⟩,
 ⟨some 8,.bin .leq (.t 7) (.c (.i .i64 64)),some (5,true)⟩,
 zo 9 (.pick (.t 5) (.t 8) (.c (.b false))),
 zo 10 (.mv (.t 9)),
 ⟨some 11,.mv (.t 0),some (10,true)⟩,
 ⟨some 12,.bin .neq (.t 11) (.c (.s [46])),some (10,true)⟩,
 zo 13 (.pick (.t 10) (.t 12) (.c (.b false))),
 zo 14 (.mv (.t 13)),
 ⟨some 15,.mv (.t 0),some (14,true)⟩,
 ⟨some 16,.bin .neq (.t 15) (.c (.s [46,46])),some (14,true)⟩,
 zo 17 (.pick (.t 14) (.t 16) (.c (.b false))),
 zo 18 (.mv (.t 17)),
 ⟨some 19,.mv (.t 0),some (18,true)⟩,
 ⟨some 20,.call D4 [(.t 19),(.c (.s [47,0,10]))],some (18,true)⟩,
 ⟨some 21,.un .not (.t 20),some (18,true)⟩,
 zo 22 (.pick (.t 18) (.t 21) (.c (.b false))),
 zo 2 (.mv (.t 22))])
 .ret)) }
def BO:Fun:={ cin:=[.sl 1 .id,.id],cout:=[.id,.id],ntmps:=54,keep:=false,res:=[(4,none),(5,none)],body :=
 (.seq (.reg [zo 4 (.mv (.c (.i .i64 0))),
 zo 5 (.mv (.c (.b false)))])
 (.seq (.reg [zo 10 (.mv (.t 0)),
 zo 11 (.len 1 (.t 10)),
 zo 6 (.mv (.t 11))])
 (.seq (.reg [zo 12 (.mv (.t 6)),
 zo 7 (.mv (.c (.i .i64 0))),
 zo 8 (.mv (.t 12))])
 (.seq (.blk 0 (.loop (.seq (.seq (.reg [zo 13 (.mv (.t 7)),
 zo 14 (.mv (.t 8)),
 zo 15 (.bin .lss (.t 13) (.t 14))])
 (.cond (.t 15)
 .skip
 (.exit 0)))
 (.blk 1 (.seq (.reg [zo 16 (.mv (.t 7)),
 zo 17 (.mv (.t 8)),
 zo 18 (.bin .add (.t 16) (.t 17)),
 zo 19 (.cvI .u64 (.t 18)),
 zo 20 (.bin .shr (.t 19) (.c (.i .u64 1))),
 zo 21 (.cvI .i64 (.t 20)),
 zo 9 (.mv (.t 21))])
 (.seq (.reg [zo 22 (.mv (.t 0)),
 zo 23 (.mv (.t 9)),
 zo 24 (.ia 1 (.t 22) (.t 23)),
 zo 25 (.ld false 1 (.t 24)),
 zo 26 (.mv (.t 1)),
 zo 27 (.call Fc [.t 25,.t 26])])
 (.cond (.t 27)
 (.reg [zo 28 (.mv (.t 9)),
 zo 29 (.bin .add (.t 28) (.c (.i .i64 1))),
 zo 7 (.mv (.t 29))])
 (.reg [zo 30 (.mv (.t 9)),
 zo 8 (.mv (.t 30))]))))))))
 (.seq (.reg [zo 31 (.mv (.t 7)),
 zo 32 (.mv (.t 7)),
 zo 33 (.mv (.t 6)),
 zo 34 (.bin .lss (.t 32) (.t 33)),
 zo 35 (.mv (.t 34)),
 ⟨some 36,.mv (.t 0),some (35,true)⟩,
 ⟨some 37,.mv (.t 7),some (35,true)⟩,
 ⟨some 38,.ia 1 (.t 36) (.t 37),some (35,true)⟩,
 ⟨some 39,.ld false 1 (.t 38),some (35,true)⟩,
 ⟨some 40,.mv (.t 1),some (35,true)⟩,
 ⟨some 41,.bin .eql (.t 39) (.t 40),some (35,true)⟩,
 ⟨some 42,.mv (.t 41),some (35,true)⟩,
 ⟨some 43,.mv (.t 0),some (42,false)⟩,
 ⟨some 44,.mv (.t 7),some (42,false)⟩,
 ⟨some 45,.ia 1 (.t 43) (.t 44),some (42,false)⟩,
 ⟨some 46,.ld false 1 (.t 45),some (42,false)⟩,
 ⟨some 47,.call C7 [.t 46],some (42,false)⟩,
 ⟨some 48,.mv (.t 47),some (42,false)⟩,
 ⟨some 49,.mv (.t 1),some (48,true)⟩,
 ⟨some 50,.call C7 [.t 49],some (48,true)⟩,
 ⟨some 51,.pick (.t 48) (.t 50) (.c (.b false)),some (42,false)⟩,
 ⟨some 52,.pick (.t 42) (.c (.b true)) (.t 51),some (35,true)⟩,
 zo 53 (.pick (.t 35) (.t 52) (.c (.b false))),
 zo 4 (.mv (.t 31)),
 zo 5 (.mv (.t 53))])
 .ret))))) }
def A7:Fun:={ cin:=[.id],cout:=[.id],ntmps:=41,keep:=false,res:=[(2,none)],body :=
 (.seq (.reg [zo 2 (.mv (.c (.b false)))])
 (.seq (.seq (.reg [zo 4 (.mv (.t 0)),
 zo 5 (.bin .eql (.t 4) (.c (.s []))),
 zo 6 (.mv (.t 5)),
 ⟨some 7,.mv (.t 0),some (6,false)⟩,
 ⟨some 8,.len 0 (.t 7),some (6,false)⟩,
 ⟨some 9,.bin .gtr (.t 8) (.c (.i .i64 64)),some (6,false)⟩,
 zo 10 (.pick (.t 6) (.c (.b true)) (.t 9)),
 zo 11 (.mv (.t 10)),
 ⟨some 12,.mv (.t 0),some (11,false)⟩,
 ⟨some 13,.bin .eql (.t 12) (.c (.s [46])),some (11,false)⟩,
 zo 14 (.pick (.t 11) (.c (.b true)) (.t 13)),
 zo 15 (.mv (.t 14)),
 ⟨some 16,.mv (.t 0),some (15,false)⟩,
 ⟨some 17,.bin .eql (.t 16) (.c (.s [46,46])),some (15,false)⟩,
 zo 18 (.pick (.t 15) (.c (.b true)) (.t 17))])
 (.cond (.t 18)
 (.seq (.reg [zo 2 (.mv (.c (.b false)))])
 .ret)
 .skip))
 (.seq (.seq (.reg [zo 3 (.mv (.c (.i .i64 0)))])
 (.blk 0 (.loop (.seq (.seq (.reg [zo 19 (.mv (.t 3)),
 zo 20 (.mv (.t 0)),
 zo 21 (.len 0 (.t 20)),
 zo 22 (.bin .lss (.t 19) (.t 21))])
 (.cond (.t 22)
 .skip
 (.exit 0)))
 (.seq (.blk 1 (.seq (.reg [zo 25 (.mv (.t 0)),
 zo 26 (.mv (.t 3)),
 zo 27 (.ixS (.t 25) (.t 26)),
 zo 28 (.bin .eql (.t 27) (.c (.i .u8 0))),
 zo 29 (.mv (.t 28)),
 ⟨some 30,.mv (.t 0),some (29,false)⟩,
 ⟨some 31,.mv (.t 3),some (29,false)⟩,
 ⟨some 32,.ixS (.t 30) (.t 31),some (29,false)⟩,
 ⟨some 33,.bin .eql (.t 32) (.c (.i .u8 47)),some (29,false)⟩,
 zo 34 (.pick (.t 29) (.c (.b true)) (.t 33)),
 zo 35 (.mv (.t 34)),
 ⟨some 36,.mv (.t 0),some (35,false)⟩,
 ⟨some 37,.mv (.t 3),some (35,false)⟩,
 ⟨some 38,.ixS (.t 36) (.t 37),some (35,false)⟩,
 ⟨some 39,.bin .eql (.t 38) (.c (.i .u8 10)),some (35,false)⟩,
 zo 40 (.pick (.t 35) (.c (.b true)) (.t 39))])
 (.cond (.t 40)
 (.seq (.reg [zo 2 (.mv (.c (.b false)))])
 .ret)
 .skip)))
 (.reg [zo 23 (.mv (.t 3)),
 zo 24 (.bin .add (.t 23) (.c (.i .i64 1))),
 zo 3 (.mv (.t 24))]))))))
 (.seq (.reg [zo 2 (.mv (.c (.b true)))])
 .ret)))) }
def Bn:Fun:={ cin:=[(.agg [.id,.id,.sl 1 .id,.sl 1 .id,.id,.id])],cout:=[.id],ntmps:=10,keep:=false,res:=[(3,none)],body :=
 (.seq (.reg [zo 2 (.box 48 6 (.t 0)),
 zo 3 (.mv (.c (.i .i64 0)))])
 (.seq (.blk 0 (.seq (.reg [zo 5 (.fa 0 (.t 2)),
 zo 6 (.ld false 1 (.t 5)),
 zo 4 (.mv (.t 6))])
 (.cond (.t 4)
 (.seq (.reg [zo 3 (.mv (.c (.i .i64 6)))])
 .ret)
 (.seq (.reg [zo 8 (.ld false 1 (.t 1)),
 zo 9 (.bin .gtr (.t 8) (.c (.i .u8 3))),
 zo 7 (.mv (.t 9))])
 (.cond (.t 7)
 (.seq (.reg [zo 3 (.mv (.c (.i .i64 1)))])
 .ret)
 .skip)))))
 (.seq (.reg [zo 3 (.mv (.c (.i .i64 0)))])
 .ret))) }
def DI:Fun:={ cin:=[.id],cout:=[],ntmps:=10,keep:=false,res:=[],body :=
 (.regD [zo 3 (.mv (.t 0)),
 zo 4 (.mv (.t 0)),
 zo 5 (.ld false 1 (.t 1)),
 zo 6 (.nck (.t 3)),
 zo 7 (.fa 0 (.t 6)),
 ⟨none,.st 1 (.t 7) (.c (.b true)),none⟩,
 zo 8 (.nck (.t 4)),
 zo 9 (.fa 1 (.t 8)),
 ⟨none,.st 1 (.t 9) (.t 5),none⟩] [(2,(2,6))]) }
def BF:Fun:={ cin:=[(.agg [.id,.id,.sl 1 .id,.sl 1 .id,.id,.id])],cout:=[.id],ntmps:=22,keep:=false,res:=[(3,none)],body :=
 (.seq (.reg [zo 2 (.box 48 6 (.t 0)),
 zo 3 (.mv (.c (.i .i64 0)))])
 (.seq (.blk 0 (.seq (.reg [zo 5 (.ld true 6 (.t 2)),
 zo 6 (.call DG [.t 5]),
 zo 7 (.un .not (.t 6)),
 zo 4 (.mv (.t 7))])
 (.cond (.t 4)
 (.seq (.reg [zo 3 (.mv (.c (.i .i64 1)))])
 .ret)
 (.seq (.reg [zo 9 (.fa 4 (.t 2)),
 zo 10 (.ld false 1 (.t 9)),
 zo 11 (.bin .eql (.t 10) (.c (.i .i64 1))),
 zo 8 (.mv (.t 11))])
 (.cond (.t 8)
 (.seq (.reg [zo 3 (.mv (.c (.i .i64 6)))])
 .ret)
 (.seq (.reg [zo 13 (.fa 4 (.t 2)),
 zo 14 (.ld false 1 (.t 13)),
 zo 15 (.bin .eql (.t 14) (.c (.i .i64 2))),
 zo 16 (.mv (.t 15)),
 ⟨some 17,.ld false 1 (.t 1),some (16,true)⟩,
 ⟨some 18,.ld true 6 (.t 2),some (16,true)⟩,
 ⟨some 19,.call Cj [.t 17,.t 18],some (16,true)⟩,
 ⟨some 20,.un .not (.t 19),some (16,true)⟩,
 zo 21 (.pick (.t 16) (.t 20) (.c (.b false))),
 zo 12 (.mv (.t 21))])
 (.cond (.t 12)
 (.seq (.reg [zo 3 (.mv (.c (.i .i64 67)))])
 .ret)
 .skip)))))))
 (.seq (.reg [zo 3 (.mv (.c (.i .i64 0)))])
 .ret))) }
def Df:Fun:={ cin:=[(.sl 6 (.agg [.id,.id,.sl 1 .id,.sl 1 .id,.id,.id])),(.agg [.id,.id,.sl 1 .id,.sl 1 .id,.id,.id])],cout:=[.id],ntmps:=16,keep:=false,res:=[(4,none)],body :=
 (.seq (.reg [zo 2 (.box 22 1 (.t 0)),
 zo 3 (.box 48 6 (.t 1)),
 zo 4 (.mv (.c (.b false)))])
 (.seq (.reg [zo 6 (.fa 3 (.t 3)),
 zo 7 (.ld false 1 (.t 6)),
 zo 8 (.call Bx [.t 7]),
 zo 9 (.call Dc [.t 8]),
 zo 5 (.mv (.t 9))])
 (.seq (.reg [zo 10 (.mv (.t 5)),
 zo 11 (.fa 5 (.t 3)),
 zo 12 (.ld false 1 (.t 11)),
 zo 13 (.slc false 1 (.t 10) (some (.t 12)) none none),
 zo 14 (.mkf D5 [.t 2]),
 zo 15 (.call BQ [.t 13,.t 14]),
 zo 4 (.mv (.t 15))])
 .ret))) }
def Cx:Fun:={ cin:=[.id],cout:=[],ntmps:=8,keep:=false,res:=[],body :=
 (.reg [zo 2 (.mv (.t 0)),
 zo 3 (.mv (.t 0)),
 zo 4 (.nck (.t 2)),
 zo 5 (.fa 4 (.t 4)),
 ⟨none,.st 1 (.t 5) (.c (.i .i64 1)),none⟩,
 zo 6 (.nck (.t 3)),
 zo 7 (.fa 5 (.t 6)),
 ⟨none,.st 1 (.t 7) (.c (.i .i64 0)),none⟩]) }
def Bo:Fun:={ cin:=[(.agg [.id,.id,.sl 1 .id,.sl 1 .id,.id,.id])],cout:=[.id],ntmps:=11,keep:=false,res:=[(2,none)],body :=
 (.seq (.reg [zo 1 (.box 48 6 (.t 0)),
 zo 2 (.mv (.c (.i .i64 0)))])
 (.seq (.blk 0 (.seq (.reg [zo 4 (.ld true 6 (.t 1)),
 zo 5 (.call DG [.t 4]),
 zo 6 (.un .not (.t 5)),
 zo 3 (.mv (.t 6))])
 (.cond (.t 3)
 (.seq (.reg [zo 2 (.mv (.c (.i .i64 1)))])
 .ret)
 (.seq (.reg [zo 8 (.fa 4 (.t 1)),
 zo 9 (.ld false 1 (.t 8)),
 zo 10 (.bin .eql (.t 9) (.c (.i .i64 1))),
 zo 7 (.mv (.t 10))])
 (.cond (.t 7)
 (.seq (.reg [zo 2 (.mv (.c (.i .i64 6)))])
 .ret)
 .skip)))))
 (.seq (.reg [zo 2 (.mv (.c (.i .i64 0)))])
 .ret))) }
def DJ:Fun:={ cin:=[.id],cout:=[],ntmps:=13,keep:=false,res:=[],body :=
 (.reg [zo 2 (.mv (.t 0)),
 zo 3 (.mv (.t 0)),
 zo 4 (.mv (.t 0)),
 zo 5 (.nck (.t 4)),
 zo 6 (.fa 2 (.t 5)),
 zo 7 (.ld false 1 (.t 6)),
 zo 8 (.len 1 (.t 7)),
 zo 9 (.nck (.t 2)),
 zo 10 (.fa 4 (.t 9)),
 ⟨none,.st 1 (.t 10) (.c (.i .i64 2)),none⟩,
 zo 11 (.nck (.t 3)),
 zo 12 (.fa 5 (.t 11)),
 ⟨none,.st 1 (.t 12) (.t 8),none⟩]) }
def AO:Fun:={ cin:=[(.agg [.id,.id,(.sl 1 .id),(.sl 4 (.agg [.id,.id,(.sl 1 .id),(.sl 4 (.agg [.id,.id,.sl 1 .id,.sl 4 .id]))]))])],cout:=[.id],ntmps:=96,keep:=false,res:=[(2,none)],body :=
 (.seq (.reg [zo 1 (.box 37 4 (.t 0)),
 zo 2 (.mv (.c (.b false)))])
 (.seq (.seq (.reg [zo 4 (.fa 0 (.t 1)),
 zo 5 (.ld false 1 (.t 4)),
 zo 6 (.bin .eql (.t 5) (.c (.i .u8 1))),
 zo 7 (.mv (.t 6)),
 ⟨some 8,.fa 0 (.t 1),some (7,false)⟩,
 ⟨some 9,.ld false 1 (.t 8),some (7,false)⟩,
 ⟨some 10,.bin .eql (.t 9) (.c (.i .u8 3)),some (7,false)⟩,
 zo 11 (.pick (.t 7) (.c (.b true)) (.t 10))])
 (.cond (.t 11)
 (.seq (.reg [zo 12 (.fa 2 (.t 1)),
 zo 13 (.ld false 1 (.t 12)),
 zo 14 (.len 1 (.t 13)),
 zo 15 (.bin .eql (.t 14) (.c (.i .i64 0))),
 zo 16 (.mv (.t 15)),
 ⟨some 17,.fa 3 (.t 1),some (16,true)⟩,
 ⟨some 18,.ld false 1 (.t 17),some (16,true)⟩,
 ⟨some 19,.len 1 (.t 18),some (16,true)⟩,
 ⟨some 20,.bin .eql (.t 19) (.c (.i .i64 0)),some (16,true)⟩,
 zo 21 (.pick (.t 16) (.t 20) (.c (.b false))),
 zo 22 (.mv (.t 21)),
 ⟨some 23,.fa 1 (.t 1),some (22,true)⟩,
 ⟨some 24,.ld false 1 (.t 23),some (22,true)⟩,
 ⟨some 25,.call Du [.t 24],some (22,true)⟩,
 zo 26 (.pick (.t 22) (.t 25) (.c (.b false))),
 zo 27 (.mv (.t 26)),
 ⟨some 28,.fa 0 (.t 1),some (27,true)⟩,
 ⟨some 29,.ld false 1 (.t 28),some (27,true)⟩,
 ⟨some 30,.bin .eql (.t 29) (.c (.i .u8 1)),some (27,true)⟩,
 ⟨some 31,.mv (.t 30),some (27,true)⟩,
 ⟨some 32,.fa 1 (.t 1),some (31,false)⟩,
 ⟨some 33,.ld false 1 (.t 32),some (31,false)⟩,
 ⟨some 34,.len 0 (.t 33),some (31,false)⟩,
 ⟨some 35,.bin .gtr (.t 34) (.c (.i .i64 0)),some (31,false)⟩,
 ⟨some 36,.pick (.t 31) (.c (.b true)) (.t 35),some (27,true)⟩,
 zo 37 (.pick (.t 27) (.t 36) (.c (.b false))),
 zo 2 (.mv (.t 37))])
 .ret)
 .skip))
 (.seq (.seq (.reg [zo 38 (.fa 0 (.t 1)),
 zo 39 (.ld false 1 (.t 38)),
 zo 40 (.bin .neq (.t 39) (.c (.i .u8 2))),
 zo 41 (.mv (.t 40)),
 ⟨some 42,.fa 1 (.t 1),some (41,false)⟩,
 ⟨some 43,.ld false 1 (.t 42),some (41,false)⟩,
 ⟨some 44,.bin .neq (.t 43) (.c (.s [])),some (41,false)⟩,
 zo 45 (.pick (.t 41) (.c (.b true)) (.t 44)),
 zo 46 (.mv (.t 45)),
 ⟨some 47,.fa 2 (.t 1),some (46,false)⟩,
 ⟨some 48,.ld false 1 (.t 47),some (46,false)⟩,
 ⟨some 49,.len 1 (.t 48),some (46,false)⟩,
 ⟨some 50,.fa 3 (.t 1),some (46,false)⟩,
 ⟨some 51,.ld false 1 (.t 50),some (46,false)⟩,
 ⟨some 52,.len 1 (.t 51),some (46,false)⟩,
 ⟨some 53,.bin .neq (.t 49) (.t 52),some (46,false)⟩,
 zo 54 (.pick (.t 46) (.c (.b true)) (.t 53))])
 (.cond (.t 54)
 (.seq (.reg [zo 2 (.mv (.c (.b false)))])
 .ret)
 .skip))
 (.seq (.seq (.reg [zo 3 (.mv (.c (.i .i64 0)))])
 (.blk 0 (.loop (.seq (.seq (.reg [zo 55 (.mv (.t 3)),
 zo 56 (.fa 2 (.t 1)),
 zo 57 (.ld false 1 (.t 56)),
 zo 58 (.len 1 (.t 57)),
 zo 59 (.bin .lss (.t 55) (.t 58))])
 (.cond (.t 59)
 .skip
 (.exit 0)))
 (.seq (.blk 1 (.seq (.regD [zo 62 (.fa 2 (.t 1)),
 zo 63 (.ld false 1 (.t 62)),
 zo 64 (.mv (.t 3)),
 zo 65 (.ia 1 (.t 63) (.t 64)),
 zo 66 (.ld false 1 (.t 65)),
 zo 67 (.call Dt [.t 66]),
 zo 68 (.un .not (.t 67)),
 zo 69 (.mv (.t 68)),
 ⟨some 70,.mv (.t 3),some (69,false)⟩,
 ⟨some 71,.bin .gtr (.t 70) (.c (.i .i64 0)),some (69,false)⟩,
 ⟨some 72,.mv (.t 71),some (69,false)⟩,
 ⟨some 73,.fa 2 (.t 1),some (72,true)⟩,
 ⟨some 74,.ld false 1 (.t 73),some (72,true)⟩,
 ⟨some 75,.mv (.t 3),some (72,true)⟩,
 ⟨some 76,.ia 1 (.t 74) (.t 75),some (72,true)⟩,
 ⟨some 77,.ld false 1 (.t 76),some (72,true)⟩,
 ⟨some 78,.fa 2 (.t 1),some (72,true)⟩,
 ⟨some 79,.ld false 1 (.t 78),some (72,true)⟩,
 ⟨some 80,.mv (.t 3),some (72,true)⟩,
 ⟨some 81,.bin .sub (.t 80) (.c (.i .i64 1)),some (72,true)⟩,
 ⟨some 82,.ia 1 (.t 79) (.t 81),some (72,true)⟩,
 ⟨some 83,.ld false 1 (.t 82),some (72,true)⟩,
 ⟨some 84,.bin .leq (.t 77) (.t 83),some (72,true)⟩,
 ⟨some 85,.pick (.t 72) (.t 84) (.c (.b false)),some (69,false)⟩,
 zo 86 (.pick (.t 69) (.c (.b true)) (.t 85)),
 zo 87 (.mv (.t 86)),
 ⟨some 88,.fa 3 (.t 1),some (87,false)⟩,
 ⟨some 89,.ld false 1 (.t 88),some (87,false)⟩,
 ⟨some 90,.mv (.t 3),some (87,false)⟩,
 ⟨some 91,.ia 4 (.t 89) (.t 90),some (87,false)⟩,
 ⟨some 92,.ld true 4 (.t 91),some (87,false)⟩,
 ⟨some 93,.call C2 [.t 92],some (87,false)⟩,
 ⟨some 94,.un .not (.t 93),some (87,false)⟩,
 zo 95 (.pick (.t 87) (.c (.b true)) (.t 94))] [])
 (.cond (.t 95)
 (.seq (.reg [zo 2 (.mv (.c (.b false)))])
 .ret)
 .skip)))
 (.reg [zo 60 (.mv (.t 3)),
 zo 61 (.bin .add (.t 60) (.c (.i .i64 1))),
 zo 3 (.mv (.t 61))]))))))
 (.seq (.reg [zo 2 (.mv (.c (.b true)))])
 .ret))))) }
def Bh:Fun:={ cin:=[(.agg [.id,.id,(.sl 1 .id),(.sl 4 (.agg [.id,.id,(.sl 1 .id),(.sl 4 (.agg [.id,.id,.sl 1 .id,.sl 4 .id]))]))])],cout:=[.id],ntmps:=22,keep:=false,res:=[(2,none)],body :=
 (.seq (.reg [zo 1 (.box 37 4 (.t 0)),
 zo 2 (.mv (.c (.i .i64 0)))])
 (.seq (.reg [zo 3 (.mv (.c (.i .i64 0)))])
 (.seq (.seq (.reg [zo 4 (.mv (.c (.i .i64 0)))])
 (.blk 0 (.loop (.seq (.seq (.reg [zo 5 (.mv (.t 4)),
 zo 6 (.fa 3 (.t 1)),
 zo 7 (.ld false 1 (.t 6)),
 zo 8 (.len 1 (.t 7)),
 zo 9 (.bin .lss (.t 5) (.t 8))])
 (.cond (.t 9)
 .skip
 (.exit 0)))
 (.seq (.blk 1 (.reg [zo 12 (.mv (.t 3)),
 zo 13 (.fa 3 (.t 1)),
 zo 14 (.ld false 1 (.t 13)),
 zo 15 (.mv (.t 4)),
 zo 16 (.ia 4 (.t 14) (.t 15)),
 zo 17 (.ld true 4 (.t 16)),
 zo 18 (.call C3 [.t 17]),
 zo 19 (.bin .add (.t 18) (.c (.i .i64 1))),
 zo 20 (.mm true (.t 12) (.t 19)),
 zo 3 (.mv (.t 20))]))
 (.reg [zo 10 (.mv (.t 4)),
 zo 11 (.bin .add (.t 10) (.c (.i .i64 1))),
 zo 4 (.mv (.t 11))]))))))
 (.seq (.reg [zo 21 (.mv (.t 3)),
 zo 2 (.mv (.t 21))])
 .ret)))) }
def J8:Fun:={ cin:=[(.sl 6 (.agg [.id,.id,.sl 1 .id,.sl 1 .id,.id,.id])),(.sl 2 (.agg [.id,.id])),(.sl 1 .id),.id],cout:=[(.sl 6 (.agg [.id,.id,.sl 1 .id,.sl 1 .id,.id,.id])),.id],ntmps:=70,keep:=false,res:=[(8,none),(9,none)],body :=
 (.seq (.reg [zo 8 (.mv (.c .nsl)),
 zo 9 (.mv (.c (.i .i64 0)))])
 (.seq (.reg [zo 15 (.mv (.t 0)),
 zo 16 (.call Ae [.t 15]),
 zo 10 (.mv (.t 16))])
 (.seq (.seq (.reg [zo 17 (.mv (.t 1)),
 zo 18 (.len 1 (.t 17)),
 zo 19 (.mv (.c (.i .i64 0)))])
 (.blk 0 (.loop (.seq (.reg [zo 20 (.bin .lss (.t 19) (.t 18))])
 (.seq (.cond (.t 20)
 .skip
 (.exit 0))
 (.seq (.blk 1 (.seq (.reg [zo 21 (.mv (.t 19)),
 zo 22 (.ia 2 (.t 17) (.t 19)),
 zo 23 (.ld true 2 (.t 22)),
 zo 12 (.alloc 44 [.i .i64 0,.b false]),
 zo 11 (.mv (.t 21)),
 ⟨none,.st 2 (.t 12) (.t 23),none⟩])
 (.seq (.reg [zo 25 (.mv (.t 10)),
 zo 26 (.ld true 2 (.t 12)),
 zo 27 (.mv (.t 3)),
 zo 28 (.call Db [.t 25,.t 26,.t 27]),
 zo 24 (.mv (.t 28)),
 zo 29 (.ext (.t 24) 0),
 zo 30 (.ext (.t 24) 1),
 zo 13 (.mv (.t 29)),
 zo 14 (.mv (.t 30))])
 (.seq (.blk 2 (.seq (.reg [zo 32 (.mv (.t 14)),
 zo 33 (.bin .neq (.t 32) (.c (.i .i64 0))),
 zo 31 (.mv (.t 33))])
 (.cond (.t 31)
 (.seq (.reg [zo 34 (.mv (.t 14)),
 zo 8 (.mv (.c .nsl)),
 zo 9 (.mv (.t 34))])
 .ret)
 (.seq (.reg [zo 36 (.mv (.t 11)),
 zo 37 (.mv (.t 2)),
 zo 38 (.len 1 (.t 37)),
 zo 39 (.bin .geq (.t 36) (.t 38)),
 zo 40 (.mv (.t 39)),
 ⟨some 41,.mv (.t 2),some (40,false)⟩,
 ⟨some 42,.mv (.t 11),some (40,false)⟩,
 ⟨some 43,.ia 1 (.t 41) (.t 42),some (40,false)⟩,
 ⟨some 44,.ld false 1 (.t 43),some (40,false)⟩,
 ⟨some 45,.bin .lss (.t 44) (.c (.i .i64 0)),some (40,false)⟩,
 zo 46 (.pick (.t 40) (.c (.b true)) (.t 45)),
 zo 47 (.mv (.t 46)),
 ⟨some 48,.mv (.t 2),some (47,false)⟩,
 ⟨some 49,.mv (.t 11),some (47,false)⟩,
 ⟨some 50,.ia 1 (.t 48) (.t 49),some (47,false)⟩,
 ⟨some 51,.ld false 1 (.t 50),some (47,false)⟩,
 ⟨some 52,.mv (.t 13),some (47,false)⟩,
 ⟨some 53,.len 1 (.t 52),some (47,false)⟩,
 ⟨some 54,.bin .geq (.t 51) (.t 53),some (47,false)⟩,
 zo 55 (.pick (.t 47) (.c (.b true)) (.t 54)),
 zo 35 (.mv (.t 55))])
 (.cond (.t 35)
 (.seq (.reg [zo 8 (.mv (.c .nsl)),
 zo 9 (.mv (.c (.i .i64 1)))])
 .ret)
 .skip)))))
 (.reg [zo 56 (.mv (.t 13)),
 zo 57 (.mv (.t 2)),
 zo 58 (.mv (.t 11)),
 zo 59 (.ia 1 (.t 57) (.t 58)),
 zo 60 (.ld false 1 (.t 59)),
 zo 61 (.ia 1 (.t 56) (.t 60)),
 zo 62 (.ld false 1 (.t 61)),
 zo 10 (.mv (.t 62))])))))
 (.reg [zo 63 (.bin .add (.t 19) (.c (.i .i64 1))),
 zo 19 (.mv (.t 63))])))))))
 (.seq (.seq (.reg [zo 64 (.mv (.t 2)),
 zo 65 (.len 1 (.t 64)),
 zo 66 (.mv (.t 1)),
 zo 67 (.len 1 (.t 66)),
 zo 68 (.bin .gtr (.t 65) (.t 67))])
 (.cond (.t 68)
 (.seq (.reg [zo 8 (.mv (.c .nsl)),
 zo 9 (.mv (.c (.i .i64 1)))])
 .ret)
 .skip))
 (.seq (.reg [zo 69 (.mv (.t 10)),
 zo 8 (.mv (.t 69)),
 zo 9 (.mv (.c (.i .i64 0)))])
 .ret))))) }
def Aa:Fun:={ cin:=[(.agg [.id,.id]),.id],cout:=[.sl 1 .id],ntmps:=20,keep:=false,res:=[(4,none)],body :=
 (.seq (.reg [zo 2 (.box 44 2 (.t 0)),
 zo 4 (.mv (.c .nsl))])
 (.seq (.seq (.reg [zo 7 (.fa 1 (.t 2)),
 zo 8 (.ld false 1 (.t 7))])
 (.cond (.t 8)
 (.seq (.reg [zo 9 (.mkf Ay [.t 2]),
 zo 10 (.mkf Az [.t 2]),
 zo 11 (.bsl 1 [.t 9,.t 10]),
 zo 4 (.mv (.t 11))])
 .ret)
 .skip))
 (.seq (.reg [zo 5 (.alloc 70 [.nsl])])
 (.seq (.seq (.reg [zo 12 (.mv (.t 1)),
 zo 13 (.call D6 [.t 12])])
 (.blk 0 (.rf (.t 13) [14] (.reg [zo 6 (.alloc 5 [.i .u8 0]),
 ⟨none,.st 1 (.t 6) (.t 14),none⟩])
 (.blk 1 (.reg [zo 15 (.ld false 1 (.t 5)),
 zo 16 (.mkf AZ [.t 2,.t 6]),
 zo 17 (.bsl 1 [.t 16]),
 zo 18 (.app 1 72 (.t 15) (.t 17)),
 ⟨none,.st 1 (.t 5) (.t 18),none⟩])))))
 (.seq (.reg [zo 19 (.ld false 1 (.t 5)),
 zo 4 (.mv (.t 19))])
 .ret))))) }
def DB:Fun:={ cin:=[(.sl 6 (.agg [.id,.id,.sl 1 .id,.sl 1 .id,.id,.id])),(.agg [.id,.id,(.sl 1 .id),(.sl 4 (.agg [.id,.id,(.sl 1 .id),(.sl 4 (.agg [.id,.id,.sl 1 .id,.sl 4 .id]))]))])],cout:=[.id,.id],ntmps:=60,keep:=false,res:=[(4,none),(5,none)],body :=
 (.seq (.reg [zo 3 (.box 37 4 (.t 1)),
 zo 4 (.mv (.c (.i .i64 0))),
 zo 5 (.mv (.c (.i .i64 0)))])
 (.seq (.seq (.reg [zo 9 (.mv (.t 0)),
 zo 10 (.call DQ [.t 9]),
 zo 11 (.un .not (.t 10)),
 zo 12 (.mv (.t 11)),
 ⟨some 13,.ld true 4 (.t 3),some (12,false)⟩,
 ⟨some 14,.call JY [.t 13],some (12,false)⟩,
 ⟨some 15,.un .not (.t 14),some (12,false)⟩,
 zo 16 (.pick (.t 12) (.c (.b true)) (.t 15))])
 (.cond (.t 16)
 (.seq (.reg [zo 4 (.mv (.c (.i .i64 0))),
 zo 5 (.mv (.c (.i .i64 4)))])
 .ret)
 .skip))
 (.seq (.seq (.reg [zo 17 (.mv (.t 0)),
 zo 18 (.len 1 (.t 17)),
 zo 19 (.mv (.c (.i .i64 0)))])
 (.blk 0 (.loop (.seq (.reg [zo 20 (.bin .lss (.t 19) (.t 18))])
 (.seq (.cond (.t 20)
 .skip
 (.exit 0))
 (.seq (.blk 1 (.seq (.reg [zo 21 (.mv (.t 19)),
 zo 6 (.mv (.t 21))])
 (.seq (.seq (.seq (.thw 0)
 (.reg [zo 22 (.mv (.t 0)),
 zo 23 (.mv (.t 6)),
 zo 24 (.ia 6 (.t 22) (.t 23)),
 zo 25 (.fa 0 (.t 24)),
 zo 26 (.ld false 1 (.t 25)),
 zo 27 (.un .not (.t 26))]))
 (.cond (.t 27)
 (.exit 1)
 .skip))
 (.seq (.reg [zo 29 (.mv (.t 0)),
 zo 30 (.ld true 4 (.t 3)),
 zo 31 (.mv (.t 6)),
 zo 32 (.call Ig [.t 29,.t 30,.t 31]),
 zo 28 (.mv (.t 32)),
 zo 33 (.ext (.t 28) 0),
 zo 34 (.ext (.t 28) 1),
 zo 7 (.alloc 37 [(.i .u8 0),(.s []),.nsl,.nsl]),
 ⟨none,.st 4 (.t 7) (.t 33),none⟩,
 zo 8 (.mv (.t 34))])
 (.seq (.seq (.thw 0)
 (.regD [zo 35 (.fa 0 (.t 7)),
 zo 36 (.ld false 1 (.t 35)),
 zo 37 (.mv (.t 0)),
 zo 38 (.mv (.t 6)),
 zo 39 (.ia 6 (.t 37) (.t 38)),
 zo 40 (.fa 1 (.t 39)),
 zo 41 (.ld false 1 (.t 40)),
 zo 42 (.bin .neq (.t 36) (.t 41)),
 zo 43 (.mv (.t 42)),
 ⟨some 44,.fa 0 (.t 7),some (43,false)⟩,
 ⟨some 45,.ld false 1 (.t 44),some (43,false)⟩,
 ⟨some 46,.bin .eql (.t 45) (.c (.i .u8 2)),some (43,false)⟩,
 ⟨some 47,.mv (.t 46),some (43,false)⟩,
 ⟨some 48,.mv (.t 0),some (47,true)⟩,
 ⟨some 49,.mv (.t 6),some (47,true)⟩,
 ⟨some 50,.ia 6 (.t 48) (.t 49),some (47,true)⟩,
 ⟨some 51,.ld true 6 (.t 50),some (47,true)⟩,
 ⟨some 52,.fa 2 (.t 7),some (47,true)⟩,
 ⟨some 53,.ld false 1 (.t 52),some (47,true)⟩,
 ⟨some 54,.call GS [.t 51,.t 53],some (47,true)⟩,
 ⟨some 55,.un .not (.t 54),some (47,true)⟩,
 ⟨some 56,.pick (.t 47) (.t 55) (.c (.b false)),some (43,false)⟩,
 zo 57 (.pick (.t 43) (.c (.b true)) (.t 56))] []))
 (.cond (.t 57)
 (.seq (.reg [zo 58 (.mv (.t 6)),
 zo 4 (.mv (.t 58)),
 zo 5 (.mv (.c (.i .i64 0)))])
 .ret)
 .skip))))))
 (.reg [zo 59 (.bin .add (.t 19) (.c (.i .i64 1))),
 zo 19 (.mv (.t 59))])))))))
 (.seq (.reg [zo 4 (.mv (.c (.i .i64 (-1)))),
 zo 5 (.mv (.c (.i .i64 0)))])
 .ret)))) }
def Fu:Fun:={ cin:=[(.agg [.id,.id,.sl 1 .id,.sl 1 .id,.id,.id])],cout:=[.id],ntmps:=10,keep:=false,res:=[(2,none)],body :=
 (.seq (.reg [zo 1 (.box 48 6 (.t 0)),
 zo 2 (.mv (.c (.b false)))])
 (.seq (.reg [zo 3 (.fa 0 (.t 1)),
 zo 4 (.ld false 1 (.t 3)),
 zo 5 (.mv (.t 4)),
 ⟨some 6,.fa 1 (.t 1),some (5,true)⟩,
 ⟨some 7,.ld false 1 (.t 6),some (5,true)⟩,
 ⟨some 8,.bin .eql (.t 7) (.c (.i .u8 2)),some (5,true)⟩,
 zo 9 (.pick (.t 5) (.t 8) (.c (.b false))),
 zo 2 (.mv (.t 9))])
 .ret)) }
def DC:Fun:={ cin:=[(.agg [.id,.id,.sl 1 .id,.sl 1 .id,.id,.id])],cout:=[.id],ntmps:=99,keep:=false,res:=[(2,none)],body :=
 (.seq (.reg [zo 1 (.box 48 6 (.t 0)),
 zo 2 (.mv (.c (.b false)))])
 (.seq (.blk 0 (.seq (.reg [zo 6 (.fa 1 (.t 1)),
 zo 7 (.ld false 1 (.t 6)),
 zo 8 (.bin .gtr (.t 7) (.c (.i .u8 3))),
 zo 9 (.mv (.t 8)),
 ⟨some 10,.fa 0 (.t 1),some (9,false)⟩,
 ⟨some 11,.ld false 1 (.t 10),some (9,false)⟩,
 ⟨some 12,.un .not (.t 11),some (9,false)⟩,
 ⟨some 13,.mv (.t 12),some (9,false)⟩,
 ⟨some 14,.fa 1 (.t 1),some (13,true)⟩,
 ⟨some 15,.ld false 1 (.t 14),some (13,true)⟩,
 ⟨some 16,.bin .neq (.t 15) (.c (.i .u8 0)),some (13,true)⟩,
 ⟨some 17,.pick (.t 13) (.t 16) (.c (.b false)),some (9,false)⟩,
 zo 18 (.pick (.t 9) (.c (.b true)) (.t 17)),
 zo 19 (.mv (.t 18)),
 ⟨some 20,.fa 2 (.t 1),some (19,false)⟩,
 ⟨some 21,.ld false 1 (.t 20),some (19,false)⟩,
 ⟨some 22,.len 1 (.t 21),some (19,false)⟩,
 ⟨some 23,.fa 3 (.t 1),some (19,false)⟩,
 ⟨some 24,.ld false 1 (.t 23),some (19,false)⟩,
 ⟨some 25,.len 1 (.t 24),some (19,false)⟩,
 ⟨some 26,.bin .neq (.t 22) (.t 25),some (19,false)⟩,
 zo 27 (.pick (.t 19) (.c (.b true)) (.t 26)),
 zo 5 (.mv (.t 27))])
 (.cond (.t 5)
 (.seq (.reg [zo 2 (.mv (.c (.b false)))])
 .ret)
 (.seq (.reg [zo 29 (.ld true 6 (.t 1)),
 zo 30 (.call J7 [.t 29]),
 zo 31 (.un .not (.t 30)),
 zo 28 (.mv (.t 31))])
 (.cond (.t 28)
 (.seq (.reg [zo 32 (.fa 2 (.t 1)),
 zo 33 (.ld false 1 (.t 32)),
 zo 34 (.len 1 (.t 33)),
 zo 35 (.bin .eql (.t 34) (.c (.i .i64 0))),
 zo 36 (.mv (.t 35)),
 ⟨some 37,.fa 4 (.t 1),some (36,true)⟩,
 ⟨some 38,.ld false 1 (.t 37),some (36,true)⟩,
 ⟨some 39,.bin .eql (.t 38) (.c (.i .i64 0)),some (36,true)⟩,
 zo 40 (.pick (.t 36) (.t 39) (.c (.b false))),
 zo 41 (.mv (.t 40)),
 ⟨some 42,.fa 5 (.t 1),some (41,true)⟩,
 ⟨some 43,.ld false 1 (.t 42),some (41,true)⟩,
 ⟨some 44,.bin .eql (.t 43) (.c (.i .i64 0)),some (41,true)⟩,
 zo 45 (.pick (.t 41) (.t 44) (.c (.b false))),
 zo 2 (.mv (.t 45))])
 .ret)
 .skip)))))
 (.seq (.seq (.reg [zo 46 (.fa 2 (.t 1)),
 zo 47 (.ld false 1 (.t 46)),
 zo 48 (.len 1 (.t 47)),
 zo 49 (.mv (.c (.i .i64 0)))])
 (.blk 1 (.loop (.seq (.reg [zo 50 (.bin .lss (.t 49) (.t 48))])
 (.seq (.cond (.t 50)
 .skip
 (.exit 1))
 (.seq (.blk 2 (.seq (.reg [zo 51 (.mv (.t 49)),
 zo 52 (.ia 1 (.t 47) (.t 49)),
 zo 53 (.ld false 1 (.t 52)),
 zo 3 (.mv (.t 51)),
 zo 4 (.mv (.t 53))])
 (.seq (.reg [zo 54 (.mv (.t 4)),
 zo 55 (.call Hk [.t 54]),
 zo 56 (.un .not (.t 55)),
 zo 57 (.mv (.t 56)),
 ⟨some 58,.mv (.t 3),some (57,false)⟩,
 ⟨some 59,.bin .gtr (.t 58) (.c (.i .i64 0)),some (57,false)⟩,
 ⟨some 60,.mv (.t 59),some (57,false)⟩,
 ⟨some 61,.mv (.t 4),some (60,true)⟩,
 ⟨some 62,.fa 2 (.t 1),some (60,true)⟩,
 ⟨some 63,.ld false 1 (.t 62),some (60,true)⟩,
 ⟨some 64,.mv (.t 3),some (60,true)⟩,
 ⟨some 65,.bin .sub (.t 64) (.c (.i .i64 1)),some (60,true)⟩,
 ⟨some 66,.ia 1 (.t 63) (.t 65),some (60,true)⟩,
 ⟨some 67,.ld false 1 (.t 66),some (60,true)⟩,
 ⟨some 68,.bin .leq (.t 61) (.t 67),some (60,true)⟩,
 ⟨some 69,.pick (.t 60) (.t 68) (.c (.b false)),some (57,false)⟩,
 zo 70 (.pick (.t 57) (.c (.b true)) (.t 69))])
 (.cond (.t 70)
 (.seq (.reg [zo 2 (.mv (.c (.b false)))])
 .ret)
 .skip))))
 (.reg [zo 71 (.bin .add (.t 49) (.c (.i .i64 1))),
 zo 49 (.mv (.t 71))])))))))
 (.seq (.seq (.reg [zo 72 (.fa 4 (.t 1)),
 zo 73 (.ld false 1 (.t 72)),
 zo 74 (.bin .eql (.t 73) (.c (.i .i64 2)))])
 (.cond (.t 74)
 (.seq (.reg [zo 75 (.fa 5 (.t 1)),
 zo 76 (.ld false 1 (.t 75)),
 zo 77 (.bin .geq (.t 76) (.c (.i .i64 0))),
 zo 78 (.mv (.t 77)),
 ⟨some 79,.fa 5 (.t 1),some (78,true)⟩,
 ⟨some 80,.ld false 1 (.t 79),some (78,true)⟩,
 ⟨some 81,.fa 2 (.t 1),some (78,true)⟩,
 ⟨some 82,.ld false 1 (.t 81),some (78,true)⟩,
 ⟨some 83,.len 1 (.t 82),some (78,true)⟩,
 ⟨some 84,.bin .leq (.t 80) (.t 83),some (78,true)⟩,
 zo 85 (.pick (.t 78) (.t 84) (.c (.b false))),
 zo 2 (.mv (.t 85))])
 .ret)
 .skip))
 (.seq (.reg [zo 86 (.fa 4 (.t 1)),
 zo 87 (.ld false 1 (.t 86)),
 zo 88 (.bin .eql (.t 87) (.c (.i .i64 0))),
 zo 89 (.mv (.t 88)),
 ⟨some 90,.fa 4 (.t 1),some (89,false)⟩,
 ⟨some 91,.ld false 1 (.t 90),some (89,false)⟩,
 ⟨some 92,.bin .eql (.t 91) (.c (.i .i64 1)),some (89,false)⟩,
 zo 93 (.pick (.t 89) (.c (.b true)) (.t 92)),
 zo 94 (.mv (.t 93)),
 ⟨some 95,.fa 5 (.t 1),some (94,true)⟩,
 ⟨some 96,.ld false 1 (.t 95),some (94,true)⟩,
 ⟨some 97,.bin .eql (.t 96) (.c (.i .i64 0)),some (94,true)⟩,
 zo 98 (.pick (.t 94) (.t 97) (.c (.b false))),
 zo 2 (.mv (.t 98))])
 .ret))))) }
def AR:Fun:={ cin:=[.sl 1 .id,.id],cout:=[.id],ntmps:=9,keep:=false,res:=[(4,none)],body :=
 (.seq (.reg [zo 4 (.mv (.c (.b false)))])
 (.seq (.reg [zo 5 (.mv (.t 0)),
 zo 6 (.mv (.t 1)),
 zo 7 (.call CB [.t 5,.t 6]),
 zo 8 (.bin .geq (.t 7) (.c (.i .i64 0))),
 zo 4 (.mv (.t 8))])
 .ret)) }
def GU:Fun:={ cin:=[.id],cout:=[.id],ntmps:=5,keep:=false,res:=[(2,none)],body :=
 (.seq (.reg [zo 2 (.mv (.c (.b false)))])
 (.seq (.reg [zo 3 (.mv (.t 0)),
 zo 4 (.bin .neq (.t 3) (.c (.i .i64 1))),
 zo 2 (.mv (.t 4))])
 .ret)) }
def Dg:Fun:={ cin:=[(.sl 6 (.agg [.id,.id,.sl 1 .id,.sl 1 .id,.id,.id]))],cout:=[],ntmps:=31,keep:=true,res:=[(2,none)],body :=
 (.seq (.reg [zo 2 (.mv (.c .nsl))])
 (.seq (.reg [zo 6 (.mv (.t 0)),
 zo 7 (.call Ae [.t 6]),
 zo 3 (.mv (.t 7))])
 (.seq (.seq (.reg [zo 8 (.mv (.t 0)),
 zo 9 (.len 1 (.t 8)),
 zo 10 (.mv (.c (.i .i64 0)))])
 (.blk 0 (.loop (.seq (.reg [zo 11 (.bin .lss (.t 10) (.t 9))])
 (.seq (.cond (.t 11)
 .skip
 (.exit 0))
 (.seq (.blk 1 (.seq (.reg [zo 12 (.mv (.t 10)),
 zo 13 (.ia 6 (.t 8) (.t 10)),
 zo 14 (.ld true 6 (.t 13)),
 zo 5 (.alloc 48 [.b false,.i .u8 0,.nsl,.nsl,.i .i64 0,.i .i64 0]),
 zo 4 (.mv (.t 12)),
 ⟨none,.st 6 (.t 5) (.t 14),none⟩])
 (.seq (.thw 3)
 (.regD [zo 15 (.mv (.t 3)),
 zo 16 (.mv (.t 4)),
 zo 17 (.mv (.t 3)),
 zo 18 (.mv (.t 4)),
 zo 19 (.fa 2 (.t 5)),
 zo 20 (.ld false 1 (.t 19)),
 zo 21 (.callQ true AN [.t 20]),
 zo 22 (.fa 3 (.t 5)),
 zo 23 (.ld false 1 (.t 22)),
 zo 24 (.callQ true Ax [.t 23]),
 zo 25 (.ia 6 (.t 15) (.t 16)),
 zo 26 (.fa 2 (.t 25)),
 ⟨none,.st 1 (.t 26) (.t 21),none⟩,
 zo 27 (.ia 6 (.t 17) (.t 18)),
 zo 28 (.fa 3 (.t 27)),
 ⟨none,.st 1 (.t 28) (.t 24),none⟩] [(8,(6,8))]))))
 (.reg [zo 29 (.bin .add (.t 10) (.c (.i .i64 1))),
 zo 10 (.mv (.t 29))])))))))
 (.seq (.reg [zo 30 (.mv (.t 3)),
 zo 2 (.mv (.t 30))])
 .ret)))) }
def CX:Fun:={ cin:=[.id,.id],cout:=[.id],ntmps:=9,keep:=false,res:=[(4,none)],body :=
 (.seq (.reg [zo 4 (.mv (.c (.b false)))])
 (.seq (.reg [zo 5 (.mv (.t 0)),
 zo 6 (.mv (.t 1)),
 zo 7 (.call E6 [.t 5,.t 6]),
 zo 8 (.bin .geq (.t 7) (.c (.i .i64 0))),
 zo 4 (.mv (.t 8))])
 .ret)) }
def EI:Fun:={ cin:=[.id,.id],cout:=[.id],ntmps:=17,keep:=false,res:=[(4,none)],body :=
 (.seq (.reg [zo 4 (.mv (.c (.b false)))])
 (.seq (.reg [zo 5 (.mv (.t 0)),
 zo 6 (.call Dw [.t 5]),
 zo 7 (.mv (.t 6)),
 ⟨some 8,.mv (.t 1),some (7,true)⟩,
 ⟨some 9,.call Dw [.t 8],some (7,true)⟩,
 ⟨some 10,.un .not (.t 9),some (7,true)⟩,
 zo 11 (.pick (.t 7) (.t 10) (.c (.b false))),
 zo 12 (.mv (.t 11)),
 ⟨some 13,.mv (.t 0),some (12,false)⟩,
 ⟨some 14,.mv (.t 1),some (12,false)⟩,
 ⟨some 15,.bin .lss (.t 13) (.t 14),some (12,false)⟩,
 zo 16 (.pick (.t 12) (.c (.b true)) (.t 15)),
 zo 4 (.mv (.t 16))])
 .ret)) }
def DD:Fun:={ cin:=[.id],cout:=[.id],ntmps:=6,keep:=false,res:=[(2,none)],body :=
 (.seq (.reg [zo 2 (.mv (.c (.b false)))])
 (.seq (.reg [zo 3 (.mv (.t 0)),
 zo 4 (.mv (.t 0)),
 zo 5 (.bin .neq (.t 3) (.t 4)),
 zo 2 (.mv (.t 5))])
 .ret)) }
def BZ:Fun:={ cin:=[.id],cout:=[.sl 1 .id],ntmps:=9,keep:=false,res:=[(2,none)],body :=
 (.seq (.reg [zo 2 (.mv (.c .nsl))])
 (.seq (.reg [zo 4 (.mv (.t 0)),
 zo 5 (.call EV [.t 4]),
 zo 3 (.mv (.t 5))])
 (.seq (.seq (.thw 3)
 (.reg [zo 6 (.mv (.t 3)),
 zo 7 (.call C8 [.t 6])]))
 (.seq (.reg [zo 8 (.mv (.t 3)),
 zo 2 (.mv (.t 8))])
 .ret)))) }
def BP:Fun:={ cin:=[.sl 1 .id],cout:=[.id],ntmps:=4,keep:=false,res:=[(2,none)],body :=
 (.seq (.reg [zo 1 (.box 46 1 (.t 0)),
 zo 2 (.mv (.c .nf))])
 (.seq (.reg [zo 3 (.mkf Ac [.t 1]),
 zo 2 (.mv (.t 3))])
 .ret)) }
def DU:Fun:={ cin:=[.id],cout:=[.id],ntmps:=17,keep:=false,res:=[(3,none)],body :=
 (.seq (.reg [zo 3 (.mv (.c (.b false)))])
 (.seq (.seq (.thw 1)
 (.reg [zo 4 (.ld false 1 (.t 1)),
 zo 5 (.mv (.t 0)),
 zo 6 (.ia 6 (.t 4) (.t 5)),
 zo 7 (.fa 0 (.t 6)),
 zo 8 (.ld false 1 (.t 7)),
 zo 9 (.mv (.t 8)),
 ⟨some 10,.ld false 1 (.t 1),some (9,true)⟩,
 ⟨some 11,.mv (.t 0),some (9,true)⟩,
 ⟨some 12,.ia 6 (.t 10) (.t 11),some (9,true)⟩,
 ⟨some 13,.fa 1 (.t 12),some (9,true)⟩,
 ⟨some 14,.ld false 1 (.t 13),some (9,true)⟩,
 ⟨some 15,.bin .neq (.t 14) (.c (.i .u8 0)),some (9,true)⟩,
 zo 16 (.pick (.t 9) (.t 15) (.c (.b false))),
 zo 3 (.mv (.t 16))]))
 .ret)) }
def C5:Fun:={ cin:=[.id],cout:=[.id],ntmps:=17,keep:=false,res:=[(2,none)],body :=
 (.seq (.reg [zo 2 (.mv (.c (.b false)))])
 (.seq (.seq (.reg [zo 3 (.mv (.c (.i .i64 0)))])
 (.blk 0 (.loop (.seq (.seq (.reg [zo 4 (.mv (.t 3)),
 zo 5 (.mv (.t 0)),
 zo 6 (.len 0 (.t 5)),
 zo 7 (.bin .lss (.t 4) (.t 6))])
 (.cond (.t 7)
 .skip
 (.exit 0)))
 (.seq (.blk 1 (.seq (.reg [zo 10 (.mv (.t 0)),
 zo 11 (.mv (.t 3)),
 zo 12 (.ixS (.t 10) (.t 11)),
 zo 13 (.bin .eql (.t 12) (.c (.i .u8 0)))])
 (.cond (.t 13)
 (.seq (.reg [zo 2 (.mv (.c (.b false)))])
 .ret)
 .skip)))
 (.reg [zo 8 (.mv (.t 3)),
 zo 9 (.bin .add (.t 8) (.c (.i .i64 1))),
 zo 3 (.mv (.t 9))]))))))
 (.seq (.reg [zo 14 (.mv (.t 0)),
 zo 15 (.len 0 (.t 14)),
 zo 16 (.bin .leq (.t 15) (.c (.i .i64 256))),
 zo 2 (.mv (.t 16))])
 .ret))) }
def AQ:Fun:={ cin:=[(.sl 6 (.agg [.id,.id,.sl 1 .id,.sl 1 .id,.id,.id]))],cout:=[],ntmps:=8,keep:=true,res:=[(2,none)],body :=
 (.seq (.reg [zo 2 (.mv (.c .nsl))])
 (.seq (.seq (.reg [zo 3 (.mv (.t 0)),
 zo 4 (.eq .sl false (.t 3) (.c .nsl))])
 (.cond (.t 4)
 (.seq (.reg [zo 2 (.mv (.c .nsl))])
 .ret)
 .skip))
 (.seq (.reg [zo 5 (.bsl 6 []),
 zo 6 (.mv (.t 0)),
 zo 7 (.app 6 48 (.t 5) (.t 6)),
 zo 2 (.mv (.t 7))])
 .ret))) }
def BA:Fun:={ cin:=[(.sl 6 (.agg [.id,.id,.sl 1 .id,.sl 1 .id,.id,.id]))],cout:=[],ntmps:=11,keep:=true,res:=[(3,none),(4,none)],body :=
 (.seq (.reg [zo 3 (.mv (.c .nsl)),
 zo 4 (.mv (.c (.i .i64 0)))])
 (.seq (.reg [zo 5 (.mv (.t 0)),
 zo 6 (.fa 0 (.t 1)),
 zo 7 (.ld false 1 (.t 6)),
 zo 8 (.call EE [.t 5,.t 7]),
 zo 9 (.ext (.t 8) 0),
 zo 10 (.ext (.t 8) 1),
 zo 3 (.mv (.t 9)),
 zo 4 (.mv (.t 10))])
 .ret)) }
def BB:Fun:={ cin:=[(.sl 6 (.agg [.id,.id,.sl 1 .id,.sl 1 .id,.id,.id]))],cout:=[],ntmps:=11,keep:=true,res:=[(3,none),(4,none)],body :=
 (.seq (.reg [zo 3 (.mv (.c .nsl)),
 zo 4 (.mv (.c (.i .i64 0)))])
 (.seq (.reg [zo 5 (.mv (.t 0)),
 zo 6 (.fa 0 (.t 1)),
 zo 7 (.ld false 1 (.t 6)),
 zo 8 (.call Ep [.t 5,.t 7]),
 zo 9 (.ext (.t 8) 0),
 zo 10 (.ext (.t 8) 1),
 zo 3 (.mv (.t 9)),
 zo 4 (.mv (.t 10))])
 .ret)) }
def DE:Fun:={ cin:=[.id],cout:=[.id],ntmps:=4,keep:=false,res:=[(2,none)],body :=
 (.seq (.reg [zo 1 (.box 4 1 (.t 0)),
 zo 2 (.mv (.c .nf))])
 (.seq (.reg [zo 3 (.mkf Bu [.t 1]),
 zo 2 (.mv (.t 3))])
 .ret)) }
def BC:Fun:={ cin:=[(.sl 6 (.agg [.id,.id,.sl 1 .id,.sl 1 .id,.id,.id]))],cout:=[],ntmps:=13,keep:=true,res:=[(4,none),(5,none)],body :=
 (.seq (.reg [zo 4 (.mv (.c .nsl)),
 zo 5 (.mv (.c (.i .i64 0)))])
 (.seq (.reg [zo 6 (.mv (.t 0)),
 zo 7 (.fa 0 (.t 1)),
 zo 8 (.ld false 1 (.t 7)),
 zo 9 (.ld false 1 (.t 2)),
 zo 10 (.call Eo [.t 6,.t 8,.t 9]),
 zo 11 (.ext (.t 10) 0),
 zo 12 (.ext (.t 10) 1),
 zo 4 (.mv (.t 11)),
 zo 5 (.mv (.t 12))])
 .ret)) }
def DK:Fun:={ cin:=[(.agg [.id,.id,(.sl 1 .id),(.sl 4 (.agg [.id,.id,(.sl 1 .id),(.sl 4 (.agg [.id,.id,.sl 1 .id,.sl 4 .id]))]))])],cout:=[.id],ntmps:=20,keep:=false,res:=[(2,none)],body :=
 (.seq (.reg [zo 1 (.box 37 4 (.t 0)),
 zo 2 (.mv (.c (.b false)))])
 (.seq (.reg [zo 3 (.fa 0 (.t 1)),
 zo 4 (.ld false 1 (.t 3)),
 zo 5 (.bin .eql (.t 4) (.c (.i .u8 2))),
 zo 6 (.mv (.t 5)),
 ⟨some 7,.ld true 4 (.t 1),some (6,true)⟩,
 ⟨some 8,.call Ft [.t 7],some (6,true)⟩,
 zo 9 (.pick (.t 6) (.t 8) (.c (.b false))),
 zo 10 (.mv (.t 9)),
 ⟨some 11,.ld true 4 (.t 1),some (10,true)⟩,
 ⟨some 12,.call F8 [.t 11],some (10,true)⟩,
 ⟨some 13,.bin .leq (.t 12) (.c (.i .i64 1024)),some (10,true)⟩,
 zo 14 (.pick (.t 10) (.t 13) (.c (.b false))),
 zo 15 (.mv (.t 14)),
 ⟨some 16,.ld true 4 (.t 1),some (15,true)⟩,
 ⟨some 17,.call F9 [.t 16],some (15,true)⟩,
 ⟨some 18,.bin .leq (.t 17) (.c (.i .i64 24)),some (15,true)⟩,
 zo 19 (.pick (.t 15) (.t 18) (.c (.b false))),
 zo 2 (.mv (.t 19))])
 .ret)) }
def D8:Fun:={ cin:=[(.sl 6 (.agg [.id,.id,.sl 1 .id,.sl 1 .id,.id,.id])),(.agg [.id,.id,(.sl 1 .id),(.sl 4 (.agg [.id,.id,(.sl 1 .id),(.sl 4 (.agg [.id,.id,.sl 1 .id,.sl 4 .id]))]))]),.id],cout:=[(.agg [.id,.id,(.sl 1 .id),(.sl 4 (.agg [.id,.id,(.sl 1 .id),(.sl 4 (.agg [.id,.id,.sl 1 .id,.sl 4 .id]))]))]),.id],ntmps:=24,keep:=false,res:=[(6,some (true,4)),(7,none)],body :=
 (.seq (.reg [zo 4 (.box 37 4 (.t 1)),
 zo 6 (.alloc 37 [(.i .u8 0),(.s []),.nsl,.nsl]),
 zo 7 (.mv (.c (.b false)))])
 (.seq (.reg [zo 11 (.mv (.t 0)),
 zo 12 (.mv (.t 2)),
 zo 13 (.call JZ [.t 11,.t 12]),
 zo 10 (.mv (.t 13)),
 zo 14 (.ext (.t 10) 0),
 zo 15 (.ext (.t 10) 1),
 zo 8 (.mv (.t 14)),
 zo 9 (.mv (.t 15))])
 (.seq (.seq (.reg [zo 16 (.mv (.t 9)),
 zo 17 (.bin .neq (.t 16) (.c (.i .i64 0)))])
 (.cond (.t 17)
 (.seq (.reg [zo 18 (.build [(.i .u8 0),(.s []),.nsl,.nsl] []),
 ⟨none,.st 4 (.t 6) (.t 18),none⟩,
 zo 7 (.mv (.c (.b false)))])
 .ret)
 .skip))
 (.seq (.reg [zo 19 (.ld true 4 (.t 4)),
 zo 20 (.mv (.t 8)),
 zo 21 (.call K9 [.t 19,.t 20]),
 zo 22 (.ext (.t 21) 0),
 zo 23 (.ext (.t 21) 1),
 ⟨none,.st 4 (.t 6) (.t 22),none⟩,
 zo 7 (.mv (.t 23))])
 .ret)))) }
def CY:Fun:={ cin:=[(.agg [.id,.id,.sl 1 .id,.sl 1 .id,.id,.id]),(.sl 1 .id)],cout:=[.id],ntmps:=29,keep:=false,res:=[(4,none)],body :=
 (.seq (.reg [zo 2 (.box 48 6 (.t 0)),
 zo 4 (.mv (.c (.b false)))])
 (.seq (.seq (.reg [zo 7 (.fa 4 (.t 2)),
 zo 8 (.ld false 1 (.t 7))])
 (.blk 0 (.seq (.reg [zo 10 (.bin .eql (.t 8) (.c (.i .i64 1))),
 zo 9 (.mv (.t 10))])
 (.cond (.t 9)
 (.seq (.reg [zo 11 (.ld true 6 (.t 2)),
 zo 12 (.fa 2 (.t 2)),
 zo 13 (.ld false 1 (.t 12)),
 zo 14 (.len 1 (.t 13)),
 zo 15 (.call EG [.t 11,.t 14]),
 zo 5 (.alloc 55 [.nf]),
 ⟨none,.st 1 (.t 5) (.t 15),none⟩])
 (.seq (.reg [zo 16 (.mv (.t 1)),
 zo 17 (.mkf DR [.t 5]),
 zo 18 (.call BM [.t 16,.t 17]),
 zo 19 (.un .not (.t 18)),
 zo 4 (.mv (.t 19))])
 .ret))
 (.seq (.reg [zo 21 (.bin .eql (.t 8) (.c (.i .i64 2))),
 zo 20 (.mv (.t 21))])
 (.cond (.t 20)
 (.seq (.reg [zo 22 (.ld true 6 (.t 2)),
 zo 23 (.fa 5 (.t 2)),
 zo 24 (.ld false 1 (.t 23)),
 zo 25 (.call EG [.t 22,.t 24]),
 zo 6 (.alloc 55 [.nf]),
 ⟨none,.st 1 (.t 6) (.t 25),none⟩])
 (.seq (.reg [zo 26 (.mv (.t 1)),
 zo 27 (.mkf DS [.t 6]),
 zo 28 (.call BM [.t 26,.t 27]),
 zo 4 (.mv (.t 28))])
 .ret))
 .skip))))))
 (.seq (.reg [zo 4 (.mv (.c (.b true)))])
 .ret))) }
def Ab:Fun:={ cin:=[.sl 1 .id,.id],cout:=[.id],ntmps:=19,keep:=false,res:=[(4,none)],body :=
 (.seq (.reg [zo 4 (.mv (.c (.i .i64 0)))])
 (.seq (.seq (.reg [zo 6 (.mv (.t 0)),
 zo 7 (.len 1 (.t 6)),
 zo 8 (.mv (.c (.i .i64 0)))])
 (.blk 0 (.loop (.seq (.reg [zo 9 (.bin .lss (.t 8) (.t 7))])
 (.seq (.cond (.t 9)
 .skip
 (.exit 0))
 (.seq (.blk 1 (.seq (.reg [zo 10 (.mv (.t 8)),
 zo 5 (.mv (.t 10))])
 (.seq (.reg [zo 11 (.mv (.t 1)),
 zo 12 (.mv (.t 0)),
 zo 13 (.mv (.t 5)),
 zo 14 (.ia 1 (.t 12) (.t 13)),
 zo 15 (.ld false 1 (.t 14)),
 zo 16 (.callX (.t 11) [.t 15])])
 (.cond (.t 16)
 (.seq (.reg [zo 17 (.mv (.t 5)),
 zo 4 (.mv (.t 17))])
 .ret)
 .skip))))
 (.reg [zo 18 (.bin .add (.t 8) (.c (.i .i64 1))),
 zo 8 (.mv (.t 18))])))))))
 (.seq (.reg [zo 4 (.mv (.c (.i .i64 (-1))))])
 .ret))) }
def AG:Fun:={ cin:=[.sl 1 .id],cout:=[],ntmps:=8,keep:=true,res:=[(2,none)],body :=
 (.seq (.reg [zo 2 (.mv (.c .nsl))])
 (.seq (.seq (.reg [zo 3 (.mv (.t 0)),
 zo 4 (.eq .sl false (.t 3) (.c .nsl))])
 (.cond (.t 4)
 (.seq (.reg [zo 2 (.mv (.c .nsl))])
 .ret)
 .skip))
 (.seq (.reg [zo 5 (.bsl 1 []),
 zo 6 (.mv (.t 0)),
 zo 7 (.app 1 9 (.t 5) (.t 6)),
 zo 2 (.mv (.t 7))])
 .ret))) }
def AU:Fun:={ cin:=[.sl 1 .id],cout:=[],ntmps:=8,keep:=true,res:=[(2,none)],body :=
 (.seq (.reg [zo 2 (.mv (.c .nsl))])
 (.seq (.seq (.reg [zo 3 (.mv (.t 0)),
 zo 4 (.eq .sl false (.t 3) (.c .nsl))])
 (.cond (.t 4)
 (.seq (.reg [zo 2 (.mv (.c .nsl))])
 .ret)
 .skip))
 (.seq (.reg [zo 5 (.bsl 1 []),
 zo 6 (.mv (.t 0)),
 zo 7 (.app 1 3 (.t 5) (.t 6)),
 zo 2 (.mv (.t 7))])
 .ret))) }
def Bg:Fun:={ cin:=[.id,.id],cout:=[.id],ntmps:=55,keep:=false,res:=[(4,none)],body :=
 (.seq (.reg [zo 4 (.mv (.c (.i .i64 0)))])
 (.seq (.seq (.reg [zo 11 (.mv (.t 1)),
 zo 12 (.bin .eql (.t 11) (.c (.s [])))])
 (.cond (.t 12)
 (.seq (.reg [zo 4 (.mv (.c (.i .i64 (-1))))])
 .ret)
 .skip))
 (.seq (.seq (.reg [zo 13 (.mv (.t 1)),
 zo 14 (.len 0 (.t 13)),
 zo 15 (.bin .eql (.t 14) (.c (.i .i64 1)))])
 (.cond (.t 15)
 (.seq (.reg [zo 16 (.mv (.t 1)),
 zo 17 (.ixS (.t 16) (.c (.i .i64 0))),
 zo 18 (.cvI .i32 (.t 17)),
 zo 5 (.mv (.t 18))])
 (.seq (.seq (.reg [zo 19 (.mv (.t 5)),
 zo 20 (.bin .geq (.t 19) (.c (.i .i32 128)))])
 (.cond (.t 20)
 (.reg [zo 5 (.mv (.c (.i .i32 65533)))])
 .skip))
 (.seq (.reg [zo 21 (.mv (.t 0)),
 zo 22 (.mv (.t 5)),
 zo 23 (.call CL [.t 21,.t 22]),
 zo 4 (.mv (.t 23))])
 .ret)))
 .skip))
 (.seq (.seq (.reg [zo 24 (.mv (.t 0)),
 zo 25 (.len 0 (.t 24)),
 zo 26 (.call Bz [.t 25])])
 (.cond (.t 26)
 (.seq (.reg [zo 28 (.mv (.t 1)),
 zo 29 (.call C4 [.t 28]),
 zo 27 (.mv (.t 29)),
 zo 30 (.ext (.t 27) 0),
 zo 31 (.ext (.t 27) 1),
 zo 6 (.alloc 106 [.b false,.b false,.b false,.b false,.b false,.b false,.b false,.b false,.b false,.b false,.b false,.b false,.b false,.b false,.b false,.b false,.b false,.b false,.b false,.b false,.b false,.b false,.b false,.b false,.b false,.b false,.b false,.b false,.b false,.b false,.b false,.b false,.b false,.b false,.b false,.b false,.b false,.b false,.b false,.b false,.b false,.b false,.b false,.b false,.b false,.b false,.b false,.b false,.b false,.b false,.b false,.b false,.b false,.b false,.b false,.b false,.b false,.b false,.b false,.b false,.b false,.b false,.b false,.b false,.b false,.b false,.b false,.b false,.b false,.b false,.b false,.b false,.b false,.b false,.b false,.b false,.b false,.b false,.b false,.b false,.b false,.b false,.b false,.b false,.b false,.b false,.b false,.b false,.b false,.b false,.b false,.b false,.b false,.b false,.b false,.b false,.b false,.b false,.b false,.b false,.b false,.b false,.b false,.b false,.b false,.b false,.b false,.b false,.b false,.b false,.b false,.b false,.b false,.b false,.b false,.b false,.b false,.b false,.b false,.b false,.b false,.b false,.b false,.b false,.b false,.b false,.b false,.b false,.b false,.b false,.b false,.b false,.b false,.b false,.b false,.b false,.b false,.b false,.b false,.b false,.b false,.b false,.b false,.b false,.b false,.b false,.b false,.b false,.b false,.b false,.b false,.b false,.b false,.b false,.b false,.b false,.b false,.b false,.b false,.b false,.b false,.b false,.b false,.b false,.b false,.b false,.b false,.b false,.b false,.b false,.b false,.b false,.b false,.b false,.b false,.b false,.b false,.b false,.b false,.b false,.b false,.b false,.b false,.b false,.b false,.b false,.b false,.b false,.b false,.b false,.b false,.b false,.b false,.b false,.b false,.b false,.b false,.b false,.b false,.b false,.b false,.b false,.b false,.b false,.b false,.b false,.b false,.b false,.b false,.b false,.b false,.b false,.b false,.b false,.b false,.b false,.b false,.b false,.b false,.b false,.b false,.b false,.b false,.b false,.b false,.b false,.b false,.b false,.b false,.b false,.b false,.b false,.b false,.b false,.b false,.b false,.b false,.b false,.b false,.b false,.b false,.b false,.b false,.b false,.b false,.b false,.b false,.b false,.b false,.b false,.b false,.b false,.b false,.b false,.b false,.b false]),
 ⟨none,.st 256 (.t 6) (.t 30),none⟩,
 zo 7 (.mv (.t 31))])
 (.seq (.reg [zo 32 (.mv (.t 7))])
 (.cond (.t 32)
 (.seq (.seq (.reg [zo 8 (.mv (.c (.i .i64 0)))])
 (.blk 0 (.loop (.seq (.seq (.reg [zo 33 (.mv (.t 8)),
 zo 34 (.mv (.t 0)),
 zo 35 (.len 0 (.t 34)),
 zo 36 (.bin .lss (.t 33) (.t 35))])
 (.cond (.t 36)
 .skip
 (.exit 0)))
 (.seq (.blk 1 (.seq (.reg [zo 39 (.mv (.t 0)),
 zo 40 (.mv (.t 8)),
 zo 41 (.ixS (.t 39) (.t 40)),
 zo 42 (.call B2 [.t 6,.t 41])])
 (.cond (.t 42)
 (.seq (.reg [zo 43 (.mv (.t 8)),
 zo 4 (.mv (.t 43))])
 .ret)
 .skip)))
 (.reg [zo 37 (.mv (.t 8)),
 zo 38 (.bin .add (.t 37) (.c (.i .i64 1))),
 zo 8 (.mv (.t 38))]))))))
 (.seq (.reg [zo 4 (.mv (.c (.i .i64 (-1))))])
 .ret))
 .skip)))
 .skip))
 (.seq (.seq (.reg [zo 44 (.mv (.t 0)),
 zo 45 (.siter (.t 44))])
 (.blk 2 (.loop (.seq (.reg [zo 46 (.snext (.t 45)),
 zo 47 (.ext (.t 46) 0)])
 (.seq (.cond (.t 47)
 .skip
 (.exit 2))
 (.blk 3 (.seq (.reg [zo 48 (.ext (.t 46) 1),
 zo 49 (.ext (.t 46) 2),
 zo 9 (.mv (.t 48)),
 zo 10 (.mv (.t 49))])
 (.seq (.reg [zo 50 (.mv (.t 1)),
 zo 51 (.mv (.t 10)),
 zo 52 (.call CL [.t 50,.t 51]),
 zo 53 (.bin .geq (.t 52) (.c (.i .i64 0)))])
 (.cond (.t 53)
 (.seq (.reg [zo 54 (.mv (.t 9)),
 zo 4 (.mv (.t 54))])
 .ret)
 .skip)))))))))
 (.seq (.reg [zo 4 (.mv (.c (.i .i64 (-1))))])
 .ret)))))) }
def Dx:Fun:={ cin:=[.id],cout:=[.id],ntmps:=6,keep:=false,res:=[(2,none)],body :=
 (.seq (.reg [zo 2 (.mv (.c (.b false)))])
 (.seq (.reg [zo 3 (.mv (.t 0)),
 zo 4 (.mv (.t 0)),
 zo 5 (.bin .neq (.t 3) (.t 4)),
 zo 2 (.mv (.t 5))])
 .ret)) }
def Ce:Fun:={ cin:=[.id],cout:=[],ntmps:=5,keep:=true,res:=[(2,none)],body :=
 (.seq (.reg [zo 2 (.mv (.c .nsl))])
 (.seq (.reg [zo 3 (.mv (.t 0)),
 zo 4 (.call C6 [.c .nsl,.t 3]),
 zo 2 (.mv (.t 4))])
 .ret)) }
def D9:Fun:={ cin:=[],cout:=[],ntmps:=0,keep:=false,res:=[],body:=.bad,prim:=some HD }
def A4:Fun:={ cin:=[.id],cout:=[],ntmps:=16,keep:=false,res:=[],body :=
 (.seq (.reg [zo 5 (.ld false 1 (.t 1)),
 zo 6 (.len 1 (.t 5)),
 zo 7 (.mv (.c (.i .i64 0)))])
 (.blk 0 (.loop (.seq (.reg [zo 8 (.bin .lss (.t 7) (.t 6))])
 (.seq (.cond (.t 8)
 .skip
 (.exit 0))
 (.seq (.blk 1 (.seq (.reg [zo 9 (.ia 1 (.t 5) (.t 7)),
 zo 10 (.ld false 1 (.t 9)),
 zo 4 (.mv (.t 10))])
 (.seq (.reg [zo 11 (.mv (.t 0)),
 zo 12 (.mv (.t 4)),
 zo 13 (.callX (.t 11) [.t 12]),
 zo 14 (.un .not (.t 13))])
 (.cond (.t 14)
 .ret
 .skip))))
 (.reg [zo 15 (.bin .add (.t 7) (.c (.i .i64 1))),
 zo 7 (.mv (.t 15))]))))))) }
def CS:Fun:={ cin:=[.id],cout:=[],ntmps:=19,keep:=false,res:=[],body :=
 (.seq (.reg [zo 4 (.mv (.c (.i .u8 0)))])
 (.blk 0 (.loop (.seq (.reg [zo 5 (.bin .lss (.t 4) (.c (.i .u8 4)))])
 (.seq (.cond (.t 5)
 .skip
 (.exit 0))
 (.seq (.blk 1 (.seq (.reg [zo 6 (.mv (.t 4)),
 zo 3 (.mv (.t 6))])
 (.seq (.reg [zo 7 (.mv (.t 3)),
 zo 8 (.bin .neq (.t 7) (.c (.i .u8 3))),
 zo 9 (.mv (.t 8)),
 ⟨some 10,.ld false 1 (.t 1),some (9,false)⟩,
 zo 11 (.pick (.t 9) (.c (.b true)) (.t 10)),
 zo 12 (.mv (.t 11)),
 ⟨some 13,.mv (.t 0),some (12,true)⟩,
 ⟨some 14,.mv (.t 3),some (12,true)⟩,
 ⟨some 15,.callX (.t 13) [.t 14],some (12,true)⟩,
 ⟨some 16,.un .not (.t 15),some (12,true)⟩,
 zo 17 (.pick (.t 12) (.t 16) (.c (.b false)))])
 (.cond (.t 17)
 .ret
 .skip))))
 (.reg [zo 18 (.bin .add (.t 4) (.c (.i .u8 1))),
 zo 4 (.mv (.t 18))]))))))) }
def A8:Fun:={ cin:=[(.agg [.id,.id,(.sl 1 .id),(.sl 4 (.agg [.id,.id,(.sl 1 .id),(.sl 4 (.agg [.id,.id,.sl 1 .id,.sl 4 .id]))]))])],cout:=[.id],ntmps:=89,keep:=false,res:=[(2,none)],body :=
 (.seq (.reg [zo 1 (.box 37 4 (.t 0)),
 zo 2 (.mv (.c (.b false)))])
 (.seq (.seq (.reg [zo 5 (.fa 0 (.t 1)),
 zo 6 (.ld false 1 (.t 5))])
 (.blk 0 (.seq (.seq (.reg [zo 8 (.bin .eql (.t 6) (.c (.i .u8 1))),
 zo 7 (.mv (.t 8))])
 (.cond (.t 7)
 .skip
 (.reg [zo 9 (.bin .eql (.t 6) (.c (.i .u8 3))),
 zo 7 (.mv (.t 9))])))
 (.cond (.t 7)
 (.seq (.reg [zo 10 (.fa 2 (.t 1)),
 zo 11 (.ld false 1 (.t 10)),
 zo 12 (.len 1 (.t 11)),
 zo 13 (.fa 3 (.t 1)),
 zo 14 (.ld false 1 (.t 13)),
 zo 15 (.len 1 (.t 14)),
 zo 16 (.bin .add (.t 12) (.t 15)),
 zo 17 (.bin .eql (.t 16) (.c (.i .i64 0))),
 zo 18 (.mv (.t 17)),
 ⟨some 19,.fa 1 (.t 1),some (18,true)⟩,
 ⟨some 20,.ld false 1 (.t 19),some (18,true)⟩,
 ⟨some 21,.len 0 (.t 20),some (18,true)⟩,
 ⟨some 22,.bin .leq (.t 21) (.c (.i .i64 256)),some (18,true)⟩,
 zo 23 (.pick (.t 18) (.t 22) (.c (.b false))),
 zo 24 (.mv (.t 23)),
 ⟨some 25,.fa 1 (.t 1),some (24,true)⟩,
 ⟨some 26,.ld false 1 (.t 25),some (24,true)⟩,
 ⟨some 27,.call CM [(.t 26),(.c (.i .u8 0))],some (24,true)⟩,
 ⟨some 28,.bin .lss (.t 27) (.c (.i .i64 0)),some (24,true)⟩,
 zo 29 (.pick (.t 24) (.t 28) (.c (.b false))),
 zo 30 (.mv (.t 29)),
 ⟨some 31,.fa 0 (.t 1),some (30,true)⟩,
 ⟨some 32,.ld false 1 (.t 31),some (30,true)⟩,
 ⟨some 33,.bin .eql (.t 32) (.c (.i .u8 1)),some (30,true)⟩,
 ⟨some 34,.mv (.t 33),some (30,true)⟩,
 ⟨some 35,.fa 1 (.t 1),some (34,false)⟩,
 ⟨some 36,.ld false 1 (.t 35),some (34,false)⟩,
 ⟨some 37,.bin .neq (.t 36) (.c (.s [])),some (34,false)⟩,
 ⟨some 38,.pick (.t 34) (.c (.b true)) (.t 37),some (30,true)⟩,
 zo 39 (.pick (.t 30) (.t 38) (.c (.b false))),
 zo 2 (.mv (.t 39))])
 .ret)
 (.seq (.reg [zo 41 (.bin .eql (.t 6) (.c (.i .u8 2))),
 zo 40 (.mv (.t 41))])
 (.cond (.t 40)
 (.seq (.seq (.reg [zo 42 (.fa 1 (.t 1)),
 zo 43 (.ld false 1 (.t 42)),
 zo 44 (.bin .neq (.t 43) (.c (.s []))),
 zo 45 (.mv (.t 44)),
 ⟨some 46,.fa 2 (.t 1),some (45,false)⟩,
 ⟨some 47,.ld false 1 (.t 46),some (45,false)⟩,
 ⟨some 48,.len 1 (.t 47),some (45,false)⟩,
 ⟨some 49,.fa 3 (.t 1),some (45,false)⟩,
 ⟨some 50,.ld false 1 (.t 49),some (45,false)⟩,
 ⟨some 51,.len 1 (.t 50),some (45,false)⟩,
 ⟨some 52,.bin .neq (.t 48) (.t 51),some (45,false)⟩,
 zo 53 (.pick (.t 45) (.c (.b true)) (.t 52))])
 (.cond (.t 53)
 (.seq (.reg [zo 2 (.mv (.c (.b false)))])
 .ret)
 .skip))
 (.seq (.seq (.reg [zo 54 (.fa 2 (.t 1)),
 zo 55 (.ld false 1 (.t 54)),
 zo 56 (.len 1 (.t 55)),
 zo 57 (.mv (.c (.i .i64 0)))])
 (.blk 1 (.loop (.seq (.reg [zo 58 (.bin .lss (.t 57) (.t 56))])
 (.seq (.cond (.t 58)
 .skip
 (.exit 1))
 (.seq (.blk 2 (.seq (.reg [zo 59 (.mv (.t 57)),
 zo 60 (.ia 1 (.t 55) (.t 57)),
 zo 61 (.ld false 1 (.t 60)),
 zo 3 (.mv (.t 59)),
 zo 4 (.mv (.t 61))])
 (.seq (.reg [zo 62 (.mv (.t 4)),
 zo 63 (.call Hk [.t 62]),
 zo 64 (.un .not (.t 63)),
 zo 65 (.mv (.t 64)),
 ⟨some 66,.mv (.t 3),some (65,false)⟩,
 ⟨some 67,.bin .gtr (.t 66) (.c (.i .i64 0)),some (65,false)⟩,
 ⟨some 68,.mv (.t 67),some (65,false)⟩,
 ⟨some 69,.mv (.t 4),some (68,true)⟩,
 ⟨some 70,.fa 2 (.t 1),some (68,true)⟩,
 ⟨some 71,.ld false 1 (.t 70),some (68,true)⟩,
 ⟨some 72,.mv (.t 3),some (68,true)⟩,
 ⟨some 73,.bin .sub (.t 72) (.c (.i .i64 1)),some (68,true)⟩,
 ⟨some 74,.ia 1 (.t 71) (.t 73),some (68,true)⟩,
 ⟨some 75,.ld false 1 (.t 74),some (68,true)⟩,
 ⟨some 76,.bin .leq (.t 69) (.t 75),some (68,true)⟩,
 ⟨some 77,.pick (.t 68) (.t 76) (.c (.b false)),some (65,false)⟩,
 zo 78 (.pick (.t 65) (.c (.b true)) (.t 77)),
 zo 79 (.mv (.t 78)),
 ⟨some 80,.fa 3 (.t 1),some (79,false)⟩,
 ⟨some 81,.ld false 1 (.t 80),some (79,false)⟩,
 ⟨some 82,.mv (.t 3),some (79,false)⟩,
 ⟨some 83,.ia 4 (.t 81) (.t 82),some (79,false)⟩,
 ⟨some 84,.ld true 4 (.t 83),some (79,false)⟩,
 ⟨some 85,.call Ft [.t 84],some (79,false)⟩,
 ⟨some 86,.un .not (.t 85),some (79,false)⟩,
 zo 87 (.pick (.t 79) (.c (.b true)) (.t 86))])
 (.cond (.t 87)
 (.seq (.reg [zo 2 (.mv (.c (.b false)))])
 .ret)
 .skip))))
 (.reg [zo 88 (.bin .add (.t 57) (.c (.i .i64 1))),
 zo 57 (.mv (.t 88))])))))))
 (.seq (.reg [zo 2 (.mv (.c (.b true)))])
 .ret)))
 .skip))))))
 (.seq (.reg [zo 2 (.mv (.c (.b false)))])
 .ret))) }
def EJ:Fun:={ cin:=[(.agg [.id,.id,(.sl 1 .id),(.sl 4 (.agg [.id,.id,(.sl 1 .id),(.sl 4 (.agg [.id,.id,.sl 1 .id,.sl 4 .id]))]))])],cout:=[.id],ntmps:=19,keep:=false,res:=[(2,none)],body :=
 (.seq (.reg [zo 1 (.box 37 4 (.t 0)),
 zo 2 (.mv (.c (.i .i64 0)))])
 (.seq (.reg [zo 3 (.mv (.c (.i .i64 1)))])
 (.seq (.seq (.reg [zo 6 (.fa 3 (.t 1)),
 zo 7 (.ld false 1 (.t 6)),
 zo 8 (.len 1 (.t 7)),
 zo 9 (.mv (.c (.i .i64 0)))])
 (.blk 0 (.loop (.seq (.reg [zo 10 (.bin .lss (.t 9) (.t 8))])
 (.seq (.cond (.t 10)
 .skip
 (.exit 0))
 (.seq (.blk 1 (.seq (.reg [zo 11 (.ia 4 (.t 7) (.t 9)),
 zo 12 (.ld true 4 (.t 11)),
 zo 5 (.alloc 37 [(.i .u8 0),(.s []),.nsl,.nsl]),
 ⟨none,.st 4 (.t 5) (.t 12),none⟩])
 (.reg [zo 13 (.mv (.t 3)),
 zo 14 (.ld true 4 (.t 5)),
 zo 15 (.call F8 [.t 14]),
 zo 16 (.bin .add (.t 13) (.t 15)),
 zo 3 (.mv (.t 16))])))
 (.reg [zo 17 (.bin .add (.t 9) (.c (.i .i64 1))),
 zo 9 (.mv (.t 17))])))))))
 (.seq (.reg [zo 18 (.mv (.t 3)),
 zo 2 (.mv (.t 18))])
 .ret)))) }
def EL:Fun:={ cin:=[(.agg [.id,.id,(.sl 1 .id),(.sl 4 (.agg [.id,.id,(.sl 1 .id),(.sl 4 (.agg [.id,.id,.sl 1 .id,.sl 4 .id]))]))])],cout:=[.id],ntmps:=20,keep:=false,res:=[(2,none)],body :=
 (.seq (.reg [zo 1 (.box 37 4 (.t 0)),
 zo 2 (.mv (.c (.i .i64 0)))])
 (.seq (.reg [zo 3 (.mv (.c (.i .i64 0)))])
 (.seq (.seq (.reg [zo 6 (.fa 3 (.t 1)),
 zo 7 (.ld false 1 (.t 6)),
 zo 8 (.len 1 (.t 7)),
 zo 9 (.mv (.c (.i .i64 0)))])
 (.blk 0 (.loop (.seq (.reg [zo 10 (.bin .lss (.t 9) (.t 8))])
 (.seq (.cond (.t 10)
 .skip
 (.exit 0))
 (.seq (.blk 1 (.seq (.reg [zo 11 (.ia 4 (.t 7) (.t 9)),
 zo 12 (.ld true 4 (.t 11)),
 zo 5 (.alloc 37 [(.i .u8 0),(.s []),.nsl,.nsl]),
 ⟨none,.st 4 (.t 5) (.t 12),none⟩])
 (.reg [zo 13 (.mv (.t 3)),
 zo 14 (.ld true 4 (.t 5)),
 zo 15 (.call F9 [.t 14]),
 zo 16 (.bin .add (.c (.i .i64 1)) (.t 15)),
 zo 17 (.mm true (.t 13) (.t 16)),
 zo 3 (.mv (.t 17))])))
 (.reg [zo 18 (.bin .add (.t 9) (.c (.i .i64 1))),
 zo 9 (.mv (.t 18))])))))))
 (.seq (.reg [zo 19 (.mv (.t 3)),
 zo 2 (.mv (.t 19))])
 .ret)))) }
def B5:Fun:={ cin:=[(.sl 6 (.agg [.id,.id,.sl 1 .id,.sl 1 .id,.id,.id])),.id],cout:=[.sl 1 .id,.id],ntmps:=31,keep:=false,res:=[(4,some (false,1)),(5,some (false,1))],body :=
 (.seq (.reg [zo 3 (.box 3 1 (.t 1)),
 zo 4 (.alloc 34 [.nsl]),
 zo 5 (.alloc 26 [.i .i64 0])])
 (.seq (.blk 0 (.seq (.reg [zo 8 (.mv (.t 0)),
 zo 9 (.call DQ [.t 8]),
 zo 10 (.un .not (.t 9)),
 zo 7 (.mv (.t 10))])
 (.cond (.t 7)
 (.seq (.reg [⟨none,.st 1 (.t 4) (.c .nsl),none⟩,
 ⟨none,.st 1 (.t 5) (.c (.i .i64 4)),none⟩])
 .ret)
 (.seq (.reg [zo 12 (.ld false 1 (.t 3)),
 zo 13 (.bin .lss (.t 12) (.c (.i .i64 0))),
 zo 14 (.mv (.t 13)),
 ⟨some 15,.ld false 1 (.t 3),some (14,false)⟩,
 ⟨some 16,.mv (.t 0),some (14,false)⟩,
 ⟨some 17,.len 1 (.t 16),some (14,false)⟩,
 ⟨some 18,.bin .geq (.t 15) (.t 17),some (14,false)⟩,
 zo 19 (.pick (.t 14) (.c (.b true)) (.t 18)),
 zo 11 (.mv (.t 19))])
 (.cond (.t 11)
 (.seq (.reg [⟨none,.st 1 (.t 4) (.c .nsl),none⟩,
 ⟨none,.st 1 (.t 5) (.c (.i .i64 1)),none⟩])
 .ret)
 .skip)))))
 (.seq (.seq (.reg [zo 20 (.mv (.t 0)),
 zo 21 (.build [.i .i64 0,.nsl] []),
 zo 22 (.call Fd [.t 20,.t 21])])
 (.blk 1 (.rf (.t 22) [23] (.reg [zo 6 (.alloc 118 [.i .i64 0,.nsl]),
 ⟨none,.st 2 (.t 6) (.t 23),none⟩])
 (.blk 2 (.seq (.reg [zo 24 (.fa 0 (.t 6)),
 zo 25 (.ld false 1 (.t 24)),
 zo 26 (.ld false 1 (.t 3)),
 zo 27 (.bin .eql (.t 25) (.t 26))])
 (.cond (.t 27)
 (.seq (.reg [zo 28 (.fa 1 (.t 6)),
 zo 29 (.ld false 1 (.t 28)),
 zo 30 (.call AN [.t 29]),
 ⟨none,.st 1 (.t 4) (.t 30),none⟩,
 ⟨none,.st 1 (.t 5) (.c (.i .i64 0)),none⟩])
 .ret)
 .skip))))))
 (.seq (.reg [⟨none,.st 1 (.t 4) (.c .nsl),none⟩,
 ⟨none,.st 1 (.t 5) (.c (.i .i64 1)),none⟩])
 .ret)))) }
def GH:Fun:={ cin:=[(.agg [.id,.id,(.sl 1 .id),(.sl 4 (.agg [.id,.id,(.sl 1 .id),(.sl 4 (.agg [.id,.id,.sl 1 .id,.sl 4 .id]))]))]),(.sl 1 .id)],cout:=[(.agg [.id,.id,(.sl 1 .id),(.sl 4 (.agg [.id,.id,(.sl 1 .id),(.sl 4 (.agg [.id,.id,.sl 1 .id,.sl 4 .id]))]))]),.id],ntmps:=21,keep:=false,res:=[(4,some (true,4)),(5,none)],body :=
 (.seq (.reg [zo 2 (.box 37 4 (.t 0)),
 zo 4 (.alloc 37 [(.i .u8 0),(.s []),.nsl,.nsl]),
 zo 5 (.mv (.c (.b false)))])
 (.seq (.seq (.reg [zo 8 (.ld true 4 (.t 2)),
 zo 9 (.call Ft [.t 8]),
 zo 10 (.un .not (.t 9))])
 (.cond (.t 10)
 (.seq (.reg [zo 11 (.build [(.i .u8 0),(.s []),.nsl,.nsl] []),
 ⟨none,.st 4 (.t 4) (.t 11),none⟩,
 zo 5 (.mv (.c (.b false)))])
 .ret)
 .skip))
 (.seq (.reg [zo 13 (.ld true 4 (.t 2)),
 zo 14 (.mv (.t 1)),
 zo 15 (.call Ih [.t 13,.t 14]),
 zo 12 (.mv (.t 15)),
 zo 16 (.ext (.t 12) 0),
 zo 17 (.ext (.t 12) 1),
 zo 6 (.alloc 37 [(.i .u8 0),(.s []),.nsl,.nsl]),
 ⟨none,.st 4 (.t 6) (.t 16),none⟩,
 zo 7 (.mv (.t 17))])
 (.seq (.reg [zo 18 (.ld true 4 (.t 6)),
 zo 19 (.call Hn [.t 18]),
 zo 20 (.mv (.t 7)),
 ⟨none,.st 4 (.t 4) (.t 19),none⟩,
 zo 5 (.mv (.t 20))])
 .ret)))) }
def EM:Fun:={ cin:=[(.agg [.id,.id,.sl 1 .id,.sl 1 .id,.id,.id]),.id],cout:=[.id],ntmps:=13,keep:=false,res:=[(4,none)],body :=
 (.seq (.reg [zo 2 (.box 48 6 (.t 0)),
 zo 4 (.mv (.c .nf))])
 (.seq (.reg [zo 6 (.fa 3 (.t 2)),
 zo 7 (.ld false 1 (.t 6)),
 zo 8 (.call Bx [.t 7]),
 zo 9 (.call Dc [.t 8]),
 zo 10 (.mv (.t 1)),
 zo 11 (.slc false 1 (.t 9) none (some (.t 10)) none),
 zo 5 (.alloc 46 [.nsl]),
 ⟨none,.st 1 (.t 5) (.t 11),none⟩])
 (.seq (.reg [zo 12 (.mkf Av [.t 2,.t 5]),
 zo 4 (.mv (.t 12))])
 .ret))) }
def Ai:Fun:={ cin:=[.sl 1 .id,.id],cout:=[.id],ntmps:=9,keep:=false,res:=[(4,none)],body :=
 (.seq (.reg [zo 4 (.mv (.c (.b false)))])
 (.seq (.reg [zo 5 (.mv (.t 0)),
 zo 6 (.mv (.t 1)),
 zo 7 (.call B9 [.t 5,.t 6]),
 zo 8 (.bin .geq (.t 7) (.c (.i .i64 0))),
 zo 4 (.mv (.t 8))])
 .ret)) }
def Ct:Fun:={ cin:=[.id],cout:=[.id],ntmps:=8,keep:=false,res:=[(3,none)],body :=
 (.seq (.reg [zo 3 (.mv (.c (.b false)))])
 (.seq (.reg [zo 4 (.ld false 1 (.t 1)),
 zo 5 (.mv (.t 0)),
 zo 6 (.callX (.t 4) [.t 5]),
 zo 7 (.un .not (.t 6)),
 zo 3 (.mv (.t 7))])
 .ret)) }
def Cu:Fun:={ cin:=[.id],cout:=[.id],ntmps:=8,keep:=false,res:=[(3,none)],body :=
 (.seq (.reg [zo 3 (.mv (.c (.b false)))])
 (.seq (.reg [zo 4 (.ld false 1 (.t 1)),
 zo 5 (.mv (.t 0)),
 zo 6 (.callX (.t 4) [.t 5]),
 zo 7 (.un .not (.t 6)),
 zo 3 (.mv (.t 7))])
 .ret)) }
def A5:Fun:={ cin:=[.id,.id],cout:=[.id],ntmps:=187,keep:=false,res:=[(4,none)],body :=
 (.seq (.reg [zo 4 (.mv (.c (.i .i64 0)))])
 (.blk 0 (.seq (.reg [zo 161 (.mv (.t 1)),
 zo 162 (.bin .leq (.c (.i .i32 0)) (.t 161)),
 zo 163 (.mv (.t 162)),
 ⟨some 164,.mv (.t 1),some (163,true)⟩,
 ⟨some 165,.bin .lss (.t 164) (.c (.i .i32 128)),some (163,true)⟩,
 zo 166 (.pick (.t 163) (.t 165) (.c (.b false))),
 zo 160 (.mv (.t 166))])
 (.cond (.t 160)
 (.seq (.reg [zo 167 (.mv (.t 0)),
 zo 168 (.mv (.t 1)),
 zo 169 (.cvI .u8 (.t 168)),
 zo 170 (.call CM [.t 167,.t 169]),
 zo 4 (.mv (.t 170))])
 .ret)
 (.seq (.reg [zo 172 (.mv (.t 1)),
 zo 173 (.bin .eql (.t 172) (.c (.i .i32 65533))),
 zo 171 (.mv (.t 173))])
 (.cond (.t 171)
 (.seq (.seq (.reg [zo 174 (.mv (.t 0)),
 zo 175 (.siter (.t 174))])
 (.blk 9 (.loop (.seq (.reg [zo 176 (.snext (.t 175)),
 zo 177 (.ext (.t 176) 0)])
 (.seq (.cond (.t 177)
 .skip
 (.exit 9))
 (.blk 10 (.seq (.reg [zo 178 (.ext (.t 176) 1),
 zo 179 (.ext (.t 176) 2),
 zo 5 (.mv (.t 178)),
 zo 6 (.mv (.t 179))])
 (.seq (.reg [zo 180 (.mv (.t 6)),
 zo 181 (.bin .eql (.t 180) (.c (.i .i32 65533)))])
 (.cond (.t 181)
 (.seq (.reg [zo 182 (.mv (.t 5)),
 zo 4 (.mv (.t 182))])
 .ret)
 .skip)))))))))
 (.seq (.reg [zo 4 (.mv (.c (.i .i64 (-1))))])
 .ret))
 (.seq (.reg [zo 184 (.mv (.t 1)),
 zo 185 (.call DT [.t 184]),
 zo 186 (.un .not (.t 185)),
 zo 183 (.mv (.t 186))])
 (.cond (.t 183)
 (.seq (.reg [zo 4 (.mv (.c (.i .i64 (-1))))])
 .ret)
 (.seq (.reg [zo 17 (.mv (.t 1)),
 zo 18 (.cvRS (.t 17)),
 zo 7 (.mv (.t 18))])
 (.seq (.reg [zo 19 (.mv (.t 7)),
 zo 20 (.len 0 (.t 19)),
 zo 21 (.bin .sub (.t 20) (.c (.i .i64 1))),
 zo 8 (.mv (.t 21))])
 (.seq (.reg [zo 22 (.mv (.t 8)),
 zo 9 (.mv (.t 22))])
 (.seq (.reg [zo 10 (.mv (.c (.i .i64 0)))])
 (.seq (.blk 1 (.loop (.seq (.seq (.reg [zo 23 (.mv (.t 9)),
 zo 24 (.mv (.t 0)),
 zo 25 (.len 0 (.t 24)),
 zo 26 (.bin .lss (.t 23) (.t 25))])
 (.cond (.t 26)
 .skip
 (.exit 1)))
 (.blk 2 (.seq (.seq (.regD [zo 27 (.mv (.t 0)),
 zo 28 (.mv (.t 9)),
 zo 29 (.ixS (.t 27) (.t 28)),
 zo 30 (.mv (.t 7)),
 zo 31 (.mv (.t 8)),
 zo 32 (.ixS (.t 30) (.t 31)),
 zo 33 (.bin .neq (.t 29) (.t 32))] [])
 (.cond (.t 33)
 (.seq (.regD [zo 34 (.mv (.t 0)),
 zo 35 (.mv (.t 9)),
 zo 36 (.bin .add (.t 35) (.c (.i .i64 1))),
 zo 37 (.slS (.t 34) (some (.t 36)) none),
 zo 38 (.mv (.t 7)),
 zo 39 (.mv (.t 8)),
 zo 40 (.ixS (.t 38) (.t 39)),
 zo 41 (.call CM [.t 37,.t 40]),
 zo 11 (.mv (.t 41))] [])
 (.seq (.seq (.reg [zo 42 (.mv (.t 11)),
 zo 43 (.bin .lss (.t 42) (.c (.i .i64 0)))])
 (.cond (.t 43)
 (.seq (.reg [zo 4 (.mv (.c (.i .i64 (-1))))])
 .ret)
 .skip))
 (.reg [zo 44 (.mv (.t 9)),
 zo 45 (.mv (.t 11)),
 zo 46 (.bin .add (.t 45) (.c (.i .i64 1))),
 zo 47 (.bin .add (.t 44) (.t 46)),
 zo 9 (.mv (.t 47))])))
 .skip))
 (.seq (.seq (.reg [zo 12 (.mv (.c (.i .i64 1)))])
 (.blk 3 (.loop (.seq (.seq (.reg [zo 48 (.mv (.t 12)),
 zo 49 (.mv (.t 7)),
 zo 50 (.len 0 (.t 49)),
 zo 51 (.bin .lss (.t 48) (.t 50))])
 (.cond (.t 51)
 .skip
 (.exit 3)))
 (.seq (.blk 4 (.seq (.regD [zo 54 (.mv (.t 0)),
 zo 55 (.mv (.t 9)),
 zo 56 (.mv (.t 12)),
 zo 57 (.bin .sub (.t 55) (.t 56)),
 zo 58 (.ixS (.t 54) (.t 57)),
 zo 59 (.mv (.t 7)),
 zo 60 (.mv (.t 8)),
 zo 61 (.mv (.t 12)),
 zo 62 (.bin .sub (.t 60) (.t 61)),
 zo 63 (.ixS (.t 59) (.t 62)),
 zo 64 (.bin .neq (.t 58) (.t 63))] [])
 (.cond (.t 64)
 .bad
 .skip)))
 (.reg [zo 52 (.mv (.t 12)),
 zo 53 (.bin .add (.t 52) (.c (.i .i64 1))),
 zo 12 (.mv (.t 53))]))))))
 (.seq (.seq (.reg [zo 65 (.mv (.t 9)),
 zo 66 (.mv (.t 8)),
 zo 67 (.bin .sub (.t 65) (.t 66)),
 zo 4 (.mv (.t 67))])
 .ret)
 (.seq .skip
 (.seq (.reg [zo 68 (.mv (.t 10)),
 zo 69 (.bin .add (.t 68) (.c (.i .i64 1))),
 zo 10 (.mv (.t 69))])
 (.seq (.reg [zo 70 (.mv (.t 9)),
 zo 71 (.bin .add (.t 70) (.c (.i .i64 1))),
 zo 9 (.mv (.t 71))])
 (.seq (.reg [zo 72 (.mv (.c (.b true))),
 ⟨some 73,.mv (.t 10),some (72,true)⟩,
 ⟨some 74,.mv (.t 9),some (72,true)⟩,
 ⟨some 75,.call EO [.t 74],some (72,true)⟩,
 ⟨some 76,.bin .gtr (.t 73) (.t 75),some (72,true)⟩,
 zo 77 (.pick (.t 72) (.t 76) (.c (.b false))),
 zo 78 (.mv (.t 77)),
 ⟨some 79,.mv (.t 9),some (78,true)⟩,
 ⟨some 80,.mv (.t 0),some (78,true)⟩,
 ⟨some 81,.len 0 (.t 80),some (78,true)⟩,
 ⟨some 82,.bin .lss (.t 79) (.t 81),some (78,true)⟩,
 zo 83 (.pick (.t 78) (.t 82) (.c (.b false))),
 zo 84 (.mv (.t 83)),
 ⟨some 85,.mv (.c (.b false)),some (84,false)⟩,
 ⟨some 86,.mv (.t 10),some (85,true)⟩,
 ⟨some 87,.mv (.t 9),some (85,true)⟩,
 ⟨some 88,.bin .shr (.t 87) (.c (.i .u64 4)),some (85,true)⟩,
 ⟨some 89,.bin .add (.c (.i .i64 4)) (.t 88),some (85,true)⟩,
 ⟨some 90,.bin .geq (.t 86) (.t 89),some (85,true)⟩,
 ⟨some 91,.pick (.t 85) (.t 90) (.c (.b false)),some (84,false)⟩,
 ⟨some 92,.mv (.t 91),some (84,false)⟩,
 ⟨some 93,.mv (.t 9),some (92,true)⟩,
 ⟨some 94,.mv (.t 0),some (92,true)⟩,
 ⟨some 95,.len 0 (.t 94),some (92,true)⟩,
 ⟨some 96,.bin .lss (.t 93) (.t 95),some (92,true)⟩,
 ⟨some 97,.pick (.t 92) (.t 96) (.c (.b false)),some (84,false)⟩,
 zo 98 (.pick (.t 84) (.c (.b true)) (.t 97))])
 (.cond (.t 98)
 .bad
 .skip))))))))))))
 (.seq (.seq (.reg [zo 4 (.mv (.c (.i .i64 (-1))))])
 .ret)
 (.seq .skip
 (.seq (.cond (.c (.b true))
 (.seq (.reg [zo 99 (.mv (.t 0)),
 zo 100 (.mv (.t 9)),
 zo 101 (.mv (.t 8)),
 zo 102 (.bin .sub (.t 100) (.t 101)),
 zo 103 (.slS (.t 99) (some (.t 102)) none),
 zo 104 (.mv (.t 1)),
 zo 105 (.cvRS (.t 104)),
 zo 106 (.bad),
 zo 13 (.mv (.t 106))])
 (.seq (.reg [zo 107 (.mv (.t 13)),
 zo 108 (.bin .geq (.t 107) (.c (.i .i64 0)))])
 (.cond (.t 108)
 (.seq (.reg [zo 109 (.mv (.t 9)),
 zo 110 (.mv (.t 13)),
 zo 111 (.bin .add (.t 109) (.t 110)),
 zo 112 (.mv (.t 8)),
 zo 113 (.bin .sub (.t 111) (.t 112)),
 zo 4 (.mv (.t 113))])
 .ret)
 .skip)))
 (.seq (.reg [zo 114 (.mv (.t 7)),
 zo 115 (.mv (.t 8)),
 zo 116 (.ixS (.t 114) (.t 115)),
 zo 14 (.mv (.t 116))])
 (.seq (.reg [zo 117 (.mv (.t 7)),
 zo 118 (.mv (.t 8)),
 zo 119 (.bin .sub (.t 118) (.c (.i .i64 1))),
 zo 120 (.ixS (.t 117) (.t 119)),
 zo 15 (.mv (.t 120))])
 (.seq .skip
 (.blk 5 (.loop (.seq (.seq (.reg [zo 121 (.mv (.t 9)),
 zo 122 (.mv (.t 0)),
 zo 123 (.len 0 (.t 122)),
 zo 124 (.bin .lss (.t 121) (.t 123))])
 (.cond (.t 124)
 .skip
 (.exit 5)))
 (.seq (.blk 6 (.seq (.reg [zo 127 (.mv (.t 0)),
 zo 128 (.mv (.t 9)),
 zo 129 (.ixS (.t 127) (.t 128)),
 zo 130 (.mv (.t 14)),
 zo 131 (.bin .eql (.t 129) (.t 130)),
 zo 132 (.mv (.t 131)),
 ⟨some 133,.mv (.t 0),some (132,true)⟩,
 ⟨some 134,.mv (.t 9),some (132,true)⟩,
 ⟨some 135,.bin .sub (.t 134) (.c (.i .i64 1)),some (132,true)⟩,
 ⟨some 136,.ixS (.t 133) (.t 135),some (132,true)⟩,
 ⟨some 137,.mv (.t 15),some (132,true)⟩,
 ⟨some 138,.bin .eql (.t 136) (.t 137),some (132,true)⟩,
 zo 139 (.pick (.t 132) (.t 138) (.c (.b false)))])
 (.cond (.t 139)
 (.seq (.seq (.reg [zo 16 (.mv (.c (.i .i64 2)))])
 (.blk 7 (.loop (.seq (.seq (.reg [zo 140 (.mv (.t 16)),
 zo 141 (.mv (.t 7)),
 zo 142 (.len 0 (.t 141)),
 zo 143 (.bin .lss (.t 140) (.t 142))])
 (.cond (.t 143)
 .skip
 (.exit 7)))
 (.seq (.blk 8 (.seq (.regD [zo 146 (.mv (.t 0)),
 zo 147 (.mv (.t 9)),
 zo 148 (.mv (.t 16)),
 zo 149 (.bin .sub (.t 147) (.t 148)),
 zo 150 (.ixS (.t 146) (.t 149)),
 zo 151 (.mv (.t 7)),
 zo 152 (.mv (.t 8)),
 zo 153 (.mv (.t 16)),
 zo 154 (.bin .sub (.t 152) (.t 153)),
 zo 155 (.ixS (.t 151) (.t 154)),
 zo 156 (.bin .neq (.t 150) (.t 155))] [])
 (.cond (.t 156)
 (.exit 6)
 .skip)))
 (.reg [zo 144 (.mv (.t 16)),
 zo 145 (.bin .add (.t 144) (.c (.i .i64 1))),
 zo 16 (.mv (.t 145))]))))))
 (.seq (.reg [zo 157 (.mv (.t 9)),
 zo 158 (.mv (.t 8)),
 zo 159 (.bin .sub (.t 157) (.t 158)),
 zo 4 (.mv (.t 159))])
 .ret))
 .skip)))
 (.reg [zo 125 (.mv (.t 9)),
 zo 126 (.bin .add (.t 125) (.c (.i .i64 1))),
 zo 9 (.mv (.t 126))])))))))))
 (.seq (.reg [zo 4 (.mv (.c (.i .i64 (-1))))])
 .ret))))))))))))))))) }
def Ba:Fun:={ cin:=[.id],cout:=[.id],ntmps:=5,keep:=false,res:=[(2,none)],body :=
 (.seq (.reg [zo 2 (.mv (.c (.b false)))])
 (.seq (.reg [zo 3 (.mv (.t 0)),
 zo 4 (.bin .gtr (.t 3) (.c (.i .i64 8))),
 zo 2 (.mv (.t 4))])
 .ret)) }
def BW:Fun:={ cin:=[.id],cout:=[(.agg [.id,.id,.id,.id,.id,.id,.id,.id,.id,.id,.id,.id,.id,.id,.id,.id,.id,.id,.id,.id,.id,.id,.id,.id,.id,.id,.id,.id,.id,.id,.id,.id,.id,.id,.id,.id,.id,.id,.id,.id,.id,.id,.id,.id,.id,.id,.id,.id,.id,.id,.id,.id,.id,.id,.id,.id,.id,.id,.id,.id,.id,.id,.id,.id,.id,.id,.id,.id,.id,.id,.id,.id,.id,.id,.id,.id,.id,.id,.id,.id,.id,.id,.id,.id,.id,.id,.id,.id,.id,.id,.id,.id,.id,.id,.id,.id,.id,.id,.id,.id,.id,.id,.id,.id,.id,.id,.id,.id,.id,.id,.id,.id,.id,.id,.id,.id,.id,.id,.id,.id,.id,.id,.id,.id,.id,.id,.id,.id,.id,.id,.id,.id,.id,.id,.id,.id,.id,.id,.id,.id,.id,.id,.id,.id,.id,.id,.id,.id,.id,.id,.id,.id,.id,.id,.id,.id,.id,.id,.id,.id,.id,.id,.id,.id,.id,.id,.id,.id,.id,.id,.id,.id,.id,.id,.id,.id,.id,.id,.id,.id,.id,.id,.id,.id,.id,.id,.id,.id,.id,.id,.id,.id,.id,.id,.id,.id,.id,.id,.id,.id,.id,.id,.id,.id,.id,.id,.id,.id,.id,.id,.id,.id,.id,.id,.id,.id,.id,.id,.id,.id,.id,.id,.id,.id,.id,.id,.id,.id,.id,.id,.id,.id,.id,.id,.id,.id,.id,.id,.id,.id,.id,.id,.id,.id,.id,.id,.id,.id,.id,.id,.id,.id,.id,.id,.id,.id]),.id],ntmps:=21,keep:=false,res:=[(2,some (true,256)),(3,none)],body :=
 (.seq (.reg [zo 2 (.alloc 106 [.b false,.b false,.b false,.b false,.b false,.b false,.b false,.b false,.b false,.b false,.b false,.b false,.b false,.b false,.b false,.b false,.b false,.b false,.b false,.b false,.b false,.b false,.b false,.b false,.b false,.b false,.b false,.b false,.b false,.b false,.b false,.b false,.b false,.b false,.b false,.b false,.b false,.b false,.b false,.b false,.b false,.b false,.b false,.b false,.b false,.b false,.b false,.b false,.b false,.b false,.b false,.b false,.b false,.b false,.b false,.b false,.b false,.b false,.b false,.b false,.b false,.b false,.b false,.b false,.b false,.b false,.b false,.b false,.b false,.b false,.b false,.b false,.b false,.b false,.b false,.b false,.b false,.b false,.b false,.b false,.b false,.b false,.b false,.b false,.b false,.b false,.b false,.b false,.b false,.b false,.b false,.b false,.b false,.b false,.b false,.b false,.b false,.b false,.b false,.b false,.b false,.b false,.b false,.b false,.b false,.b false,.b false,.b false,.b false,.b false,.b false,.b false,.b false,.b false,.b false,.b false,.b false,.b false,.b false,.b false,.b false,.b false,.b false,.b false,.b false,.b false,.b false,.b false,.b false,.b false,.b false,.b false,.b false,.b false,.b false,.b false,.b false,.b false,.b false,.b false,.b false,.b false,.b false,.b false,.b false,.b false,.b false,.b false,.b false,.b false,.b false,.b false,.b false,.b false,.b false,.b false,.b false,.b false,.b false,.b false,.b false,.b false,.b false,.b false,.b false,.b false,.b false,.b false,.b false,.b false,.b false,.b false,.b false,.b false,.b false,.b false,.b false,.b false,.b false,.b false,.b false,.b false,.b false,.b false,.b false,.b false,.b false,.b false,.b false,.b false,.b false,.b false,.b false,.b false,.b false,.b false,.b false,.b false,.b false,.b false,.b false,.b false,.b false,.b false,.b false,.b false,.b false,.b false,.b false,.b false,.b false,.b false,.b false,.b false,.b false,.b false,.b false,.b false,.b false,.b false,.b false,.b false,.b false,.b false,.b false,.b false,.b false,.b false,.b false,.b false,.b false,.b false,.b false,.b false,.b false,.b false,.b false,.b false,.b false,.b false,.b false,.b false,.b false,.b false,.b false,.b false,.b false,.b false,.b false,.b false,.b false,.b false,.b false,.b false,.b false,.b false]),
 zo 3 (.mv (.c (.b false)))])
 (.seq (.seq (.reg [zo 4 (.mv (.c (.i .i64 0)))])
 (.blk 0 (.loop (.seq (.seq (.reg [zo 6 (.mv (.t 4)),
 zo 7 (.mv (.t 0)),
 zo 8 (.len 0 (.t 7)),
 zo 9 (.bin .lss (.t 6) (.t 8))])
 (.cond (.t 9)
 .skip
 (.exit 0)))
 (.seq (.blk 1 (.seq (.reg [zo 12 (.mv (.t 0)),
 zo 13 (.mv (.t 4)),
 zo 14 (.ixS (.t 12) (.t 13)),
 zo 5 (.mv (.t 14))])
 (.seq (.seq (.reg [zo 15 (.mv (.t 5)),
 zo 16 (.bin .geq (.t 15) (.c (.i .u8 128)))])
 (.cond (.t 16)
 (.seq (.reg [zo 17 (.ld true 256 (.t 2)),
 ⟨none,.st 256 (.t 2) (.t 17),none⟩,
 zo 3 (.mv (.c (.b false)))])
 .ret)
 .skip))
 (.reg [zo 18 (.mv (.t 5)),
 zo 19 (.iaA 256 1 (.t 2) (.t 18)),
 ⟨none,.st 1 (.t 19) (.c (.b true)),none⟩]))))
 (.reg [zo 10 (.mv (.t 4)),
 zo 11 (.bin .add (.t 10) (.c (.i .i64 1))),
 zo 4 (.mv (.t 11))]))))))
 (.seq (.reg [zo 20 (.ld true 256 (.t 2)),
 ⟨none,.st 256 (.t 2) (.t 20),none⟩,
 zo 3 (.mv (.c (.b true)))])
 .ret))) }
def Bb:Fun:={ cin:=[.id,.id],cout:=[.id],ntmps:=10,keep:=false,res:=[(4,none)],body :=
 (.seq (.reg [zo 4 (.mv (.c (.b false)))])
 (.seq (.reg [zo 5 (.mv (.t 0)),
 zo 6 (.mv (.t 1)),
 zo 7 (.nck (.t 5)),
 zo 8 (.iaA 256 1 (.t 7) (.t 6)),
 zo 9 (.ld false 1 (.t 8)),
 zo 4 (.mv (.t 9))])
 .ret)) }
def Ag:Fun:={ cin:=[],cout:=[],ntmps:=13,keep:=true,res:=[(4,none)],body :=
 (.seq (.reg [zo 2 (.box 46 1 (.t 0)),
 zo 4 (.mv (.c .nsl))])
 (.seq (.seq (.reg [zo 6 (.mv (.t 1))])
 (.blk 0 (.rf (.t 6) [7] (.reg [zo 5 (.mv (.t 7))])
 (.blk 1 (.reg [zo 8 (.ld false 1 (.t 2)),
 zo 9 (.mv (.t 5)),
 zo 10 (.bsl 1 [.t 9]),
 zo 11 (.app 1 3 (.t 8) (.t 10)),
 ⟨none,.st 1 (.t 2) (.t 11),none⟩])))))
 (.seq (.reg [zo 12 (.ld false 1 (.t 2)),
 zo 4 (.mv (.t 12))])
 .ret))) }
def Cy:Fun:={ cin:=[.id,.id],cout:=[.id],ntmps:=8,keep:=false,res:=[(4,none)],body :=
 (.seq (.reg [zo 4 (.mv (.c (.i .i64 0)))])
 (.seq (.reg [zo 5 (.mv (.t 0)),
 zo 6 (.mv (.t 1)),
 zo 7 (.call CA [.t 5,.t 6]),
 zo 4 (.mv (.t 7))])
 .ret)) }
def Fe:Fun:={ cin:=[(.sl 6 (.agg [.id,.id,.sl 1 .id,.sl 1 .id,.id,.id])),(.agg [.id,.sl 1 .id])],cout:=[.id],ntmps:=6,keep:=false,res:=[(4,none)],body :=
 (.seq (.reg [zo 2 (.box 22 1 (.t 0)),
 zo 3 (.box 118 2 (.t 1)),
 zo 4 (.mv (.c .nf))])
 (.seq (.reg [zo 5 (.mkf B4 [.t 3,.t 2]),
 zo 4 (.mv (.t 5))])
 .ret)) }
def Es:Fun:={ cin:=[(.agg [.id,.id,(.sl 1 .id),(.sl 4 (.agg [.id,.id,(.sl 1 .id),(.sl 4 (.agg [.id,.id,.sl 1 .id,.sl 4 .id]))]))]),(.sl 1 .id)],cout:=[(.agg [.id,.id,(.sl 1 .id),(.sl 4 (.agg [.id,.id,(.sl 1 .id),(.sl 4 (.agg [.id,.id,.sl 1 .id,.sl 4 .id]))]))]),.id],ntmps:=38,keep:=false,res:=[(4,some (true,4)),(5,none)],body :=
 (.seq (.reg [zo 2 (.box 37 4 (.t 0)),
 zo 4 (.alloc 37 [(.i .u8 0),(.s []),.nsl,.nsl]),
 zo 5 (.mv (.c (.b false)))])
 (.seq (.seq (.reg [zo 10 (.mv (.t 1)),
 zo 11 (.len 1 (.t 10)),
 zo 12 (.mv (.c (.i .i64 0)))])
 (.blk 0 (.loop (.seq (.reg [zo 13 (.bin .lss (.t 12) (.t 11))])
 (.seq (.cond (.t 13)
 .skip
 (.exit 0))
 (.seq (.blk 1 (.seq (.reg [zo 14 (.ia 1 (.t 10) (.t 12)),
 zo 15 (.ld false 1 (.t 14)),
 zo 7 (.mv (.t 15))])
 (.seq (.reg [zo 17 (.fa 2 (.t 2)),
 zo 18 (.ld false 1 (.t 17)),
 zo 19 (.mv (.t 7)),
 zo 20 (.call BL [.t 18,.t 19]),
 zo 16 (.mv (.t 20)),
 zo 21 (.ext (.t 16) 0),
 zo 22 (.ext (.t 16) 1),
 zo 8 (.mv (.t 21)),
 zo 9 (.mv (.t 22))])
 (.seq (.seq (.reg [zo 23 (.fa 0 (.t 2)),
 zo 24 (.ld false 1 (.t 23)),
 zo 25 (.bin .neq (.t 24) (.c (.i .u8 2))),
 zo 26 (.mv (.t 25)),
 ⟨some 27,.mv (.t 9),some (26,false)⟩,
 ⟨some 28,.un .not (.t 27),some (26,false)⟩,
 zo 29 (.pick (.t 26) (.c (.b true)) (.t 28))])
 (.cond (.t 29)
 (.seq (.reg [zo 30 (.build [(.i .u8 0),(.s []),.nsl,.nsl] []),
 ⟨none,.st 4 (.t 4) (.t 30),none⟩,
 zo 5 (.mv (.c (.b false)))])
 .ret)
 .skip))
 (.reg [zo 31 (.fa 3 (.t 2)),
 zo 32 (.ld false 1 (.t 31)),
 zo 33 (.mv (.t 8)),
 zo 34 (.ia 4 (.t 32) (.t 33)),
 zo 35 (.ld true 4 (.t 34)),
 ⟨none,.st 4 (.t 2) (.t 35),none⟩])))))
 (.reg [zo 36 (.bin .add (.t 12) (.c (.i .i64 1))),
 zo 12 (.mv (.t 36))])))))))
 (.seq (.reg [zo 37 (.ld true 4 (.t 2)),
 ⟨none,.st 4 (.t 4) (.t 37),none⟩,
 zo 5 (.mv (.c (.b true)))])
 .ret))) }
def Ff:Fun:={ cin:=[(.agg [.id,.id,(.sl 1 .id),(.sl 4 (.agg [.id,.id,(.sl 1 .id),(.sl 4 (.agg [.id,.id,.sl 1 .id,.sl 4 .id]))]))])],cout:=[(.agg [.id,.id,(.sl 1 .id),(.sl 4 (.agg [.id,.id,(.sl 1 .id),(.sl 4 (.agg [.id,.id,.sl 1 .id,.sl 4 .id]))]))])],ntmps:=26,keep:=false,res:=[(2,some (true,4))],body :=
 (.seq (.reg [zo 1 (.box 37 4 (.t 0)),
 zo 2 (.alloc 37 [(.i .u8 0),(.s []),.nsl,.nsl])])
 (.seq (.reg [zo 6 (.fa 2 (.t 1)),
 zo 7 (.ld false 1 (.t 6)),
 zo 8 (.call AN [.t 7]),
 zo 9 (.fa 2 (.t 1)),
 ⟨none,.st 1 (.t 9) (.t 8),none⟩])
 (.seq (.reg [zo 3 (.mv (.c .nsl))])
 (.seq (.seq (.reg [zo 10 (.fa 3 (.t 1)),
 zo 11 (.ld false 1 (.t 10)),
 zo 12 (.len 1 (.t 11)),
 zo 13 (.mv (.c (.i .i64 0)))])
 (.blk 0 (.loop (.seq (.reg [zo 14 (.bin .lss (.t 13) (.t 12))])
 (.seq (.cond (.t 14)
 .skip
 (.exit 0))
 (.seq (.blk 1 (.seq (.reg [zo 15 (.ia 4 (.t 11) (.t 13)),
 zo 16 (.ld true 4 (.t 15)),
 zo 5 (.alloc 37 [(.i .u8 0),(.s []),.nsl,.nsl]),
 ⟨none,.st 4 (.t 5) (.t 16),none⟩])
 (.reg [zo 17 (.mv (.t 3)),
 zo 18 (.ld true 4 (.t 5)),
 zo 19 (.call Hn [.t 18]),
 zo 20 (.bsl 4 [.t 19]),
 zo 21 (.app 4 37 (.t 17) (.t 20)),
 zo 3 (.mv (.t 21))])))
 (.reg [zo 22 (.bin .add (.t 13) (.c (.i .i64 1))),
 zo 13 (.mv (.t 22))])))))))
 (.seq (.reg [zo 23 (.mv (.t 3)),
 zo 24 (.fa 3 (.t 1)),
 ⟨none,.st 1 (.t 24) (.t 23),none⟩])
 (.seq (.reg [zo 25 (.ld true 4 (.t 1)),
 ⟨none,.st 4 (.t 2) (.t 25),none⟩])
 .ret)))))) }
def Cz:Fun:={ cin:=[.id],cout:=[.id],ntmps:=24,keep:=false,res:=[(4,none)],body :=
 (.seq (.reg [zo 4 (.mv (.c (.b false)))])
 (.seq (.reg [zo 8 (.fa 2 (.t 1)),
 zo 9 (.ld false 1 (.t 8)),
 zo 10 (.mv (.t 0)),
 zo 11 (.call BL [.t 9,.t 10]),
 zo 7 (.mv (.t 11)),
 zo 12 (.ext (.t 7) 0),
 zo 13 (.ext (.t 7) 1),
 zo 5 (.mv (.t 12)),
 zo 6 (.mv (.t 13))])
 (.seq (.regD [zo 14 (.mv (.t 6)),
 zo 15 (.mv (.t 14)),
 ⟨some 16,.ld false 1 (.t 2),some (15,true)⟩,
 ⟨some 17,.fa 3 (.t 1),some (15,true)⟩,
 ⟨some 18,.ld false 1 (.t 17),some (15,true)⟩,
 ⟨some 19,.mv (.t 5),some (15,true)⟩,
 ⟨some 20,.ia 1 (.t 18) (.t 19),some (15,true)⟩,
 ⟨some 21,.ld false 1 (.t 20),some (15,true)⟩,
 ⟨some 22,.call DH [.t 16,.t 21],some (15,true)⟩,
 zo 23 (.pick (.t 15) (.t 22) (.c (.b false))),
 zo 4 (.mv (.t 23))] [])
 .ret))) }
def BS:Fun:={ cin:=[.sl 1 .id,.id],cout:=[.id],ntmps:=9,keep:=false,res:=[(4,none)],body :=
 (.seq (.reg [zo 4 (.mv (.c (.b false)))])
 (.seq (.reg [zo 5 (.mv (.t 0)),
 zo 6 (.mv (.t 1)),
 zo 7 (.call Dv [.t 5,.t 6]),
 zo 8 (.bin .geq (.t 7) (.c (.i .i64 0))),
 zo 4 (.mv (.t 8))])
 .ret)) }
def Ap:Fun:={ cin:=[.sl 1 .id,.id],cout:=[.id],ntmps:=19,keep:=false,res:=[(4,none)],body :=
 (.seq (.reg [zo 4 (.mv (.c (.i .i64 0)))])
 (.seq (.seq (.reg [zo 6 (.mv (.t 0)),
 zo 7 (.len 1 (.t 6)),
 zo 8 (.mv (.c (.i .i64 0)))])
 (.blk 0 (.loop (.seq (.reg [zo 9 (.bin .lss (.t 8) (.t 7))])
 (.seq (.cond (.t 9)
 .skip
 (.exit 0))
 (.seq (.blk 1 (.seq (.reg [zo 10 (.mv (.t 8)),
 zo 5 (.mv (.t 10))])
 (.seq (.reg [zo 11 (.mv (.t 1)),
 zo 12 (.mv (.t 0)),
 zo 13 (.mv (.t 5)),
 zo 14 (.ia 1 (.t 12) (.t 13)),
 zo 15 (.ld false 1 (.t 14)),
 zo 16 (.callX (.t 11) [.t 15])])
 (.cond (.t 16)
 (.seq (.reg [zo 17 (.mv (.t 5)),
 zo 4 (.mv (.t 17))])
 .ret)
 .skip))))
 (.reg [zo 18 (.bin .add (.t 8) (.c (.i .i64 1))),
 zo 8 (.mv (.t 18))])))))))
 (.seq (.reg [zo 4 (.mv (.c (.i .i64 (-1))))])
 .ret))) }
def Bs:Fun:={ cin:=[.id],cout:=[.id],ntmps:=17,keep:=false,res:=[(2,none)],body :=
 (.seq (.reg [zo 2 (.mv (.c (.b false)))])
 (.seq (.blk 0 (.seq (.reg [zo 4 (.mv (.t 0)),
 zo 5 (.bin .leq (.c (.i .i32 0)) (.t 4)),
 zo 6 (.mv (.t 5)),
 ⟨some 7,.mv (.t 0),some (6,true)⟩,
 ⟨some 8,.bin .lss (.t 7) (.c (.i .i32 55296)),some (6,true)⟩,
 zo 9 (.pick (.t 6) (.t 8) (.c (.b false))),
 zo 3 (.mv (.t 9))])
 (.cond (.t 3)
 (.seq (.reg [zo 2 (.mv (.c (.b true)))])
 .ret)
 (.seq (.reg [zo 11 (.mv (.t 0)),
 zo 12 (.bin .lss (.c (.i .i32 57343)) (.t 11)),
 zo 13 (.mv (.t 12)),
 ⟨some 14,.mv (.t 0),some (13,true)⟩,
 ⟨some 15,.bin .leq (.t 14) (.c (.i .i32 1114111)),some (13,true)⟩,
 zo 16 (.pick (.t 13) (.t 15) (.c (.b false))),
 zo 10 (.mv (.t 16))])
 (.cond (.t 10)
 (.seq (.reg [zo 2 (.mv (.c (.b true)))])
 .ret)
 .skip)))))
 (.seq (.reg [zo 2 (.mv (.c (.b false)))])
 .ret))) }
def CD:Fun:={ cin:=[.id],cout:=[.id],ntmps:=6,keep:=false,res:=[(2,none)],body :=
 (.seq (.reg [zo 2 (.mv (.c (.i .i64 0)))])
 (.seq (.reg [zo 3 (.mv (.t 0)),
 zo 4 (.bin .add (.t 3) (.c (.i .i64 16))),
 zo 5 (.bin .quo (.t 4) (.c (.i .i64 8))),
 zo 2 (.mv (.t 5))])
 .ret)) }
def A6:Fun:={ cin:=[.id,.id],cout:=[.id],ntmps:=8,keep:=false,res:=[(4,none)],body :=
 (.seq (.reg [zo 4 (.mv (.c (.i .i64 0)))])
 (.seq (.reg [zo 5 (.mv (.t 0)),
 zo 6 (.mv (.t 1)),
 zo 7 (.xtn 0 [.t 5,.t 6]),
 zo 4 (.mv (.t 7))])
 .ret)) }
def Bp:Fun:={ cin:=[.id],cout:=[],ntmps:=51,keep:=false,res:=[],body :=
 (.seq (.reg [zo 3 (.box 137 1 (.t 0))])
 (.seq (.seq (.reg [zo 8 (.ld false 1 (.t 3)),
 zo 9 (.ld true 2 (.t 1)),
 zo 10 (.callX (.t 8) [.t 9]),
 zo 11 (.un .not (.t 10))])
 (.cond (.t 11)
 .ret
 .skip))
 (.seq (.reg [zo 12 (.ld false 1 (.t 2)),
 zo 13 (.fa 0 (.t 1)),
 zo 14 (.ld false 1 (.t 13)),
 zo 15 (.ia 6 (.t 12) (.t 14)),
 zo 16 (.ld true 6 (.t 15)),
 zo 4 (.alloc 48 [.b false,.i .u8 0,.nsl,.nsl,.i .i64 0,.i .i64 0]),
 ⟨none,.st 6 (.t 4) (.t 16),none⟩])
 (.seq (.reg [zo 17 (.fa 3 (.t 4)),
 zo 18 (.ld false 1 (.t 17)),
 zo 19 (.len 1 (.t 18)),
 zo 20 (.mv (.c (.i .i64 0)))])
 (.blk 0 (.loop (.seq (.reg [zo 21 (.bin .lss (.t 20) (.t 19))])
 (.seq (.cond (.t 21)
 .skip
 (.exit 0))
 (.seq (.blk 1 (.seq (.reg [zo 22 (.mv (.t 20)),
 zo 23 (.ia 1 (.t 18) (.t 20)),
 zo 24 (.ld false 1 (.t 23)),
 zo 5 (.mv (.t 22)),
 zo 6 (.mv (.t 24))])
 (.seq (.regD [zo 25 (.ld false 1 (.t 2)),
 zo 26 (.mv (.t 6)),
 zo 27 (.fa 1 (.t 1)),
 zo 28 (.ld false 1 (.t 27)),
 zo 29 (.fa 1 (.t 1)),
 zo 30 (.ld false 1 (.t 29)),
 zo 31 (.len 1 (.t 30)),
 zo 32 (.fa 1 (.t 1)),
 zo 33 (.ld false 1 (.t 32)),
 zo 34 (.len 1 (.t 33)),
 zo 35 (.slc false 1 (.t 28) none (some (.t 31)) (some (.t 34))),
 zo 36 (.fa 2 (.t 4)),
 zo 37 (.ld false 1 (.t 36)),
 zo 38 (.mv (.t 5)),
 zo 39 (.ia 1 (.t 37) (.t 38)),
 zo 40 (.ld false 1 (.t 39)),
 zo 41 (.bsl 1 [.t 40]),
 zo 42 (.appQ 1 9 (.t 35) (.t 41)),
 zo 43 (.build [.i .i64 0,.nsl] [(0,1,(.t 26)),(1,1,(.t 42))]),
 zo 44 (.callQ false Fd [.t 25,.t 43])] [(0,(0,18))])
 (.blk 2 (.rf (.t 44) [45] (.reg [zo 7 (.alloc 118 [.i .i64 0,.nsl]),
 ⟨none,.st 2 (.t 7) (.t 45),none⟩])
 (.blk 3 (.seq (.reg [zo 46 (.ld false 1 (.t 3)),
 zo 47 (.ld true 2 (.t 7)),
 zo 48 (.callX (.t 46) [.t 47]),
 zo 49 (.un .not (.t 48))])
 (.cond (.t 49)
 .ret
 .skip))))))))
 (.reg [zo 50 (.bin .add (.t 20) (.c (.i .i64 1))),
 zo 20 (.mv (.t 50))])))))))))) }
def Bi:Fun:={ cin:=[.sl 1 .id,.id],cout:=[.id],ntmps:=19,keep:=false,res:=[(4,none)],body :=
 (.seq (.reg [zo 4 (.mv (.c (.i .i64 0)))])
 (.seq (.seq (.reg [zo 6 (.mv (.t 0)),
 zo 7 (.len 1 (.t 6)),
 zo 8 (.mv (.c (.i .i64 0)))])
 (.blk 0 (.loop (.seq (.reg [zo 9 (.bin .lss (.t 8) (.t 7))])
 (.seq (.cond (.t 9)
 .skip
 (.exit 0))
 (.seq (.blk 1 (.seq (.reg [zo 10 (.mv (.t 8)),
 zo 5 (.mv (.t 10))])
 (.seq (.reg [zo 11 (.mv (.t 1)),
 zo 12 (.mv (.t 0)),
 zo 13 (.mv (.t 5)),
 zo 14 (.ia 1 (.t 12) (.t 13)),
 zo 15 (.ld false 1 (.t 14)),
 zo 16 (.bin .eql (.t 11) (.t 15))])
 (.cond (.t 16)
 (.seq (.reg [zo 17 (.mv (.t 5)),
 zo 4 (.mv (.t 17))])
 .ret)
 .skip))))
 (.reg [zo 18 (.bin .add (.t 8) (.c (.i .i64 1))),
 zo 8 (.mv (.t 18))])))))))
 (.seq (.reg [zo 4 (.mv (.c (.i .i64 (-1))))])
 .ret))) }
def tab:PT:=(.n 74 BA (.n 44 Df (.n 25 E7 (.n 20 A2 (.n 14 Ck (.n 12 C9 (.n 4 AF .e .e) .e) (.n 19 BV (.n 16 DA .e .e) .e)) (.n 23 Dd (.n 22 Cl (.n 21 Bd .e .e) .e) (.n 24 EH .e .e))) (.n 34 BO (.n 29 BR (.n 27 BN (.n 26 BE .e .e) .e) (.n 32 De (.n 31 D7 .e .e) .e)) (.n 41 DI (.n 40 Bn (.n 38 A7 .e .e) .e) (.n 43 BF .e .e)))) (.n 58 GU (.n 53 Aa (.n 48 DJ (.n 47 Bo (.n 45 Cx .e .e) .e) (.n 51 Bh (.n 50 AO .e .e) .e)) (.n 56 DC (.n 55 Fu (.n 54 DB .e .e) .e) (.n 57 AR .e .e))) (.n 68 BZ (.n 61 EI (.n 60 CX (.n 59 Dg .e .e) .e) (.n 62 DD .e .e)) (.n 72 C5 (.n 70 DU (.n 69 BP .e .e) .e) (.n 73 AQ .e .e))))) (.n 100 EM (.n 85 Dx (.n 80 CY (.n 77 BC (.n 76 DE (.n 75 BB .e .e) .e) (.n 79 D8 (.n 78 DK .e .e) .e)) (.n 83 AU (.n 82 AG (.n 81 Ab .e .e) .e) (.n 84 Bg .e .e))) (.n 95 A8 (.n 93 A4 (.n 92 D9 (.n 91 Ce .e .e) .e) (.n 94 CS .e .e)) (.n 98 B5 (.n 97 EL (.n 96 EJ .e .e) .e) (.n 99 GH .e .e)))) (.n 115 Es (.n 106 BW (.n 103 Cu (.n 102 Ct (.n 101 Ai .e .e) .e) (.n 105 Ba (.n 104 A5 .e .e) .e)) (.n 113 Cy (.n 110 Ag (.n 107 Bb .e .e) .e) (.n 114 Fe .e .e))) (.n 120 Bs (.n 118 BS (.n 117 Cz (.n 116 Ff .e .e) .e) (.n 119 Ap .e .e)) (.n 135 Bp (.n 134 A6 (.n 121 CD .e .e) .e) (.n 136 Bi .e .e))))))
def prog (n:Nat):Option Fun:=tab.get n
def tabC:PT:=(.n 68 BZ (.n 44 Df (.n 29 BR (.n 22 Er (.n 14 Ck (.n 12 C9 .e .e) (.n 16 DA .e .e)) (.n 25 E7 (.n 23 Dd .e .e) .e)) (.n 40 Bn (.n 32 De (.n 31 D7 .e .e) .e) (.n 43 BF (.n 41 DI .e .e) .e))) (.n 55 Fu (.n 48 DJ (.n 47 Bo (.n 45 Cx .e .e) .e) (.n 53 Aa (.n 52 J8 .e .e) .e)) (.n 58 GU (.n 57 AR (.n 56 DC .e .e) .e) (.n 60 CX (.n 59 Dg .e .e) .e)))) (.n 92 D9 (.n 77 BC (.n 74 BA (.n 70 DU (.n 69 BP .e .e) (.n 73 AQ .e .e)) (.n 76 DE (.n 75 BB .e .e) .e)) (.n 83 AU (.n 82 AG (.n 81 Ab .e .e) .e) (.n 91 Ce (.n 84 Bg .e .e) .e))) (.n 107 Bb (.n 104 A5 (.n 94 CS (.n 93 A4 .e .e) .e) (.n 106 BW (.n 105 Ba .e .e) .e)) (.n 120 Bs (.n 113 Cy (.n 110 Ag .e .e) .e) (.n 134 A6 (.n 121 CD .e .e) .e)))))
def progC (n:Nat):Option Fun:=tabC.get n
theorem Gt:prog Bm=some AF:=rfl
theorem Qi:prog Eo=some C9:=rfl
theorem PP:prog EE=some Ck:=rfl
theorem Qj:prog Ep=some DA:=rfl
theorem FM:prog Aw=some BV:=rfl
theorem Fv:prog A1=some A2:=rfl
theorem E8:prog Ad=some Bd:=rfl
theorem Ho:prog BJ=some Cl:=rfl
theorem R2:prog Db=some Dd:=rfl
theorem J9:prog CO=some EH:=rfl
theorem Qk:prog DQ=some E7:=rfl
theorem Et:prog Af=some BE:=rfl
theorem Hq:prog BK=some BN:=rfl
theorem Ny:prog Cn=some BR:=rfl
theorem My:prog DG=some D7:=rfl
theorem R3:prog Hk=some De:=rfl
theorem Eg:prog BL=some BO:=rfl
theorem ID:prog Dt=some A7:=rfl
theorem Nz:prog Co=some Bn:=rfl
theorem N0:prog Cp=some DI:=rfl
theorem Mz:prog CV=some BF:=rfl
theorem KA:prog Cj=some Df:=rfl
theorem M0:prog CW=some Cx:=rfl
theorem N1:prog Cq=some Bo:=rfl
theorem N2:prog Cr=some DJ:=rfl
theorem IE:prog C2=some AO:=rfl
theorem IG:prog C3=some Bh:=rfl
theorem KJ:prog BX=some Aa:=rfl
theorem PQ:prog Hl=some DB:=rfl
theorem WK:prog J7=some Fu:=rfl
theorem WL:prog Mx=some DC:=rfl
theorem Dk:prog BQ=some AR:=rfl
theorem R4:prog Hm=some GU:=rfl
theorem R5:prog Fb=some Dg:=rfl
theorem Ii:prog D4=some CX:=rfl
theorem LA:prog Fc=some EI:=rfl
theorem Ij:prog C7=some DD:=rfl
theorem Ja:prog Dc=some BZ:=rfl
theorem Hr:prog Bx=some BP:=rfl
theorem M1:prog D5=some DU:=rfl
theorem IH:prog Du=some C5:=rfl
theorem FI:prog Ae=some AQ:=rfl
theorem JA:prog Ay=some BA:=rfl
theorem JB:prog Az=some BB:=rfl
theorem Ql:prog D6=some DE:=rfl
theorem JC:prog AZ=some BC:=rfl
theorem R6:prog JY=some DK:=rfl
theorem Qm:prog Ig=some D8:=rfl
theorem M2:prog GS=some CY:=rfl
theorem EP:prog CB=some Ab:=rfl
theorem Cm:prog AN=some AG:=rfl
theorem II:prog Ax=some AU:=rfl
theorem KM:prog E6=some Bg:=rfl
theorem KP:prog Dw=some Dx:=rfl
theorem JD:prog EV=some Ce:=rfl
theorem Fw:prog C8=some D9:=rfl
theorem Gu:prog Ac=some A4:=rfl
theorem N3:prog Bu=some CS:=rfl
theorem Qn:prog Ft=some A8:=rfl
theorem PS:prog F8=some EJ:=rfl
theorem PU:prog F9=some EL:=rfl
theorem R7:prog JZ=some B5:=rfl
theorem UH:prog K9=some GH:=rfl
theorem PV:prog EG=some EM:=rfl
theorem Eh:prog BM=some Ai:=rfl
theorem LB:prog DR=some Ct:=rfl
theorem LC:prog DS=some Cu:=rfl
theorem Jb:prog CL=some A5:=rfl
theorem GV:prog Bz=some Ba:=rfl
theorem IJ:prog C4=some BW:=rfl
theorem GW:prog B2=some Bb:=rfl
theorem Ge:prog C6=some Ag:=rfl
theorem Jc:prog CM=some Cy:=rfl
theorem R8:prog Fd=some Fe:=rfl
theorem Qo:prog Ih=some Es:=rfl
theorem R9:prog Hn=some Ff:=rfl
theorem M3:prog Av=some Cz:=rfl
theorem Gv:prog DH=some BS:=rfl
theorem FJ:prog B9=some Ap:=rfl
theorem HI:prog DT=some Bs:=rfl
theorem Nq:prog EO=some CD:=rfl
theorem FK:prog CA=some A6:=rfl
theorem PW:prog B4=some Bp:=rfl
theorem IK:prog Dv=some Bi:=rfl
end Go.Proofs.YtgloinighjdhlaaGreat
