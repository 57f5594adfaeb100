/-
  The functions, as the abstract machine's: numbers and texts. By program.
-/
import Derived.Test.YtgloinighjdhlaaAmKeep
import Derived.Test.YtgloinighjdhlaaAmMemo
set_option linter.all false
set_option linter.unusedVariables false
set_option linter.unusedSimpArgs false
set_option linter.unusedSectionVars false
set_option maxRecDepth 100000
namespace Go.Proofs.Ytgloinighjdhlaa
open Go.Proofs.Ytgloinighjdhlaa.Am
def BF:Nat:=6
def Ai:Nat:=16
def AX:Nat:=17
def Er:Nat:=18
def Aa:Nat:=22
def BG:Nat:=23
def Al:Nat:=25
def EL:Nat:=26
def Ae:Nat:=27
def DK:Nat:=28
def Ar:Nat:=29
def Ch:Nat:=36
def HE:Nat:=37
def FK:Nat:=38
def Bw:Nat:=42
def Ao:Nat:=43
def JQ:Nat:=44
def A6:Nat:=45
def Dk:Nat:=46
def CS:Nat:=47
def B9:Nat:=48
def CU:Nat:=49
def Il:Nat:=50
def LG:Nat:=51
def B5:Nat:=52
def GU:Nat:=53
def Eb:Nat:=66
def Es:Nat:=67
def Et:Nat:=68
def Hw:Nat:=69
def JR:Nat:=70
def DU:Nat:=71
def A7:Nat:=72
def Co:Nat:=73
def Cp:Nat:=74
def AO:Nat:=81
def DB:Nat:=82
def DC:Nat:=83
def GV:Nat:=84
def CY:Nat:=85
def Br:Nat:=96
def EM:Nat:=97
def HF:Nat:=98
def GW:Nat:=99
def Dl:Nat:=100
def CA:Nat:=101
def Aq:Nat:=102
def A8:Nat:=103
def Ci:Nat:=104
def Bm:Nat:=105
def DL:Nat:=108
def Bn:Nat:=111
def Bd:Nat:=112
def Dd:Nat:=113
def Cb:Nat:=114
def AZ:Nat:=115
def EN:Nat:=116
def Cc:Nat:=117
def DD:Nat:=118
def D3:Nat:=119
def IG:Nat:=121
def CZ:Nat:=122
def DF:Nat:=125
def Bs:Nat:=126
def Be:Nat:=127
def CV:Nat:=128
def Bf:Nat:=129
def Cq:Nat:=141
def Db:Nat:=142
def Jt:Nat:=143
abbrev zo(d:Nat)(p:AOp):Am.Op:=⟨some d,p,none⟩
def AE:Fun:={ cin:=[(.agg [.id,.id,(.sl 1 .id),(.sl 4 (.agg [.id,.id,(.sl 1 .id),(.sl 4 (.agg [.id,.id,.sl 1 .id,.sl 4 .id]))]))]),(.agg [.id,.id,(.sl 1 .id),(.sl 4 (.agg [.id,.id,(.sl 1 .id),(.sl 4 (.agg [.id,.id,.sl 1 .id,.sl 4 .id]))]))]),(.sl 6 (.agg [.id,.id,.sl 1 .id,.sl 1 .id,.id,.id])),.id],cout:=[.id],ntmps:=120,keep:=false,res:=[(8,none)],body :=
 (.seq (.reg [zo 4 (.box 47 4 (.t 0)),
 zo 5 (.box 47 4 (.t 1)),
 zo 8 (.mv (.c (.b false)))])
 (.seq (.seq (.reg [zo 13 (.call Al []),
 zo 14 (.un .not (.t 13)),
 zo 15 (.mv (.t 14)),
 ⟨some 16,.mv (.t 2),some (15,false)⟩,
 ⟨some 17,.call Ai [.t 16],some (15,false)⟩,
 zo 18 (.pick (.t 15) (.c (.b true)) (.t 17)),
 zo 19 (.mv (.t 18)),
 ⟨some 20,.ld true 4 (.t 4),some (19,false)⟩,
 ⟨some 21,.call AX [.t 20],some (19,false)⟩,
 ⟨some 22,.bin .geq (.t 21) (.c (.i .i64 300)),some (19,false)⟩,
 zo 23 (.pick (.t 19) (.c (.b true)) (.t 22)),
 zo 24 (.mv (.t 23)),
 ⟨some 25,.ld true 4 (.t 5),some (24,false)⟩,
 ⟨some 26,.call AX [.t 25],some (24,false)⟩,
 ⟨some 27,.bin .geq (.t 26) (.c (.i .i64 300)),some (24,false)⟩,
 zo 28 (.pick (.t 24) (.c (.b true)) (.t 27))])
 (.cond (.t 28)
 (.seq (.reg [zo 29 (.call Al []),
 zo 8 (.mv (.t 29))])
 .ret)
 .skip))
 (.seq (.reg [zo 31 (.ld true 4 (.t 4)),
 zo 32 (.call EL [.t 31]),
 zo 30 (.mv (.t 32)),
 zo 33 (.ext (.t 30) 0),
 zo 34 (.ext (.t 30) 1),
 zo 9 (.mv (.t 33)),
 zo 10 (.mv (.t 34))])
 (.seq (.seq (.reg [zo 35 (.mv (.t 10)),
 zo 36 (.bin .neq (.t 35) (.c (.i .i64 0))),
 zo 37 (.mv (.t 36)),
 ⟨some 38,.ld true 4 (.t 5),some (37,false)⟩,
 ⟨some 39,.call Ae [.t 38],some (37,false)⟩,
 ⟨some 40,.un .not (.t 39),some (37,false)⟩,
 zo 41 (.pick (.t 37) (.c (.b true)) (.t 40))])
 (.cond (.t 41)
 (.seq (.reg [zo 42 (.ld true 4 (.t 4)),
 zo 43 (.call Ae [.t 42]),
 zo 44 (.un .not (.t 43)),
 zo 45 (.mv (.t 44)),
 ⟨some 46,.ld true 4 (.t 5),some (45,false)⟩,
 ⟨some 47,.call Ae [.t 46],some (45,false)⟩,
 ⟨some 48,.un .not (.t 47),some (45,false)⟩,
 zo 49 (.pick (.t 45) (.c (.b true)) (.t 48)),
 zo 8 (.mv (.t 49))])
 .ret)
 .skip))
 (.seq (.seq (.regD [zo 50 (.mv (.t 9)),
 zo 51 (.call DK [.t 50]),
 zo 52 (.un .not (.t 51)),
 zo 53 (.mv (.t 52)),
 ⟨some 54,.mv (.t 9),some (53,false)⟩,
 ⟨some 55,.ld true 4 (.t 4),some (53,false)⟩,
 ⟨some 56,.call BG [.t 54,.t 55],some (53,false)⟩,
 ⟨some 57,.un .not (.t 56),some (53,false)⟩,
 zo 58 (.pick (.t 53) (.c (.b true)) (.t 57)),
 zo 59 (.mv (.t 58)),
 ⟨some 60,.mv (.t 9),some (59,false)⟩,
 ⟨some 61,.ld true 4 (.t 5),some (59,false)⟩,
 ⟨some 62,.call BG [.t 60,.t 61],some (59,false)⟩,
 ⟨some 63,.ld true 4 (.t 4),some (59,false)⟩,
 ⟨some 64,.call Ar [.t 63],some (59,false)⟩,
 ⟨some 65,.ld true 4 (.t 5),some (59,false)⟩,
 ⟨some 66,.call Ar [.t 65],some (59,false)⟩,
 ⟨some 67,.call Aa [.t 64,.t 66],some (59,false)⟩,
 ⟨some 68,.eq .bool true (.t 62) (.t 67),some (59,false)⟩,
 zo 69 (.pick (.t 59) (.c (.b true)) (.t 68))] [(13,(12,13)),(15,(12,15))])
 (.cond (.t 69)
 (.seq (.reg [zo 8 (.mv (.c (.b false)))])
 .ret)
 .skip))
 (.seq (.reg [zo 70 (.mv (.t 2)),
 zo 71 (.ld true 4 (.t 5)),
 zo 72 (.call BG [.t 70,.t 71]),
 zo 11 (.mv (.t 72))])
 (.seq (.seq (.reg [zo 73 (.mv (.t 11)),
 zo 74 (.mv (.t 2)),
 zo 75 (.ld true 4 (.t 5)),
 zo 76 (.call Ar [.t 75]),
 zo 77 (.call BG [.t 74,.t 76]),
 zo 78 (.eq .bool true (.t 73) (.t 77))])
 (.cond (.t 78)
 (.seq (.reg [zo 8 (.mv (.c (.b false)))])
 .ret)
 .skip))
 (.seq (.seq (.reg [zo 79 (.mv (.t 11)),
 zo 80 (.un .not (.t 79)),
 zo 81 (.mv (.t 80)),
 ⟨some 82,.mv (.t 3),some (81,false)⟩,
 ⟨some 83,.bin .lss (.t 82) (.c (.i .i64 1)),some (81,false)⟩,
 zo 84 (.pick (.t 81) (.c (.b true)) (.t 83)),
 zo 85 (.mv (.t 84)),
 ⟨some 86,.mv (.t 3),some (85,false)⟩,
 ⟨some 87,.mv (.t 2),some (85,false)⟩,
 ⟨some 88,.len 1 (.t 87),some (85,false)⟩,
 ⟨some 89,.bin .geq (.t 86) (.t 88),some (85,false)⟩,
 zo 90 (.pick (.t 85) (.c (.b true)) (.t 89))])
 (.cond (.t 90)
 (.seq (.reg [zo 8 (.mv (.c (.b true)))])
 .ret)
 .skip))
 (.seq (.reg [zo 91 (.bsl 6 []),
 zo 92 (.mv (.t 2)),
 zo 93 (.app 6 60 (.t 91) (.t 92)),
 zo 12 (.mv (.t 93))])
 (.seq (.seq (.thw 12)
 (.reg [zo 94 (.mv (.t 12)),
 zo 95 (.mv (.t 3)),
 zo 96 (.ia 6 (.t 94) (.t 95)),
 zo 97 (.fa 4 (.t 96)),
 ⟨none,.st 1 (.t 97) (.c (.i .i64 0)),none⟩]))
 (.seq (.seq (.thw 12)
 (.reg [zo 98 (.mv (.t 12)),
 zo 99 (.mv (.t 3)),
 zo 100 (.ia 6 (.t 98) (.t 99)),
 zo 101 (.fa 5 (.t 100)),
 ⟨none,.st 1 (.t 101) (.c (.i .i64 0)),none⟩]))
 (.seq (.seq (.reg [zo 102 (.mv (.t 12)),
 zo 103 (.ld true 4 (.t 5)),
 zo 104 (.call BG [.t 102,.t 103]),
 zo 105 (.un .not (.t 104))])
 (.cond (.t 105)
 (.seq (.reg [zo 8 (.mv (.c (.b false)))])
 .ret)
 .skip))
 (.seq (.seq (.seq (.thw 2)
 (.reg [zo 106 (.mv (.t 2)),
 zo 107 (.mv (.t 3)),
 zo 108 (.ia 6 (.t 106) (.t 107)),
 zo 109 (.fa 2 (.t 108)),
 zo 110 (.ld false 1 (.t 109)),
 zo 111 (.len 1 (.t 110)),
 zo 112 (.bin .gtr (.t 111) (.c (.i .i64 0)))]))
 (.cond (.t 112)
 (.seq (.reg [zo 8 (.mv (.c (.b true)))])
 .ret)
 .skip))
 (.seq (.seq (.thw 12)
 (.reg [zo 113 (.mv (.t 12)),
 zo 114 (.mv (.t 3)),
 zo 115 (.build [.b false,.i .u8 0,.nsl,.nsl,.i .i64 0,.i .i64 0] []),
 zo 116 (.ia 6 (.t 113) (.t 114)),
 ⟨none,.st 6 (.t 116) (.t 115),none⟩]))
 (.seq (.reg [zo 117 (.mv (.t 12)),
 zo 118 (.ld true 4 (.t 5)),
 zo 119 (.call BG [.t 117,.t 118]),
 zo 8 (.mv (.t 119))])
 .ret))))))))))))))) }
def BO:Fun:={ cin:=[(.sl 6 (.agg [.id,.id,.sl 1 .id,.sl 1 .id,.id,.id]))],cout:=[.id],ntmps:=60,keep:=false,res:=[(2,none)],body :=
 (.seq (.reg [zo 2 (.mv (.c (.b false)))])
 (.seq (.reg [zo 3 (.mv (.c (.i .i64 0)))])
 (.seq (.seq (.reg [zo 4 (.mv (.c (.i .i64 0)))])
 (.blk 0 (.loop (.seq (.seq (.reg [zo 6 (.mv (.t 4)),
 zo 7 (.mv (.t 0)),
 zo 8 (.len 1 (.t 7)),
 zo 9 (.bin .lss (.t 6) (.t 8)),
 zo 10 (.mv (.t 9)),
 ⟨some 11,.mv (.t 3),some (10,true)⟩,
 ⟨some 12,.bin .lss (.t 11) (.c (.i .i64 500)),some (10,true)⟩,
 zo 13 (.pick (.t 10) (.t 12) (.c (.b false)))])
 (.cond (.t 13)
 .skip
 (.exit 0)))
 (.seq (.blk 1 (.seq (.seq (.thw 0)
 (.regD [zo 16 (.mv (.t 3)),
 zo 17 (.bin .add (.t 16) (.c (.i .i64 1))),
 zo 18 (.mv (.t 0)),
 zo 19 (.mv (.t 4)),
 zo 20 (.ia 6 (.t 18) (.t 19)),
 zo 21 (.fa 2 (.t 20)),
 zo 22 (.ld false 1 (.t 21)),
 zo 23 (.len 1 (.t 22)),
 zo 24 (.bin .add (.t 17) (.t 23)),
 zo 25 (.mv (.t 0)),
 zo 26 (.mv (.t 4)),
 zo 27 (.ia 6 (.t 25) (.t 26)),
 zo 28 (.fa 3 (.t 27)),
 zo 29 (.ld false 1 (.t 28)),
 zo 30 (.len 1 (.t 29)),
 zo 31 (.bin .add (.t 24) (.t 30)),
 zo 3 (.mv (.t 31))] []))
 (.seq (.reg [zo 5 (.mv (.c (.i .i64 0)))])
 (.blk 2 (.loop (.seq (.seq (.seq (.thw 0)
 (.reg [zo 32 (.mv (.t 5)),
 zo 33 (.mv (.t 0)),
 zo 34 (.mv (.t 4)),
 zo 35 (.ia 6 (.t 33) (.t 34)),
 zo 36 (.fa 2 (.t 35)),
 zo 37 (.ld false 1 (.t 36)),
 zo 38 (.len 1 (.t 37)),
 zo 39 (.bin .lss (.t 32) (.t 38)),
 zo 40 (.mv (.t 39)),
 ⟨some 41,.mv (.t 3),some (40,true)⟩,
 ⟨some 42,.bin .lss (.t 41) (.c (.i .i64 500)),some (40,true)⟩,
 zo 43 (.pick (.t 40) (.t 42) (.c (.b false)))]))
 (.cond (.t 43)
 .skip
 (.exit 2)))
 (.seq (.blk 3 (.seq (.thw 0)
 (.reg [zo 46 (.mv (.t 3)),
 zo 47 (.mv (.t 0)),
 zo 48 (.mv (.t 4)),
 zo 49 (.ia 6 (.t 47) (.t 48)),
 zo 50 (.fa 2 (.t 49)),
 zo 51 (.ld false 1 (.t 50)),
 zo 52 (.mv (.t 5)),
 zo 53 (.ia 1 (.t 51) (.t 52)),
 zo 54 (.ld false 1 (.t 53)),
 zo 55 (.len 0 (.t 54)),
 zo 56 (.bin .quo (.t 55) (.c (.i .i64 64))),
 zo 57 (.bin .add (.t 46) (.t 56)),
 zo 3 (.mv (.t 57))])))
 (.reg [zo 44 (.mv (.t 5)),
 zo 45 (.bin .add (.t 44) (.c (.i .i64 1))),
 zo 5 (.mv (.t 45))]))))))))
 (.reg [zo 14 (.mv (.t 4)),
 zo 15 (.bin .add (.t 14) (.c (.i .i64 1))),
 zo 4 (.mv (.t 15))]))))))
 (.seq (.reg [zo 58 (.mv (.t 3)),
 zo 59 (.bin .geq (.t 58) (.c (.i .i64 500))),
 zo 2 (.mv (.t 59))])
 .ret)))) }
def AY:Fun:={ cin:=[(.agg [.id,.id,(.sl 1 .id),(.sl 4 (.agg [.id,.id,(.sl 1 .id),(.sl 4 (.agg [.id,.id,.sl 1 .id,.sl 4 .id]))]))])],cout:=[.id],ntmps:=52,keep:=false,res:=[(2,none)],body :=
 (.seq (.reg [zo 1 (.box 47 4 (.t 0)),
 zo 2 (.mv (.c (.i .i64 0)))])
 (.seq (.reg [zo 6 (.fa 1 (.t 1)),
 zo 7 (.ld false 1 (.t 6)),
 zo 8 (.len 0 (.t 7)),
 zo 9 (.bin .quo (.t 8) (.c (.i .i64 64))),
 zo 10 (.bin .add (.c (.i .i64 1)) (.t 9)),
 zo 3 (.mv (.t 10))])
 (.seq (.seq (.reg [zo 4 (.mv (.c (.i .i64 0)))])
 (.blk 0 (.loop (.seq (.seq (.reg [zo 11 (.mv (.t 4)),
 zo 12 (.fa 2 (.t 1)),
 zo 13 (.ld false 1 (.t 12)),
 zo 14 (.len 1 (.t 13)),
 zo 15 (.bin .lss (.t 11) (.t 14)),
 zo 16 (.mv (.t 15)),
 ⟨some 17,.mv (.t 3),some (16,true)⟩,
 ⟨some 18,.bin .lss (.t 17) (.c (.i .i64 2000)),some (16,true)⟩,
 zo 19 (.pick (.t 16) (.t 18) (.c (.b false)))])
 (.cond (.t 19)
 .skip
 (.exit 0)))
 (.seq (.blk 1 (.reg [zo 22 (.mv (.t 3)),
 zo 23 (.bin .add (.t 22) (.c (.i .i64 1))),
 zo 24 (.fa 2 (.t 1)),
 zo 25 (.ld false 1 (.t 24)),
 zo 26 (.mv (.t 4)),
 zo 27 (.ia 1 (.t 25) (.t 26)),
 zo 28 (.ld false 1 (.t 27)),
 zo 29 (.len 0 (.t 28)),
 zo 30 (.bin .quo (.t 29) (.c (.i .i64 64))),
 zo 31 (.bin .add (.t 23) (.t 30)),
 zo 3 (.mv (.t 31))]))
 (.reg [zo 20 (.mv (.t 4)),
 zo 21 (.bin .add (.t 20) (.c (.i .i64 1))),
 zo 4 (.mv (.t 21))]))))))
 (.seq (.seq (.reg [zo 5 (.mv (.c (.i .i64 0)))])
 (.blk 2 (.loop (.seq (.seq (.reg [zo 32 (.mv (.t 5)),
 zo 33 (.fa 3 (.t 1)),
 zo 34 (.ld false 1 (.t 33)),
 zo 35 (.len 1 (.t 34)),
 zo 36 (.bin .lss (.t 32) (.t 35)),
 zo 37 (.mv (.t 36)),
 ⟨some 38,.mv (.t 3),some (37,true)⟩,
 ⟨some 39,.bin .lss (.t 38) (.c (.i .i64 2000)),some (37,true)⟩,
 zo 40 (.pick (.t 37) (.t 39) (.c (.b false)))])
 (.cond (.t 40)
 .skip
 (.exit 2)))
 (.seq (.blk 3 (.reg [zo 43 (.mv (.t 3)),
 zo 44 (.fa 3 (.t 1)),
 zo 45 (.ld false 1 (.t 44)),
 zo 46 (.mv (.t 5)),
 zo 47 (.ia 4 (.t 45) (.t 46)),
 zo 48 (.ld true 4 (.t 47)),
 zo 49 (.call AX [.t 48]),
 zo 50 (.bin .add (.t 43) (.t 49)),
 zo 3 (.mv (.t 50))]))
 (.reg [zo 41 (.mv (.t 5)),
 zo 42 (.bin .add (.t 41) (.c (.i .i64 1))),
 zo 5 (.mv (.t 42))]))))))
 (.seq (.reg [zo 51 (.mv (.t 3)),
 zo 2 (.mv (.t 51))])
 .ret))))) }
def Cd:Fun:={ cin:=[(.sl 6 (.agg [.id,.id,.sl 1 .id,.sl 1 .id,.id,.id])),(.agg [.id,.id,(.sl 1 .id),(.sl 4 (.agg [.id,.id,(.sl 1 .id),(.sl 4 (.agg [.id,.id,.sl 1 .id,.sl 4 .id]))]))])],cout:=[.id,.id],ntmps:=60,keep:=false,res:=[(4,none),(5,none)],body :=
 (.seq (.reg [zo 3 (.box 47 4 (.t 1)),
 zo 4 (.mv (.c (.i .i64 0))),
 zo 5 (.mv (.c (.i .i64 0)))])
 (.seq (.seq (.reg [zo 9 (.mv (.t 0)),
 zo 10 (.call DK [.t 9]),
 zo 11 (.un .not (.t 10)),
 zo 12 (.mv (.t 11)),
 ⟨some 13,.ld true 4 (.t 3),some (12,false)⟩,
 ⟨some 14,.call Ch [.t 13],some (12,false)⟩,
 ⟨some 15,.un .not (.t 14),some (12,false)⟩,
 zo 16 (.pick (.t 12) (.c (.b true)) (.t 15))])
 (.cond (.t 16)
 (.seq (.reg [zo 4 (.mv (.c (.i .i64 0))),
 zo 5 (.mv (.c (.i .i64 4)))])
 .ret)
 .skip))
 (.seq (.seq (.reg [zo 17 (.mv (.t 0)),
 zo 18 (.len 1 (.t 17)),
 zo 19 (.mv (.c (.i .i64 0)))])
 (.blk 0 (.loop (.seq (.reg [zo 20 (.bin .lss (.t 19) (.t 18))])
 (.seq (.cond (.t 20)
 .skip
 (.exit 0))
 (.seq (.blk 1 (.seq (.reg [zo 21 (.mv (.t 19)),
 zo 6 (.mv (.t 21))])
 (.seq (.seq (.seq (.thw 0)
 (.reg [zo 22 (.mv (.t 0)),
 zo 23 (.mv (.t 6)),
 zo 24 (.ia 6 (.t 22) (.t 23)),
 zo 25 (.fa 0 (.t 24)),
 zo 26 (.ld false 1 (.t 25)),
 zo 27 (.un .not (.t 26))]))
 (.cond (.t 27)
 (.exit 1)
 .skip))
 (.seq (.reg [zo 29 (.mv (.t 0)),
 zo 30 (.ld true 4 (.t 3)),
 zo 31 (.mv (.t 6)),
 zo 32 (.call HE [.t 29,.t 30,.t 31]),
 zo 28 (.mv (.t 32)),
 zo 33 (.ext (.t 28) 0),
 zo 34 (.ext (.t 28) 1),
 zo 7 (.alloc 47 [(.i .u8 0),(.s []),.nsl,.nsl]),
 ⟨none,.st 4 (.t 7) (.t 33),none⟩,
 zo 8 (.mv (.t 34))])
 (.seq (.seq (.thw 0)
 (.regD [zo 35 (.fa 0 (.t 7)),
 zo 36 (.ld false 1 (.t 35)),
 zo 37 (.mv (.t 0)),
 zo 38 (.mv (.t 6)),
 zo 39 (.ia 6 (.t 37) (.t 38)),
 zo 40 (.fa 1 (.t 39)),
 zo 41 (.ld false 1 (.t 40)),
 zo 42 (.bin .neq (.t 36) (.t 41)),
 zo 43 (.mv (.t 42)),
 ⟨some 44,.fa 0 (.t 7),some (43,false)⟩,
 ⟨some 45,.ld false 1 (.t 44),some (43,false)⟩,
 ⟨some 46,.bin .eql (.t 45) (.c (.i .u8 2)),some (43,false)⟩,
 ⟨some 47,.mv (.t 46),some (43,false)⟩,
 ⟨some 48,.mv (.t 0),some (47,true)⟩,
 ⟨some 49,.mv (.t 6),some (47,true)⟩,
 ⟨some 50,.ia 6 (.t 48) (.t 49),some (47,true)⟩,
 ⟨some 51,.ld true 6 (.t 50),some (47,true)⟩,
 ⟨some 52,.fa 2 (.t 7),some (47,true)⟩,
 ⟨some 53,.ld false 1 (.t 52),some (47,true)⟩,
 ⟨some 54,.call FK [.t 51,.t 53],some (47,true)⟩,
 ⟨some 55,.un .not (.t 54),some (47,true)⟩,
 ⟨some 56,.pick (.t 47) (.t 55) (.c (.b false)),some (43,false)⟩,
 zo 57 (.pick (.t 43) (.c (.b true)) (.t 56))] []))
 (.cond (.t 57)
 (.seq (.reg [zo 58 (.mv (.t 6)),
 zo 4 (.mv (.t 58)),
 zo 5 (.mv (.c (.i .i64 0)))])
 .ret)
 .skip))))))
 (.reg [zo 59 (.bin .add (.t 19) (.c (.i .i64 1))),
 zo 19 (.mv (.t 59))])))))))
 (.seq (.reg [zo 4 (.mv (.c (.i .i64 (-1)))),
 zo 5 (.mv (.c (.i .i64 0)))])
 .ret)))) }
def BE:Fun:={ cin:=[(.agg [.id,.id,(.sl 1 .id),(.sl 4 (.agg [.id,.id,(.sl 1 .id),(.sl 4 (.agg [.id,.id,.sl 1 .id,.sl 4 .id]))]))]),(.agg [.id,.id,(.sl 1 .id),(.sl 4 (.agg [.id,.id,(.sl 1 .id),(.sl 4 (.agg [.id,.id,.sl 1 .id,.sl 4 .id]))]))])],cout:=[.id],ntmps:=74,keep:=false,res:=[(4,none)],body :=
 (.seq (.reg [zo 2 (.box 47 4 (.t 0)),
 zo 3 (.box 47 4 (.t 1)),
 zo 4 (.mv (.c (.b false)))])
 (.seq (.seq (.reg [zo 7 (.fa 0 (.t 2)),
 zo 8 (.ld false 1 (.t 7)),
 zo 9 (.fa 0 (.t 3)),
 zo 10 (.ld false 1 (.t 9)),
 zo 11 (.bin .neq (.t 8) (.t 10)),
 zo 12 (.mv (.t 11)),
 ⟨some 13,.fa 1 (.t 2),some (12,false)⟩,
 ⟨some 14,.ld false 1 (.t 13),some (12,false)⟩,
 ⟨some 15,.fa 1 (.t 3),some (12,false)⟩,
 ⟨some 16,.ld false 1 (.t 15),some (12,false)⟩,
 ⟨some 17,.bin .neq (.t 14) (.t 16),some (12,false)⟩,
 zo 18 (.pick (.t 12) (.c (.b true)) (.t 17)),
 zo 19 (.mv (.t 18)),
 ⟨some 20,.fa 2 (.t 2),some (19,false)⟩,
 ⟨some 21,.ld false 1 (.t 20),some (19,false)⟩,
 ⟨some 22,.len 1 (.t 21),some (19,false)⟩,
 ⟨some 23,.fa 2 (.t 3),some (19,false)⟩,
 ⟨some 24,.ld false 1 (.t 23),some (19,false)⟩,
 ⟨some 25,.len 1 (.t 24),some (19,false)⟩,
 ⟨some 26,.bin .neq (.t 22) (.t 25),some (19,false)⟩,
 zo 27 (.pick (.t 19) (.c (.b true)) (.t 26)),
 zo 28 (.mv (.t 27)),
 ⟨some 29,.fa 3 (.t 2),some (28,false)⟩,
 ⟨some 30,.ld false 1 (.t 29),some (28,false)⟩,
 ⟨some 31,.len 1 (.t 30),some (28,false)⟩,
 ⟨some 32,.fa 3 (.t 3),some (28,false)⟩,
 ⟨some 33,.ld false 1 (.t 32),some (28,false)⟩,
 ⟨some 34,.len 1 (.t 33),some (28,false)⟩,
 ⟨some 35,.bin .neq (.t 31) (.t 34),some (28,false)⟩,
 zo 36 (.pick (.t 28) (.c (.b true)) (.t 35))])
 (.cond (.t 36)
 (.seq (.reg [zo 4 (.mv (.c (.b false)))])
 .ret)
 .skip))
 (.seq (.seq (.reg [zo 5 (.mv (.c (.i .i64 0)))])
 (.blk 0 (.loop (.seq (.seq (.reg [zo 37 (.mv (.t 5)),
 zo 38 (.fa 2 (.t 2)),
 zo 39 (.ld false 1 (.t 38)),
 zo 40 (.len 1 (.t 39)),
 zo 41 (.bin .lss (.t 37) (.t 40))])
 (.cond (.t 41)
 .skip
 (.exit 0)))
 (.seq (.blk 1 (.seq (.regD [zo 44 (.fa 2 (.t 2)),
 zo 45 (.ld false 1 (.t 44)),
 zo 46 (.mv (.t 5)),
 zo 47 (.ia 1 (.t 45) (.t 46)),
 zo 48 (.ld false 1 (.t 47)),
 zo 49 (.fa 2 (.t 3)),
 zo 50 (.ld false 1 (.t 49)),
 zo 51 (.mv (.t 5)),
 zo 52 (.ia 1 (.t 50) (.t 51)),
 zo 53 (.ld false 1 (.t 52)),
 zo 54 (.bin .neq (.t 48) (.t 53))] [])
 (.cond (.t 54)
 (.seq (.reg [zo 4 (.mv (.c (.b false)))])
 .ret)
 .skip)))
 (.reg [zo 42 (.mv (.t 5)),
 zo 43 (.bin .add (.t 42) (.c (.i .i64 1))),
 zo 5 (.mv (.t 43))]))))))
 (.seq (.seq (.reg [zo 6 (.mv (.c (.i .i64 0)))])
 (.blk 2 (.loop (.seq (.seq (.reg [zo 55 (.mv (.t 6)),
 zo 56 (.fa 3 (.t 2)),
 zo 57 (.ld false 1 (.t 56)),
 zo 58 (.len 1 (.t 57)),
 zo 59 (.bin .lss (.t 55) (.t 58))])
 (.cond (.t 59)
 .skip
 (.exit 2)))
 (.seq (.blk 3 (.seq (.regD [zo 62 (.fa 3 (.t 2)),
 zo 63 (.ld false 1 (.t 62)),
 zo 64 (.mv (.t 6)),
 zo 65 (.ia 4 (.t 63) (.t 64)),
 zo 66 (.ld true 4 (.t 65)),
 zo 67 (.fa 3 (.t 3)),
 zo 68 (.ld false 1 (.t 67)),
 zo 69 (.mv (.t 6)),
 zo 70 (.ia 4 (.t 68) (.t 69)),
 zo 71 (.ld true 4 (.t 70)),
 zo 72 (.call Aa [.t 66,.t 71]),
 zo 73 (.un .not (.t 72))] [])
 (.cond (.t 73)
 (.seq (.reg [zo 4 (.mv (.c (.b false)))])
 .ret)
 .skip)))
 (.reg [zo 60 (.mv (.t 6)),
 zo 61 (.bin .add (.t 60) (.c (.i .i64 1))),
 zo 6 (.mv (.t 61))]))))))
 (.seq (.reg [zo 4 (.mv (.c (.b true)))])
 .ret))))) }
def CB:Fun:={ cin:=[(.sl 6 (.agg [.id,.id,.sl 1 .id,.sl 1 .id,.id,.id])),(.agg [.id,.id,(.sl 1 .id),(.sl 4 (.agg [.id,.id,(.sl 1 .id),(.sl 4 (.agg [.id,.id,.sl 1 .id,.sl 4 .id]))]))])],cout:=[.id],ntmps:=19,keep:=false,res:=[(4,none)],body :=
 (.seq (.reg [zo 3 (.box 47 4 (.t 1)),
 zo 4 (.mv (.c (.b false)))])
 (.seq (.reg [zo 8 (.mv (.t 0)),
 zo 9 (.ld true 4 (.t 3)),
 zo 10 (.call Er [.t 8,.t 9]),
 zo 7 (.mv (.t 10)),
 zo 11 (.ext (.t 7) 0),
 zo 12 (.ext (.t 7) 1),
 zo 5 (.mv (.t 11)),
 zo 6 (.mv (.t 12))])
 (.seq (.reg [zo 13 (.mv (.t 6)),
 zo 14 (.bin .eql (.t 13) (.c (.i .i64 0))),
 zo 15 (.mv (.t 14)),
 ⟨some 16,.mv (.t 5),some (15,true)⟩,
 ⟨some 17,.bin .lss (.t 16) (.c (.i .i64 0)),some (15,true)⟩,
 zo 18 (.pick (.t 15) (.t 17) (.c (.b false))),
 zo 4 (.mv (.t 18))])
 .ret))) }
def Cw:Fun:={ cin:=[],cout:=[.id],ntmps:=49,keep:=false,res:=[(0,none)],body :=
 (.seq (.reg [zo 0 (.mv (.c (.b false)))])
 (.seq (.reg [zo 3 (.bsl 1 [(.c (.s [97]))]),
 zo 4 (.bsl 1 [(.c (.i .u8 1))]),
 zo 5 (.call Bw [.t 3,.t 4]),
 zo 1 (.alloc 47 [(.i .u8 0),(.s []),.nsl,.nsl]),
 ⟨none,.st 4 (.t 1) (.t 5),none⟩])
 (.seq (.reg [zo 6 (.bsl 1 [(.c (.s [97])),(.c (.s [98]))]),
 zo 7 (.bsl 1 [(.c (.i .u8 1)),(.c (.i .u8 1))]),
 zo 8 (.call Bw [.t 6,.t 7]),
 zo 2 (.alloc 47 [(.i .u8 0),(.s []),.nsl,.nsl]),
 ⟨none,.st 4 (.t 2) (.t 8),none⟩])
 (.seq (.regD [zo 9 (.call JQ []),
 zo 10 (.call Bw [.c .nsl,.c .nsl]),
 zo 11 (.call Ao [(.t 9),(.t 10),(.c (.i .i64 (-1)))]),
 zo 12 (.mv (.t 11)),
 ⟨some 13,.call JQ [],some (12,true)⟩,
 ⟨some 14,.ld true 4 (.t 2),some (12,true)⟩,
 ⟨some 15,.call Ao [(.t 13),(.t 14),(.c (.i .i64 (-1)))],some (12,true)⟩,
 zo 16 (.pick (.t 12) (.t 15) (.c (.b false))),
 zo 17 (.mv (.t 16)),
 ⟨some 18,.call A6 [(.c (.i .u8 1)),(.c (.i .i64 1)),(.c (.i .i64 0))],some (17,true)⟩,
 ⟨some 19,.ld true 4 (.t 1),some (17,true)⟩,
 ⟨some 20,.call Ao [(.t 18),(.t 19),(.c (.i .i64 (-1)))],some (17,true)⟩,
 zo 21 (.pick (.t 17) (.t 20) (.c (.b false))),
 zo 22 (.mv (.t 21)),
 ⟨some 23,.call A6 [(.c (.i .u8 1)),(.c (.i .i64 1)),(.c (.i .i64 0))],some (22,true)⟩,
 ⟨some 24,.bsl 1 [(.c (.s [97]))],some (22,true)⟩,
 ⟨some 25,.bsl 1 [(.c (.i .u8 2))],some (22,true)⟩,
 ⟨some 26,.call Bw [.t 24,.t 25],some (22,true)⟩,
 ⟨some 27,.call Ao [(.t 23),(.t 26),(.c (.i .i64 1))],some (22,true)⟩,
 zo 28 (.pick (.t 22) (.t 27) (.c (.b false))),
 zo 29 (.mv (.t 28)),
 ⟨some 30,.call A6 [(.c (.i .u8 1)),(.c (.i .i64 1)),(.c (.i .i64 0))],some (29,true)⟩,
 ⟨some 31,.ld true 4 (.t 2),some (29,true)⟩,
 ⟨some 32,.call Ao [(.t 30),(.t 31),(.c (.i .i64 0))],some (29,true)⟩,
 zo 33 (.pick (.t 29) (.t 32) (.c (.b false))),
 zo 34 (.mv (.t 33)),
 ⟨some 35,.call A6 [(.c (.i .u8 1)),(.c (.i .i64 2)),(.c (.i .i64 1))],some (34,true)⟩,
 ⟨some 36,.ld true 4 (.t 2),some (34,true)⟩,
 ⟨some 37,.call Ao [(.t 35),(.t 36),(.c (.i .i64 (-1)))],some (34,true)⟩,
 zo 38 (.pick (.t 34) (.t 37) (.c (.b false))),
 zo 39 (.mv (.t 38)),
 ⟨some 40,.call A6 [(.c (.i .u8 1)),(.c (.i .i64 2)),(.c (.i .i64 1))],some (39,true)⟩,
 ⟨some 41,.ld true 4 (.t 1),some (39,true)⟩,
 ⟨some 42,.call Ao [(.t 40),(.t 41),(.c (.i .i64 0))],some (39,true)⟩,
 zo 43 (.pick (.t 39) (.t 42) (.c (.b false))),
 zo 44 (.mv (.t 43)),
 ⟨some 45,.call A6 [(.c (.i .u8 1)),(.c (.i .i64 2)),(.c (.i .i64 0))],some (44,true)⟩,
 ⟨some 46,.ld true 4 (.t 1),some (44,true)⟩,
 ⟨some 47,.call Ao [(.t 45),(.t 46),(.c (.i .i64 (-1)))],some (44,true)⟩,
 zo 48 (.pick (.t 44) (.t 47) (.c (.b false))),
 zo 0 (.mv (.t 48))] [(5,(4,5)),(10,(9,10)),(22,(21,22)),(27,(26,27)),(32,(31,32)),(37,(36,37))])
 .ret)))) }
def Cx:Fun:={ cin:=[(.agg [.id,.id,(.sl 1 .id),(.sl 4 (.agg [.id,.id,(.sl 1 .id),(.sl 4 (.agg [.id,.id,.sl 1 .id,.sl 4 .id]))]))])],cout:=[(.sl 6 (.agg [.id,.id,.sl 1 .id,.sl 1 .id,.id,.id])),.id],ntmps:=9,keep:=false,res:=[(2,none),(3,none)],body :=
 (.seq (.reg [zo 1 (.box 47 4 (.t 0)),
 zo 2 (.mv (.c .nsl)),
 zo 3 (.mv (.c (.i .i64 0)))])
 (.seq (.seq (.reg [zo 4 (.ld true 4 (.t 1)),
 zo 5 (.call Ch [.t 4]),
 zo 6 (.un .not (.t 5))])
 (.cond (.t 6)
 (.seq (.reg [zo 2 (.mv (.c .nsl)),
 zo 3 (.mv (.c (.i .i64 4)))])
 .ret)
 .skip))
 (.seq (.reg [zo 7 (.ld true 4 (.t 1)),
 zo 8 (.callQ false Dk [.c .nsl,.t 7]),
 zo 2 (.mv (.t 8)),
 zo 3 (.mv (.c (.i .i64 0)))])
 .ret))) }
def Aw:Fun:={ cin:=[(.agg [.id,.id,(.sl 1 .id),(.sl 4 (.agg [.id,.id,(.sl 1 .id),(.sl 4 (.agg [.id,.id,.sl 1 .id,.sl 4 .id]))]))])],cout:=[.id],ntmps:=20,keep:=false,res:=[(2,none)],body :=
 (.seq (.reg [zo 1 (.box 47 4 (.t 0)),
 zo 2 (.mv (.c (.b false)))])
 (.seq (.reg [zo 3 (.fa 0 (.t 1)),
 zo 4 (.ld false 1 (.t 3)),
 zo 5 (.bin .eql (.t 4) (.c (.i .u8 2))),
 zo 6 (.mv (.t 5)),
 ⟨some 7,.ld true 4 (.t 1),some (6,true)⟩,
 ⟨some 8,.call CS [.t 7],some (6,true)⟩,
 zo 9 (.pick (.t 6) (.t 8) (.c (.b false))),
 zo 10 (.mv (.t 9)),
 ⟨some 11,.ld true 4 (.t 1),some (10,true)⟩,
 ⟨some 12,.call B9 [.t 11],some (10,true)⟩,
 ⟨some 13,.bin .leq (.t 12) (.c (.i .i64 1024)),some (10,true)⟩,
 zo 14 (.pick (.t 10) (.t 13) (.c (.b false))),
 zo 15 (.mv (.t 14)),
 ⟨some 16,.ld true 4 (.t 1),some (15,true)⟩,
 ⟨some 17,.call CU [.t 16],some (15,true)⟩,
 ⟨some 18,.bin .leq (.t 17) (.c (.i .i64 24)),some (15,true)⟩,
 zo 19 (.pick (.t 15) (.t 18) (.c (.b false))),
 zo 2 (.mv (.t 19))])
 .ret)) }
def Ec:Fun:={ cin:=[(.sl 6 (.agg [.id,.id,.sl 1 .id,.sl 1 .id,.id,.id]))],cout:=[.id],ntmps:=59,keep:=false,res:=[(2,none)],body :=
 (.seq (.reg [zo 2 (.mv (.c (.b false)))])
 (.seq (.seq (.reg [zo 8 (.mv (.t 0)),
 zo 9 (.len 1 (.t 8)),
 zo 10 (.bin .eql (.t 9) (.c (.i .i64 0))),
 zo 11 (.mv (.t 10)),
 ⟨some 12,.mv (.t 0),some (11,false)⟩,
 ⟨some 13,.ia 6 (.t 12) (.c (.i .i64 0)),some (11,false)⟩,
 ⟨some 14,.ld true 6 (.t 13),some (11,false)⟩,
 ⟨some 15,.call Il [.t 14],some (11,false)⟩,
 ⟨some 16,.un .not (.t 15),some (11,false)⟩,
 zo 17 (.pick (.t 11) (.c (.b true)) (.t 16))])
 (.cond (.t 17)
 (.seq (.reg [zo 2 (.mv (.c (.b false)))])
 .ret)
 .skip))
 (.seq (.reg [zo 18 (.mv (.t 0)),
 zo 19 (.len 1 (.t 18)),
 zo 20 (.mks 3 1 [.i .i64 0] (.t 19) (.t 19)),
 zo 3 (.mv (.t 20))])
 (.seq (.seq (.reg [zo 21 (.mv (.t 0)),
 zo 22 (.len 1 (.t 21)),
 zo 23 (.mv (.c (.i .i64 0)))])
 (.blk 0 (.loop (.seq (.reg [zo 24 (.bin .lss (.t 23) (.t 22))])
 (.seq (.cond (.t 24)
 .skip
 (.exit 0))
 (.seq (.blk 1 (.seq (.reg [zo 25 (.mv (.t 23)),
 zo 26 (.ia 6 (.t 21) (.t 23)),
 zo 27 (.ld true 6 (.t 26)),
 zo 5 (.alloc 60 [.b false,.i .u8 0,.nsl,.nsl,.i .i64 0,.i .i64 0]),
 zo 4 (.mv (.t 25)),
 ⟨none,.st 6 (.t 5) (.t 27),none⟩])
 (.seq (.seq (.reg [zo 28 (.ld true 6 (.t 5)),
 zo 29 (.call LG [.t 28]),
 zo 30 (.un .not (.t 29))])
 (.cond (.t 30)
 (.seq (.reg [zo 2 (.mv (.c (.b false)))])
 .ret)
 .skip))
 (.seq (.reg [zo 31 (.fa 3 (.t 5)),
 zo 32 (.ld false 1 (.t 31)),
 zo 33 (.len 1 (.t 32)),
 zo 34 (.mv (.c (.i .i64 0)))])
 (.blk 2 (.loop (.seq (.reg [zo 35 (.bin .lss (.t 34) (.t 33))])
 (.seq (.cond (.t 35)
 .skip
 (.exit 2))
 (.seq (.blk 3 (.seq (.reg [zo 36 (.ia 1 (.t 32) (.t 34)),
 zo 37 (.ld false 1 (.t 36)),
 zo 7 (.mv (.t 37))])
 (.seq (.seq (.reg [zo 38 (.mv (.t 7)),
 zo 39 (.mv (.t 4)),
 zo 40 (.bin .leq (.t 38) (.t 39)),
 zo 41 (.mv (.t 40)),
 ⟨some 42,.mv (.t 7),some (41,false)⟩,
 ⟨some 43,.mv (.t 0),some (41,false)⟩,
 ⟨some 44,.len 1 (.t 43),some (41,false)⟩,
 ⟨some 45,.bin .geq (.t 42) (.t 44),some (41,false)⟩,
 zo 46 (.pick (.t 41) (.c (.b true)) (.t 45))])
 (.cond (.t 46)
 (.seq (.reg [zo 2 (.mv (.c (.b false)))])
 .ret)
 .skip))
 (.seq (.thw 3)
 (.reg [zo 47 (.mv (.t 3)),
 zo 48 (.mv (.t 7)),
 zo 49 (.ia 1 (.t 47) (.t 48)),
 zo 50 (.ld false 1 (.t 49)),
 zo 51 (.bin .add (.t 50) (.c (.i .i64 1))),
 zo 52 (.ia 1 (.t 47) (.t 48)),
 ⟨none,.st 1 (.t 52) (.t 51),none⟩])))))
 (.reg [zo 53 (.bin .add (.t 34) (.c (.i .i64 1))),
 zo 34 (.mv (.t 53))]))))))))))
 (.reg [zo 54 (.bin .add (.t 23) (.c (.i .i64 1))),
 zo 23 (.mv (.t 54))])))))))
 (.seq (.reg [zo 55 (.mv (.t 3)),
 zo 56 (.slc false 1 (.t 55) (some (.c (.i .i64 1))) none none),
 zo 57 (.call B5 [(.t 56),(.c (.fn GU []))]),
 zo 58 (.un .not (.t 57)),
 zo 2 (.mv (.t 58))])
 .ret))))) }
def AN:Fun:={ cin:=[(.agg [.id,.id,(.sl 1 .id),(.sl 4 (.agg [.id,.id,(.sl 1 .id),(.sl 4 (.agg [.id,.id,.sl 1 .id,.sl 4 .id]))]))])],cout:=[(.agg [.id,.id,(.sl 1 .id),(.sl 4 (.agg [.id,.id,(.sl 1 .id),(.sl 4 (.agg [.id,.id,.sl 1 .id,.sl 4 .id]))]))])],ntmps:=41,keep:=false,res:=[(2,some (true,4))],body :=
 (.seq (.reg [zo 1 (.box 47 4 (.t 0)),
 zo 2 (.alloc 47 [(.i .u8 0),(.s []),.nsl,.nsl])])
 (.seq (.reg [zo 5 (.fa 0 (.t 1)),
 zo 6 (.ld false 1 (.t 5)),
 zo 7 (.build [(.i .u8 0),(.s []),.nsl,.nsl] [(0,1,(.t 6))]),
 zo 3 (.alloc 47 [(.i .u8 0),(.s []),.nsl,.nsl]),
 ⟨none,.st 4 (.t 3) (.t 7),none⟩])
 (.seq (.seq (.reg [zo 8 (.fa 0 (.t 1)),
 zo 9 (.ld false 1 (.t 8)),
 zo 10 (.bin .eql (.t 9) (.c (.i .u8 3)))])
 (.cond (.t 10)
 (.reg [zo 11 (.fa 1 (.t 3)),
 ⟨none,.st 1 (.t 11) (.c (.s [120])),none⟩])
 .skip))
 (.seq (.seq (.reg [zo 4 (.mv (.c (.i .i64 0)))])
 (.blk 0 (.loop (.seq (.seq (.reg [zo 12 (.mv (.t 4)),
 zo 13 (.fa 3 (.t 1)),
 zo 14 (.ld false 1 (.t 13)),
 zo 15 (.len 1 (.t 14)),
 zo 16 (.bin .lss (.t 12) (.t 15))])
 (.cond (.t 16)
 .skip
 (.exit 0)))
 (.seq (.blk 1 (.seq (.regD [zo 19 (.fa 2 (.t 3)),
 zo 20 (.ld false 1 (.t 19)),
 zo 21 (.fa 2 (.t 1)),
 zo 22 (.ld false 1 (.t 21)),
 zo 23 (.mv (.t 4)),
 zo 24 (.ia 1 (.t 22) (.t 23)),
 zo 25 (.ld false 1 (.t 24)),
 zo 26 (.bsl 1 [.t 25]),
 zo 27 (.app 1 9 (.t 20) (.t 26)),
 zo 28 (.fa 2 (.t 3)),
 ⟨none,.st 1 (.t 28) (.t 27),none⟩] [])
 (.regD [zo 29 (.fa 3 (.t 3)),
 zo 30 (.ld false 1 (.t 29)),
 zo 31 (.fa 3 (.t 1)),
 zo 32 (.ld false 1 (.t 31)),
 zo 33 (.mv (.t 4)),
 zo 34 (.ia 4 (.t 32) (.t 33)),
 zo 35 (.ld true 4 (.t 34)),
 zo 36 (.callQ false Ar [.t 35]),
 zo 37 (.bsl 4 [.t 36]),
 zo 38 (.app 4 47 (.t 30) (.t 37)),
 zo 39 (.fa 3 (.t 3)),
 ⟨none,.st 1 (.t 39) (.t 38),none⟩] [(1,(1,8))])))
 (.reg [zo 17 (.mv (.t 4)),
 zo 18 (.bin .add (.t 17) (.c (.i .i64 1))),
 zo 4 (.mv (.t 18))]))))))
 (.seq (.reg [zo 40 (.ld true 4 (.t 3)),
 ⟨none,.st 4 (.t 2) (.t 40),none⟩])
 .ret))))) }
def Cj:Fun:={ cin:=[(.agg [.id,.id,(.sl 1 .id),(.sl 4 (.agg [.id,.id,(.sl 1 .id),(.sl 4 (.agg [.id,.id,.sl 1 .id,.sl 4 .id]))]))])],cout:=[.id],ntmps:=20,keep:=false,res:=[(2,none)],body :=
 (.seq (.reg [zo 1 (.box 47 4 (.t 0)),
 zo 2 (.mv (.c (.b false)))])
 (.seq (.reg [zo 3 (.fa 0 (.t 1)),
 zo 4 (.ld false 1 (.t 3)),
 zo 5 (.bin .eql (.t 4) (.c (.i .u8 2))),
 zo 6 (.mv (.t 5)),
 ⟨some 7,.ld true 4 (.t 1),some (6,true)⟩,
 ⟨some 8,.call Eb [.t 7],some (6,true)⟩,
 zo 9 (.pick (.t 6) (.t 8) (.c (.b false))),
 zo 10 (.mv (.t 9)),
 ⟨some 11,.ld true 4 (.t 1),some (10,true)⟩,
 ⟨some 12,.call Es [.t 11],some (10,true)⟩,
 ⟨some 13,.bin .leq (.t 12) (.c (.i .i64 1024)),some (10,true)⟩,
 zo 14 (.pick (.t 10) (.t 13) (.c (.b false))),
 zo 15 (.mv (.t 14)),
 ⟨some 16,.ld true 4 (.t 1),some (15,true)⟩,
 ⟨some 17,.call Et [.t 16],some (15,true)⟩,
 ⟨some 18,.bin .leq (.t 17) (.c (.i .i64 24)),some (15,true)⟩,
 zo 19 (.pick (.t 15) (.t 18) (.c (.b false))),
 zo 2 (.mv (.t 19))])
 .ret)) }
def DM:Fun:={ cin:=[(.sl 6 (.agg [.id,.id,.sl 1 .id,.sl 1 .id,.id,.id])),(.agg [.id,.id,(.sl 1 .id),(.sl 4 (.agg [.id,.id,(.sl 1 .id),(.sl 4 (.agg [.id,.id,.sl 1 .id,.sl 4 .id]))]))]),.id],cout:=[(.agg [.id,.id,(.sl 1 .id),(.sl 4 (.agg [.id,.id,(.sl 1 .id),(.sl 4 (.agg [.id,.id,.sl 1 .id,.sl 4 .id]))]))]),.id],ntmps:=24,keep:=false,res:=[(6,some (true,4)),(7,none)],body :=
 (.seq (.reg [zo 4 (.box 47 4 (.t 1)),
 zo 6 (.alloc 47 [(.i .u8 0),(.s []),.nsl,.nsl]),
 zo 7 (.mv (.c (.b false)))])
 (.seq (.reg [zo 11 (.mv (.t 0)),
 zo 12 (.mv (.t 2)),
 zo 13 (.call Hw [.t 11,.t 12]),
 zo 10 (.mv (.t 13)),
 zo 14 (.ext (.t 10) 0),
 zo 15 (.ext (.t 10) 1),
 zo 8 (.mv (.t 14)),
 zo 9 (.mv (.t 15))])
 (.seq (.seq (.reg [zo 16 (.mv (.t 9)),
 zo 17 (.bin .neq (.t 16) (.c (.i .i64 0)))])
 (.cond (.t 17)
 (.seq (.reg [zo 18 (.build [(.i .u8 0),(.s []),.nsl,.nsl] []),
 ⟨none,.st 4 (.t 6) (.t 18),none⟩,
 zo 7 (.mv (.c (.b false)))])
 .ret)
 .skip))
 (.seq (.reg [zo 19 (.ld true 4 (.t 4)),
 zo 20 (.mv (.t 8)),
 zo 21 (.call JR [.t 19,.t 20]),
 zo 22 (.ext (.t 21) 0),
 zo 23 (.ext (.t 21) 1),
 ⟨none,.st 4 (.t 6) (.t 22),none⟩,
 zo 7 (.mv (.t 23))])
 .ret)))) }
def Bx:Fun:={ cin:=[(.agg [.id,.id,.sl 1 .id,.sl 1 .id,.id,.id]),(.sl 1 .id)],cout:=[.id],ntmps:=29,keep:=false,res:=[(4,none)],body :=
 (.seq (.reg [zo 2 (.box 60 6 (.t 0)),
 zo 4 (.mv (.c (.b false)))])
 (.seq (.seq (.reg [zo 7 (.fa 4 (.t 2)),
 zo 8 (.ld false 1 (.t 7))])
 (.blk 0 (.seq (.reg [zo 10 (.bin .eql (.t 8) (.c (.i .i64 1))),
 zo 9 (.mv (.t 10))])
 (.cond (.t 9)
 (.seq (.reg [zo 11 (.ld true 6 (.t 2)),
 zo 12 (.fa 2 (.t 2)),
 zo 13 (.ld false 1 (.t 12)),
 zo 14 (.len 1 (.t 13)),
 zo 15 (.call DU [.t 11,.t 14]),
 zo 5 (.alloc 88 [.nf]),
 ⟨none,.st 1 (.t 5) (.t 15),none⟩])
 (.seq (.reg [zo 16 (.mv (.t 1)),
 zo 17 (.mkf Co [.t 5]),
 zo 18 (.call A7 [.t 16,.t 17]),
 zo 19 (.un .not (.t 18)),
 zo 4 (.mv (.t 19))])
 .ret))
 (.seq (.reg [zo 21 (.bin .eql (.t 8) (.c (.i .i64 2))),
 zo 20 (.mv (.t 21))])
 (.cond (.t 20)
 (.seq (.reg [zo 22 (.ld true 6 (.t 2)),
 zo 23 (.fa 5 (.t 2)),
 zo 24 (.ld false 1 (.t 23)),
 zo 25 (.call DU [.t 22,.t 24]),
 zo 6 (.alloc 88 [.nf]),
 ⟨none,.st 1 (.t 6) (.t 25),none⟩])
 (.seq (.reg [zo 26 (.mv (.t 1)),
 zo 27 (.mkf Cp [.t 6]),
 zo 28 (.call A7 [.t 26,.t 27]),
 zo 4 (.mv (.t 28))])
 .ret))
 .skip))))))
 (.seq (.reg [zo 4 (.mv (.c (.b true)))])
 .ret))) }
def DN:Fun:={ cin:=[.sl 1 .id,.sl 1 .id],cout:=[(.agg [.id,.id,(.sl 1 .id),(.sl 4 (.agg [.id,.id,(.sl 1 .id),(.sl 4 (.agg [.id,.id,.sl 1 .id,.sl 4 .id]))]))])],ntmps:=34,keep:=false,res:=[(4,some (true,4))],body :=
 (.seq (.reg [zo 4 (.alloc 47 [(.i .u8 0),(.s []),.nsl,.nsl])])
 (.seq (.reg [zo 8 (.mv (.t 0)),
 zo 9 (.build [(.i .u8 0),(.s []),.nsl,.nsl] [(0,1,(.c (.i .u8 2))),(2,1,(.t 8))]),
 zo 5 (.alloc 47 [(.i .u8 0),(.s []),.nsl,.nsl]),
 ⟨none,.st 4 (.t 5) (.t 9),none⟩])
 (.seq (.seq (.reg [zo 6 (.mv (.c (.i .i64 0)))])
 (.blk 0 (.loop (.seq (.seq (.reg [zo 10 (.mv (.t 6)),
 zo 11 (.mv (.t 1)),
 zo 12 (.len 1 (.t 11)),
 zo 13 (.bin .lss (.t 10) (.t 12))])
 (.cond (.t 13)
 .skip
 (.exit 0)))
 (.seq (.blk 1 (.seq (.reg [zo 16 (.mv (.t 1)),
 zo 17 (.mv (.t 6)),
 zo 18 (.ia 1 (.t 16) (.t 17)),
 zo 19 (.ld false 1 (.t 18)),
 zo 20 (.build [(.i .u8 0),(.s []),.nsl,.nsl] [(0,1,(.t 19))]),
 zo 7 (.alloc 47 [(.i .u8 0),(.s []),.nsl,.nsl]),
 ⟨none,.st 4 (.t 7) (.t 20),none⟩])
 (.seq (.seq (.reg [zo 21 (.mv (.t 1)),
 zo 22 (.mv (.t 6)),
 zo 23 (.ia 1 (.t 21) (.t 22)),
 zo 24 (.ld false 1 (.t 23)),
 zo 25 (.bin .eql (.t 24) (.c (.i .u8 3)))])
 (.cond (.t 25)
 (.reg [zo 26 (.fa 1 (.t 7)),
 ⟨none,.st 1 (.t 26) (.c (.s [120])),none⟩])
 .skip))
 (.reg [zo 27 (.fa 3 (.t 5)),
 zo 28 (.ld false 1 (.t 27)),
 zo 29 (.ld true 4 (.t 7)),
 zo 30 (.bsl 4 [.t 29]),
 zo 31 (.app 4 47 (.t 28) (.t 30)),
 zo 32 (.fa 3 (.t 5)),
 ⟨none,.st 1 (.t 32) (.t 31),none⟩]))))
 (.reg [zo 14 (.mv (.t 6)),
 zo 15 (.bin .add (.t 14) (.c (.i .i64 1))),
 zo 6 (.mv (.t 15))]))))))
 (.seq (.reg [zo 33 (.ld true 4 (.t 5)),
 ⟨none,.st 4 (.t 4) (.t 33),none⟩])
 .ret)))) }
def Cy:Fun:={ cin:=[(.sl 6 (.agg [.id,.id,.sl 1 .id,.sl 1 .id,.id,.id])),(.agg [.id,.id,(.sl 1 .id),(.sl 4 (.agg [.id,.id,(.sl 1 .id),(.sl 4 (.agg [.id,.id,.sl 1 .id,.sl 4 .id]))]))]),.id],cout:=[.id],ntmps:=30,keep:=false,res:=[(6,none)],body :=
 (.seq (.reg [zo 4 (.box 47 4 (.t 1)),
 zo 6 (.mv (.c (.b false)))])
 (.seq (.reg [zo 10 (.mv (.t 0)),
 zo 11 (.ld true 4 (.t 4)),
 zo 12 (.call Er [.t 10,.t 11]),
 zo 9 (.mv (.t 12)),
 zo 13 (.ext (.t 9) 0),
 zo 14 (.ext (.t 9) 1),
 zo 7 (.mv (.t 13)),
 zo 8 (.mv (.t 14))])
 (.seq (.reg [zo 15 (.mv (.t 8)),
 zo 16 (.bin .eql (.t 15) (.c (.i .i64 0))),
 zo 17 (.mv (.t 16)),
 ⟨some 18,.mv (.t 7),some (17,true)⟩,
 ⟨some 19,.mv (.t 2),some (17,true)⟩,
 ⟨some 20,.bin .eql (.t 18) (.t 19),some (17,true)⟩,
 zo 21 (.pick (.t 17) (.t 20) (.c (.b false))),
 zo 22 (.mv (.t 21)),
 ⟨some 23,.mv (.t 0),some (22,true)⟩,
 ⟨some 24,.ld true 4 (.t 4),some (22,true)⟩,
 ⟨some 25,.call BG [.t 23,.t 24],some (22,true)⟩,
 ⟨some 26,.mv (.t 2),some (22,true)⟩,
 ⟨some 27,.bin .lss (.t 26) (.c (.i .i64 0)),some (22,true)⟩,
 ⟨some 28,.eq .bool false (.t 25) (.t 27),some (22,true)⟩,
 zo 29 (.pick (.t 22) (.t 28) (.c (.b false))),
 zo 6 (.mv (.t 29))])
 .ret))) }
def JS:Fun:={ cin:=[],cout:=[(.sl 6 (.agg [.id,.id,.sl 1 .id,.sl 1 .id,.id,.id]))],ntmps:=3,keep:=false,res:=[(0,none)],body :=
 (.seq (.reg [zo 0 (.mv (.c .nsl))])
 (.seq (.reg [zo 1 (.build [.b false,.i .u8 0,.nsl,.nsl,.i .i64 0,.i .i64 0] [(0,1,(.c (.b true))),(1,1,(.c (.i .u8 2)))]),
 zo 2 (.bsl 6 [.t 1]),
 zo 0 (.mv (.t 2))])
 .ret)) }
def Cz:Fun:={ cin:=[.id,.id,.id],cout:=[(.sl 6 (.agg [.id,.id,.sl 1 .id,.sl 1 .id,.id,.id]))],ntmps:=15,keep:=false,res:=[(6,none)],body :=
 (.seq (.reg [zo 6 (.mv (.c .nsl))])
 (.seq (.reg [zo 7 (.bsl 1 [(.c (.s [97]))]),
 zo 8 (.bsl 1 [(.c (.i .i64 1))]),
 zo 9 (.mv (.t 1)),
 zo 10 (.mv (.t 2)),
 zo 11 (.build [.b false,.i .u8 0,.nsl,.nsl,.i .i64 0,.i .i64 0] [(0,1,(.c (.b true))),(1,1,(.c (.i .u8 2))),(2,1,(.t 7)),(3,1,(.t 8)),(4,1,(.t 9)),(5,1,(.t 10))]),
 zo 12 (.mv (.t 0)),
 zo 13 (.build [.b false,.i .u8 0,.nsl,.nsl,.i .i64 0,.i .i64 0] [(0,1,(.c (.b true))),(1,1,(.t 12))]),
 zo 14 (.bsl 6 [.t 11,.t 13]),
 zo 6 (.mv (.t 14))])
 .ret)) }
def A3:Fun:={ cin:=[],cout:=[],ntmps:=50,keep:=true,res:=[(4,none)],body :=
 (.seq (.reg [zo 3 (.box 47 4 (.t 1)),
 zo 4 (.mv (.c .nsl))])
 (.seq (.reg [zo 9 (.mv (.t 0)),
 zo 10 (.len 1 (.t 9)),
 zo 5 (.mv (.t 10))])
 (.seq (.regD [zo 11 (.fa 0 (.t 3)),
 zo 12 (.ld false 1 (.t 11)),
 zo 13 (.fa 2 (.t 3)),
 zo 14 (.ld false 1 (.t 13)),
 zo 15 (.callQ false AO [.t 14]),
 zo 16 (.build [.b false,.i .u8 0,.nsl,.nsl,.i .i64 0,.i .i64 0] [(0,1,(.c (.b true))),(1,1,(.t 12)),(2,1,(.t 15))]),
 ⟨none,.mv (.c (.tup [])),none⟩,
 zo 6 (.adp 60 [.b false,.i .u8 0,.nsl,.nsl,.i .i64 0,.i .i64 0] 6 (.t 16))] [(1,(1,5))])
 (.seq (.seq (.reg [zo 17 (.fa 0 (.t 3)),
 zo 18 (.ld false 1 (.t 17)),
 zo 19 (.bin .eql (.t 18) (.c (.i .u8 2)))])
 (.cond (.t 19)
 (.reg [zo 20 (.fa 4 (.t 6)),
 ⟨none,.st 1 (.t 20) (.c (.i .i64 1)),none⟩])
 .skip))
 (.seq (.reg [zo 21 (.mv (.t 0)),
 zo 22 (.ld true 6 (.t 6)),
 zo 23 (.bsl 6 [.t 22]),
 zo 24 (.app 6 60 (.t 21) (.t 23)),
 zo 0 (.mv (.t 24))])
 (.seq (.seq (.reg [zo 25 (.fa 3 (.t 3)),
 zo 26 (.ld false 1 (.t 25)),
 zo 27 (.len 1 (.t 26)),
 zo 28 (.mv (.c (.i .i64 0)))])
 (.blk 0 (.loop (.seq (.reg [zo 29 (.bin .lss (.t 28) (.t 27))])
 (.seq (.cond (.t 29)
 .skip
 (.exit 0))
 (.seq (.blk 1 (.seq (.reg [zo 30 (.ia 4 (.t 26) (.t 28)),
 zo 31 (.ld true 4 (.t 30)),
 zo 8 (.alloc 47 [(.i .u8 0),(.s []),.nsl,.nsl]),
 ⟨none,.st 4 (.t 8) (.t 31),none⟩])
 (.seq (.seq (.thw 0)
 (.reg [zo 32 (.mv (.t 0)),
 zo 33 (.mv (.t 5)),
 zo 34 (.mv (.t 0)),
 zo 35 (.mv (.t 5)),
 zo 36 (.ia 6 (.t 34) (.t 35)),
 zo 37 (.fa 3 (.t 36)),
 zo 38 (.ld false 1 (.t 37)),
 zo 39 (.mv (.t 0)),
 zo 40 (.len 1 (.t 39)),
 zo 41 (.bsl 1 [.t 40]),
 zo 42 (.app 1 3 (.t 38) (.t 41)),
 zo 43 (.ia 6 (.t 32) (.t 33)),
 zo 44 (.fa 3 (.t 43)),
 ⟨none,.st 1 (.t 44) (.t 42),none⟩]))
 (.reg [zo 45 (.mv (.t 0)),
 zo 46 (.ld true 4 (.t 8)),
 zo 47 (.callK Dk [.t 45,.t 46]),
 zo 0 (.mv (.t 47))]))))
 (.reg [zo 48 (.bin .add (.t 28) (.c (.i .i64 1))),
 zo 28 (.mv (.t 48))])))))))
 (.seq (.reg [zo 49 (.mv (.t 0)),
 zo 4 (.mv (.t 49))])
 .ret))))))) }
def AP:Fun:={ cin:=[(.agg [.id,.id,(.sl 1 .id),(.sl 4 (.agg [.id,.id,(.sl 1 .id),(.sl 4 (.agg [.id,.id,.sl 1 .id,.sl 4 .id]))]))])],cout:=[.id],ntmps:=96,keep:=false,res:=[(2,none)],body :=
 (.seq (.reg [zo 1 (.box 47 4 (.t 0)),
 zo 2 (.mv (.c (.b false)))])
 (.seq (.seq (.reg [zo 4 (.fa 0 (.t 1)),
 zo 5 (.ld false 1 (.t 4)),
 zo 6 (.bin .eql (.t 5) (.c (.i .u8 1))),
 zo 7 (.mv (.t 6)),
 ⟨some 8,.fa 0 (.t 1),some (7,false)⟩,
 ⟨some 9,.ld false 1 (.t 8),some (7,false)⟩,
 ⟨some 10,.bin .eql (.t 9) (.c (.i .u8 3)),some (7,false)⟩,
 zo 11 (.pick (.t 7) (.c (.b true)) (.t 10))])
 (.cond (.t 11)
 (.seq (.reg [zo 12 (.fa 2 (.t 1)),
 zo 13 (.ld false 1 (.t 12)),
 zo 14 (.len 1 (.t 13)),
 zo 15 (.bin .eql (.t 14) (.c (.i .i64 0))),
 zo 16 (.mv (.t 15)),
 ⟨some 17,.fa 3 (.t 1),some (16,true)⟩,
 ⟨some 18,.ld false 1 (.t 17),some (16,true)⟩,
 ⟨some 19,.len 1 (.t 18),some (16,true)⟩,
 ⟨some 20,.bin .eql (.t 19) (.c (.i .i64 0)),some (16,true)⟩,
 zo 21 (.pick (.t 16) (.t 20) (.c (.b false))),
 zo 22 (.mv (.t 21)),
 ⟨some 23,.fa 1 (.t 1),some (22,true)⟩,
 ⟨some 24,.ld false 1 (.t 23),some (22,true)⟩,
 ⟨some 25,.call DB [.t 24],some (22,true)⟩,
 zo 26 (.pick (.t 22) (.t 25) (.c (.b false))),
 zo 27 (.mv (.t 26)),
 ⟨some 28,.fa 0 (.t 1),some (27,true)⟩,
 ⟨some 29,.ld false 1 (.t 28),some (27,true)⟩,
 ⟨some 30,.bin .eql (.t 29) (.c (.i .u8 1)),some (27,true)⟩,
 ⟨some 31,.mv (.t 30),some (27,true)⟩,
 ⟨some 32,.fa 1 (.t 1),some (31,false)⟩,
 ⟨some 33,.ld false 1 (.t 32),some (31,false)⟩,
 ⟨some 34,.len 0 (.t 33),some (31,false)⟩,
 ⟨some 35,.bin .gtr (.t 34) (.c (.i .i64 0)),some (31,false)⟩,
 ⟨some 36,.pick (.t 31) (.c (.b true)) (.t 35),some (27,true)⟩,
 zo 37 (.pick (.t 27) (.t 36) (.c (.b false))),
 zo 2 (.mv (.t 37))])
 .ret)
 .skip))
 (.seq (.seq (.reg [zo 38 (.fa 0 (.t 1)),
 zo 39 (.ld false 1 (.t 38)),
 zo 40 (.bin .neq (.t 39) (.c (.i .u8 2))),
 zo 41 (.mv (.t 40)),
 ⟨some 42,.fa 1 (.t 1),some (41,false)⟩,
 ⟨some 43,.ld false 1 (.t 42),some (41,false)⟩,
 ⟨some 44,.bin .neq (.t 43) (.c (.s [])),some (41,false)⟩,
 zo 45 (.pick (.t 41) (.c (.b true)) (.t 44)),
 zo 46 (.mv (.t 45)),
 ⟨some 47,.fa 2 (.t 1),some (46,false)⟩,
 ⟨some 48,.ld false 1 (.t 47),some (46,false)⟩,
 ⟨some 49,.len 1 (.t 48),some (46,false)⟩,
 ⟨some 50,.fa 3 (.t 1),some (46,false)⟩,
 ⟨some 51,.ld false 1 (.t 50),some (46,false)⟩,
 ⟨some 52,.len 1 (.t 51),some (46,false)⟩,
 ⟨some 53,.bin .neq (.t 49) (.t 52),some (46,false)⟩,
 zo 54 (.pick (.t 46) (.c (.b true)) (.t 53))])
 (.cond (.t 54)
 (.seq (.reg [zo 2 (.mv (.c (.b false)))])
 .ret)
 .skip))
 (.seq (.seq (.reg [zo 3 (.mv (.c (.i .i64 0)))])
 (.blk 0 (.loop (.seq (.seq (.reg [zo 55 (.mv (.t 3)),
 zo 56 (.fa 2 (.t 1)),
 zo 57 (.ld false 1 (.t 56)),
 zo 58 (.len 1 (.t 57)),
 zo 59 (.bin .lss (.t 55) (.t 58))])
 (.cond (.t 59)
 .skip
 (.exit 0)))
 (.seq (.blk 1 (.seq (.regD [zo 62 (.fa 2 (.t 1)),
 zo 63 (.ld false 1 (.t 62)),
 zo 64 (.mv (.t 3)),
 zo 65 (.ia 1 (.t 63) (.t 64)),
 zo 66 (.ld false 1 (.t 65)),
 zo 67 (.call DC [.t 66]),
 zo 68 (.un .not (.t 67)),
 zo 69 (.mv (.t 68)),
 ⟨some 70,.mv (.t 3),some (69,false)⟩,
 ⟨some 71,.bin .gtr (.t 70) (.c (.i .i64 0)),some (69,false)⟩,
 ⟨some 72,.mv (.t 71),some (69,false)⟩,
 ⟨some 73,.fa 2 (.t 1),some (72,true)⟩,
 ⟨some 74,.ld false 1 (.t 73),some (72,true)⟩,
 ⟨some 75,.mv (.t 3),some (72,true)⟩,
 ⟨some 76,.ia 1 (.t 74) (.t 75),some (72,true)⟩,
 ⟨some 77,.ld false 1 (.t 76),some (72,true)⟩,
 ⟨some 78,.fa 2 (.t 1),some (72,true)⟩,
 ⟨some 79,.ld false 1 (.t 78),some (72,true)⟩,
 ⟨some 80,.mv (.t 3),some (72,true)⟩,
 ⟨some 81,.bin .sub (.t 80) (.c (.i .i64 1)),some (72,true)⟩,
 ⟨some 82,.ia 1 (.t 79) (.t 81),some (72,true)⟩,
 ⟨some 83,.ld false 1 (.t 82),some (72,true)⟩,
 ⟨some 84,.bin .leq (.t 77) (.t 83),some (72,true)⟩,
 ⟨some 85,.pick (.t 72) (.t 84) (.c (.b false)),some (69,false)⟩,
 zo 86 (.pick (.t 69) (.c (.b true)) (.t 85)),
 zo 87 (.mv (.t 86)),
 ⟨some 88,.fa 3 (.t 1),some (87,false)⟩,
 ⟨some 89,.ld false 1 (.t 88),some (87,false)⟩,
 ⟨some 90,.mv (.t 3),some (87,false)⟩,
 ⟨some 91,.ia 4 (.t 89) (.t 90),some (87,false)⟩,
 ⟨some 92,.ld true 4 (.t 91),some (87,false)⟩,
 ⟨some 93,.call CS [.t 92],some (87,false)⟩,
 ⟨some 94,.un .not (.t 93),some (87,false)⟩,
 zo 95 (.pick (.t 87) (.c (.b true)) (.t 94))] [])
 (.cond (.t 95)
 (.seq (.reg [zo 2 (.mv (.c (.b false)))])
 .ret)
 .skip)))
 (.reg [zo 60 (.mv (.t 3)),
 zo 61 (.bin .add (.t 60) (.c (.i .i64 1))),
 zo 3 (.mv (.t 61))]))))))
 (.seq (.reg [zo 2 (.mv (.c (.b true)))])
 .ret))))) }
def BM:Fun:={ cin:=[(.agg [.id,.id,(.sl 1 .id),(.sl 4 (.agg [.id,.id,(.sl 1 .id),(.sl 4 (.agg [.id,.id,.sl 1 .id,.sl 4 .id]))]))])],cout:=[.id],ntmps:=21,keep:=false,res:=[(2,none)],body :=
 (.seq (.reg [zo 1 (.box 47 4 (.t 0)),
 zo 2 (.mv (.c (.i .i64 0)))])
 (.seq (.reg [zo 3 (.mv (.c (.i .i64 1)))])
 (.seq (.seq (.reg [zo 4 (.mv (.c (.i .i64 0)))])
 (.blk 0 (.loop (.seq (.seq (.reg [zo 5 (.mv (.t 4)),
 zo 6 (.fa 3 (.t 1)),
 zo 7 (.ld false 1 (.t 6)),
 zo 8 (.len 1 (.t 7)),
 zo 9 (.bin .lss (.t 5) (.t 8))])
 (.cond (.t 9)
 .skip
 (.exit 0)))
 (.seq (.blk 1 (.reg [zo 12 (.mv (.t 3)),
 zo 13 (.fa 3 (.t 1)),
 zo 14 (.ld false 1 (.t 13)),
 zo 15 (.mv (.t 4)),
 zo 16 (.ia 4 (.t 14) (.t 15)),
 zo 17 (.ld true 4 (.t 16)),
 zo 18 (.call B9 [.t 17]),
 zo 19 (.bin .add (.t 12) (.t 18)),
 zo 3 (.mv (.t 19))]))
 (.reg [zo 10 (.mv (.t 4)),
 zo 11 (.bin .add (.t 10) (.c (.i .i64 1))),
 zo 4 (.mv (.t 11))]))))))
 (.seq (.reg [zo 20 (.mv (.t 3)),
 zo 2 (.mv (.t 20))])
 .ret)))) }
def BP:Fun:={ cin:=[(.agg [.id,.id,(.sl 1 .id),(.sl 4 (.agg [.id,.id,(.sl 1 .id),(.sl 4 (.agg [.id,.id,.sl 1 .id,.sl 4 .id]))]))])],cout:=[.id],ntmps:=22,keep:=false,res:=[(2,none)],body :=
 (.seq (.reg [zo 1 (.box 47 4 (.t 0)),
 zo 2 (.mv (.c (.i .i64 0)))])
 (.seq (.reg [zo 3 (.mv (.c (.i .i64 0)))])
 (.seq (.seq (.reg [zo 4 (.mv (.c (.i .i64 0)))])
 (.blk 0 (.loop (.seq (.seq (.reg [zo 5 (.mv (.t 4)),
 zo 6 (.fa 3 (.t 1)),
 zo 7 (.ld false 1 (.t 6)),
 zo 8 (.len 1 (.t 7)),
 zo 9 (.bin .lss (.t 5) (.t 8))])
 (.cond (.t 9)
 .skip
 (.exit 0)))
 (.seq (.blk 1 (.reg [zo 12 (.mv (.t 3)),
 zo 13 (.fa 3 (.t 1)),
 zo 14 (.ld false 1 (.t 13)),
 zo 15 (.mv (.t 4)),
 zo 16 (.ia 4 (.t 14) (.t 15)),
 zo 17 (.ld true 4 (.t 16)),
 zo 18 (.call CU [.t 17]),
 zo 19 (.bin .add (.t 18) (.c (.i .i64 1))),
 zo 20 (.mm true (.t 12) (.t 19)),
 zo 3 (.mv (.t 20))]))
 (.reg [zo 10 (.mv (.t 4)),
 zo 11 (.bin .add (.t 10) (.c (.i .i64 1))),
 zo 4 (.mv (.t 11))]))))))
 (.seq (.reg [zo 21 (.mv (.t 3)),
 zo 2 (.mv (.t 21))])
 .ret)))) }
def FL:Fun:={ cin:=[(.agg [.id,.id,.sl 1 .id,.sl 1 .id,.id,.id])],cout:=[.id],ntmps:=10,keep:=false,res:=[(2,none)],body :=
 (.seq (.reg [zo 1 (.box 60 6 (.t 0)),
 zo 2 (.mv (.c (.b false)))])
 (.seq (.reg [zo 3 (.fa 0 (.t 1)),
 zo 4 (.ld false 1 (.t 3)),
 zo 5 (.mv (.t 4)),
 ⟨some 6,.fa 1 (.t 1),some (5,true)⟩,
 ⟨some 7,.ld false 1 (.t 6),some (5,true)⟩,
 ⟨some 8,.bin .eql (.t 7) (.c (.i .u8 2)),some (5,true)⟩,
 zo 9 (.pick (.t 5) (.t 8) (.c (.b false))),
 zo 2 (.mv (.t 9))])
 .ret)) }
def Cr:Fun:={ cin:=[(.agg [.id,.id,.sl 1 .id,.sl 1 .id,.id,.id])],cout:=[.id],ntmps:=99,keep:=false,res:=[(2,none)],body :=
 (.seq (.reg [zo 1 (.box 60 6 (.t 0)),
 zo 2 (.mv (.c (.b false)))])
 (.seq (.blk 0 (.seq (.reg [zo 6 (.fa 1 (.t 1)),
 zo 7 (.ld false 1 (.t 6)),
 zo 8 (.bin .gtr (.t 7) (.c (.i .u8 3))),
 zo 9 (.mv (.t 8)),
 ⟨some 10,.fa 0 (.t 1),some (9,false)⟩,
 ⟨some 11,.ld false 1 (.t 10),some (9,false)⟩,
 ⟨some 12,.un .not (.t 11),some (9,false)⟩,
 ⟨some 13,.mv (.t 12),some (9,false)⟩,
 ⟨some 14,.fa 1 (.t 1),some (13,true)⟩,
 ⟨some 15,.ld false 1 (.t 14),some (13,true)⟩,
 ⟨some 16,.bin .neq (.t 15) (.c (.i .u8 0)),some (13,true)⟩,
 ⟨some 17,.pick (.t 13) (.t 16) (.c (.b false)),some (9,false)⟩,
 zo 18 (.pick (.t 9) (.c (.b true)) (.t 17)),
 zo 19 (.mv (.t 18)),
 ⟨some 20,.fa 2 (.t 1),some (19,false)⟩,
 ⟨some 21,.ld false 1 (.t 20),some (19,false)⟩,
 ⟨some 22,.len 1 (.t 21),some (19,false)⟩,
 ⟨some 23,.fa 3 (.t 1),some (19,false)⟩,
 ⟨some 24,.ld false 1 (.t 23),some (19,false)⟩,
 ⟨some 25,.len 1 (.t 24),some (19,false)⟩,
 ⟨some 26,.bin .neq (.t 22) (.t 25),some (19,false)⟩,
 zo 27 (.pick (.t 19) (.c (.b true)) (.t 26)),
 zo 5 (.mv (.t 27))])
 (.cond (.t 5)
 (.seq (.reg [zo 2 (.mv (.c (.b false)))])
 .ret)
 (.seq (.reg [zo 29 (.ld true 6 (.t 1)),
 zo 30 (.call Il [.t 29]),
 zo 31 (.un .not (.t 30)),
 zo 28 (.mv (.t 31))])
 (.cond (.t 28)
 (.seq (.reg [zo 32 (.fa 2 (.t 1)),
 zo 33 (.ld false 1 (.t 32)),
 zo 34 (.len 1 (.t 33)),
 zo 35 (.bin .eql (.t 34) (.c (.i .i64 0))),
 zo 36 (.mv (.t 35)),
 ⟨some 37,.fa 4 (.t 1),some (36,true)⟩,
 ⟨some 38,.ld false 1 (.t 37),some (36,true)⟩,
 ⟨some 39,.bin .eql (.t 38) (.c (.i .i64 0)),some (36,true)⟩,
 zo 40 (.pick (.t 36) (.t 39) (.c (.b false))),
 zo 41 (.mv (.t 40)),
 ⟨some 42,.fa 5 (.t 1),some (41,true)⟩,
 ⟨some 43,.ld false 1 (.t 42),some (41,true)⟩,
 ⟨some 44,.bin .eql (.t 43) (.c (.i .i64 0)),some (41,true)⟩,
 zo 45 (.pick (.t 41) (.t 44) (.c (.b false))),
 zo 2 (.mv (.t 45))])
 .ret)
 .skip)))))
 (.seq (.seq (.reg [zo 46 (.fa 2 (.t 1)),
 zo 47 (.ld false 1 (.t 46)),
 zo 48 (.len 1 (.t 47)),
 zo 49 (.mv (.c (.i .i64 0)))])
 (.blk 1 (.loop (.seq (.reg [zo 50 (.bin .lss (.t 49) (.t 48))])
 (.seq (.cond (.t 50)
 .skip
 (.exit 1))
 (.seq (.blk 2 (.seq (.reg [zo 51 (.mv (.t 49)),
 zo 52 (.ia 1 (.t 47) (.t 49)),
 zo 53 (.ld false 1 (.t 52)),
 zo 3 (.mv (.t 51)),
 zo 4 (.mv (.t 53))])
 (.seq (.reg [zo 54 (.mv (.t 4)),
 zo 55 (.call GV [.t 54]),
 zo 56 (.un .not (.t 55)),
 zo 57 (.mv (.t 56)),
 ⟨some 58,.mv (.t 3),some (57,false)⟩,
 ⟨some 59,.bin .gtr (.t 58) (.c (.i .i64 0)),some (57,false)⟩,
 ⟨some 60,.mv (.t 59),some (57,false)⟩,
 ⟨some 61,.mv (.t 4),some (60,true)⟩,
 ⟨some 62,.fa 2 (.t 1),some (60,true)⟩,
 ⟨some 63,.ld false 1 (.t 62),some (60,true)⟩,
 ⟨some 64,.mv (.t 3),some (60,true)⟩,
 ⟨some 65,.bin .sub (.t 64) (.c (.i .i64 1)),some (60,true)⟩,
 ⟨some 66,.ia 1 (.t 63) (.t 65),some (60,true)⟩,
 ⟨some 67,.ld false 1 (.t 66),some (60,true)⟩,
 ⟨some 68,.bin .leq (.t 61) (.t 67),some (60,true)⟩,
 ⟨some 69,.pick (.t 60) (.t 68) (.c (.b false)),some (57,false)⟩,
 zo 70 (.pick (.t 57) (.c (.b true)) (.t 69))])
 (.cond (.t 70)
 (.seq (.reg [zo 2 (.mv (.c (.b false)))])
 .ret)
 .skip))))
 (.reg [zo 71 (.bin .add (.t 49) (.c (.i .i64 1))),
 zo 49 (.mv (.t 71))])))))))
 (.seq (.seq (.reg [zo 72 (.fa 4 (.t 1)),
 zo 73 (.ld false 1 (.t 72)),
 zo 74 (.bin .eql (.t 73) (.c (.i .i64 2)))])
 (.cond (.t 74)
 (.seq (.reg [zo 75 (.fa 5 (.t 1)),
 zo 76 (.ld false 1 (.t 75)),
 zo 77 (.bin .geq (.t 76) (.c (.i .i64 0))),
 zo 78 (.mv (.t 77)),
 ⟨some 79,.fa 5 (.t 1),some (78,true)⟩,
 ⟨some 80,.ld false 1 (.t 79),some (78,true)⟩,
 ⟨some 81,.fa 2 (.t 1),some (78,true)⟩,
 ⟨some 82,.ld false 1 (.t 81),some (78,true)⟩,
 ⟨some 83,.len 1 (.t 82),some (78,true)⟩,
 ⟨some 84,.bin .leq (.t 80) (.t 83),some (78,true)⟩,
 zo 85 (.pick (.t 78) (.t 84) (.c (.b false))),
 zo 2 (.mv (.t 85))])
 .ret)
 .skip))
 (.seq (.reg [zo 86 (.fa 4 (.t 1)),
 zo 87 (.ld false 1 (.t 86)),
 zo 88 (.bin .eql (.t 87) (.c (.i .i64 0))),
 zo 89 (.mv (.t 88)),
 ⟨some 90,.fa 4 (.t 1),some (89,false)⟩,
 ⟨some 91,.ld false 1 (.t 90),some (89,false)⟩,
 ⟨some 92,.bin .eql (.t 91) (.c (.i .i64 1)),some (89,false)⟩,
 zo 93 (.pick (.t 89) (.c (.b true)) (.t 92)),
 zo 94 (.mv (.t 93)),
 ⟨some 95,.fa 5 (.t 1),some (94,true)⟩,
 ⟨some 96,.ld false 1 (.t 95),some (94,true)⟩,
 ⟨some 97,.bin .eql (.t 96) (.c (.i .i64 0)),some (94,true)⟩,
 zo 98 (.pick (.t 94) (.t 97) (.c (.b false))),
 zo 2 (.mv (.t 98))])
 .ret))))) }
def Au:Fun:={ cin:=[.sl 1 .id,.id],cout:=[.id],ntmps:=9,keep:=false,res:=[(4,none)],body :=
 (.seq (.reg [zo 4 (.mv (.c (.b false)))])
 (.seq (.reg [zo 5 (.mv (.t 0)),
 zo 6 (.mv (.t 1)),
 zo 7 (.call CY [.t 5,.t 6]),
 zo 8 (.bin .geq (.t 7) (.c (.i .i64 0))),
 zo 4 (.mv (.t 8))])
 .ret)) }
def GX:Fun:={ cin:=[.id],cout:=[.id],ntmps:=5,keep:=false,res:=[(2,none)],body :=
 (.seq (.reg [zo 2 (.mv (.c (.b false)))])
 (.seq (.reg [zo 3 (.mv (.t 0)),
 zo 4 (.bin .neq (.t 3) (.c (.i .i64 1))),
 zo 2 (.mv (.t 4))])
 .ret)) }
def Ay:Fun:={ cin:=[(.agg [.id,.id,(.sl 1 .id),(.sl 4 (.agg [.id,.id,(.sl 1 .id),(.sl 4 (.agg [.id,.id,.sl 1 .id,.sl 4 .id]))]))])],cout:=[.id],ntmps:=89,keep:=false,res:=[(2,none)],body :=
 (.seq (.reg [zo 1 (.box 47 4 (.t 0)),
 zo 2 (.mv (.c (.b false)))])
 (.seq (.seq (.reg [zo 5 (.fa 0 (.t 1)),
 zo 6 (.ld false 1 (.t 5))])
 (.blk 0 (.seq (.seq (.reg [zo 8 (.bin .eql (.t 6) (.c (.i .u8 1))),
 zo 7 (.mv (.t 8))])
 (.cond (.t 7)
 .skip
 (.reg [zo 9 (.bin .eql (.t 6) (.c (.i .u8 3))),
 zo 7 (.mv (.t 9))])))
 (.cond (.t 7)
 (.seq (.reg [zo 10 (.fa 2 (.t 1)),
 zo 11 (.ld false 1 (.t 10)),
 zo 12 (.len 1 (.t 11)),
 zo 13 (.fa 3 (.t 1)),
 zo 14 (.ld false 1 (.t 13)),
 zo 15 (.len 1 (.t 14)),
 zo 16 (.bin .add (.t 12) (.t 15)),
 zo 17 (.bin .eql (.t 16) (.c (.i .i64 0))),
 zo 18 (.mv (.t 17)),
 ⟨some 19,.fa 1 (.t 1),some (18,true)⟩,
 ⟨some 20,.ld false 1 (.t 19),some (18,true)⟩,
 ⟨some 21,.len 0 (.t 20),some (18,true)⟩,
 ⟨some 22,.bin .leq (.t 21) (.c (.i .i64 256)),some (18,true)⟩,
 zo 23 (.pick (.t 18) (.t 22) (.c (.b false))),
 zo 24 (.mv (.t 23)),
 ⟨some 25,.fa 1 (.t 1),some (24,true)⟩,
 ⟨some 26,.ld false 1 (.t 25),some (24,true)⟩,
 ⟨some 27,.call Br [(.t 26),(.c (.i .u8 0))],some (24,true)⟩,
 ⟨some 28,.bin .lss (.t 27) (.c (.i .i64 0)),some (24,true)⟩,
 zo 29 (.pick (.t 24) (.t 28) (.c (.b false))),
 zo 30 (.mv (.t 29)),
 ⟨some 31,.fa 0 (.t 1),some (30,true)⟩,
 ⟨some 32,.ld false 1 (.t 31),some (30,true)⟩,
 ⟨some 33,.bin .eql (.t 32) (.c (.i .u8 1)),some (30,true)⟩,
 ⟨some 34,.mv (.t 33),some (30,true)⟩,
 ⟨some 35,.fa 1 (.t 1),some (34,false)⟩,
 ⟨some 36,.ld false 1 (.t 35),some (34,false)⟩,
 ⟨some 37,.bin .neq (.t 36) (.c (.s [])),some (34,false)⟩,
 ⟨some 38,.pick (.t 34) (.c (.b true)) (.t 37),some (30,true)⟩,
 zo 39 (.pick (.t 30) (.t 38) (.c (.b false))),
 zo 2 (.mv (.t 39))])
 .ret)
 (.seq (.reg [zo 41 (.bin .eql (.t 6) (.c (.i .u8 2))),
 zo 40 (.mv (.t 41))])
 (.cond (.t 40)
 (.seq (.seq (.reg [zo 42 (.fa 1 (.t 1)),
 zo 43 (.ld false 1 (.t 42)),
 zo 44 (.bin .neq (.t 43) (.c (.s []))),
 zo 45 (.mv (.t 44)),
 ⟨some 46,.fa 2 (.t 1),some (45,false)⟩,
 ⟨some 47,.ld false 1 (.t 46),some (45,false)⟩,
 ⟨some 48,.len 1 (.t 47),some (45,false)⟩,
 ⟨some 49,.fa 3 (.t 1),some (45,false)⟩,
 ⟨some 50,.ld false 1 (.t 49),some (45,false)⟩,
 ⟨some 51,.len 1 (.t 50),some (45,false)⟩,
 ⟨some 52,.bin .neq (.t 48) (.t 51),some (45,false)⟩,
 zo 53 (.pick (.t 45) (.c (.b true)) (.t 52))])
 (.cond (.t 53)
 (.seq (.reg [zo 2 (.mv (.c (.b false)))])
 .ret)
 .skip))
 (.seq (.seq (.reg [zo 54 (.fa 2 (.t 1)),
 zo 55 (.ld false 1 (.t 54)),
 zo 56 (.len 1 (.t 55)),
 zo 57 (.mv (.c (.i .i64 0)))])
 (.blk 1 (.loop (.seq (.reg [zo 58 (.bin .lss (.t 57) (.t 56))])
 (.seq (.cond (.t 58)
 .skip
 (.exit 1))
 (.seq (.blk 2 (.seq (.reg [zo 59 (.mv (.t 57)),
 zo 60 (.ia 1 (.t 55) (.t 57)),
 zo 61 (.ld false 1 (.t 60)),
 zo 3 (.mv (.t 59)),
 zo 4 (.mv (.t 61))])
 (.seq (.reg [zo 62 (.mv (.t 4)),
 zo 63 (.call GV [.t 62]),
 zo 64 (.un .not (.t 63)),
 zo 65 (.mv (.t 64)),
 ⟨some 66,.mv (.t 3),some (65,false)⟩,
 ⟨some 67,.bin .gtr (.t 66) (.c (.i .i64 0)),some (65,false)⟩,
 ⟨some 68,.mv (.t 67),some (65,false)⟩,
 ⟨some 69,.mv (.t 4),some (68,true)⟩,
 ⟨some 70,.fa 2 (.t 1),some (68,true)⟩,
 ⟨some 71,.ld false 1 (.t 70),some (68,true)⟩,
 ⟨some 72,.mv (.t 3),some (68,true)⟩,
 ⟨some 73,.bin .sub (.t 72) (.c (.i .i64 1)),some (68,true)⟩,
 ⟨some 74,.ia 1 (.t 71) (.t 73),some (68,true)⟩,
 ⟨some 75,.ld false 1 (.t 74),some (68,true)⟩,
 ⟨some 76,.bin .leq (.t 69) (.t 75),some (68,true)⟩,
 ⟨some 77,.pick (.t 68) (.t 76) (.c (.b false)),some (65,false)⟩,
 zo 78 (.pick (.t 65) (.c (.b true)) (.t 77)),
 zo 79 (.mv (.t 78)),
 ⟨some 80,.fa 3 (.t 1),some (79,false)⟩,
 ⟨some 81,.ld false 1 (.t 80),some (79,false)⟩,
 ⟨some 82,.mv (.t 3),some (79,false)⟩,
 ⟨some 83,.ia 4 (.t 81) (.t 82),some (79,false)⟩,
 ⟨some 84,.ld true 4 (.t 83),some (79,false)⟩,
 ⟨some 85,.call Eb [.t 84],some (79,false)⟩,
 ⟨some 86,.un .not (.t 85),some (79,false)⟩,
 zo 87 (.pick (.t 79) (.c (.b true)) (.t 86))])
 (.cond (.t 87)
 (.seq (.reg [zo 2 (.mv (.c (.b false)))])
 .ret)
 .skip))))
 (.reg [zo 88 (.bin .add (.t 57) (.c (.i .i64 1))),
 zo 57 (.mv (.t 88))])))))))
 (.seq (.reg [zo 2 (.mv (.c (.b true)))])
 .ret)))
 .skip))))))
 (.seq (.reg [zo 2 (.mv (.c (.b false)))])
 .ret))) }
def DV:Fun:={ cin:=[(.agg [.id,.id,(.sl 1 .id),(.sl 4 (.agg [.id,.id,(.sl 1 .id),(.sl 4 (.agg [.id,.id,.sl 1 .id,.sl 4 .id]))]))])],cout:=[.id],ntmps:=19,keep:=false,res:=[(2,none)],body :=
 (.seq (.reg [zo 1 (.box 47 4 (.t 0)),
 zo 2 (.mv (.c (.i .i64 0)))])
 (.seq (.reg [zo 3 (.mv (.c (.i .i64 1)))])
 (.seq (.seq (.reg [zo 6 (.fa 3 (.t 1)),
 zo 7 (.ld false 1 (.t 6)),
 zo 8 (.len 1 (.t 7)),
 zo 9 (.mv (.c (.i .i64 0)))])
 (.blk 0 (.loop (.seq (.reg [zo 10 (.bin .lss (.t 9) (.t 8))])
 (.seq (.cond (.t 10)
 .skip
 (.exit 0))
 (.seq (.blk 1 (.seq (.reg [zo 11 (.ia 4 (.t 7) (.t 9)),
 zo 12 (.ld true 4 (.t 11)),
 zo 5 (.alloc 47 [(.i .u8 0),(.s []),.nsl,.nsl]),
 ⟨none,.st 4 (.t 5) (.t 12),none⟩])
 (.reg [zo 13 (.mv (.t 3)),
 zo 14 (.ld true 4 (.t 5)),
 zo 15 (.call Es [.t 14]),
 zo 16 (.bin .add (.t 13) (.t 15)),
 zo 3 (.mv (.t 16))])))
 (.reg [zo 17 (.bin .add (.t 9) (.c (.i .i64 1))),
 zo 9 (.mv (.t 17))])))))))
 (.seq (.reg [zo 18 (.mv (.t 3)),
 zo 2 (.mv (.t 18))])
 .ret)))) }
def DW:Fun:={ cin:=[(.agg [.id,.id,(.sl 1 .id),(.sl 4 (.agg [.id,.id,(.sl 1 .id),(.sl 4 (.agg [.id,.id,.sl 1 .id,.sl 4 .id]))]))])],cout:=[.id],ntmps:=20,keep:=false,res:=[(2,none)],body :=
 (.seq (.reg [zo 1 (.box 47 4 (.t 0)),
 zo 2 (.mv (.c (.i .i64 0)))])
 (.seq (.reg [zo 3 (.mv (.c (.i .i64 0)))])
 (.seq (.seq (.reg [zo 6 (.fa 3 (.t 1)),
 zo 7 (.ld false 1 (.t 6)),
 zo 8 (.len 1 (.t 7)),
 zo 9 (.mv (.c (.i .i64 0)))])
 (.blk 0 (.loop (.seq (.reg [zo 10 (.bin .lss (.t 9) (.t 8))])
 (.seq (.cond (.t 10)
 .skip
 (.exit 0))
 (.seq (.blk 1 (.seq (.reg [zo 11 (.ia 4 (.t 7) (.t 9)),
 zo 12 (.ld true 4 (.t 11)),
 zo 5 (.alloc 47 [(.i .u8 0),(.s []),.nsl,.nsl]),
 ⟨none,.st 4 (.t 5) (.t 12),none⟩])
 (.reg [zo 13 (.mv (.t 3)),
 zo 14 (.ld true 4 (.t 5)),
 zo 15 (.call Et [.t 14]),
 zo 16 (.bin .add (.c (.i .i64 1)) (.t 15)),
 zo 17 (.mm true (.t 13) (.t 16)),
 zo 3 (.mv (.t 17))])))
 (.reg [zo 18 (.bin .add (.t 9) (.c (.i .i64 1))),
 zo 9 (.mv (.t 18))])))))))
 (.seq (.reg [zo 19 (.mv (.t 3)),
 zo 2 (.mv (.t 19))])
 .ret)))) }
def Bg:Fun:={ cin:=[(.sl 6 (.agg [.id,.id,.sl 1 .id,.sl 1 .id,.id,.id])),.id],cout:=[.sl 1 .id,.id],ntmps:=31,keep:=false,res:=[(4,some (false,1)),(5,some (false,1))],body :=
 (.seq (.reg [zo 3 (.box 3 1 (.t 1)),
 zo 4 (.alloc 44 [.nsl]),
 zo 5 (.alloc 26 [.i .i64 0])])
 (.seq (.blk 0 (.seq (.reg [zo 8 (.mv (.t 0)),
 zo 9 (.call DK [.t 8]),
 zo 10 (.un .not (.t 9)),
 zo 7 (.mv (.t 10))])
 (.cond (.t 7)
 (.seq (.reg [⟨none,.st 1 (.t 4) (.c .nsl),none⟩,
 ⟨none,.st 1 (.t 5) (.c (.i .i64 4)),none⟩])
 .ret)
 (.seq (.reg [zo 12 (.ld false 1 (.t 3)),
 zo 13 (.bin .lss (.t 12) (.c (.i .i64 0))),
 zo 14 (.mv (.t 13)),
 ⟨some 15,.ld false 1 (.t 3),some (14,false)⟩,
 ⟨some 16,.mv (.t 0),some (14,false)⟩,
 ⟨some 17,.len 1 (.t 16),some (14,false)⟩,
 ⟨some 18,.bin .geq (.t 15) (.t 17),some (14,false)⟩,
 zo 19 (.pick (.t 14) (.c (.b true)) (.t 18)),
 zo 11 (.mv (.t 19))])
 (.cond (.t 11)
 (.seq (.reg [⟨none,.st 1 (.t 4) (.c .nsl),none⟩,
 ⟨none,.st 1 (.t 5) (.c (.i .i64 1)),none⟩])
 .ret)
 .skip)))))
 (.seq (.seq (.reg [zo 20 (.mv (.t 0)),
 zo 21 (.build [.i .i64 0,.nsl] []),
 zo 22 (.call EM [.t 20,.t 21])])
 (.blk 1 (.rf (.t 22) [23] (.reg [zo 6 (.alloc 107 [.i .i64 0,.nsl]),
 ⟨none,.st 2 (.t 6) (.t 23),none⟩])
 (.blk 2 (.seq (.reg [zo 24 (.fa 0 (.t 6)),
 zo 25 (.ld false 1 (.t 24)),
 zo 26 (.ld false 1 (.t 3)),
 zo 27 (.bin .eql (.t 25) (.t 26))])
 (.cond (.t 27)
 (.seq (.reg [zo 28 (.fa 1 (.t 6)),
 zo 29 (.ld false 1 (.t 28)),
 zo 30 (.call AO [.t 29]),
 ⟨none,.st 1 (.t 4) (.t 30),none⟩,
 ⟨none,.st 1 (.t 5) (.c (.i .i64 0)),none⟩])
 .ret)
 .skip))))))
 (.seq (.reg [⟨none,.st 1 (.t 4) (.c .nsl),none⟩,
 ⟨none,.st 1 (.t 5) (.c (.i .i64 1)),none⟩])
 .ret)))) }
def E7:Fun:={ cin:=[(.agg [.id,.id,(.sl 1 .id),(.sl 4 (.agg [.id,.id,(.sl 1 .id),(.sl 4 (.agg [.id,.id,.sl 1 .id,.sl 4 .id]))]))]),(.sl 1 .id)],cout:=[(.agg [.id,.id,(.sl 1 .id),(.sl 4 (.agg [.id,.id,(.sl 1 .id),(.sl 4 (.agg [.id,.id,.sl 1 .id,.sl 4 .id]))]))]),.id],ntmps:=21,keep:=false,res:=[(4,some (true,4)),(5,none)],body :=
 (.seq (.reg [zo 2 (.box 47 4 (.t 0)),
 zo 4 (.alloc 47 [(.i .u8 0),(.s []),.nsl,.nsl]),
 zo 5 (.mv (.c (.b false)))])
 (.seq (.seq (.reg [zo 8 (.ld true 4 (.t 2)),
 zo 9 (.call Eb [.t 8]),
 zo 10 (.un .not (.t 9))])
 (.cond (.t 10)
 (.seq (.reg [zo 11 (.build [(.i .u8 0),(.s []),.nsl,.nsl] []),
 ⟨none,.st 4 (.t 4) (.t 11),none⟩,
 zo 5 (.mv (.c (.b false)))])
 .ret)
 .skip))
 (.seq (.reg [zo 13 (.ld true 4 (.t 2)),
 zo 14 (.mv (.t 1)),
 zo 15 (.call HF [.t 13,.t 14]),
 zo 12 (.mv (.t 15)),
 zo 16 (.ext (.t 12) 0),
 zo 17 (.ext (.t 12) 1),
 zo 6 (.alloc 47 [(.i .u8 0),(.s []),.nsl,.nsl]),
 ⟨none,.st 4 (.t 6) (.t 16),none⟩,
 zo 7 (.mv (.t 17))])
 (.seq (.reg [zo 18 (.ld true 4 (.t 6)),
 zo 19 (.call GW [.t 18]),
 zo 20 (.mv (.t 7)),
 ⟨none,.st 4 (.t 4) (.t 19),none⟩,
 zo 5 (.mv (.t 20))])
 .ret)))) }
def DX:Fun:={ cin:=[(.agg [.id,.id,.sl 1 .id,.sl 1 .id,.id,.id]),.id],cout:=[.id],ntmps:=13,keep:=false,res:=[(4,none)],body :=
 (.seq (.reg [zo 2 (.box 60 6 (.t 0)),
 zo 4 (.mv (.c .nf))])
 (.seq (.reg [zo 6 (.fa 3 (.t 2)),
 zo 7 (.ld false 1 (.t 6)),
 zo 8 (.call CA [.t 7]),
 zo 9 (.call Dl [.t 8]),
 zo 10 (.mv (.t 1)),
 zo 11 (.slc false 1 (.t 9) none (some (.t 10)) none),
 zo 5 (.alloc 37 [.nsl]),
 ⟨none,.st 1 (.t 5) (.t 11),none⟩])
 (.seq (.reg [zo 12 (.mkf Aq [.t 2,.t 5]),
 zo 4 (.mv (.t 12))])
 .ret))) }
def Ab:Fun:={ cin:=[.sl 1 .id,.id],cout:=[.id],ntmps:=9,keep:=false,res:=[(4,none)],body :=
 (.seq (.reg [zo 4 (.mv (.c (.b false)))])
 (.seq (.reg [zo 5 (.mv (.t 0)),
 zo 6 (.mv (.t 1)),
 zo 7 (.call Bm [.t 5,.t 6]),
 zo 8 (.bin .geq (.t 7) (.c (.i .i64 0))),
 zo 4 (.mv (.t 8))])
 .ret)) }
def CI:Fun:={ cin:=[.id],cout:=[.id],ntmps:=8,keep:=false,res:=[(3,none)],body :=
 (.seq (.reg [zo 3 (.mv (.c (.b false)))])
 (.seq (.reg [zo 4 (.ld false 1 (.t 1)),
 zo 5 (.mv (.t 0)),
 zo 6 (.callX (.t 4) [.t 5]),
 zo 7 (.un .not (.t 6)),
 zo 3 (.mv (.t 7))])
 .ret)) }
def CJ:Fun:={ cin:=[.id],cout:=[.id],ntmps:=8,keep:=false,res:=[(3,none)],body :=
 (.seq (.reg [zo 3 (.mv (.c (.b false)))])
 (.seq (.reg [zo 4 (.ld false 1 (.t 1)),
 zo 5 (.mv (.t 0)),
 zo 6 (.callX (.t 4) [.t 5]),
 zo 7 (.un .not (.t 6)),
 zo 3 (.mv (.t 7))])
 .ret)) }
def AG:Fun:={ cin:=[.sl 1 .id],cout:=[],ntmps:=8,keep:=true,res:=[(2,none)],body :=
 (.seq (.reg [zo 2 (.mv (.c .nsl))])
 (.seq (.seq (.reg [zo 3 (.mv (.t 0)),
 zo 4 (.eq .sl false (.t 3) (.c .nsl))])
 (.cond (.t 4)
 (.seq (.reg [zo 2 (.mv (.c .nsl))])
 .ret)
 .skip))
 (.seq (.reg [zo 5 (.bsl 1 []),
 zo 6 (.mv (.t 0)),
 zo 7 (.app 1 9 (.t 5) (.t 6)),
 zo 2 (.mv (.t 7))])
 .ret))) }
def CW:Fun:={ cin:=[.id],cout:=[.id],ntmps:=17,keep:=false,res:=[(2,none)],body :=
 (.seq (.reg [zo 2 (.mv (.c (.b false)))])
 (.seq (.seq (.reg [zo 3 (.mv (.c (.i .i64 0)))])
 (.blk 0 (.loop (.seq (.seq (.reg [zo 4 (.mv (.t 3)),
 zo 5 (.mv (.t 0)),
 zo 6 (.len 0 (.t 5)),
 zo 7 (.bin .lss (.t 4) (.t 6))])
 (.cond (.t 7)
 .skip
 (.exit 0)))
 (.seq (.blk 1 (.seq (.reg [zo 10 (.mv (.t 0)),
 zo 11 (.mv (.t 3)),
 zo 12 (.ixS (.t 10) (.t 11)),
 zo 13 (.bin .eql (.t 12) (.c (.i .u8 0)))])
 (.cond (.t 13)
 (.seq (.reg [zo 2 (.mv (.c (.b false)))])
 .ret)
 .skip)))
 (.reg [zo 8 (.mv (.t 3)),
 zo 9 (.bin .add (.t 8) (.c (.i .i64 1))),
 zo 3 (.mv (.t 9))]))))))
 (.seq (.reg [zo 14 (.mv (.t 0)),
 zo 15 (.len 0 (.t 14)),
 zo 16 (.bin .leq (.t 15) (.c (.i .i64 256))),
 zo 2 (.mv (.t 16))])
 .ret))) }
def Az:Fun:={ cin:=[.id],cout:=[.id],ntmps:=41,keep:=false,res:=[(2,none)],body :=
 (.seq (.reg [zo 2 (.mv (.c (.b false)))])
 (.seq (.seq (.reg [zo 4 (.mv (.t 0)),
 zo 5 (.bin .eql (.t 4) (.c (.s []))),
 zo 6 (.mv (.t 5)),
 ⟨some 7,.mv (.t 0),some (6,false)⟩,
 ⟨some 8,.len 0 (.t 7),some (6,false)⟩,
 ⟨some 9,.bin .gtr (.t 8) (.c (.i .i64 64)),some (6,false)⟩,
 zo 10 (.pick (.t 6) (.c (.b true)) (.t 9)),
 zo 11 (.mv (.t 10)),
 ⟨some 12,.mv (.t 0),some (11,false)⟩,
 ⟨some 13,.bin .eql (.t 12) (.c (.s [46])),some (11,false)⟩,
 zo 14 (.pick (.t 11) (.c (.b true)) (.t 13)),
 zo 15 (.mv (.t 14)),
 ⟨some 16,.mv (.t 0),some (15,false)⟩,
 ⟨some 17,.bin .eql (.t 16) (.c (.s [46,46])),some (15,false)⟩,
 zo 18 (.pick (.t 15) (.c (.b true)) (.t 17))])
 (.cond (.t 18)
 (.seq (.reg [zo 2 (.mv (.c (.b false)))])
 .ret)
 .skip))
 (.seq (.seq (.reg [zo 3 (.mv (.c (.i .i64 0)))])
 (.blk 0 (.loop (.seq (.seq (.reg [zo 19 (.mv (.t 3)),
 zo 20 (.mv (.t 0)),
 zo 21 (.len 0 (.t 20)),
 zo 22 (.bin .lss (.t 19) (.t 21))])
 (.cond (.t 22)
 .skip
 (.exit 0)))
 (.seq (.blk 1 (.seq (.reg [zo 25 (.mv (.t 0)),
 zo 26 (.mv (.t 3)),
 zo 27 (.ixS (.t 25) (.t 26)),
 zo 28 (.bin .eql (.t 27) (.c (.i .u8 0))),
 zo 29 (.mv (.t 28)),
 ⟨some 30,.mv (.t 0),some (29,false)⟩,
 ⟨some 31,.mv (.t 3),some (29,false)⟩,
 ⟨some 32,.ixS (.t 30) (.t 31),some (29,false)⟩,
 ⟨some 33,.bin .eql (.t 32) (.c (.i .u8 47)),some (29,false)⟩,
 zo 34 (.pick (.t 29) (.c (.b true)) (.t 33)),
 zo 35 (.mv (.t 34)),
 ⟨some 36,.mv (.t 0),some (35,false)⟩,
 ⟨some 37,.mv (.t 3),some (35,false)⟩,
 ⟨some 38,.ixS (.t 36) (.t 37),some (35,false)⟩,
 ⟨some 39,.bin .eql (.t 38) (.c (.i .u8 10)),some (35,false)⟩,
 zo 40 (.pick (.t 35) (.c (.b true)) (.t 39))])
 (.cond (.t 40)
 (.seq (.reg [zo 2 (.mv (.c (.b false)))])
 .ret)
 .skip)))
 (.reg [zo 23 (.mv (.t 3)),
 zo 24 (.bin .add (.t 23) (.c (.i .i64 1))),
 zo 3 (.mv (.t 24))]))))))
 (.seq (.reg [zo 2 (.mv (.c (.b true)))])
 .ret)))) }
def DP:Fun:={ cin:=[.id],cout:=[.id],ntmps:=23,keep:=false,res:=[(2,none)],body :=
 (.seq (.reg [zo 2 (.mv (.c (.b false)))])
 (.seq (.reg [zo 3 (.mv (.t 0)),
 zo 4 (.bin .neq (.t 3) (.c (.s []))),
 zo 5 (.mv (.t 4)),
 ⟨some 6,.mv (.t 0),some (5,true)⟩,
 ⟨some 7,.len 0 (.t 6),some (5,true)⟩,
 ⟨some 8,.bin .leq (.t 7) (.c (.i .i64 64)),some (5,true)⟩,
 zo 9 (.pick (.t 5) (.t 8) (.c (.b false))),
 zo 10 (.mv (.t 9)),
 ⟨some 11,.mv (.t 0),some (10,true)⟩,
 ⟨some 12,.bin .neq (.t 11) (.c (.s [46])),some (10,true)⟩,
 zo 13 (.pick (.t 10) (.t 12) (.c (.b false))),
 zo 14 (.mv (.t 13)),
 ⟨some 15,.mv (.t 0),some (14,true)⟩,
 ⟨some 16,.bin .neq (.t 15) (.c (.s [46,46])),some (14,true)⟩,
 zo 17 (.pick (.t 14) (.t 16) (.c (.b false))),
 zo 18 (.mv (.t 17)),
 ⟨some 19,.mv (.t 0),some (18,true)⟩,
 ⟨some 20,.call DL [(.t 19),(.c (.s [47,0,10]))],some (18,true)⟩,
 ⟨some 21,.un .not (.t 20),some (18,true)⟩,
 zo 22 (.pick (.t 18) (.t 21) (.c (.b false))),
 zo 2 (.mv (.t 22))])
 .ret)) }
def A4:Fun:={ cin:=[.sl 1 .id,.id],cout:=[.id],ntmps:=19,keep:=false,res:=[(4,none)],body :=
 (.seq (.reg [zo 4 (.mv (.c (.i .i64 0)))])
 (.seq (.seq (.reg [zo 6 (.mv (.t 0)),
 zo 7 (.len 1 (.t 6)),
 zo 8 (.mv (.c (.i .i64 0)))])
 (.blk 0 (.loop (.seq (.reg [zo 9 (.bin .lss (.t 8) (.t 7))])
 (.seq (.cond (.t 9)
 .skip
 (.exit 0))
 (.seq (.blk 1 (.seq (.reg [zo 10 (.mv (.t 8)),
 zo 5 (.mv (.t 10))])
 (.seq (.reg [zo 11 (.mv (.t 1)),
 zo 12 (.mv (.t 0)),
 zo 13 (.mv (.t 5)),
 zo 14 (.ia 1 (.t 12) (.t 13)),
 zo 15 (.ld false 1 (.t 14)),
 zo 16 (.callX (.t 11) [.t 15])])
 (.cond (.t 16)
 (.seq (.reg [zo 17 (.mv (.t 5)),
 zo 4 (.mv (.t 17))])
 .ret)
 .skip))))
 (.reg [zo 18 (.bin .add (.t 8) (.c (.i .i64 1))),
 zo 8 (.mv (.t 18))])))))))
 (.seq (.reg [zo 4 (.mv (.c (.i .i64 (-1))))])
 .ret))) }
def C1:Fun:={ cin:=[.id,.id],cout:=[.id],ntmps:=8,keep:=false,res:=[(4,none)],body :=
 (.seq (.reg [zo 4 (.mv (.c (.i .i64 0)))])
 (.seq (.reg [zo 5 (.mv (.t 0)),
 zo 6 (.mv (.t 1)),
 zo 7 (.call Bn [.t 5,.t 6]),
 zo 4 (.mv (.t 7))])
 .ret)) }
def EO:Fun:={ cin:=[(.sl 6 (.agg [.id,.id,.sl 1 .id,.sl 1 .id,.id,.id])),(.agg [.id,.sl 1 .id])],cout:=[.id],ntmps:=6,keep:=false,res:=[(4,none)],body :=
 (.seq (.reg [zo 2 (.box 22 1 (.t 0)),
 zo 3 (.box 107 2 (.t 1)),
 zo 4 (.mv (.c .nf))])
 (.seq (.reg [zo 5 (.mkf Bd [.t 3,.t 2]),
 zo 4 (.mv (.t 5))])
 .ret)) }
def Dv:Fun:={ cin:=[(.agg [.id,.id,(.sl 1 .id),(.sl 4 (.agg [.id,.id,(.sl 1 .id),(.sl 4 (.agg [.id,.id,.sl 1 .id,.sl 4 .id]))]))]),(.sl 1 .id)],cout:=[(.agg [.id,.id,(.sl 1 .id),(.sl 4 (.agg [.id,.id,(.sl 1 .id),(.sl 4 (.agg [.id,.id,.sl 1 .id,.sl 4 .id]))]))]),.id],ntmps:=38,keep:=false,res:=[(4,some (true,4)),(5,none)],body :=
 (.seq (.reg [zo 2 (.box 47 4 (.t 0)),
 zo 4 (.alloc 47 [(.i .u8 0),(.s []),.nsl,.nsl]),
 zo 5 (.mv (.c (.b false)))])
 (.seq (.seq (.reg [zo 10 (.mv (.t 1)),
 zo 11 (.len 1 (.t 10)),
 zo 12 (.mv (.c (.i .i64 0)))])
 (.blk 0 (.loop (.seq (.reg [zo 13 (.bin .lss (.t 12) (.t 11))])
 (.seq (.cond (.t 13)
 .skip
 (.exit 0))
 (.seq (.blk 1 (.seq (.reg [zo 14 (.ia 1 (.t 10) (.t 12)),
 zo 15 (.ld false 1 (.t 14)),
 zo 7 (.mv (.t 15))])
 (.seq (.reg [zo 17 (.fa 2 (.t 2)),
 zo 18 (.ld false 1 (.t 17)),
 zo 19 (.mv (.t 7)),
 zo 20 (.call A8 [.t 18,.t 19]),
 zo 16 (.mv (.t 20)),
 zo 21 (.ext (.t 16) 0),
 zo 22 (.ext (.t 16) 1),
 zo 8 (.mv (.t 21)),
 zo 9 (.mv (.t 22))])
 (.seq (.seq (.reg [zo 23 (.fa 0 (.t 2)),
 zo 24 (.ld false 1 (.t 23)),
 zo 25 (.bin .neq (.t 24) (.c (.i .u8 2))),
 zo 26 (.mv (.t 25)),
 ⟨some 27,.mv (.t 9),some (26,false)⟩,
 ⟨some 28,.un .not (.t 27),some (26,false)⟩,
 zo 29 (.pick (.t 26) (.c (.b true)) (.t 28))])
 (.cond (.t 29)
 (.seq (.reg [zo 30 (.build [(.i .u8 0),(.s []),.nsl,.nsl] []),
 ⟨none,.st 4 (.t 4) (.t 30),none⟩,
 zo 5 (.mv (.c (.b false)))])
 .ret)
 .skip))
 (.reg [zo 31 (.fa 3 (.t 2)),
 zo 32 (.ld false 1 (.t 31)),
 zo 33 (.mv (.t 8)),
 zo 34 (.ia 4 (.t 32) (.t 33)),
 zo 35 (.ld true 4 (.t 34)),
 ⟨none,.st 4 (.t 2) (.t 35),none⟩])))))
 (.reg [zo 36 (.bin .add (.t 12) (.c (.i .i64 1))),
 zo 12 (.mv (.t 36))])))))))
 (.seq (.reg [zo 37 (.ld true 4 (.t 2)),
 ⟨none,.st 4 (.t 4) (.t 37),none⟩,
 zo 5 (.mv (.c (.b true)))])
 .ret))) }
def EP:Fun:={ cin:=[(.agg [.id,.id,(.sl 1 .id),(.sl 4 (.agg [.id,.id,(.sl 1 .id),(.sl 4 (.agg [.id,.id,.sl 1 .id,.sl 4 .id]))]))])],cout:=[(.agg [.id,.id,(.sl 1 .id),(.sl 4 (.agg [.id,.id,(.sl 1 .id),(.sl 4 (.agg [.id,.id,.sl 1 .id,.sl 4 .id]))]))])],ntmps:=26,keep:=false,res:=[(2,some (true,4))],body :=
 (.seq (.reg [zo 1 (.box 47 4 (.t 0)),
 zo 2 (.alloc 47 [(.i .u8 0),(.s []),.nsl,.nsl])])
 (.seq (.reg [zo 6 (.fa 2 (.t 1)),
 zo 7 (.ld false 1 (.t 6)),
 zo 8 (.call AO [.t 7]),
 zo 9 (.fa 2 (.t 1)),
 ⟨none,.st 1 (.t 9) (.t 8),none⟩])
 (.seq (.reg [zo 3 (.mv (.c .nsl))])
 (.seq (.seq (.reg [zo 10 (.fa 3 (.t 1)),
 zo 11 (.ld false 1 (.t 10)),
 zo 12 (.len 1 (.t 11)),
 zo 13 (.mv (.c (.i .i64 0)))])
 (.blk 0 (.loop (.seq (.reg [zo 14 (.bin .lss (.t 13) (.t 12))])
 (.seq (.cond (.t 14)
 .skip
 (.exit 0))
 (.seq (.blk 1 (.seq (.reg [zo 15 (.ia 4 (.t 11) (.t 13)),
 zo 16 (.ld true 4 (.t 15)),
 zo 5 (.alloc 47 [(.i .u8 0),(.s []),.nsl,.nsl]),
 ⟨none,.st 4 (.t 5) (.t 16),none⟩])
 (.reg [zo 17 (.mv (.t 3)),
 zo 18 (.ld true 4 (.t 5)),
 zo 19 (.call GW [.t 18]),
 zo 20 (.bsl 4 [.t 19]),
 zo 21 (.app 4 47 (.t 17) (.t 20)),
 zo 3 (.mv (.t 21))])))
 (.reg [zo 22 (.bin .add (.t 13) (.c (.i .i64 1))),
 zo 13 (.mv (.t 22))])))))))
 (.seq (.reg [zo 23 (.mv (.t 3)),
 zo 24 (.fa 3 (.t 1)),
 ⟨none,.st 1 (.t 24) (.t 23),none⟩])
 (.seq (.reg [zo 25 (.ld true 4 (.t 1)),
 ⟨none,.st 4 (.t 2) (.t 25),none⟩])
 .ret)))))) }
def BV:Fun:={ cin:=[.id],cout:=[.sl 1 .id],ntmps:=9,keep:=false,res:=[(2,none)],body :=
 (.seq (.reg [zo 2 (.mv (.c .nsl))])
 (.seq (.reg [zo 4 (.mv (.t 0)),
 zo 5 (.call Dd [.t 4]),
 zo 3 (.mv (.t 5))])
 (.seq (.seq (.thw 3)
 (.reg [zo 6 (.mv (.t 3)),
 zo 7 (.call Cb [.t 6])]))
 (.seq (.reg [zo 8 (.mv (.t 3)),
 zo 2 (.mv (.t 8))])
 .ret)))) }
def BN:Fun:={ cin:=[.sl 1 .id],cout:=[.id],ntmps:=4,keep:=false,res:=[(2,none)],body :=
 (.seq (.reg [zo 1 (.box 37 1 (.t 0)),
 zo 2 (.mv (.c .nf))])
 (.seq (.reg [zo 3 (.mkf AZ [.t 1]),
 zo 2 (.mv (.t 3))])
 .ret)) }
def CO:Fun:={ cin:=[.id],cout:=[.id],ntmps:=24,keep:=false,res:=[(4,none)],body :=
 (.seq (.reg [zo 4 (.mv (.c (.b false)))])
 (.seq (.reg [zo 8 (.fa 2 (.t 1)),
 zo 9 (.ld false 1 (.t 8)),
 zo 10 (.mv (.t 0)),
 zo 11 (.call A8 [.t 9,.t 10]),
 zo 7 (.mv (.t 11)),
 zo 12 (.ext (.t 7) 0),
 zo 13 (.ext (.t 7) 1),
 zo 5 (.mv (.t 12)),
 zo 6 (.mv (.t 13))])
 (.seq (.regD [zo 14 (.mv (.t 6)),
 zo 15 (.mv (.t 14)),
 ⟨some 16,.ld false 1 (.t 2),some (15,true)⟩,
 ⟨some 17,.fa 3 (.t 1),some (15,true)⟩,
 ⟨some 18,.ld false 1 (.t 17),some (15,true)⟩,
 ⟨some 19,.mv (.t 5),some (15,true)⟩,
 ⟨some 20,.ia 1 (.t 18) (.t 19),some (15,true)⟩,
 ⟨some 21,.ld false 1 (.t 20),some (15,true)⟩,
 ⟨some 22,.call Ci [.t 16,.t 21],some (15,true)⟩,
 zo 23 (.pick (.t 15) (.t 22) (.c (.b false))),
 zo 4 (.mv (.t 23))] [])
 .ret))) }
def A9:Fun:={ cin:=[.sl 1 .id,.id],cout:=[.id,.id],ntmps:=54,keep:=false,res:=[(4,none),(5,none)],body :=
 (.seq (.reg [zo 4 (.mv (.c (.i .i64 0))),
 zo 5 (.mv (.c (.b false)))])
 (.seq (.reg [zo 10 (.mv (.t 0)),
 zo 11 (.len 1 (.t 10)),
 zo 6 (.mv (.t 11))])
 (.seq (.reg [zo 12 (.mv (.t 6)),
 zo 7 (.mv (.c (.i .i64 0))),
 zo 8 (.mv (.t 12))])
 (.seq (.blk 0 (.loop (.seq (.seq (.reg [zo 13 (.mv (.t 7)),
 zo 14 (.mv (.t 8)),
 zo 15 (.bin .lss (.t 13) (.t 14))])
 (.cond (.t 15)
 .skip
 (.exit 0)))
 (.blk 1 (.seq (.reg [zo 16 (.mv (.t 7)),
 zo 17 (.mv (.t 8)),
 zo 18 (.bin .add (.t 16) (.t 17)),
 zo 19 (.cvI .u64 (.t 18)),
 zo 20 (.bin .shr (.t 19) (.c (.i .u64 1))),
 zo 21 (.cvI .i64 (.t 20)),
 zo 9 (.mv (.t 21))])
 (.seq (.reg [zo 22 (.mv (.t 0)),
 zo 23 (.mv (.t 9)),
 zo 24 (.ia 1 (.t 22) (.t 23)),
 zo 25 (.ld false 1 (.t 24)),
 zo 26 (.mv (.t 1)),
 zo 27 (.call EN [.t 25,.t 26])])
 (.cond (.t 27)
 (.reg [zo 28 (.mv (.t 9)),
 zo 29 (.bin .add (.t 28) (.c (.i .i64 1))),
 zo 7 (.mv (.t 29))])
 (.reg [zo 30 (.mv (.t 9)),
 zo 8 (.mv (.t 30))]))))))))
 (.seq (.reg [zo 31 (.mv (.t 7)),
 zo 32 (.mv (.t 7)),
 zo 33 (.mv (.t 6)),
 zo 34 (.bin .lss (.t 32) (.t 33)),
 zo 35 (.mv (.t 34)),
 ⟨some 36,.mv (.t 0),some (35,true)⟩,
 ⟨some 37,.mv (.t 7),some (35,true)⟩,
 ⟨some 38,.ia 1 (.t 36) (.t 37),some (35,true)⟩,
 ⟨some 39,.ld false 1 (.t 38),some (35,true)⟩,
 ⟨some 40,.mv (.t 1),some (35,true)⟩,
 ⟨some 41,.bin .eql (.t 39) (.t 40),some (35,true)⟩,
 ⟨some 42,.mv (.t 41),some (35,true)⟩,
 ⟨some 43,.mv (.t 0),some (42,false)⟩,
 ⟨some 44,.mv (.t 7),some (42,false)⟩,
 ⟨some 45,.ia 1 (.t 43) (.t 44),some (42,false)⟩,
 ⟨some 46,.ld false 1 (.t 45),some (42,false)⟩,
 ⟨some 47,.call Cc [.t 46],some (42,false)⟩,
 ⟨some 48,.mv (.t 47),some (42,false)⟩,
 ⟨some 49,.mv (.t 1),some (48,true)⟩,
 ⟨some 50,.call Cc [.t 49],some (48,true)⟩,
 ⟨some 51,.pick (.t 48) (.t 50) (.c (.b false)),some (42,false)⟩,
 ⟨some 52,.pick (.t 42) (.c (.b true)) (.t 51),some (35,true)⟩,
 zo 53 (.pick (.t 35) (.t 52) (.c (.b false))),
 zo 4 (.mv (.t 31)),
 zo 5 (.mv (.t 53))])
 .ret))))) }
def BB:Fun:={ cin:=[.sl 1 .id,.id],cout:=[.id],ntmps:=9,keep:=false,res:=[(4,none)],body :=
 (.seq (.reg [zo 4 (.mv (.c (.b false)))])
 (.seq (.reg [zo 5 (.mv (.t 0)),
 zo 6 (.mv (.t 1)),
 zo 7 (.call DD [.t 5,.t 6]),
 zo 8 (.bin .geq (.t 7) (.c (.i .i64 0))),
 zo 4 (.mv (.t 8))])
 .ret)) }
def Ak:Fun:={ cin:=[.sl 1 .id,.id],cout:=[.id],ntmps:=19,keep:=false,res:=[(4,none)],body :=
 (.seq (.reg [zo 4 (.mv (.c (.i .i64 0)))])
 (.seq (.seq (.reg [zo 6 (.mv (.t 0)),
 zo 7 (.len 1 (.t 6)),
 zo 8 (.mv (.c (.i .i64 0)))])
 (.blk 0 (.loop (.seq (.reg [zo 9 (.bin .lss (.t 8) (.t 7))])
 (.seq (.cond (.t 9)
 .skip
 (.exit 0))
 (.seq (.blk 1 (.seq (.reg [zo 10 (.mv (.t 8)),
 zo 5 (.mv (.t 10))])
 (.seq (.reg [zo 11 (.mv (.t 1)),
 zo 12 (.mv (.t 0)),
 zo 13 (.mv (.t 5)),
 zo 14 (.ia 1 (.t 12) (.t 13)),
 zo 15 (.ld false 1 (.t 14)),
 zo 16 (.callX (.t 11) [.t 15])])
 (.cond (.t 16)
 (.seq (.reg [zo 17 (.mv (.t 5)),
 zo 4 (.mv (.t 17))])
 .ret)
 .skip))))
 (.reg [zo 18 (.bin .add (.t 8) (.c (.i .i64 1))),
 zo 8 (.mv (.t 18))])))))))
 (.seq (.reg [zo 4 (.mv (.c (.i .i64 (-1))))])
 .ret))) }
def Ce:Fun:={ cin:=[.id,.id],cout:=[.id],ntmps:=9,keep:=false,res:=[(4,none)],body :=
 (.seq (.reg [zo 4 (.mv (.c (.b false)))])
 (.seq (.reg [zo 5 (.mv (.t 0)),
 zo 6 (.mv (.t 1)),
 zo 7 (.call D3 [.t 5,.t 6]),
 zo 8 (.bin .geq (.t 7) (.c (.i .i64 0))),
 zo 4 (.mv (.t 8))])
 .ret)) }
def BH:Fun:={ cin:=[.id,.id],cout:=[.id],ntmps:=8,keep:=false,res:=[(4,none)],body :=
 (.seq (.reg [zo 4 (.mv (.c (.i .i64 0)))])
 (.seq (.reg [zo 5 (.mv (.t 0)),
 zo 6 (.mv (.t 1)),
 zo 7 (.xtn 0 [.t 5,.t 6]),
 zo 4 (.mv (.t 7))])
 .ret)) }
def BU:Fun:={ cin:=[.id],cout:=[],ntmps:=51,keep:=false,res:=[],body :=
 (.seq (.reg [zo 3 (.box 119 1 (.t 0))])
 (.seq (.seq (.reg [zo 8 (.ld false 1 (.t 3)),
 zo 9 (.ld true 2 (.t 1)),
 zo 10 (.callX (.t 8) [.t 9]),
 zo 11 (.un .not (.t 10))])
 (.cond (.t 11)
 .ret
 .skip))
 (.seq (.reg [zo 12 (.ld false 1 (.t 2)),
 zo 13 (.fa 0 (.t 1)),
 zo 14 (.ld false 1 (.t 13)),
 zo 15 (.ia 6 (.t 12) (.t 14)),
 zo 16 (.ld true 6 (.t 15)),
 zo 4 (.alloc 60 [.b false,.i .u8 0,.nsl,.nsl,.i .i64 0,.i .i64 0]),
 ⟨none,.st 6 (.t 4) (.t 16),none⟩])
 (.seq (.reg [zo 17 (.fa 3 (.t 4)),
 zo 18 (.ld false 1 (.t 17)),
 zo 19 (.len 1 (.t 18)),
 zo 20 (.mv (.c (.i .i64 0)))])
 (.blk 0 (.loop (.seq (.reg [zo 21 (.bin .lss (.t 20) (.t 19))])
 (.seq (.cond (.t 21)
 .skip
 (.exit 0))
 (.seq (.blk 1 (.seq (.reg [zo 22 (.mv (.t 20)),
 zo 23 (.ia 1 (.t 18) (.t 20)),
 zo 24 (.ld false 1 (.t 23)),
 zo 5 (.mv (.t 22)),
 zo 6 (.mv (.t 24))])
 (.seq (.regD [zo 25 (.ld false 1 (.t 2)),
 zo 26 (.mv (.t 6)),
 zo 27 (.fa 1 (.t 1)),
 zo 28 (.ld false 1 (.t 27)),
 zo 29 (.fa 1 (.t 1)),
 zo 30 (.ld false 1 (.t 29)),
 zo 31 (.len 1 (.t 30)),
 zo 32 (.fa 1 (.t 1)),
 zo 33 (.ld false 1 (.t 32)),
 zo 34 (.len 1 (.t 33)),
 zo 35 (.slc false 1 (.t 28) none (some (.t 31)) (some (.t 34))),
 zo 36 (.fa 2 (.t 4)),
 zo 37 (.ld false 1 (.t 36)),
 zo 38 (.mv (.t 5)),
 zo 39 (.ia 1 (.t 37) (.t 38)),
 zo 40 (.ld false 1 (.t 39)),
 zo 41 (.bsl 1 [.t 40]),
 zo 42 (.appQ 1 9 (.t 35) (.t 41)),
 zo 43 (.build [.i .i64 0,.nsl] [(0,1,(.t 26)),(1,1,(.t 42))]),
 zo 44 (.callQ false EM [.t 25,.t 43])] [(0,(0,18))])
 (.blk 2 (.rf (.t 44) [45] (.reg [zo 7 (.alloc 107 [.i .i64 0,.nsl]),
 ⟨none,.st 2 (.t 7) (.t 45),none⟩])
 (.blk 3 (.seq (.reg [zo 46 (.ld false 1 (.t 3)),
 zo 47 (.ld true 2 (.t 7)),
 zo 48 (.callX (.t 46) [.t 47]),
 zo 49 (.un .not (.t 48))])
 (.cond (.t 49)
 .ret
 .skip))))))))
 (.reg [zo 50 (.bin .add (.t 20) (.c (.i .i64 1))),
 zo 20 (.mv (.t 50))])))))))))) }
def Ck:Fun:={ cin:=[.id],cout:=[],ntmps:=5,keep:=true,res:=[(2,none)],body :=
 (.seq (.reg [zo 2 (.mv (.c .nsl))])
 (.seq (.reg [zo 3 (.mv (.t 0)),
 zo 4 (.call CZ [.c .nsl,.t 3]),
 zo 2 (.mv (.t 4))])
 .ret)) }
def Ed:Fun:={ cin:=[],cout:=[],ntmps:=0,keep:=false,res:=[],body:=.bad,prim:=some F2 }
def BC:Fun:={ cin:=[.id],cout:=[],ntmps:=16,keep:=false,res:=[],body :=
 (.seq (.reg [zo 5 (.ld false 1 (.t 1)),
 zo 6 (.len 1 (.t 5)),
 zo 7 (.mv (.c (.i .i64 0)))])
 (.blk 0 (.loop (.seq (.reg [zo 8 (.bin .lss (.t 7) (.t 6))])
 (.seq (.cond (.t 8)
 .skip
 (.exit 0))
 (.seq (.blk 1 (.seq (.reg [zo 9 (.ia 1 (.t 5) (.t 7)),
 zo 10 (.ld false 1 (.t 9)),
 zo 4 (.mv (.t 10))])
 (.seq (.reg [zo 11 (.mv (.t 0)),
 zo 12 (.mv (.t 4)),
 zo 13 (.callX (.t 11) [.t 12]),
 zo 14 (.un .not (.t 13))])
 (.cond (.t 14)
 .ret
 .skip))))
 (.reg [zo 15 (.bin .add (.t 7) (.c (.i .i64 1))),
 zo 7 (.mv (.t 15))]))))))) }
def DY:Fun:={ cin:=[.id,.id],cout:=[.id],ntmps:=17,keep:=false,res:=[(4,none)],body :=
 (.seq (.reg [zo 4 (.mv (.c (.b false)))])
 (.seq (.reg [zo 5 (.mv (.t 0)),
 zo 6 (.call DF [.t 5]),
 zo 7 (.mv (.t 6)),
 ⟨some 8,.mv (.t 1),some (7,true)⟩,
 ⟨some 9,.call DF [.t 8],some (7,true)⟩,
 ⟨some 10,.un .not (.t 9),some (7,true)⟩,
 zo 11 (.pick (.t 7) (.t 10) (.c (.b false))),
 zo 12 (.mv (.t 11)),
 ⟨some 13,.mv (.t 0),some (12,false)⟩,
 ⟨some 14,.mv (.t 1),some (12,false)⟩,
 ⟨some 15,.bin .lss (.t 13) (.t 14),some (12,false)⟩,
 zo 16 (.pick (.t 12) (.c (.b true)) (.t 15)),
 zo 4 (.mv (.t 16))])
 .ret)) }
def Cf:Fun:={ cin:=[.id],cout:=[.id],ntmps:=6,keep:=false,res:=[(2,none)],body :=
 (.seq (.reg [zo 2 (.mv (.c (.b false)))])
 (.seq (.reg [zo 3 (.mv (.t 0)),
 zo 4 (.mv (.t 0)),
 zo 5 (.bin .neq (.t 3) (.t 4)),
 zo 2 (.mv (.t 5))])
 .ret)) }
def BQ:Fun:={ cin:=[.sl 1 .id,.id],cout:=[.id],ntmps:=19,keep:=false,res:=[(4,none)],body :=
 (.seq (.reg [zo 4 (.mv (.c (.i .i64 0)))])
 (.seq (.seq (.reg [zo 6 (.mv (.t 0)),
 zo 7 (.len 1 (.t 6)),
 zo 8 (.mv (.c (.i .i64 0)))])
 (.blk 0 (.loop (.seq (.reg [zo 9 (.bin .lss (.t 8) (.t 7))])
 (.seq (.cond (.t 9)
 .skip
 (.exit 0))
 (.seq (.blk 1 (.seq (.reg [zo 10 (.mv (.t 8)),
 zo 5 (.mv (.t 10))])
 (.seq (.reg [zo 11 (.mv (.t 1)),
 zo 12 (.mv (.t 0)),
 zo 13 (.mv (.t 5)),
 zo 14 (.ia 1 (.t 12) (.t 13)),
 zo 15 (.ld false 1 (.t 14)),
 zo 16 (.bin .eql (.t 11) (.t 15))])
 (.cond (.t 16)
 (.seq (.reg [zo 17 (.mv (.t 5)),
 zo 4 (.mv (.t 17))])
 .ret)
 .skip))))
 (.reg [zo 18 (.bin .add (.t 8) (.c (.i .i64 1))),
 zo 8 (.mv (.t 18))])))))))
 (.seq (.reg [zo 4 (.mv (.c (.i .i64 (-1))))])
 .ret))) }
def Bh:Fun:={ cin:=[.id,.id],cout:=[.id],ntmps:=55,keep:=false,res:=[(4,none)],body :=
 (.seq (.reg [zo 4 (.mv (.c (.i .i64 0)))])
 (.seq (.seq (.reg [zo 11 (.mv (.t 1)),
 zo 12 (.bin .eql (.t 11) (.c (.s [])))])
 (.cond (.t 12)
 (.seq (.reg [zo 4 (.mv (.c (.i .i64 (-1))))])
 .ret)
 .skip))
 (.seq (.seq (.reg [zo 13 (.mv (.t 1)),
 zo 14 (.len 0 (.t 13)),
 zo 15 (.bin .eql (.t 14) (.c (.i .i64 1)))])
 (.cond (.t 15)
 (.seq (.reg [zo 16 (.mv (.t 1)),
 zo 17 (.ixS (.t 16) (.c (.i .i64 0))),
 zo 18 (.cvI .i32 (.t 17)),
 zo 5 (.mv (.t 18))])
 (.seq (.seq (.reg [zo 19 (.mv (.t 5)),
 zo 20 (.bin .geq (.t 19) (.c (.i .i32 128)))])
 (.cond (.t 20)
 (.reg [zo 5 (.mv (.c (.i .i32 65533)))])
 .skip))
 (.seq (.reg [zo 21 (.mv (.t 0)),
 zo 22 (.mv (.t 5)),
 zo 23 (.call Bs [.t 21,.t 22]),
 zo 4 (.mv (.t 23))])
 .ret)))
 .skip))
 (.seq (.seq (.reg [zo 24 (.mv (.t 0)),
 zo 25 (.len 0 (.t 24)),
 zo 26 (.call Be [.t 25])])
 (.cond (.t 26)
 (.seq (.reg [zo 28 (.mv (.t 1)),
 zo 29 (.call CV [.t 28]),
 zo 27 (.mv (.t 29)),
 zo 30 (.ext (.t 27) 0),
 zo 31 (.ext (.t 27) 1),
 zo 6 (.alloc 130 [.b false,.b false,.b false,.b false,.b false,.b false,.b false,.b false,.b false,.b false,.b false,.b false,.b false,.b false,.b false,.b false,.b false,.b false,.b false,.b false,.b false,.b false,.b false,.b false,.b false,.b false,.b false,.b false,.b false,.b false,.b false,.b false,.b false,.b false,.b false,.b false,.b false,.b false,.b false,.b false,.b false,.b false,.b false,.b false,.b false,.b false,.b false,.b false,.b false,.b false,.b false,.b false,.b false,.b false,.b false,.b false,.b false,.b false,.b false,.b false,.b false,.b false,.b false,.b false,.b false,.b false,.b false,.b false,.b false,.b false,.b false,.b false,.b false,.b false,.b false,.b false,.b false,.b false,.b false,.b false,.b false,.b false,.b false,.b false,.b false,.b false,.b false,.b false,.b false,.b false,.b false,.b false,.b false,.b false,.b false,.b false,.b false,.b false,.b false,.b false,.b false,.b false,.b false,.b false,.b false,.b false,.b false,.b false,.b false,.b false,.b false,.b false,.b false,.b false,.b false,.b false,.b false,.b false,.b false,.b false,.b false,.b false,.b false,.b false,.b false,.b false,.b false,.b false,.b false,.b false,.b false,.b false,.b false,.b false,.b false,.b false,.b false,.b false,.b false,.b false,.b false,.b false,.b false,.b false,.b false,.b false,.b false,.b false,.b false,.b false,.b false,.b false,.b false,.b false,.b false,.b false,.b false,.b false,.b false,.b false,.b false,.b false,.b false,.b false,.b false,.b false,.b false,.b false,.b false,.b false,.b false,.b false,.b false,.b false,.b false,.b false,.b false,.b false,.b false,.b false,.b false,.b false,.b false,.b false,.b false,.b false,.b false,.b false,.b false,.b false,.b false,.b false,.b false,.b false,.b false,.b false,.b false,.b false,.b false,.b false,.b false,.b false,.b false,.b false,.b false,.b false,.b false,.b false,.b false,.b false,.b false,.b false,.b false,.b false,.b false,.b false,.b false,.b false,.b false,.b false,.b false,.b false,.b false,.b false,.b false,.b false,.b false,.b false,.b false,.b false,.b false,.b false,.b false,.b false,.b false,.b false,.b false,.b false,.b false,.b false,.b false,.b false,.b false,.b false,.b false,.b false,.b false,.b false,.b false,.b false,.b false,.b false,.b false,.b false,.b false,.b false]),
 ⟨none,.st 256 (.t 6) (.t 30),none⟩,
 zo 7 (.mv (.t 31))])
 (.seq (.reg [zo 32 (.mv (.t 7))])
 (.cond (.t 32)
 (.seq (.seq (.reg [zo 8 (.mv (.c (.i .i64 0)))])
 (.blk 0 (.loop (.seq (.seq (.reg [zo 33 (.mv (.t 8)),
 zo 34 (.mv (.t 0)),
 zo 35 (.len 0 (.t 34)),
 zo 36 (.bin .lss (.t 33) (.t 35))])
 (.cond (.t 36)
 .skip
 (.exit 0)))
 (.seq (.blk 1 (.seq (.reg [zo 39 (.mv (.t 0)),
 zo 40 (.mv (.t 8)),
 zo 41 (.ixS (.t 39) (.t 40)),
 zo 42 (.call Bf [.t 6,.t 41])])
 (.cond (.t 42)
 (.seq (.reg [zo 43 (.mv (.t 8)),
 zo 4 (.mv (.t 43))])
 .ret)
 .skip)))
 (.reg [zo 37 (.mv (.t 8)),
 zo 38 (.bin .add (.t 37) (.c (.i .i64 1))),
 zo 8 (.mv (.t 38))]))))))
 (.seq (.reg [zo 4 (.mv (.c (.i .i64 (-1))))])
 .ret))
 .skip)))
 .skip))
 (.seq (.seq (.reg [zo 44 (.mv (.t 0)),
 zo 45 (.siter (.t 44))])
 (.blk 2 (.loop (.seq (.reg [zo 46 (.snext (.t 45)),
 zo 47 (.ext (.t 46) 0)])
 (.seq (.cond (.t 47)
 .skip
 (.exit 2))
 (.blk 3 (.seq (.reg [zo 48 (.ext (.t 46) 1),
 zo 49 (.ext (.t 46) 2),
 zo 9 (.mv (.t 48)),
 zo 10 (.mv (.t 49))])
 (.seq (.reg [zo 50 (.mv (.t 1)),
 zo 51 (.mv (.t 10)),
 zo 52 (.call Bs [.t 50,.t 51]),
 zo 53 (.bin .geq (.t 52) (.c (.i .i64 0)))])
 (.cond (.t 53)
 (.seq (.reg [zo 54 (.mv (.t 9)),
 zo 4 (.mv (.t 54))])
 .ret)
 .skip)))))))))
 (.seq (.reg [zo 4 (.mv (.c (.i .i64 (-1))))])
 .ret)))))) }
def Aj:Fun:={ cin:=[],cout:=[],ntmps:=13,keep:=true,res:=[(4,none)],body :=
 (.seq (.reg [zo 2 (.box 37 1 (.t 0)),
 zo 4 (.mv (.c .nsl))])
 (.seq (.seq (.reg [zo 6 (.mv (.t 1))])
 (.blk 0 (.rf (.t 6) [7] (.reg [zo 5 (.mv (.t 7))])
 (.blk 1 (.reg [zo 8 (.ld false 1 (.t 2)),
 zo 9 (.mv (.t 5)),
 zo 10 (.bsl 1 [.t 9]),
 zo 11 (.app 1 3 (.t 8) (.t 10)),
 ⟨none,.st 1 (.t 2) (.t 11),none⟩])))))
 (.seq (.reg [zo 12 (.ld false 1 (.t 2)),
 zo 4 (.mv (.t 12))])
 .ret))) }
def DG:Fun:={ cin:=[.id],cout:=[.id],ntmps:=6,keep:=false,res:=[(2,none)],body :=
 (.seq (.reg [zo 2 (.mv (.c (.b false)))])
 (.seq (.reg [zo 3 (.mv (.t 0)),
 zo 4 (.mv (.t 0)),
 zo 5 (.bin .neq (.t 3) (.t 4)),
 zo 2 (.mv (.t 5))])
 .ret)) }
def BA:Fun:={ cin:=[.id,.id],cout:=[.id],ntmps:=187,keep:=false,res:=[(4,none)],body :=
 (.seq (.reg [zo 4 (.mv (.c (.i .i64 0)))])
 (.blk 0 (.seq (.reg [zo 161 (.mv (.t 1)),
 zo 162 (.bin .leq (.c (.i .i32 0)) (.t 161)),
 zo 163 (.mv (.t 162)),
 ⟨some 164,.mv (.t 1),some (163,true)⟩,
 ⟨some 165,.bin .lss (.t 164) (.c (.i .i32 128)),some (163,true)⟩,
 zo 166 (.pick (.t 163) (.t 165) (.c (.b false))),
 zo 160 (.mv (.t 166))])
 (.cond (.t 160)
 (.seq (.reg [zo 167 (.mv (.t 0)),
 zo 168 (.mv (.t 1)),
 zo 169 (.cvI .u8 (.t 168)),
 zo 170 (.call Br [.t 167,.t 169]),
 zo 4 (.mv (.t 170))])
 .ret)
 (.seq (.reg [zo 172 (.mv (.t 1)),
 zo 173 (.bin .eql (.t 172) (.c (.i .i32 65533))),
 zo 171 (.mv (.t 173))])
 (.cond (.t 171)
 (.seq (.seq (.reg [zo 174 (.mv (.t 0)),
 zo 175 (.siter (.t 174))])
 (.blk 9 (.loop (.seq (.reg [zo 176 (.snext (.t 175)),
 zo 177 (.ext (.t 176) 0)])
 (.seq (.cond (.t 177)
 .skip
 (.exit 9))
 (.blk 10 (.seq (.reg [zo 178 (.ext (.t 176) 1),
 zo 179 (.ext (.t 176) 2),
 zo 5 (.mv (.t 178)),
 zo 6 (.mv (.t 179))])
 (.seq (.reg [zo 180 (.mv (.t 6)),
 zo 181 (.bin .eql (.t 180) (.c (.i .i32 65533)))])
 (.cond (.t 181)
 (.seq (.reg [zo 182 (.mv (.t 5)),
 zo 4 (.mv (.t 182))])
 .ret)
 .skip)))))))))
 (.seq (.reg [zo 4 (.mv (.c (.i .i64 (-1))))])
 .ret))
 (.seq (.reg [zo 184 (.mv (.t 1)),
 zo 185 (.call Cq [.t 184]),
 zo 186 (.un .not (.t 185)),
 zo 183 (.mv (.t 186))])
 (.cond (.t 183)
 (.seq (.reg [zo 4 (.mv (.c (.i .i64 (-1))))])
 .ret)
 (.seq (.reg [zo 17 (.mv (.t 1)),
 zo 18 (.cvRS (.t 17)),
 zo 7 (.mv (.t 18))])
 (.seq (.reg [zo 19 (.mv (.t 7)),
 zo 20 (.len 0 (.t 19)),
 zo 21 (.bin .sub (.t 20) (.c (.i .i64 1))),
 zo 8 (.mv (.t 21))])
 (.seq (.reg [zo 22 (.mv (.t 8)),
 zo 9 (.mv (.t 22))])
 (.seq (.reg [zo 10 (.mv (.c (.i .i64 0)))])
 (.seq (.blk 1 (.loop (.seq (.seq (.reg [zo 23 (.mv (.t 9)),
 zo 24 (.mv (.t 0)),
 zo 25 (.len 0 (.t 24)),
 zo 26 (.bin .lss (.t 23) (.t 25))])
 (.cond (.t 26)
 .skip
 (.exit 1)))
 (.blk 2 (.seq (.seq (.regD [zo 27 (.mv (.t 0)),
 zo 28 (.mv (.t 9)),
 zo 29 (.ixS (.t 27) (.t 28)),
 zo 30 (.mv (.t 7)),
 zo 31 (.mv (.t 8)),
 zo 32 (.ixS (.t 30) (.t 31)),
 zo 33 (.bin .neq (.t 29) (.t 32))] [])
 (.cond (.t 33)
 (.seq (.regD [zo 34 (.mv (.t 0)),
 zo 35 (.mv (.t 9)),
 zo 36 (.bin .add (.t 35) (.c (.i .i64 1))),
 zo 37 (.slS (.t 34) (some (.t 36)) none),
 zo 38 (.mv (.t 7)),
 zo 39 (.mv (.t 8)),
 zo 40 (.ixS (.t 38) (.t 39)),
 zo 41 (.call Br [.t 37,.t 40]),
 zo 11 (.mv (.t 41))] [])
 (.seq (.seq (.reg [zo 42 (.mv (.t 11)),
 zo 43 (.bin .lss (.t 42) (.c (.i .i64 0)))])
 (.cond (.t 43)
 (.seq (.reg [zo 4 (.mv (.c (.i .i64 (-1))))])
 .ret)
 .skip))
 (.reg [zo 44 (.mv (.t 9)),
 zo 45 (.mv (.t 11)),
 zo 46 (.bin .add (.t 45) (.c (.i .i64 1))),
 zo 47 (.bin .add (.t 44) (.t 46)),
 zo 9 (.mv (.t 47))])))
 .skip))
 (.seq (.seq (.reg [zo 12 (.mv (.c (.i .i64 1)))])
 (.blk 3 (.loop (.seq (.seq (.reg [zo 48 (.mv (.t 12)),
 zo 49 (.mv (.t 7)),
 zo 50 (.len 0 (.t 49)),
 zo 51 (.bin .lss (.t 48) (.t 50))])
 (.cond (.t 51)
 .skip
 (.exit 3)))
 (.seq (.blk 4 (.seq (.regD [zo 54 (.mv (.t 0)),
 zo 55 (.mv (.t 9)),
 zo 56 (.mv (.t 12)),
 zo 57 (.bin .sub (.t 55) (.t 56)),
 zo 58 (.ixS (.t 54) (.t 57)),
 zo 59 (.mv (.t 7)),
 zo 60 (.mv (.t 8)),
 zo 61 (.mv (.t 12)),
 zo 62 (.bin .sub (.t 60) (.t 61)),
 zo 63 (.ixS (.t 59) (.t 62)),
 zo 64 (.bin .neq (.t 58) (.t 63))] [])
 (.cond (.t 64)
 .bad
 .skip)))
 (.reg [zo 52 (.mv (.t 12)),
 zo 53 (.bin .add (.t 52) (.c (.i .i64 1))),
 zo 12 (.mv (.t 53))]))))))
 (.seq (.seq (.reg [zo 65 (.mv (.t 9)),
 zo 66 (.mv (.t 8)),
 zo 67 (.bin .sub (.t 65) (.t 66)),
 zo 4 (.mv (.t 67))])
 .ret)
 (.seq .skip
 (.seq (.reg [zo 68 (.mv (.t 10)),
 zo 69 (.bin .add (.t 68) (.c (.i .i64 1))),
 zo 10 (.mv (.t 69))])
 (.seq (.reg [zo 70 (.mv (.t 9)),
 zo 71 (.bin .add (.t 70) (.c (.i .i64 1))),
 zo 9 (.mv (.t 71))])
 (.seq (.reg [zo 72 (.mv (.c (.b true))),
 ⟨some 73,.mv (.t 10),some (72,true)⟩,
 ⟨some 74,.mv (.t 9),some (72,true)⟩,
 ⟨some 75,.call Db [.t 74],some (72,true)⟩,
 ⟨some 76,.bin .gtr (.t 73) (.t 75),some (72,true)⟩,
 zo 77 (.pick (.t 72) (.t 76) (.c (.b false))),
 zo 78 (.mv (.t 77)),
 ⟨some 79,.mv (.t 9),some (78,true)⟩,
 ⟨some 80,.mv (.t 0),some (78,true)⟩,
 ⟨some 81,.len 0 (.t 80),some (78,true)⟩,
 ⟨some 82,.bin .lss (.t 79) (.t 81),some (78,true)⟩,
 zo 83 (.pick (.t 78) (.t 82) (.c (.b false))),
 zo 84 (.mv (.t 83)),
 ⟨some 85,.mv (.c (.b false)),some (84,false)⟩,
 ⟨some 86,.mv (.t 10),some (85,true)⟩,
 ⟨some 87,.mv (.t 9),some (85,true)⟩,
 ⟨some 88,.bin .shr (.t 87) (.c (.i .u64 4)),some (85,true)⟩,
 ⟨some 89,.bin .add (.c (.i .i64 4)) (.t 88),some (85,true)⟩,
 ⟨some 90,.bin .geq (.t 86) (.t 89),some (85,true)⟩,
 ⟨some 91,.pick (.t 85) (.t 90) (.c (.b false)),some (84,false)⟩,
 ⟨some 92,.mv (.t 91),some (84,false)⟩,
 ⟨some 93,.mv (.t 9),some (92,true)⟩,
 ⟨some 94,.mv (.t 0),some (92,true)⟩,
 ⟨some 95,.len 0 (.t 94),some (92,true)⟩,
 ⟨some 96,.bin .lss (.t 93) (.t 95),some (92,true)⟩,
 ⟨some 97,.pick (.t 92) (.t 96) (.c (.b false)),some (84,false)⟩,
 zo 98 (.pick (.t 84) (.c (.b true)) (.t 97))])
 (.cond (.t 98)
 .bad
 .skip))))))))))))
 (.seq (.seq (.reg [zo 4 (.mv (.c (.i .i64 (-1))))])
 .ret)
 (.seq .skip
 (.seq (.cond (.c (.b true))
 (.seq (.reg [zo 99 (.mv (.t 0)),
 zo 100 (.mv (.t 9)),
 zo 101 (.mv (.t 8)),
 zo 102 (.bin .sub (.t 100) (.t 101)),
 zo 103 (.slS (.t 99) (some (.t 102)) none),
 zo 104 (.mv (.t 1)),
 zo 105 (.cvRS (.t 104)),
 zo 106 (.bad),
 zo 13 (.mv (.t 106))])
 (.seq (.reg [zo 107 (.mv (.t 13)),
 zo 108 (.bin .geq (.t 107) (.c (.i .i64 0)))])
 (.cond (.t 108)
 (.seq (.reg [zo 109 (.mv (.t 9)),
 zo 110 (.mv (.t 13)),
 zo 111 (.bin .add (.t 109) (.t 110)),
 zo 112 (.mv (.t 8)),
 zo 113 (.bin .sub (.t 111) (.t 112)),
 zo 4 (.mv (.t 113))])
 .ret)
 .skip)))
 (.seq (.reg [zo 114 (.mv (.t 7)),
 zo 115 (.mv (.t 8)),
 zo 116 (.ixS (.t 114) (.t 115)),
 zo 14 (.mv (.t 116))])
 (.seq (.reg [zo 117 (.mv (.t 7)),
 zo 118 (.mv (.t 8)),
 zo 119 (.bin .sub (.t 118) (.c (.i .i64 1))),
 zo 120 (.ixS (.t 117) (.t 119)),
 zo 15 (.mv (.t 120))])
 (.seq .skip
 (.blk 5 (.loop (.seq (.seq (.reg [zo 121 (.mv (.t 9)),
 zo 122 (.mv (.t 0)),
 zo 123 (.len 0 (.t 122)),
 zo 124 (.bin .lss (.t 121) (.t 123))])
 (.cond (.t 124)
 .skip
 (.exit 5)))
 (.seq (.blk 6 (.seq (.reg [zo 127 (.mv (.t 0)),
 zo 128 (.mv (.t 9)),
 zo 129 (.ixS (.t 127) (.t 128)),
 zo 130 (.mv (.t 14)),
 zo 131 (.bin .eql (.t 129) (.t 130)),
 zo 132 (.mv (.t 131)),
 ⟨some 133,.mv (.t 0),some (132,true)⟩,
 ⟨some 134,.mv (.t 9),some (132,true)⟩,
 ⟨some 135,.bin .sub (.t 134) (.c (.i .i64 1)),some (132,true)⟩,
 ⟨some 136,.ixS (.t 133) (.t 135),some (132,true)⟩,
 ⟨some 137,.mv (.t 15),some (132,true)⟩,
 ⟨some 138,.bin .eql (.t 136) (.t 137),some (132,true)⟩,
 zo 139 (.pick (.t 132) (.t 138) (.c (.b false)))])
 (.cond (.t 139)
 (.seq (.seq (.reg [zo 16 (.mv (.c (.i .i64 2)))])
 (.blk 7 (.loop (.seq (.seq (.reg [zo 140 (.mv (.t 16)),
 zo 141 (.mv (.t 7)),
 zo 142 (.len 0 (.t 141)),
 zo 143 (.bin .lss (.t 140) (.t 142))])
 (.cond (.t 143)
 .skip
 (.exit 7)))
 (.seq (.blk 8 (.seq (.regD [zo 146 (.mv (.t 0)),
 zo 147 (.mv (.t 9)),
 zo 148 (.mv (.t 16)),
 zo 149 (.bin .sub (.t 147) (.t 148)),
 zo 150 (.ixS (.t 146) (.t 149)),
 zo 151 (.mv (.t 7)),
 zo 152 (.mv (.t 8)),
 zo 153 (.mv (.t 16)),
 zo 154 (.bin .sub (.t 152) (.t 153)),
 zo 155 (.ixS (.t 151) (.t 154)),
 zo 156 (.bin .neq (.t 150) (.t 155))] [])
 (.cond (.t 156)
 (.exit 6)
 .skip)))
 (.reg [zo 144 (.mv (.t 16)),
 zo 145 (.bin .add (.t 144) (.c (.i .i64 1))),
 zo 16 (.mv (.t 145))]))))))
 (.seq (.reg [zo 157 (.mv (.t 9)),
 zo 158 (.mv (.t 8)),
 zo 159 (.bin .sub (.t 157) (.t 158)),
 zo 4 (.mv (.t 159))])
 .ret))
 .skip)))
 (.reg [zo 125 (.mv (.t 9)),
 zo 126 (.bin .add (.t 125) (.c (.i .i64 1))),
 zo 9 (.mv (.t 126))])))))))))
 (.seq (.reg [zo 4 (.mv (.c (.i .i64 (-1))))])
 .ret))))))))))))))))) }
def Bi:Fun:={ cin:=[.id],cout:=[.id],ntmps:=5,keep:=false,res:=[(2,none)],body :=
 (.seq (.reg [zo 2 (.mv (.c (.b false)))])
 (.seq (.reg [zo 3 (.mv (.t 0)),
 zo 4 (.bin .gtr (.t 3) (.c (.i .i64 8))),
 zo 2 (.mv (.t 4))])
 .ret)) }
def BR:Fun:={ cin:=[.id],cout:=[(.agg [.id,.id,.id,.id,.id,.id,.id,.id,.id,.id,.id,.id,.id,.id,.id,.id,.id,.id,.id,.id,.id,.id,.id,.id,.id,.id,.id,.id,.id,.id,.id,.id,.id,.id,.id,.id,.id,.id,.id,.id,.id,.id,.id,.id,.id,.id,.id,.id,.id,.id,.id,.id,.id,.id,.id,.id,.id,.id,.id,.id,.id,.id,.id,.id,.id,.id,.id,.id,.id,.id,.id,.id,.id,.id,.id,.id,.id,.id,.id,.id,.id,.id,.id,.id,.id,.id,.id,.id,.id,.id,.id,.id,.id,.id,.id,.id,.id,.id,.id,.id,.id,.id,.id,.id,.id,.id,.id,.id,.id,.id,.id,.id,.id,.id,.id,.id,.id,.id,.id,.id,.id,.id,.id,.id,.id,.id,.id,.id,.id,.id,.id,.id,.id,.id,.id,.id,.id,.id,.id,.id,.id,.id,.id,.id,.id,.id,.id,.id,.id,.id,.id,.id,.id,.id,.id,.id,.id,.id,.id,.id,.id,.id,.id,.id,.id,.id,.id,.id,.id,.id,.id,.id,.id,.id,.id,.id,.id,.id,.id,.id,.id,.id,.id,.id,.id,.id,.id,.id,.id,.id,.id,.id,.id,.id,.id,.id,.id,.id,.id,.id,.id,.id,.id,.id,.id,.id,.id,.id,.id,.id,.id,.id,.id,.id,.id,.id,.id,.id,.id,.id,.id,.id,.id,.id,.id,.id,.id,.id,.id,.id,.id,.id,.id,.id,.id,.id,.id,.id,.id,.id,.id,.id,.id,.id,.id,.id,.id,.id,.id,.id,.id,.id,.id,.id,.id,.id]),.id],ntmps:=21,keep:=false,res:=[(2,some (true,256)),(3,none)],body :=
 (.seq (.reg [zo 2 (.alloc 130 [.b false,.b false,.b false,.b false,.b false,.b false,.b false,.b false,.b false,.b false,.b false,.b false,.b false,.b false,.b false,.b false,.b false,.b false,.b false,.b false,.b false,.b false,.b false,.b false,.b false,.b false,.b false,.b false,.b false,.b false,.b false,.b false,.b false,.b false,.b false,.b false,.b false,.b false,.b false,.b false,.b false,.b false,.b false,.b false,.b false,.b false,.b false,.b false,.b false,.b false,.b false,.b false,.b false,.b false,.b false,.b false,.b false,.b false,.b false,.b false,.b false,.b false,.b false,.b false,.b false,.b false,.b false,.b false,.b false,.b false,.b false,.b false,.b false,.b false,.b false,.b false,.b false,.b false,.b false,.b false,.b false,.b false,.b false,.b false,.b false,.b false,.b false,.b false,.b false,.b false,.b false,.b false,.b false,.b false,.b false,.b false,.b false,.b false,.b false,.b false,.b false,.b false,.b false,.b false,.b false,.b false,.b false,.b false,.b false,.b false,.b false,.b false,.b false,.b false,.b false,.b false,.b false,.b false,.b false,.b false,.b false,.b false,.b false,.b false,.b false,.b false,.b false,.b false,.b false,.b false,.b false,.b false,.b false,.b false,.b false,.b false,.b false,.b false,.b false,.b false,.b false,.b false,.b false,.b false,.b false,.b false,.b false,.b false,.b false,.b false,.b false,.b false,.b false,.b false,.b false,.b false,.b false,.b false,.b false,.b false,.b false,.b false,.b false,.b false,.b false,.b false,.b false,.b false,.b false,.b false,.b false,.b false,.b false,.b false,.b false,.b false,.b false,.b false,.b false,.b false,.b false,.b false,.b false,.b false,.b false,.b false,.b false,.b false,.b false,.b false,.b false,.b false,.b false,.b false,.b false,.b false,.b false,.b false,.b false,.b false,.b false,.b false,.b false,.b false,.b false,.b false,.b false,.b false,.b false,.b false,.b false,.b false,.b false,.b false,.b false,.b false,.b false,.b false,.b false,.b false,.b false,.b false,.b false,.b false,.b false,.b false,.b false,.b false,.b false,.b false,.b false,.b false,.b false,.b false,.b false,.b false,.b false,.b false,.b false,.b false,.b false,.b false,.b false,.b false,.b false,.b false,.b false,.b false,.b false,.b false,.b false,.b false,.b false,.b false,.b false,.b false]),
 zo 3 (.mv (.c (.b false)))])
 (.seq (.seq (.reg [zo 4 (.mv (.c (.i .i64 0)))])
 (.blk 0 (.loop (.seq (.seq (.reg [zo 6 (.mv (.t 4)),
 zo 7 (.mv (.t 0)),
 zo 8 (.len 0 (.t 7)),
 zo 9 (.bin .lss (.t 6) (.t 8))])
 (.cond (.t 9)
 .skip
 (.exit 0)))
 (.seq (.blk 1 (.seq (.reg [zo 12 (.mv (.t 0)),
 zo 13 (.mv (.t 4)),
 zo 14 (.ixS (.t 12) (.t 13)),
 zo 5 (.mv (.t 14))])
 (.seq (.seq (.reg [zo 15 (.mv (.t 5)),
 zo 16 (.bin .geq (.t 15) (.c (.i .u8 128)))])
 (.cond (.t 16)
 (.seq (.reg [zo 17 (.ld true 256 (.t 2)),
 ⟨none,.st 256 (.t 2) (.t 17),none⟩,
 zo 3 (.mv (.c (.b false)))])
 .ret)
 .skip))
 (.reg [zo 18 (.mv (.t 5)),
 zo 19 (.iaA 256 1 (.t 2) (.t 18)),
 ⟨none,.st 1 (.t 19) (.c (.b true)),none⟩]))))
 (.reg [zo 10 (.mv (.t 4)),
 zo 11 (.bin .add (.t 10) (.c (.i .i64 1))),
 zo 4 (.mv (.t 11))]))))))
 (.seq (.reg [zo 20 (.ld true 256 (.t 2)),
 ⟨none,.st 256 (.t 2) (.t 20),none⟩,
 zo 3 (.mv (.c (.b true)))])
 .ret))) }
def Bj:Fun:={ cin:=[.id,.id],cout:=[.id],ntmps:=10,keep:=false,res:=[(4,none)],body :=
 (.seq (.reg [zo 4 (.mv (.c (.b false)))])
 (.seq (.reg [zo 5 (.mv (.t 0)),
 zo 6 (.mv (.t 1)),
 zo 7 (.nck (.t 5)),
 zo 8 (.iaA 256 1 (.t 7) (.t 6)),
 zo 9 (.ld false 1 (.t 8)),
 zo 4 (.mv (.t 9))])
 .ret)) }
def B4:Fun:={ cin:=[.id],cout:=[.id],ntmps:=17,keep:=false,res:=[(2,none)],body :=
 (.seq (.reg [zo 2 (.mv (.c (.b false)))])
 (.seq (.blk 0 (.seq (.reg [zo 4 (.mv (.t 0)),
 zo 5 (.bin .leq (.c (.i .i32 0)) (.t 4)),
 zo 6 (.mv (.t 5)),
 ⟨some 7,.mv (.t 0),some (6,true)⟩,
 ⟨some 8,.bin .lss (.t 7) (.c (.i .i32 55296)),some (6,true)⟩,
 zo 9 (.pick (.t 6) (.t 8) (.c (.b false))),
 zo 3 (.mv (.t 9))])
 (.cond (.t 3)
 (.seq (.reg [zo 2 (.mv (.c (.b true)))])
 .ret)
 (.seq (.reg [zo 11 (.mv (.t 0)),
 zo 12 (.bin .lss (.c (.i .i32 57343)) (.t 11)),
 zo 13 (.mv (.t 12)),
 ⟨some 14,.mv (.t 0),some (13,true)⟩,
 ⟨some 15,.bin .leq (.t 14) (.c (.i .i32 1114111)),some (13,true)⟩,
 zo 16 (.pick (.t 13) (.t 15) (.c (.b false))),
 zo 10 (.mv (.t 16))])
 (.cond (.t 10)
 (.seq (.reg [zo 2 (.mv (.c (.b true)))])
 .ret)
 .skip)))))
 (.seq (.reg [zo 2 (.mv (.c (.b false)))])
 .ret))) }
def Ca:Fun:={ cin:=[.id],cout:=[.id],ntmps:=6,keep:=false,res:=[(2,none)],body :=
 (.seq (.reg [zo 2 (.mv (.c (.i .i64 0)))])
 (.seq (.reg [zo 3 (.mv (.t 0)),
 zo 4 (.bin .add (.t 3) (.c (.i .i64 16))),
 zo 5 (.bin .quo (.t 4) (.c (.i .i64 8))),
 zo 2 (.mv (.t 5))])
 .ret)) }
def tab:PT:=(.n 74 CJ (.n 45 Cz (.n 27 Aw (.n 22 BE (.n 17 AY (.n 16 BO (.n 6 AE .e .e) .e) (.n 18 Cd .e .e)) (.n 25 Cw (.n 23 CB .e .e) (.n 26 Cx .e .e))) (.n 38 Bx (.n 36 Cj (.n 29 AN (.n 28 Ec .e .e) .e) (.n 37 DM .e .e)) (.n 43 Cy (.n 42 DN .e .e) (.n 44 JS .e .e)))) (.n 66 Ay (.n 50 FL (.n 48 BM (.n 47 AP (.n 46 A3 .e .e) .e) (.n 49 BP .e .e)) (.n 52 Au (.n 51 Cr .e .e) (.n 53 GX .e .e))) (.n 70 E7 (.n 68 DW (.n 67 DV .e .e) (.n 69 Bg .e .e)) (.n 72 Ab (.n 71 DX .e .e) (.n 73 CI .e .e))))) (.n 111 BH (.n 99 EP (.n 85 A4 (.n 83 Az (.n 82 CW (.n 81 AG .e .e) .e) (.n 84 DP .e .e)) (.n 97 EO (.n 96 C1 .e .e) (.n 98 Dv .e .e))) (.n 103 A9 (.n 101 BN (.n 100 BV .e .e) (.n 102 CO .e .e)) (.n 105 Ak (.n 104 BB .e .e) (.n 108 Ce .e .e)))) (.n 122 Aj (.n 116 DY (.n 114 Ed (.n 113 Ck (.n 112 BU .e .e) .e) (.n 115 BC .e .e)) (.n 118 BQ (.n 117 Cf .e .e) (.n 119 Bh .e .e))) (.n 128 BR (.n 126 BA (.n 125 DG .e .e) (.n 127 Bi .e .e)) (.n 141 B4 (.n 129 Bj .e .e) (.n 142 Ca .e .e))))))
def prog (n:Nat):Option Fun:=tab.get n
theorem Eu:prog BF=some AE:=rfl
theorem D8:prog Ai=some BO:=rfl
theorem Dw:prog AX=some AY:=rfl
theorem My:prog Er=some Cd:=rfl
theorem D9:prog Aa=some BE:=rfl
theorem Im:prog BG=some CB:=rfl
theorem GY:prog Al=some Cw:=rfl
theorem O2:prog EL=some Cx:=rfl
theorem Ee:prog Ae=some Aw:=rfl
theorem N0:prog DK=some Ec:=rfl
theorem Gm:prog Ar=some AN:=rfl
theorem LH:prog Ch=some Cj:=rfl
theorem N1:prog HE=some DM:=rfl
theorem LI:prog FK=some Bx:=rfl
theorem N2:prog Bw=some DN:=rfl
theorem Mz:prog Ao=some Cy:=rfl
theorem Yi:prog JQ=some JS:=rfl
theorem M0:prog A6=some Cz:=rfl
theorem O3:prog Dk=some A3:=rfl
theorem Gn:prog CS=some AP:=rfl
theorem GZ:prog B9=some BM:=rfl
theorem Gp:prog CU=some BP:=rfl
theorem S6:prog Il=some FL:=rfl
theorem S7:prog LG=some Cr:=rfl
theorem Ei:prog B5=some Au:=rfl
theorem O4:prog GU=some GX:=rfl
theorem N3:prog Eb=some Ay:=rfl
theorem M1:prog Es=some DV:=rfl
theorem M2:prog Et=some DW:=rfl
theorem O5:prog Hw=some Bg:=rfl
theorem Q7:prog JR=some E7:=rfl
theorem M3:prog DU=some DX:=rfl
theorem Dm:prog A7=some Ab:=rfl
theorem JT:prog Co=some CI:=rfl
theorem JU:prog Cp=some CJ:=rfl
theorem CD:prog AO=some AG:=rfl
theorem Gq:prog DB=some CW:=rfl
theorem Gr:prog DC=some Az:=rfl
theorem O6:prog GV=some DP:=rfl
theorem FS:prog CY=some A4:=rfl
theorem Hx:prog Br=some C1:=rfl
theorem O7:prog EM=some EO:=rfl
theorem N4:prog HF=some Dv:=rfl
theorem O8:prog GW=some EP:=rfl
theorem Hy:prog Dl=some BV:=rfl
theorem Ga:prog CA=some BN:=rfl
theorem LJ:prog Aq=some CO:=rfl
theorem Dn:prog A8=some A9:=rfl
theorem Fk:prog Ci=some BB:=rfl
theorem D4:prog Bm=some Ak:=rfl
theorem HG:prog DL=some Ce:=rfl
theorem D5:prog Bn=some BH:=rfl
theorem M4:prog Bd=some BU:=rfl
theorem Hf:prog Dd=some Ck:=rfl
theorem Ef:prog Cb=some Ed:=rfl
theorem Fl:prog AZ=some BC:=rfl
theorem JV:prog EN=some DY:=rfl
theorem HH:prog Cc=some Cf:=rfl
theorem Gs:prog DD=some BQ:=rfl
theorem Io:prog D3=some Bh:=rfl
theorem FU:prog CZ=some Aj:=rfl
theorem Ip:prog DF=some DG:=rfl
theorem Hz:prog Bs=some BA:=rfl
theorem FM:prog Be=some Bi:=rfl
theorem Gt:prog CV=some BR:=rfl
theorem FN:prog Bf=some Bj:=rfl
theorem F4:prog Cq=some B4:=rfl
theorem LV:prog Db=some Ca:=rfl
end Go.Proofs.Ytgloinighjdhlaa
