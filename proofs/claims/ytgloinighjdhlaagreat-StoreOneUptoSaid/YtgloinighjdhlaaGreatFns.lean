/-
  The functions, as the abstract machine's: numbers and texts. By program.
-/
import Derived.Test.YtgloinighjdhlaaGreatAmKeep
import Derived.Test.YtgloinighjdhlaaGreatAmRg
set_option linter.all false
set_option linter.unusedVariables false
set_option linter.unusedSimpArgs false
set_option linter.unusedSectionVars false
set_option maxRecDepth 100000
namespace Go.Proofs.YtgloinighjdhlaaGreat
open Go.Proofs.YtgloinighjdhlaaGreat.Am
def EE:Nat:=5
def DZ:Nat:=6
def CZ:Nat:=7
def GK:Nat:=9
def Ff:Nat:=12
def F0:Nat:=14
def Gd:Nat:=16
def Dm:Nat:=20
def Bn:Nat:=21
def DI:Nat:=24
def Fg:Nat:=25
def Tf:Nat:=28
def Cc:Nat:=29
def Cq:Nat:=30
def GL:Nat:=31
def GM:Nat:=32
def Cr:Nat:=33
def AR:Nat:=34
def AU:Nat:=35
def Ak:Nat:=36
def Da:Nat:=38
def ES:Nat:=40
def ET:Nat:=41
def Dn:Nat:=43
def Hd:Nat:=44
def Dp:Nat:=45
def EU:Nat:=47
def EW:Nat:=48
def Cl:Nat:=50
def Cm:Nat:=51
def He:Nat:=54
def Jv:Nat:=55
def Mh:Nat:=56
def BE:Nat:=57
def Hf:Nat:=58
def JH:Nat:=59
def Dq:Nat:=60
def FS:Nat:=61
def Cs:Nat:=62
def Ns:Nat:=63
def Dr:Nat:=64
def P0:Nat:=65
def El:Nat:=66
def DJ:Nat:=68
def Bo:Nat:=69
def Ds:Nat:=70
def Db:Nat:=72
def Bx:Nat:=73
def JI:Nat:=78
def IV:Nat:=79
def GN:Nat:=80
def B4:Nat:=81
def Ai:Nat:=82
def BW:Nat:=83
def E1:Nat:=84
def De:Nat:=85
def EF:Nat:=86
def E2:Nat:=87
def EP:Nat:=91
def Ct:Nat:=92
def Ae:Nat:=93
def Fh:Nat:=95
def F1:Nat:=96
def F2:Nat:=97
def JJ:Nat:=98
def Kn:Nat:=99
def D7:Nat:=100
def BC:Nat:=101
def C8:Nat:=102
def C9:Nat:=103
def CB:Nat:=104
def Bp:Nat:=105
def Cn:Nat:=106
def Bq:Nat:=107
def BT:Nat:=108
def CN:Nat:=109
def Cp:Nat:=110
def CD:Nat:=113
def FU:Nat:=114
def IW:Nat:=115
def Hg:Nat:=116
def Ax:Nat:=117
def C1:Nat:=118
def Bz:Nat:=119
def DA:Nat:=120
def EG:Nat:=121
def LD:Nat:=122
def B2:Nat:=134
def Br:Nat:=135
def Dc:Nat:=136
def JT:Nat:=143
abbrev zo(d:Nat)(p:AOp):Am.Op:=⟨some d,p,none⟩
def AF:Fun:={ cin:=[(.sl 6 (.agg [.id,.id,.sl 1 .id,.sl 1 .id,.id,.id])),(.agg [.id,.id,(.sl 1 .id),(.sl 4 (.agg [.id,.id,(.sl 1 .id),(.sl 4 (.agg [.id,.id,.sl 1 .id,.sl 4 .id]))]))]),.id,.id],cout:=[.id],ntmps:=222,keep:=false,res:=[(8,none)],body :=
 (.seq (.reg [zo 5 (.box 37 4 (.t 1)),
 zo 8 (.mv (.c (.b false)))])
 (.seq (.seq (.reg [zo 23 (.mv (.t 0)),
 zo 24 (.call DZ [.t 23]),
 zo 25 (.mv (.t 24)),
 ⟨some 26,.mv (.t 3),some (25,false)⟩,
 ⟨some 27,.len 0 (.t 26),some (25,false)⟩,
 ⟨some 28,.bin .gtr (.t 27) (.c (.i .i64 300)),some (25,false)⟩,
 zo 29 (.pick (.t 25) (.c (.b true)) (.t 28)),
 zo 30 (.mv (.t 29)),
 ⟨some 31,.ld true 4 (.t 5),some (30,false)⟩,
 ⟨some 32,.call Dm [.t 31],some (30,false)⟩,
 ⟨some 33,.un .not (.t 32),some (30,false)⟩,
 zo 34 (.pick (.t 30) (.c (.b true)) (.t 33)),
 zo 35 (.mv (.t 34)),
 ⟨some 36,.ld true 4 (.t 5),some (35,false)⟩,
 ⟨some 37,.call Bn [.t 36],some (35,false)⟩,
 ⟨some 38,.bin .gtr (.t 37) (.c (.i .i64 150)),some (35,false)⟩,
 zo 39 (.pick (.t 35) (.c (.b true)) (.t 38)),
 zo 40 (.mv (.t 39)),
 ⟨some 41,.call CZ [],some (40,false)⟩,
 ⟨some 42,.un .not (.t 41),some (40,false)⟩,
 zo 43 (.pick (.t 40) (.c (.b true)) (.t 42))])
 (.cond (.t 43)
 (.seq (.reg [zo 44 (.call CZ []),
 zo 8 (.mv (.t 44))])
 .ret)
 .skip))
 (.seq (.seq (.reg [zo 45 (.mv (.t 0)),
 zo 46 (.call Fg [.t 45]),
 zo 47 (.un .not (.t 46)),
 zo 48 (.mv (.t 47)),
 ⟨some 49,.mv (.t 2),some (48,false)⟩,
 ⟨some 50,.bin .lss (.t 49) (.c (.i .i64 0)),some (48,false)⟩,
 zo 51 (.pick (.t 48) (.c (.b true)) (.t 50)),
 zo 52 (.mv (.t 51)),
 ⟨some 53,.mv (.t 2),some (52,false)⟩,
 ⟨some 54,.mv (.t 0),some (52,false)⟩,
 ⟨some 55,.len 1 (.t 54),some (52,false)⟩,
 ⟨some 56,.bin .geq (.t 53) (.t 55),some (52,false)⟩,
 zo 57 (.pick (.t 52) (.c (.b true)) (.t 56))])
 (.cond (.t 57)
 (.seq (.reg [zo 8 (.mv (.c (.b true)))])
 .ret)
 .skip))
 (.seq (.reg [zo 58 (.mv (.t 0)),
 zo 59 (.ld true 4 (.t 5)),
 zo 60 (.call DI [.t 58,.t 59]),
 zo 9 (.mv (.t 60))])
 (.seq (.reg [zo 10 (.mv (.c (.i .i64 0)))])
 (.seq (.seq (.reg [zo 11 (.mv (.c (.i .u8 0)))])
 (.blk 0 (.loop (.seq (.seq (.reg [zo 61 (.mv (.t 11)),
 zo 62 (.bin .leq (.t 61) (.c (.i .u8 3)))])
 (.cond (.t 62)
 .skip
 (.exit 0)))
 (.seq (.blk 1 (.seq (.reg [zo 66 (.mv (.t 0)),
 zo 67 (.mv (.t 2)),
 zo 68 (.mv (.t 11)),
 zo 69 (.call Ff [.t 66,.t 67,.t 68]),
 zo 65 (.mv (.t 69)),
 zo 70 (.ext (.t 65) 0),
 zo 71 (.ext (.t 65) 1),
 zo 12 (.mv (.t 70)),
 zo 13 (.mv (.t 71))])
 (.seq (.seq (.seq (.thw 0)
 (.reg [zo 72 (.mv (.t 13)),
 zo 73 (.bin .eql (.t 72) (.c (.i .i64 0))),
 zo 74 (.mv (.t 0)),
 zo 75 (.mv (.t 2)),
 zo 76 (.ia 6 (.t 74) (.t 75)),
 zo 77 (.fa 0 (.t 76)),
 zo 78 (.ld false 1 (.t 77)),
 zo 79 (.eq .bool false (.t 73) (.t 78))]))
 (.cond (.t 79)
 (.seq (.reg [zo 8 (.mv (.c (.b false)))])
 .ret)
 .skip))
 (.seq (.reg [zo 80 (.mv (.t 13)),
 zo 81 (.bin .eql (.t 80) (.c (.i .i64 0))),
 zo 82 (.mv (.t 81)),
 ⟨some 83,.mv (.t 12),some (82,true)⟩,
 ⟨some 84,.ld true 4 (.t 5),some (82,true)⟩,
 ⟨some 85,.call DI [.t 83,.t 84],some (82,true)⟩,
 zo 86 (.pick (.t 82) (.t 85) (.c (.b false)))])
 (.cond (.t 86)
 (.reg [zo 87 (.mv (.t 10)),
 zo 88 (.bin .add (.t 87) (.c (.i .i64 1))),
 zo 10 (.mv (.t 88))])
 .skip)))))
 (.reg [zo 63 (.mv (.t 11)),
 zo 64 (.bin .add (.t 63) (.c (.i .u8 1))),
 zo 11 (.mv (.t 64))]))))))
 (.seq (.seq (.seq (.thw 0)
 (.reg [zo 89 (.mv (.t 10)),
 zo 90 (.bin .gtr (.t 89) (.c (.i .i64 0))),
 zo 91 (.mv (.t 90)),
 ⟨some 92,.mv (.t 9),some (91,true)⟩,
 ⟨some 93,.un .not (.t 92),some (91,true)⟩,
 zo 94 (.pick (.t 91) (.t 93) (.c (.b false))),
 zo 95 (.mv (.t 94)),
 ⟨some 96,.mv (.t 9),some (95,false)⟩,
 ⟨some 97,.mv (.t 96),some (95,false)⟩,
 ⟨some 98,.mv (.t 0),some (97,true)⟩,
 ⟨some 99,.mv (.t 2),some (97,true)⟩,
 ⟨some 100,.ia 6 (.t 98) (.t 99),some (97,true)⟩,
 ⟨some 101,.fa 0 (.t 100),some (97,true)⟩,
 ⟨some 102,.ld false 1 (.t 101),some (97,true)⟩,
 ⟨some 103,.un .not (.t 102),some (97,true)⟩,
 ⟨some 104,.pick (.t 97) (.t 103) (.c (.b false)),some (95,false)⟩,
 ⟨some 105,.mv (.t 104),some (95,false)⟩,
 ⟨some 106,.mv (.t 10),some (105,true)⟩,
 ⟨some 107,.bin .neq (.t 106) (.c (.i .i64 1)),some (105,true)⟩,
 ⟨some 108,.pick (.t 105) (.t 107) (.c (.b false)),some (95,false)⟩,
 zo 109 (.pick (.t 95) (.c (.b true)) (.t 108))]))
 (.cond (.t 109)
 (.seq (.reg [zo 8 (.mv (.c (.b false)))])
 .ret)
 .skip))
 (.seq (.reg [zo 111 (.mv (.t 0)),
 zo 112 (.mv (.t 2)),
 zo 113 (.mv (.t 3)),
 zo 114 (.call GK [.t 111,.t 112,.t 113]),
 zo 110 (.mv (.t 114)),
 zo 115 (.ext (.t 110) 0),
 zo 116 (.ext (.t 110) 1),
 zo 117 (.ext (.t 110) 2),
 zo 14 (.mv (.t 115)),
 zo 15 (.mv (.t 116)),
 zo 16 (.mv (.t 117))])
 (.seq (.seq (.reg [zo 118 (.mv (.t 16)),
 zo 119 (.bin .eql (.t 118) (.c (.i .i64 0))),
 zo 120 (.mv (.t 119)),
 ⟨some 121,.mv (.t 14),some (120,true)⟩,
 ⟨some 122,.ld true 4 (.t 5),some (120,true)⟩,
 ⟨some 123,.call DI [.t 121,.t 122],some (120,true)⟩,
 ⟨some 124,.mv (.t 9),some (120,true)⟩,
 ⟨some 125,.eq .bool true (.t 123) (.t 124),some (120,true)⟩,
 ⟨some 126,.mv (.t 125),some (120,true)⟩,
 ⟨some 127,.mv (.t 15),some (126,false)⟩,
 ⟨some 128,.mv (.t 14),some (126,false)⟩,
 ⟨some 129,.len 1 (.t 128),some (126,false)⟩,
 ⟨some 130,.bin .geq (.t 127) (.t 129),some (126,false)⟩,
 ⟨some 131,.pick (.t 126) (.c (.b true)) (.t 130),some (120,true)⟩,
 ⟨some 132,.mv (.t 131),some (120,true)⟩,
 ⟨some 133,.mv (.t 14),some (132,false)⟩,
 ⟨some 134,.call Fg [.t 133],some (132,false)⟩,
 ⟨some 135,.un .not (.t 134),some (132,false)⟩,
 ⟨some 136,.pick (.t 132) (.c (.b true)) (.t 135),some (120,true)⟩,
 zo 137 (.pick (.t 120) (.t 136) (.c (.b false)))])
 (.cond (.t 137)
 (.seq (.reg [zo 8 (.mv (.c (.b false)))])
 .ret)
 .skip))
 (.seq (.reg [zo 17 (.mv (.c (.i .i64 0)))])
 (.seq (.reg [zo 139 (.mv (.t 0)),
 zo 140 (.mv (.t 2)),
 zo 141 (.call F0 [.t 139,.t 140]),
 zo 138 (.mv (.t 141)),
 zo 142 (.ext (.t 138) 0),
 zo 143 (.ext (.t 138) 1),
 zo 18 (.mv (.t 142)),
 zo 16 (.mv (.t 143))])
 (.seq (.seq (.reg [zo 144 (.mv (.t 16)),
 zo 145 (.bin .eql (.t 144) (.c (.i .i64 0))),
 zo 146 (.mv (.t 145)),
 ⟨some 147,.mv (.t 18),some (146,true)⟩,
 ⟨some 148,.ld true 4 (.t 5),some (146,true)⟩,
 ⟨some 149,.call DI [.t 147,.t 148],some (146,true)⟩,
 zo 150 (.pick (.t 146) (.t 149) (.c (.b false)))])
 (.cond (.t 150)
 (.reg [zo 151 (.mv (.t 17)),
 zo 152 (.bin .add (.t 151) (.c (.i .i64 1))),
 zo 17 (.mv (.t 152))])
 .skip))
 (.seq (.reg [zo 154 (.mv (.t 0)),
 zo 155 (.mv (.t 2)),
 zo 156 (.call Gd [.t 154,.t 155]),
 zo 153 (.mv (.t 156)),
 zo 157 (.ext (.t 153) 0),
 zo 158 (.ext (.t 153) 1),
 zo 19 (.mv (.t 157)),
 zo 20 (.mv (.t 158))])
 (.seq (.seq (.reg [zo 159 (.mv (.t 20)),
 zo 160 (.bin .eql (.t 159) (.c (.i .i64 0))),
 zo 161 (.mv (.t 160)),
 ⟨some 162,.mv (.t 19),some (161,true)⟩,
 ⟨some 163,.ld true 4 (.t 5),some (161,true)⟩,
 ⟨some 164,.call DI [.t 162,.t 163],some (161,true)⟩,
 zo 165 (.pick (.t 161) (.t 164) (.c (.b false)))])
 (.cond (.t 165)
 (.reg [zo 166 (.mv (.t 17)),
 zo 167 (.bin .add (.t 166) (.c (.i .i64 1))),
 zo 17 (.mv (.t 167))])
 .skip))
 (.seq (.seq (.reg [zo 168 (.mv (.t 20)),
 zo 169 (.bin .neq (.t 168) (.c (.i .i64 0)))])
 (.cond (.t 169)
 (.seq (.reg [zo 170 (.mv (.t 17)),
 zo 171 (.bin .eql (.t 170) (.c (.i .i64 0))),
 zo 8 (.mv (.t 171))])
 .ret)
 .skip))
 (.seq (.reg [zo 21 (.mv (.c (.b true)))])
 (.seq (.seq (.reg [zo 22 (.mv (.c (.i .i64 0)))])
 (.blk 2 (.loop (.seq (.seq (.seq (.thw 0)
 (.reg [zo 172 (.mv (.t 22)),
 zo 173 (.mv (.t 0)),
 zo 174 (.mv (.t 2)),
 zo 175 (.ia 6 (.t 173) (.t 174)),
 zo 176 (.fa 3 (.t 175)),
 zo 177 (.ld false 1 (.t 176)),
 zo 178 (.len 1 (.t 177)),
 zo 179 (.bin .lss (.t 172) (.t 178))]))
 (.cond (.t 179)
 .skip
 (.exit 2)))
 (.seq (.blk 3 (.seq (.thw 0)
 (.reg [zo 182 (.mv (.t 21)),
 zo 183 (.mv (.t 182)),
 ⟨some 184,.mv (.t 0),some (183,true)⟩,
 ⟨some 185,.mv (.t 0),some (183,true)⟩,
 ⟨some 186,.mv (.t 2),some (183,true)⟩,
 ⟨some 187,.ia 6 (.t 185) (.t 186),some (183,true)⟩,
 ⟨some 188,.fa 3 (.t 187),some (183,true)⟩,
 ⟨some 189,.ld false 1 (.t 188),some (183,true)⟩,
 ⟨some 190,.mv (.t 22),some (183,true)⟩,
 ⟨some 191,.ia 1 (.t 189) (.t 190),some (183,true)⟩,
 ⟨some 192,.ld false 1 (.t 191),some (183,true)⟩,
 ⟨some 193,.ia 6 (.t 184) (.t 192),some (183,true)⟩,
 ⟨some 194,.fa 0 (.t 193),some (183,true)⟩,
 ⟨some 195,.ld false 1 (.t 194),some (183,true)⟩,
 zo 196 (.pick (.t 183) (.t 195) (.c (.b false))),
 zo 21 (.mv (.t 196))])))
 (.reg [zo 180 (.mv (.t 22)),
 zo 181 (.bin .add (.t 180) (.c (.i .i64 1))),
 zo 22 (.mv (.t 181))]))))))
 (.seq (.reg [zo 197 (.mv (.t 17)),
 zo 198 (.bin .leq (.t 197) (.c (.i .i64 1))),
 zo 199 (.mv (.t 198)),
 ⟨some 200,.mv (.t 17),some (199,true)⟩,
 ⟨some 201,.bin .eql (.t 200) (.c (.i .i64 0)),some (199,true)⟩,
 ⟨some 202,.mv (.t 201),some (199,true)⟩,
 ⟨some 203,.mv (.t 9),some (202,false)⟩,
 ⟨some 204,.pick (.t 202) (.c (.b true)) (.t 203),some (199,true)⟩,
 zo 205 (.pick (.t 199) (.t 204) (.c (.b false))),
 zo 206 (.mv (.t 205)),
 ⟨some 207,.mv (.t 9),some (206,true)⟩,
 ⟨some 208,.un .not (.t 207),some (206,true)⟩,
 ⟨some 209,.mv (.t 208),some (206,true)⟩,
 ⟨some 210,.mv (.t 21),some (209,false)⟩,
 ⟨some 211,.un .not (.t 210),some (209,false)⟩,
 ⟨some 212,.pick (.t 209) (.c (.b true)) (.t 211),some (206,true)⟩,
 ⟨some 213,.mv (.t 212),some (206,true)⟩,
 ⟨some 214,.mv (.t 17),some (213,false)⟩,
 ⟨some 215,.bin .eql (.t 214) (.c (.i .i64 1)),some (213,false)⟩,
 ⟨some 216,.pick (.t 213) (.c (.b true)) (.t 215),some (206,true)⟩,
 zo 217 (.pick (.t 206) (.t 216) (.c (.b false))),
 zo 218 (.mv (.t 217)),
 ⟨some 219,.mv (.t 19),some (218,true)⟩,
 ⟨some 220,.call Fg [.t 219],some (218,true)⟩,
 zo 221 (.pick (.t 218) (.t 220) (.c (.b false))),
 zo 8 (.mv (.t 221))])
 .ret)))))))))))))))))) }
def BI:Fun:={ cin:=[(.sl 6 (.agg [.id,.id,.sl 1 .id,.sl 1 .id,.id,.id]))],cout:=[.id],ntmps:=50,keep:=false,res:=[(2,none)],body :=
 (.seq (.reg [zo 2 (.mv (.c (.b false)))])
 (.seq (.seq (.reg [zo 5 (.mv (.t 0)),
 zo 6 (.len 1 (.t 5)),
 zo 7 (.bin .gtr (.t 6) (.c (.i .i64 60)))])
 (.cond (.t 7)
 (.seq (.reg [zo 2 (.mv (.c (.b true)))])
 .ret)
 .skip))
 (.seq (.seq (.reg [zo 3 (.mv (.c (.i .i64 0)))])
 (.blk 0 (.loop (.seq (.seq (.reg [zo 8 (.mv (.t 3)),
 zo 9 (.mv (.t 0)),
 zo 10 (.len 1 (.t 9)),
 zo 11 (.bin .lss (.t 8) (.t 10))])
 (.cond (.t 11)
 .skip
 (.exit 0)))
 (.seq (.blk 1 (.seq (.seq (.seq (.thw 0)
 (.reg [zo 14 (.mv (.t 0)),
 zo 15 (.mv (.t 3)),
 zo 16 (.ia 6 (.t 14) (.t 15)),
 zo 17 (.fa 2 (.t 16)),
 zo 18 (.ld false 1 (.t 17)),
 zo 19 (.len 1 (.t 18)),
 zo 20 (.bin .gtr (.t 19) (.c (.i .i64 60))),
 zo 21 (.mv (.t 20)),
 ⟨some 22,.mv (.t 0),some (21,false)⟩,
 ⟨some 23,.mv (.t 3),some (21,false)⟩,
 ⟨some 24,.ia 6 (.t 22) (.t 23),some (21,false)⟩,
 ⟨some 25,.fa 3 (.t 24),some (21,false)⟩,
 ⟨some 26,.ld false 1 (.t 25),some (21,false)⟩,
 ⟨some 27,.len 1 (.t 26),some (21,false)⟩,
 ⟨some 28,.bin .gtr (.t 27) (.c (.i .i64 60)),some (21,false)⟩,
 zo 29 (.pick (.t 21) (.c (.b true)) (.t 28))]))
 (.cond (.t 29)
 (.seq (.reg [zo 2 (.mv (.c (.b true)))])
 .ret)
 .skip))
 (.seq (.reg [zo 4 (.mv (.c (.i .i64 0)))])
 (.blk 2 (.loop (.seq (.seq (.seq (.thw 0)
 (.reg [zo 30 (.mv (.t 4)),
 zo 31 (.mv (.t 0)),
 zo 32 (.mv (.t 3)),
 zo 33 (.ia 6 (.t 31) (.t 32)),
 zo 34 (.fa 2 (.t 33)),
 zo 35 (.ld false 1 (.t 34)),
 zo 36 (.len 1 (.t 35)),
 zo 37 (.bin .lss (.t 30) (.t 36))]))
 (.cond (.t 37)
 .skip
 (.exit 2)))
 (.seq (.blk 3 (.seq (.seq (.thw 0)
 (.reg [zo 40 (.mv (.t 0)),
 zo 41 (.mv (.t 3)),
 zo 42 (.ia 6 (.t 40) (.t 41)),
 zo 43 (.fa 2 (.t 42)),
 zo 44 (.ld false 1 (.t 43)),
 zo 45 (.mv (.t 4)),
 zo 46 (.ia 1 (.t 44) (.t 45)),
 zo 47 (.ld false 1 (.t 46)),
 zo 48 (.len 0 (.t 47)),
 zo 49 (.bin .gtr (.t 48) (.c (.i .i64 300)))]))
 (.cond (.t 49)
 (.seq (.reg [zo 2 (.mv (.c (.b true)))])
 .ret)
 .skip)))
 (.reg [zo 38 (.mv (.t 4)),
 zo 39 (.bin .add (.t 38) (.c (.i .i64 1))),
 zo 4 (.mv (.t 39))]))))))))
 (.reg [zo 12 (.mv (.t 3)),
 zo 13 (.bin .add (.t 12) (.c (.i .i64 1))),
 zo 3 (.mv (.t 13))]))))))
 (.seq (.reg [zo 2 (.mv (.c (.b false)))])
 .ret)))) }
def E3:Fun:={ cin:=[],cout:=[],ntmps:=0,keep:=false,res:=[],body:=.bad,prim:=some (Qt OD) }
def Em:Fun:={ cin:=[],cout:=[.id],ntmps:=93,keep:=false,res:=[(0,none)],body :=
 (.seq (.reg [zo 0 (.mv (.c (.b false)))])
 (.seq (.reg [zo 15 (.call Tf []),
 zo 16 (.call GK [(.t 15),(.c (.i .i64 0)),(.c (.s [97]))]),
 zo 14 (.mv (.t 16)),
 zo 17 (.ext (.t 14) 0),
 zo 18 (.ext (.t 14) 1),
 zo 19 (.ext (.t 14) 2),
 zo 1 (.mv (.t 17)),
 zo 2 (.mv (.t 18)),
 zo 3 (.mv (.t 19))])
 (.seq (.reg [zo 21 (.mv (.t 1)),
 zo 22 (.mv (.t 2)),
 zo 23 (.call Ff [(.t 21),(.t 22),(.c (.i .u8 1))]),
 zo 20 (.mv (.t 23)),
 zo 24 (.ext (.t 20) 0),
 zo 25 (.ext (.t 20) 1),
 zo 1 (.mv (.t 24)),
 zo 4 (.mv (.t 25))])
 (.seq (.reg [zo 27 (.mv (.t 1)),
 zo 28 (.call Gd [(.t 27),(.c (.i .i64 0))]),
 zo 26 (.mv (.t 28)),
 zo 29 (.ext (.t 26) 0),
 zo 30 (.ext (.t 26) 1),
 zo 1 (.mv (.t 29)),
 zo 5 (.mv (.t 30))])
 (.seq (.seq (.reg [zo 31 (.mv (.t 1)),
 zo 32 (.len 1 (.t 31)),
 zo 33 (.bin .neq (.t 32) (.c (.i .i64 2)))])
 (.cond (.t 33)
 (.seq (.reg [zo 0 (.mv (.c (.b false)))])
 .ret)
 .skip))
 (.seq (.seq (.thw 1)
 (.regD [zo 34 (.mv (.t 1)),
 zo 35 (.ia 6 (.t 34) (.c (.i .i64 0))),
 zo 36 (.fa 4 (.t 35)),
 zo 37 (.ld false 1 (.t 36)),
 zo 38 (.mv (.t 1)),
 zo 39 (.ia 6 (.t 38) (.c (.i .i64 0))),
 zo 40 (.fa 5 (.t 39)),
 zo 41 (.ld false 1 (.t 40)),
 zo 6 (.mv (.t 37)),
 zo 7 (.mv (.t 41))] []))
 (.seq (.reg [zo 43 (.mv (.t 1)),
 zo 44 (.call GK [(.t 43),(.c (.i .i64 0)),(.c (.s [98]))]),
 zo 42 (.mv (.t 44)),
 zo 45 (.ext (.t 42) 0),
 zo 46 (.ext (.t 42) 1),
 zo 47 (.ext (.t 42) 2),
 zo 8 (.mv (.t 45)),
 zo 9 (.mv (.t 46)),
 zo 10 (.mv (.t 47))])
 (.seq (.reg [zo 49 (.mv (.t 8)),
 zo 50 (.mv (.t 9)),
 zo 51 (.call Ff [(.t 49),(.t 50),(.c (.i .u8 0))]),
 zo 48 (.mv (.t 51)),
 zo 52 (.ext (.t 48) 0),
 zo 53 (.ext (.t 48) 1),
 zo 8 (.mv (.t 52)),
 zo 11 (.mv (.t 53))])
 (.seq (.reg [zo 55 (.mv (.t 8)),
 zo 56 (.call F0 [(.t 55),(.c (.i .i64 0))]),
 zo 54 (.mv (.t 56)),
 zo 57 (.ext (.t 54) 0),
 zo 58 (.ext (.t 54) 1),
 zo 12 (.mv (.t 57)),
 zo 13 (.mv (.t 58))])
 (.seq (.reg [zo 59 (.mv (.t 3)),
 zo 60 (.bin .eql (.t 59) (.c (.i .i64 0))),
 zo 61 (.mv (.t 60)),
 ⟨some 62,.mv (.t 4),some (61,true)⟩,
 ⟨some 63,.bin .eql (.t 62) (.c (.i .i64 0)),some (61,true)⟩,
 zo 64 (.pick (.t 61) (.t 63) (.c (.b false))),
 zo 65 (.mv (.t 64)),
 ⟨some 66,.mv (.t 5),some (65,true)⟩,
 ⟨some 67,.bin .eql (.t 66) (.c (.i .i64 0)),some (65,true)⟩,
 zo 68 (.pick (.t 65) (.t 67) (.c (.b false))),
 zo 69 (.mv (.t 68)),
 ⟨some 70,.mv (.t 6),some (69,true)⟩,
 ⟨some 71,.bin .eql (.t 70) (.c (.i .i64 2)),some (69,true)⟩,
 zo 72 (.pick (.t 69) (.t 71) (.c (.b false))),
 zo 73 (.mv (.t 72)),
 ⟨some 74,.mv (.t 7),some (73,true)⟩,
 ⟨some 75,.bin .eql (.t 74) (.c (.i .i64 1)),some (73,true)⟩,
 zo 76 (.pick (.t 73) (.t 75) (.c (.b false))),
 zo 77 (.mv (.t 76)),
 ⟨some 78,.mv (.t 10),some (77,true)⟩,
 ⟨some 79,.bin .eql (.t 78) (.c (.i .i64 0)),some (77,true)⟩,
 zo 80 (.pick (.t 77) (.t 79) (.c (.b false))),
 zo 81 (.mv (.t 80)),
 ⟨some 82,.mv (.t 9),some (81,true)⟩,
 ⟨some 83,.bin .eql (.t 82) (.c (.i .i64 2)),some (81,true)⟩,
 zo 84 (.pick (.t 81) (.t 83) (.c (.b false))),
 zo 85 (.mv (.t 84)),
 ⟨some 86,.mv (.t 11),some (85,true)⟩,
 ⟨some 87,.bin .eql (.t 86) (.c (.i .i64 0)),some (85,true)⟩,
 zo 88 (.pick (.t 85) (.t 87) (.c (.b false))),
 zo 89 (.mv (.t 88)),
 ⟨some 90,.mv (.t 13),some (89,true)⟩,
 ⟨some 91,.bin .eql (.t 90) (.c (.i .i64 67)),some (89,true)⟩,
 zo 92 (.pick (.t 89) (.t 91) (.c (.b false))),
 zo 0 (.mv (.t 92))])
 .ret)))))))))) }
def DK:Fun:={ cin:=[(.sl 6 (.agg [.id,.id,.sl 1 .id,.sl 1 .id,.id,.id])),.id,.id],cout:=[(.sl 6 (.agg [.id,.id,.sl 1 .id,.sl 1 .id,.id,.id])),.id,.id],ntmps:=38,keep:=false,res:=[(6,none),(7,none),(8,none)],body :=
 (.seq (.reg [zo 3 (.box 22 1 (.t 0)),
 zo 5 (.box 9 1 (.t 2)),
 zo 6 (.mv (.c .nsl)),
 zo 7 (.mv (.c (.i .i64 0))),
 zo 8 (.mv (.c (.i .i64 0)))])
 (.seq (.reg [zo 9 (.alloc 3 [.i .i64 0]),
 ⟨none,.st 1 (.t 9) (.c (.i .i64 (-1))),none⟩])
 (.seq (.reg [zo 13 (.ld false 1 (.t 3)),
 zo 14 (.mv (.t 1)),
 zo 15 (.mkf Cq [.t 5]),
 zo 16 (.mkf Cr [.t 5,.t 9,.t 3]),
 zo 17 (.call Cc [.t 13,.t 14,.t 15,.t 16]),
 zo 12 (.mv (.t 17)),
 zo 18 (.ext (.t 12) 0),
 zo 19 (.ext (.t 12) 1),
 zo 10 (.mv (.t 18)),
 zo 11 (.mv (.t 19))])
 (.seq (.seq (.reg [zo 20 (.mv (.t 11)),
 zo 21 (.bin .neq (.t 20) (.c (.i .i64 0)))])
 (.cond (.t 21)
 (.seq (.reg [zo 22 (.mv (.t 11)),
 zo 6 (.mv (.c .nsl)),
 zo 7 (.mv (.c (.i .i64 0))),
 zo 8 (.mv (.t 22))])
 .ret)
 .skip))
 (.seq (.seq (.reg [zo 23 (.ld false 1 (.t 9)),
 zo 24 (.ld false 1 (.t 3)),
 zo 25 (.len 1 (.t 24)),
 zo 26 (.bin .eql (.t 23) (.t 25))])
 (.cond (.t 26)
 (.reg [zo 27 (.mv (.t 10)),
 zo 28 (.mv (.t 10)),
 zo 29 (.len 1 (.t 28)),
 zo 30 (.mv (.t 10)),
 zo 31 (.len 1 (.t 30)),
 zo 32 (.slc false 6 (.t 27) none (some (.t 29)) (some (.t 31))),
 zo 33 (.build [.b false,.i .u8 0,.nsl,.nsl,.i .i64 0,.i .i64 0] []),
 zo 34 (.bsl 6 [.t 33]),
 zo 35 (.app 6 48 (.t 32) (.t 34)),
 zo 10 (.mv (.t 35))])
 .skip))
 (.seq (.regD [zo 36 (.mv (.t 10)),
 zo 37 (.ld false 1 (.t 9)),
 zo 6 (.mv (.t 36)),
 zo 7 (.mv (.t 37)),
 zo 8 (.mv (.c (.i .i64 0)))] [])
 .ret)))))) }
def Dt:Fun:={ cin:=[(.sl 6 (.agg [.id,.id,.sl 1 .id,.sl 1 .id,.id,.id])),.id,.id],cout:=[(.sl 6 (.agg [.id,.id,.sl 1 .id,.sl 1 .id,.id,.id])),.id],ntmps:=15,keep:=false,res:=[(6,none),(7,none)],body :=
 (.seq (.reg [zo 5 (.box 5 1 (.t 2)),
 zo 6 (.mv (.c .nsl)),
 zo 7 (.mv (.c (.i .i64 0)))])
 (.seq (.reg [zo 8 (.mv (.t 0)),
 zo 9 (.mv (.t 1)),
 zo 10 (.mkf ES [.t 5]),
 zo 11 (.mkf ET [.t 5]),
 zo 12 (.call Cc [.t 8,.t 9,.t 10,.t 11]),
 zo 13 (.ext (.t 12) 0),
 zo 14 (.ext (.t 12) 1),
 zo 6 (.mv (.t 13)),
 zo 7 (.mv (.t 14))])
 .ret)) }
def DL:Fun:={ cin:=[(.sl 6 (.agg [.id,.id,.sl 1 .id,.sl 1 .id,.id,.id])),.id],cout:=[(.sl 6 (.agg [.id,.id,.sl 1 .id,.sl 1 .id,.id,.id])),.id],ntmps:=12,keep:=false,res:=[(4,none),(5,none)],body :=
 (.seq (.reg [zo 2 (.box 22 1 (.t 0)),
 zo 4 (.mv (.c .nsl)),
 zo 5 (.mv (.c (.i .i64 0)))])
 (.seq (.reg [zo 6 (.ld false 1 (.t 2)),
 zo 7 (.mv (.t 1)),
 zo 8 (.mkf Dn [.t 2]),
 zo 9 (.call Cc [(.t 6),(.t 7),(.t 8),(.c (.fn Dp []))]),
 zo 10 (.ext (.t 9) 0),
 zo 11 (.ext (.t 9) 1),
 zo 4 (.mv (.t 10)),
 zo 5 (.mv (.t 11))])
 .ret)) }
def Du:Fun:={ cin:=[(.sl 6 (.agg [.id,.id,.sl 1 .id,.sl 1 .id,.id,.id])),.id],cout:=[(.sl 6 (.agg [.id,.id,.sl 1 .id,.sl 1 .id,.id,.id])),.id],ntmps:=11,keep:=false,res:=[(4,none),(5,none)],body :=
 (.seq (.reg [zo 4 (.mv (.c .nsl)),
 zo 5 (.mv (.c (.i .i64 0)))])
 (.seq (.reg [zo 6 (.mv (.t 0)),
 zo 7 (.mv (.t 1)),
 zo 8 (.call Cc [(.t 6),(.t 7),(.c (.fn EU [])),(.c (.fn EW []))]),
 zo 9 (.ext (.t 8) 0),
 zo 10 (.ext (.t 8) 1),
 zo 4 (.mv (.t 9)),
 zo 5 (.mv (.t 10))])
 .ret)) }
def Az:Fun:={ cin:=[(.agg [.id,.id,(.sl 1 .id),(.sl 4 (.agg [.id,.id,(.sl 1 .id),(.sl 4 (.agg [.id,.id,.sl 1 .id,.sl 4 .id]))]))])],cout:=[.id],ntmps:=20,keep:=false,res:=[(2,none)],body :=
 (.seq (.reg [zo 1 (.box 37 4 (.t 0)),
 zo 2 (.mv (.c (.b false)))])
 (.seq (.reg [zo 3 (.fa 0 (.t 1)),
 zo 4 (.ld false 1 (.t 3)),
 zo 5 (.bin .eql (.t 4) (.c (.i .u8 2))),
 zo 6 (.mv (.t 5)),
 ⟨some 7,.ld true 4 (.t 1),some (6,true)⟩,
 ⟨some 8,.call Cl [.t 7],some (6,true)⟩,
 zo 9 (.pick (.t 6) (.t 8) (.c (.b false))),
 zo 10 (.mv (.t 9)),
 ⟨some 11,.ld true 4 (.t 1),some (10,true)⟩,
 ⟨some 12,.call Bn [.t 11],some (10,true)⟩,
 ⟨some 13,.bin .leq (.t 12) (.c (.i .i64 1024)),some (10,true)⟩,
 zo 14 (.pick (.t 10) (.t 13) (.c (.b false))),
 zo 15 (.mv (.t 14)),
 ⟨some 16,.ld true 4 (.t 1),some (15,true)⟩,
 ⟨some 17,.call Cm [.t 16],some (15,true)⟩,
 ⟨some 18,.bin .leq (.t 17) (.c (.i .i64 24)),some (15,true)⟩,
 zo 19 (.pick (.t 15) (.t 18) (.c (.b false))),
 zo 2 (.mv (.t 19))])
 .ret)) }
def BS:Fun:={ cin:=[(.agg [.id,.id,(.sl 1 .id),(.sl 4 (.agg [.id,.id,(.sl 1 .id),(.sl 4 (.agg [.id,.id,.sl 1 .id,.sl 4 .id]))]))])],cout:=[.id],ntmps:=21,keep:=false,res:=[(2,none)],body :=
 (.seq (.reg [zo 1 (.box 37 4 (.t 0)),
 zo 2 (.mv (.c (.i .i64 0)))])
 (.seq (.reg [zo 3 (.mv (.c (.i .i64 1)))])
 (.seq (.seq (.reg [zo 4 (.mv (.c (.i .i64 0)))])
 (.blk 0 (.loop (.seq (.seq (.reg [zo 5 (.mv (.t 4)),
 zo 6 (.fa 3 (.t 1)),
 zo 7 (.ld false 1 (.t 6)),
 zo 8 (.len 1 (.t 7)),
 zo 9 (.bin .lss (.t 5) (.t 8))])
 (.cond (.t 9)
 .skip
 (.exit 0)))
 (.seq (.blk 1 (.reg [zo 12 (.mv (.t 3)),
 zo 13 (.fa 3 (.t 1)),
 zo 14 (.ld false 1 (.t 13)),
 zo 15 (.mv (.t 4)),
 zo 16 (.ia 4 (.t 14) (.t 15)),
 zo 17 (.ld true 4 (.t 16)),
 zo 18 (.call Bn [.t 17]),
 zo 19 (.bin .add (.t 12) (.t 18)),
 zo 3 (.mv (.t 19))]))
 (.reg [zo 10 (.mv (.t 4)),
 zo 11 (.bin .add (.t 10) (.c (.i .i64 1))),
 zo 4 (.mv (.t 11))]))))))
 (.seq (.reg [zo 20 (.mv (.t 3)),
 zo 2 (.mv (.t 20))])
 .ret)))) }
def D8:Fun:={ cin:=[(.sl 6 (.agg [.id,.id,.sl 1 .id,.sl 1 .id,.id,.id])),(.agg [.id,.id,(.sl 1 .id),(.sl 4 (.agg [.id,.id,(.sl 1 .id),(.sl 4 (.agg [.id,.id,.sl 1 .id,.sl 4 .id]))]))])],cout:=[.id],ntmps:=19,keep:=false,res:=[(4,none)],body :=
 (.seq (.reg [zo 3 (.box 37 4 (.t 1)),
 zo 4 (.mv (.c (.b false)))])
 (.seq (.reg [zo 8 (.mv (.t 0)),
 zo 9 (.ld true 4 (.t 3)),
 zo 10 (.call He [.t 8,.t 9]),
 zo 7 (.mv (.t 10)),
 zo 11 (.ext (.t 7) 0),
 zo 12 (.ext (.t 7) 1),
 zo 5 (.mv (.t 11)),
 zo 6 (.mv (.t 12))])
 (.seq (.reg [zo 13 (.mv (.t 6)),
 zo 14 (.bin .eql (.t 13) (.c (.i .i64 0))),
 zo 15 (.mv (.t 14)),
 ⟨some 16,.mv (.t 5),some (15,true)⟩,
 ⟨some 17,.bin .lss (.t 16) (.c (.i .i64 0)),some (15,true)⟩,
 zo 18 (.pick (.t 15) (.t 17) (.c (.b false))),
 zo 4 (.mv (.t 18))])
 .ret))) }
def E4:Fun:={ cin:=[(.sl 6 (.agg [.id,.id,.sl 1 .id,.sl 1 .id,.id,.id]))],cout:=[.id],ntmps:=59,keep:=false,res:=[(2,none)],body :=
 (.seq (.reg [zo 2 (.mv (.c (.b false)))])
 (.seq (.seq (.reg [zo 8 (.mv (.t 0)),
 zo 9 (.len 1 (.t 8)),
 zo 10 (.bin .eql (.t 9) (.c (.i .i64 0))),
 zo 11 (.mv (.t 10)),
 ⟨some 12,.mv (.t 0),some (11,false)⟩,
 ⟨some 13,.ia 6 (.t 12) (.c (.i .i64 0)),some (11,false)⟩,
 ⟨some 14,.ld true 6 (.t 13),some (11,false)⟩,
 ⟨some 15,.call Jv [.t 14],some (11,false)⟩,
 ⟨some 16,.un .not (.t 15),some (11,false)⟩,
 zo 17 (.pick (.t 11) (.c (.b true)) (.t 16))])
 (.cond (.t 17)
 (.seq (.reg [zo 2 (.mv (.c (.b false)))])
 .ret)
 .skip))
 (.seq (.reg [zo 18 (.mv (.t 0)),
 zo 19 (.len 1 (.t 18)),
 zo 20 (.mks 3 1 [.i .i64 0] (.t 19) (.t 19)),
 zo 3 (.mv (.t 20))])
 (.seq (.seq (.reg [zo 21 (.mv (.t 0)),
 zo 22 (.len 1 (.t 21)),
 zo 23 (.mv (.c (.i .i64 0)))])
 (.blk 0 (.loop (.seq (.reg [zo 24 (.bin .lss (.t 23) (.t 22))])
 (.seq (.cond (.t 24)
 .skip
 (.exit 0))
 (.seq (.blk 1 (.seq (.reg [zo 25 (.mv (.t 23)),
 zo 26 (.ia 6 (.t 21) (.t 23)),
 zo 27 (.ld true 6 (.t 26)),
 zo 5 (.alloc 48 [.b false,.i .u8 0,.nsl,.nsl,.i .i64 0,.i .i64 0]),
 zo 4 (.mv (.t 25)),
 ⟨none,.st 6 (.t 5) (.t 27),none⟩])
 (.seq (.seq (.reg [zo 28 (.ld true 6 (.t 5)),
 zo 29 (.call Mh [.t 28]),
 zo 30 (.un .not (.t 29))])
 (.cond (.t 30)
 (.seq (.reg [zo 2 (.mv (.c (.b false)))])
 .ret)
 .skip))
 (.seq (.reg [zo 31 (.fa 3 (.t 5)),
 zo 32 (.ld false 1 (.t 31)),
 zo 33 (.len 1 (.t 32)),
 zo 34 (.mv (.c (.i .i64 0)))])
 (.blk 2 (.loop (.seq (.reg [zo 35 (.bin .lss (.t 34) (.t 33))])
 (.seq (.cond (.t 35)
 .skip
 (.exit 2))
 (.seq (.blk 3 (.seq (.reg [zo 36 (.ia 1 (.t 32) (.t 34)),
 zo 37 (.ld false 1 (.t 36)),
 zo 7 (.mv (.t 37))])
 (.seq (.seq (.reg [zo 38 (.mv (.t 7)),
 zo 39 (.mv (.t 4)),
 zo 40 (.bin .leq (.t 38) (.t 39)),
 zo 41 (.mv (.t 40)),
 ⟨some 42,.mv (.t 7),some (41,false)⟩,
 ⟨some 43,.mv (.t 0),some (41,false)⟩,
 ⟨some 44,.len 1 (.t 43),some (41,false)⟩,
 ⟨some 45,.bin .geq (.t 42) (.t 44),some (41,false)⟩,
 zo 46 (.pick (.t 41) (.c (.b true)) (.t 45))])
 (.cond (.t 46)
 (.seq (.reg [zo 2 (.mv (.c (.b false)))])
 .ret)
 .skip))
 (.seq (.thw 3)
 (.reg [zo 47 (.mv (.t 3)),
 zo 48 (.mv (.t 7)),
 zo 49 (.ia 1 (.t 47) (.t 48)),
 zo 50 (.ld false 1 (.t 49)),
 zo 51 (.bin .add (.t 50) (.c (.i .i64 1))),
 zo 52 (.ia 1 (.t 47) (.t 48)),
 ⟨none,.st 1 (.t 52) (.t 51),none⟩])))))
 (.reg [zo 53 (.bin .add (.t 34) (.c (.i .i64 1))),
 zo 34 (.mv (.t 53))]))))))))))
 (.reg [zo 54 (.bin .add (.t 23) (.c (.i .i64 1))),
 zo 23 (.mv (.t 54))])))))))
 (.seq (.reg [zo 55 (.mv (.t 3)),
 zo 56 (.slc false 1 (.t 55) (some (.c (.i .i64 1))) none none),
 zo 57 (.call BE [(.t 56),(.c (.fn Hf []))]),
 zo 58 (.un .not (.t 57)),
 zo 2 (.mv (.t 58))])
 .ret))))) }
def Nt:Fun:={ cin:=[],cout:=[(.sl 6 (.agg [.id,.id,.sl 1 .id,.sl 1 .id,.id,.id]))],ntmps:=3,keep:=false,res:=[(0,none)],body :=
 (.seq (.reg [zo 0 (.mv (.c .nsl))])
 (.seq (.reg [zo 1 (.build [.b false,.i .u8 0,.nsl,.nsl,.i .i64 0,.i .i64 0] [(0,1,(.c (.b true))),(1,1,(.c (.i .u8 2)))]),
 zo 2 (.bsl 6 [.t 1]),
 zo 0 (.mv (.t 2))])
 .ret)) }
def Aq:Fun:={ cin:=[(.sl 6 (.agg [.id,.id,.sl 1 .id,.sl 1 .id,.id,.id])),.id,.id,.id],cout:=[(.sl 6 (.agg [.id,.id,.sl 1 .id,.sl 1 .id,.id,.id])),.id],ntmps:=42,keep:=false,res:=[(8,none),(9,none)],body :=
 (.seq (.reg [zo 8 (.mv (.c .nsl)),
 zo 9 (.mv (.c (.i .i64 0)))])
 (.seq (.blk 0 (.seq (.reg [zo 13 (.mv (.t 0)),
 zo 14 (.call Fg [.t 13]),
 zo 15 (.un .not (.t 14)),
 zo 12 (.mv (.t 15))])
 (.cond (.t 12)
 (.seq (.reg [zo 8 (.mv (.c .nsl)),
 zo 9 (.mv (.c (.i .i64 4)))])
 .ret)
 (.seq (.reg [zo 17 (.mv (.t 1)),
 zo 18 (.bin .lss (.t 17) (.c (.i .i64 0))),
 zo 19 (.mv (.t 18)),
 ⟨some 20,.mv (.t 1),some (19,false)⟩,
 ⟨some 21,.mv (.t 0),some (19,false)⟩,
 ⟨some 22,.len 1 (.t 21),some (19,false)⟩,
 ⟨some 23,.bin .geq (.t 20) (.t 22),some (19,false)⟩,
 zo 24 (.pick (.t 19) (.c (.b true)) (.t 23)),
 zo 16 (.mv (.t 24))])
 (.cond (.t 16)
 (.seq (.reg [zo 8 (.mv (.c .nsl)),
 zo 9 (.mv (.c (.i .i64 1)))])
 .ret)
 .skip)))))
 (.seq (.seq (.reg [zo 25 (.mv (.t 2)),
 zo 26 (.mv (.t 0)),
 zo 27 (.mv (.t 1)),
 zo 28 (.ia 6 (.t 26) (.t 27)),
 zo 29 (.ld true 6 (.t 28)),
 zo 30 (.callX (.t 25) [.t 29]),
 zo 10 (.mv (.t 30))])
 (.seq (.reg [zo 31 (.mv (.t 10)),
 zo 32 (.bin .neq (.t 31) (.c (.i .i64 0)))])
 (.cond (.t 32)
 (.seq (.reg [zo 33 (.mv (.t 10)),
 zo 8 (.mv (.c .nsl)),
 zo 9 (.mv (.t 33))])
 .ret)
 .skip)))
 (.seq (.reg [zo 34 (.mv (.t 0)),
 zo 35 (.call JH [.t 34]),
 zo 11 (.mv (.t 35))])
 (.seq (.seq (.thw 11)
 (.reg [zo 36 (.mv (.t 3)),
 zo 37 (.mv (.t 11)),
 zo 38 (.mv (.t 1)),
 zo 39 (.ia 6 (.t 37) (.t 38)),
 zo 40 (.callX (.t 36) [.t 39])]))
 (.seq (.reg [zo 41 (.mv (.t 11)),
 zo 8 (.mv (.t 41)),
 zo 9 (.mv (.c (.i .i64 0)))])
 .ret)))))) }
def Ca:Fun:={ cin:=[(.agg [.id,.id,.sl 1 .id,.sl 1 .id,.id,.id])],cout:=[.id],ntmps:=12,keep:=false,res:=[(3,none)],body :=
 (.seq (.reg [zo 2 (.box 48 6 (.t 0)),
 zo 3 (.mv (.c (.i .i64 0)))])
 (.seq (.seq (.reg [zo 4 (.ld true 6 (.t 2)),
 zo 5 (.call GL [.t 4]),
 zo 6 (.un .not (.t 5)),
 zo 7 (.mv (.t 6)),
 ⟨some 8,.ld false 1 (.t 1),some (7,false)⟩,
 ⟨some 9,.call GM [.t 8],some (7,false)⟩,
 ⟨some 10,.un .not (.t 9),some (7,false)⟩,
 zo 11 (.pick (.t 7) (.c (.b true)) (.t 10))])
 (.cond (.t 11)
 (.seq (.reg [zo 3 (.mv (.c (.i .i64 1)))])
 .ret)
 .skip))
 (.seq (.reg [zo 3 (.mv (.c (.i .i64 0)))])
 .ret))) }
def Dv:Fun:={ cin:=[(.agg [.id,.id,.sl 1 .id,.sl 1 .id,.id,.id])],cout:=[.id],ntmps:=10,keep:=false,res:=[(2,none)],body :=
 (.seq (.reg [zo 1 (.box 48 6 (.t 0)),
 zo 2 (.mv (.c (.b false)))])
 (.seq (.reg [zo 3 (.fa 0 (.t 1)),
 zo 4 (.ld false 1 (.t 3)),
 zo 5 (.mv (.t 4)),
 ⟨some 6,.fa 1 (.t 1),some (5,true)⟩,
 ⟨some 7,.ld false 1 (.t 6),some (5,true)⟩,
 ⟨some 8,.bin .eql (.t 7) (.c (.i .u8 2)),some (5,true)⟩,
 zo 9 (.pick (.t 5) (.t 8) (.c (.b false))),
 zo 2 (.mv (.t 9))])
 .ret)) }
def DM:Fun:={ cin:=[.id],cout:=[.id],ntmps:=23,keep:=false,res:=[(2,none)],body :=
 (.seq (.reg [zo 2 (.mv (.c (.b false)))])
 (.seq (.reg [zo 3 (.mv (.t 0)),
 zo 4 (.bin .neq (.t 3) (.c (.s []))),
 zo 5 (.mv (.t 4)),
 ⟨some 6,.mv (.t 0),some (5,true)⟩,
 ⟨some 7,.len 0 (.t 6),some (5,true)⟩,
 ⟨some 8,.bin .leq (.t 7) (.c (.i .i64 64)),some (5,true)⟩,
 zo 9 (.pick (.t 5) (.t 8) (.c (.b false))),
 zo 10 (.mv (.t 9)),
 ⟨some 11,.mv (.t 0),some (10,true)⟩,
 ⟨some 12,.bin .neq (.t 11) (.c (.s [46])),some (10,true)⟩,
 zo 13 (.pick (.t 10) (.t 12) (.c (.b false))),
 zo 14 (.mv (.t 13)),
 ⟨some 15,.mv (.t 0),some (14,true)⟩,
 ⟨some 16,.bin .neq (.t 15) (.c (.s [46,46])),some (14,true)⟩,
 zo 17 (.pick (.t 14) (.t 16) (.c (.b false))),
 zo 18 (.mv (.t 17)),
 ⟨some 19,.mv (.t 0),some (18,true)⟩,
 ⟨some 20,.call Dq [(.t 19),(.c (.s [47,0,10]))],some (18,true)⟩,
 ⟨some 21,.un .not (.t 20),some (18,true)⟩,
 zo 22 (.pick (.t 18) (.t 21) (.c (.b false))),
 zo 2 (.mv (.t 22))])
 .ret)) }
def DN:Fun:={ cin:=[.id],cout:=[],ntmps:=55,keep:=false,res:=[],body :=
 (.seq (.regD [zo 8 (.mv (.t 0)),
 zo 9 (.nck (.t 8)),
 zo 10 (.fa 2 (.t 9)),
 zo 11 (.ld false 1 (.t 10)),
 zo 12 (.ld false 1 (.t 1)),
 zo 13 (.callK AR [.t 11,.t 12]),
 zo 7 (.mv (.t 13)),
 zo 14 (.ext (.t 7) 0),
 zo 15 (.ext (.t 7) 1),
 zo 5 (.mv (.t 14)),
 zo 6 (.mv (.t 15))] [])
 (.blk 0 (.seq (.reg [zo 17 (.mv (.t 6)),
 zo 16 (.mv (.t 17))])
 (.cond (.t 16)
 (.reg [zo 18 (.mv (.t 0)),
 zo 19 (.nck (.t 18)),
 zo 20 (.fa 3 (.t 19)),
 zo 21 (.ld false 1 (.t 20)),
 zo 22 (.mv (.t 5)),
 zo 23 (.ia 1 (.t 21) (.t 22)),
 zo 24 (.ld false 1 (.t 23)),
 ⟨none,.st 1 (.t 2) (.t 24),none⟩])
 (.seq (.reg [zo 26 (.mv (.t 0)),
 zo 27 (.nck (.t 26)),
 zo 28 (.fa 4 (.t 27)),
 zo 29 (.ld false 1 (.t 28)),
 zo 30 (.bin .neq (.t 29) (.c (.i .i64 1))),
 zo 25 (.mv (.t 30))])
 (.cond (.t 25)
 (.seq (.reg [zo 31 (.ld false 1 (.t 3)),
 zo 32 (.len 1 (.t 31)),
 ⟨none,.st 1 (.t 2) (.t 32),none⟩])
 (.seq (.regD [zo 33 (.mv (.t 0)),
 zo 34 (.mv (.t 0)),
 zo 35 (.nck (.t 34)),
 zo 36 (.fa 2 (.t 35)),
 zo 37 (.ld false 1 (.t 36)),
 zo 38 (.mv (.t 5)),
 zo 39 (.ld false 1 (.t 1)),
 zo 40 (.bsl 1 [.t 39]),
 zo 41 (.callI AU [.t 37,.t 38,.t 40]),
 zo 42 (.nck (.t 33)),
 zo 43 (.fa 2 (.t 42)),
 ⟨none,.st 1 (.t 43) (.t 41),none⟩] [])
 (.regD [zo 44 (.mv (.t 0)),
 zo 45 (.mv (.t 0)),
 zo 46 (.nck (.t 45)),
 zo 47 (.fa 3 (.t 46)),
 zo 48 (.ld false 1 (.t 47)),
 zo 49 (.mv (.t 5)),
 zo 50 (.ld false 1 (.t 2)),
 zo 51 (.bsl 1 [.t 50]),
 zo 52 (.callI Ak [.t 48,.t 49,.t 51]),
 zo 53 (.nck (.t 44)),
 zo 54 (.fa 3 (.t 53)),
 ⟨none,.st 1 (.t 54) (.t 52),none⟩] [])))
 .skip)))))) }
def AP:Fun:={ cin:=[.sl 1 .id,.id],cout:=[.id,.id],ntmps:=54,keep:=false,res:=[(4,none),(5,none)],body :=
 (.seq (.reg [zo 4 (.mv (.c (.i .i64 0))),
 zo 5 (.mv (.c (.b false)))])
 (.seq (.reg [zo 10 (.mv (.t 0)),
 zo 11 (.len 1 (.t 10)),
 zo 6 (.mv (.t 11))])
 (.seq (.reg [zo 12 (.mv (.t 6)),
 zo 7 (.mv (.c (.i .i64 0))),
 zo 8 (.mv (.t 12))])
 (.seq (.blk 0 (.loop (.seq (.seq (.reg [zo 13 (.mv (.t 7)),
 zo 14 (.mv (.t 8)),
 zo 15 (.bin .lss (.t 13) (.t 14))])
 (.cond (.t 15)
 .skip
 (.exit 0)))
 (.blk 1 (.seq (.reg [zo 16 (.mv (.t 7)),
 zo 17 (.mv (.t 8)),
 zo 18 (.bin .add (.t 16) (.t 17)),
 zo 19 (.cvI .u64 (.t 18)),
 zo 20 (.bin .shr (.t 19) (.c (.i .u64 1))),
 zo 21 (.cvI .i64 (.t 20)),
 zo 9 (.mv (.t 21))])
 (.seq (.reg [zo 22 (.mv (.t 0)),
 zo 23 (.mv (.t 9)),
 zo 24 (.ia 1 (.t 22) (.t 23)),
 zo 25 (.ld false 1 (.t 24)),
 zo 26 (.mv (.t 1)),
 zo 27 (.call FS [.t 25,.t 26])])
 (.cond (.t 27)
 (.reg [zo 28 (.mv (.t 9)),
 zo 29 (.bin .add (.t 28) (.c (.i .i64 1))),
 zo 7 (.mv (.t 29))])
 (.reg [zo 30 (.mv (.t 9)),
 zo 8 (.mv (.t 30))]))))))))
 (.seq (.reg [zo 31 (.mv (.t 7)),
 zo 32 (.mv (.t 7)),
 zo 33 (.mv (.t 6)),
 zo 34 (.bin .lss (.t 32) (.t 33)),
 zo 35 (.mv (.t 34)),
 ⟨some 36,.mv (.t 0),some (35,true)⟩,
 ⟨some 37,.mv (.t 7),some (35,true)⟩,
 ⟨some 38,.ia 1 (.t 36) (.t 37),some (35,true)⟩,
 ⟨some 39,.ld false 1 (.t 38),some (35,true)⟩,
 ⟨some 40,.mv (.t 1),some (35,true)⟩,
 ⟨some 41,.bin .eql (.t 39) (.t 40),some (35,true)⟩,
 ⟨some 42,.mv (.t 41),some (35,true)⟩,
 ⟨some 43,.mv (.t 0),some (42,false)⟩,
 ⟨some 44,.mv (.t 7),some (42,false)⟩,
 ⟨some 45,.ia 1 (.t 43) (.t 44),some (42,false)⟩,
 ⟨some 46,.ld false 1 (.t 45),some (42,false)⟩,
 ⟨some 47,.call Cs [.t 46],some (42,false)⟩,
 ⟨some 48,.mv (.t 47),some (42,false)⟩,
 ⟨some 49,.mv (.t 1),some (48,true)⟩,
 ⟨some 50,.call Cs [.t 49],some (48,true)⟩,
 ⟨some 51,.pick (.t 48) (.t 50) (.c (.b false)),some (42,false)⟩,
 ⟨some 52,.pick (.t 42) (.c (.b true)) (.t 51),some (35,true)⟩,
 zo 53 (.pick (.t 35) (.t 52) (.c (.b false))),
 zo 4 (.mv (.t 31)),
 zo 5 (.mv (.t 53))])
 .ret))))) }
def Aa:Fun:={ cin:=[],cout:=[],ntmps:=95,keep:=false,res:=[(6,none)],body :=
 (.seq (.reg [zo 6 (.mv (.c .nsl))])
 (.seq (.reg [zo 10 (.mv (.t 0)),
 zo 11 (.mv (.t 1)),
 zo 12 (.slc false 1 (.t 10) (some (.t 11)) none none)])
 (.seq (.reg [zo 13 (.mv (.t 2)),
 zo 14 (.len 1 (.t 13)),
 zo 7 (.mv (.t 14))])
 (.seq (.seq (.reg [zo 15 (.mv (.t 7)),
 zo 16 (.bin .eql (.t 15) (.c (.i .i64 0)))])
 (.cond (.t 16)
 (.seq (.reg [zo 17 (.mv (.t 0)),
 zo 6 (.mv (.t 17))])
 .ret)
 .skip))
 (.seq (.reg [zo 18 (.mv (.t 0)),
 zo 19 (.len 1 (.t 18)),
 zo 8 (.mv (.t 19))])
 (.seq (.seq (.reg [zo 20 (.mv (.t 1)),
 zo 21 (.mv (.t 8)),
 zo 22 (.bin .eql (.t 20) (.t 21))])
 (.cond (.t 22)
 (.seq (.reg [zo 23 (.mv (.t 0)),
 zo 24 (.mv (.t 2)),
 zo 25 (.app 1 9 (.t 23) (.t 24)),
 zo 6 (.mv (.t 25))])
 .ret)
 .skip))
 (.seq (.seq (.reg [zo 26 (.mv (.t 8)),
 zo 27 (.mv (.t 7)),
 zo 28 (.bin .add (.t 26) (.t 27)),
 zo 29 (.mv (.t 0)),
 zo 30 (.cap (.t 29)),
 zo 31 (.bin .gtr (.t 28) (.t 30))])
 (.cond (.t 31)
 (.seq (.reg [zo 32 (.mv (.t 0)),
 zo 33 (.mv (.t 1)),
 zo 34 (.slc false 1 (.t 32) none (some (.t 33)) none),
 zo 35 (.mv (.t 8)),
 zo 36 (.mv (.t 7)),
 zo 37 (.bin .add (.t 35) (.t 36)),
 zo 38 (.mv (.t 1)),
 zo 39 (.bin .sub (.t 37) (.t 38)),
 zo 40 (.apz 1 9 [(.s [])] (.t 34) (.t 39)),
 zo 9 (.mv (.t 40))])
 (.seq (.seq (.thw 9)
 (.reg [zo 41 (.mv (.t 9)),
 zo 42 (.mv (.t 1)),
 zo 43 (.slc false 1 (.t 41) (some (.t 42)) none none),
 zo 44 (.mv (.t 2)),
 zo 45 (.cp0 1 (.t 43) (.t 44))]))
 (.seq (.seq (.thw 9)
 (.regD [zo 46 (.mv (.t 9)),
 zo 47 (.mv (.t 1)),
 zo 48 (.mv (.t 7)),
 zo 49 (.bin .add (.t 47) (.t 48)),
 zo 50 (.slc false 1 (.t 46) (some (.t 49)) none none),
 zo 51 (.mv (.t 0)),
 zo 52 (.mv (.t 1)),
 zo 53 (.slc false 1 (.t 51) (some (.t 52)) none none),
 zo 54 (.cp0 1 (.t 50) (.t 53))] []))
 (.seq (.reg [zo 55 (.mv (.t 9)),
 zo 6 (.mv (.t 55))])
 .ret))))
 .skip))
 (.seq (.reg [zo 56 (.mv (.t 0)),
 zo 57 (.mv (.t 8)),
 zo 58 (.mv (.t 7)),
 zo 59 (.bin .add (.t 57) (.t 58)),
 zo 60 (.slc true 1 (.t 56) none (some (.t 59)) none),
 zo 0 (.mv (.t 60))])
 (.seq (.seq (.reg [zo 61 (.mv (.t 2)),
 zo 62 (.mv (.t 0)),
 zo 63 (.mv (.t 1)),
 zo 64 (.mv (.t 7)),
 zo 65 (.bin .add (.t 63) (.t 64)),
 zo 66 (.slc false 1 (.t 62) (some (.t 65)) none none),
 zo 67 (.ovl 1 (.t 61) (.t 66)),
 zo 68 (.un .not (.t 67))])
 (.cond (.t 68)
 (.seq (.seq (.thw 0)
 (.regD [zo 69 (.mv (.t 0)),
 zo 70 (.mv (.t 1)),
 zo 71 (.mv (.t 7)),
 zo 72 (.bin .add (.t 70) (.t 71)),
 zo 73 (.slc false 1 (.t 69) (some (.t 72)) none none),
 zo 74 (.mv (.t 0)),
 zo 75 (.mv (.t 1)),
 zo 76 (.slc false 1 (.t 74) (some (.t 75)) none none),
 zo 77 (.cp0 1 (.t 73) (.t 76))] []))
 (.seq (.seq (.thw 0)
 (.reg [zo 78 (.mv (.t 0)),
 zo 79 (.mv (.t 1)),
 zo 80 (.slc false 1 (.t 78) (some (.t 79)) none none),
 zo 81 (.mv (.t 2)),
 zo 82 (.cp0 1 (.t 80) (.t 81))]))
 (.seq (.reg [zo 83 (.mv (.t 0)),
 zo 6 (.mv (.t 83))])
 .ret)))
 .skip))
 (.seq (.seq (.thw 0)
 (.reg [zo 84 (.mv (.t 0)),
 zo 85 (.mv (.t 8)),
 zo 86 (.slc false 1 (.t 84) (some (.t 85)) none none),
 zo 87 (.mv (.t 2)),
 zo 88 (.cp0 1 (.t 86) (.t 87))]))
 (.seq (.reg [zo 89 (.mv (.t 0)),
 zo 90 (.mv (.t 1)),
 zo 91 (.slc false 1 (.t 89) (some (.t 90)) none none),
 zo 92 (.mv (.t 7)),
 zo 93 (.call Dr [.t 91,.t 92])])
 (.seq (.reg [zo 94 (.mv (.t 0)),
 zo 6 (.mv (.t 94))])
 .ret)))))))))))) }
def Av:Fun:={ cin:=[],cout:=[],ntmps:=95,keep:=false,res:=[(6,none)],body :=
 (.seq (.reg [zo 6 (.mv (.c .nsl))])
 (.seq (.reg [zo 10 (.mv (.t 0)),
 zo 11 (.mv (.t 1)),
 zo 12 (.slc false 1 (.t 10) (some (.t 11)) none none)])
 (.seq (.reg [zo 13 (.mv (.t 2)),
 zo 14 (.len 1 (.t 13)),
 zo 7 (.mv (.t 14))])
 (.seq (.seq (.reg [zo 15 (.mv (.t 7)),
 zo 16 (.bin .eql (.t 15) (.c (.i .i64 0)))])
 (.cond (.t 16)
 (.seq (.reg [zo 17 (.mv (.t 0)),
 zo 6 (.mv (.t 17))])
 .ret)
 .skip))
 (.seq (.reg [zo 18 (.mv (.t 0)),
 zo 19 (.len 1 (.t 18)),
 zo 8 (.mv (.t 19))])
 (.seq (.seq (.reg [zo 20 (.mv (.t 1)),
 zo 21 (.mv (.t 8)),
 zo 22 (.bin .eql (.t 20) (.t 21))])
 (.cond (.t 22)
 (.seq (.reg [zo 23 (.mv (.t 0)),
 zo 24 (.mv (.t 2)),
 zo 25 (.app 1 3 (.t 23) (.t 24)),
 zo 6 (.mv (.t 25))])
 .ret)
 .skip))
 (.seq (.seq (.reg [zo 26 (.mv (.t 8)),
 zo 27 (.mv (.t 7)),
 zo 28 (.bin .add (.t 26) (.t 27)),
 zo 29 (.mv (.t 0)),
 zo 30 (.cap (.t 29)),
 zo 31 (.bin .gtr (.t 28) (.t 30))])
 (.cond (.t 31)
 (.seq (.reg [zo 32 (.mv (.t 0)),
 zo 33 (.mv (.t 1)),
 zo 34 (.slc false 1 (.t 32) none (some (.t 33)) none),
 zo 35 (.mv (.t 8)),
 zo 36 (.mv (.t 7)),
 zo 37 (.bin .add (.t 35) (.t 36)),
 zo 38 (.mv (.t 1)),
 zo 39 (.bin .sub (.t 37) (.t 38)),
 zo 40 (.apz 1 3 [.i .i64 0] (.t 34) (.t 39)),
 zo 9 (.mv (.t 40))])
 (.seq (.seq (.thw 9)
 (.reg [zo 41 (.mv (.t 9)),
 zo 42 (.mv (.t 1)),
 zo 43 (.slc false 1 (.t 41) (some (.t 42)) none none),
 zo 44 (.mv (.t 2)),
 zo 45 (.cp0 1 (.t 43) (.t 44))]))
 (.seq (.seq (.thw 9)
 (.regD [zo 46 (.mv (.t 9)),
 zo 47 (.mv (.t 1)),
 zo 48 (.mv (.t 7)),
 zo 49 (.bin .add (.t 47) (.t 48)),
 zo 50 (.slc false 1 (.t 46) (some (.t 49)) none none),
 zo 51 (.mv (.t 0)),
 zo 52 (.mv (.t 1)),
 zo 53 (.slc false 1 (.t 51) (some (.t 52)) none none),
 zo 54 (.cp0 1 (.t 50) (.t 53))] []))
 (.seq (.reg [zo 55 (.mv (.t 9)),
 zo 6 (.mv (.t 55))])
 .ret))))
 .skip))
 (.seq (.reg [zo 56 (.mv (.t 0)),
 zo 57 (.mv (.t 8)),
 zo 58 (.mv (.t 7)),
 zo 59 (.bin .add (.t 57) (.t 58)),
 zo 60 (.slc true 1 (.t 56) none (some (.t 59)) none),
 zo 0 (.mv (.t 60))])
 (.seq (.seq (.reg [zo 61 (.mv (.t 2)),
 zo 62 (.mv (.t 0)),
 zo 63 (.mv (.t 1)),
 zo 64 (.mv (.t 7)),
 zo 65 (.bin .add (.t 63) (.t 64)),
 zo 66 (.slc false 1 (.t 62) (some (.t 65)) none none),
 zo 67 (.ovl 1 (.t 61) (.t 66)),
 zo 68 (.un .not (.t 67))])
 (.cond (.t 68)
 (.seq (.seq (.thw 0)
 (.regD [zo 69 (.mv (.t 0)),
 zo 70 (.mv (.t 1)),
 zo 71 (.mv (.t 7)),
 zo 72 (.bin .add (.t 70) (.t 71)),
 zo 73 (.slc false 1 (.t 69) (some (.t 72)) none none),
 zo 74 (.mv (.t 0)),
 zo 75 (.mv (.t 1)),
 zo 76 (.slc false 1 (.t 74) (some (.t 75)) none none),
 zo 77 (.cp0 1 (.t 73) (.t 76))] []))
 (.seq (.seq (.thw 0)
 (.reg [zo 78 (.mv (.t 0)),
 zo 79 (.mv (.t 1)),
 zo 80 (.slc false 1 (.t 78) (some (.t 79)) none none),
 zo 81 (.mv (.t 2)),
 zo 82 (.cp0 1 (.t 80) (.t 81))]))
 (.seq (.reg [zo 83 (.mv (.t 0)),
 zo 6 (.mv (.t 83))])
 .ret)))
 .skip))
 (.seq (.seq (.thw 0)
 (.reg [zo 84 (.mv (.t 0)),
 zo 85 (.mv (.t 8)),
 zo 86 (.slc false 1 (.t 84) (some (.t 85)) none none),
 zo 87 (.mv (.t 2)),
 zo 88 (.cp0 1 (.t 86) (.t 87))]))
 (.seq (.reg [zo 89 (.mv (.t 0)),
 zo 90 (.mv (.t 1)),
 zo 91 (.slc false 1 (.t 89) (some (.t 90)) none none),
 zo 92 (.mv (.t 7)),
 zo 93 (.call El [.t 91,.t 92])])
 (.seq (.reg [zo 94 (.mv (.t 0)),
 zo 6 (.mv (.t 94))])
 .ret)))))))))))) }
def A5:Fun:={ cin:=[.id],cout:=[.id],ntmps:=41,keep:=false,res:=[(2,none)],body :=
 (.seq (.reg [zo 2 (.mv (.c (.b false)))])
 (.seq (.seq (.reg [zo 4 (.mv (.t 0)),
 zo 5 (.bin .eql (.t 4) (.c (.s []))),
 zo 6 (.mv (.t 5)),
 ⟨some 7,.mv (.t 0),some (6,false)⟩,
 ⟨some 8,.len 0 (.t 7),some (6,false)⟩,
 ⟨some 9,.bin .gtr (.t 8) (.c (.i .i64 64)),some (6,false)⟩,
 zo 10 (.pick (.t 6) (.c (.b true)) (.t 9)),
 zo 11 (.mv (.t 10)),
 ⟨some 12,.mv (.t 0),some (11,false)⟩,
 ⟨some 13,.bin .eql (.t 12) (.c (.s [46])),some (11,false)⟩,
 zo 14 (.pick (.t 11) (.c (.b true)) (.t 13)),
 zo 15 (.mv (.t 14)),
 ⟨some 16,.mv (.t 0),some (15,false)⟩,
 ⟨some 17,.bin .eql (.t 16) (.c (.s [46,46])),some (15,false)⟩,
 zo 18 (.pick (.t 15) (.c (.b true)) (.t 17))])
 (.cond (.t 18)
 (.seq (.reg [zo 2 (.mv (.c (.b false)))])
 .ret)
 .skip))
 (.seq (.seq (.reg [zo 3 (.mv (.c (.i .i64 0)))])
 (.blk 0 (.loop (.seq (.seq (.reg [zo 19 (.mv (.t 3)),
 zo 20 (.mv (.t 0)),
 zo 21 (.len 0 (.t 20)),
 zo 22 (.bin .lss (.t 19) (.t 21))])
 (.cond (.t 22)
 .skip
 (.exit 0)))
 (.seq (.blk 1 (.seq (.reg [zo 25 (.mv (.t 0)),
 zo 26 (.mv (.t 3)),
 zo 27 (.ixS (.t 25) (.t 26)),
 zo 28 (.bin .eql (.t 27) (.c (.i .u8 0))),
 zo 29 (.mv (.t 28)),
 ⟨some 30,.mv (.t 0),some (29,false)⟩,
 ⟨some 31,.mv (.t 3),some (29,false)⟩,
 ⟨some 32,.ixS (.t 30) (.t 31),some (29,false)⟩,
 ⟨some 33,.bin .eql (.t 32) (.c (.i .u8 47)),some (29,false)⟩,
 zo 34 (.pick (.t 29) (.c (.b true)) (.t 33)),
 zo 35 (.mv (.t 34)),
 ⟨some 36,.mv (.t 0),some (35,false)⟩,
 ⟨some 37,.mv (.t 3),some (35,false)⟩,
 ⟨some 38,.ixS (.t 36) (.t 37),some (35,false)⟩,
 ⟨some 39,.bin .eql (.t 38) (.c (.i .u8 10)),some (35,false)⟩,
 zo 40 (.pick (.t 35) (.c (.b true)) (.t 39))])
 (.cond (.t 40)
 (.seq (.reg [zo 2 (.mv (.c (.b false)))])
 .ret)
 .skip)))
 (.reg [zo 23 (.mv (.t 3)),
 zo 24 (.bin .add (.t 23) (.c (.i .i64 1))),
 zo 3 (.mv (.t 24))]))))))
 (.seq (.reg [zo 2 (.mv (.c (.b true)))])
 .ret)))) }
def CH:Fun:={ cin:=[(.agg [.id,.id,.sl 1 .id,.sl 1 .id,.id,.id])],cout:=[.id],ntmps:=10,keep:=false,res:=[(3,none)],body :=
 (.seq (.reg [zo 2 (.box 48 6 (.t 0)),
 zo 3 (.mv (.c (.i .i64 0)))])
 (.seq (.blk 0 (.seq (.reg [zo 5 (.fa 0 (.t 2)),
 zo 6 (.ld false 1 (.t 5)),
 zo 4 (.mv (.t 6))])
 (.cond (.t 4)
 (.seq (.reg [zo 3 (.mv (.c (.i .i64 6)))])
 .ret)
 (.seq (.reg [zo 8 (.ld false 1 (.t 1)),
 zo 9 (.bin .gtr (.t 8) (.c (.i .u8 3))),
 zo 7 (.mv (.t 9))])
 (.cond (.t 7)
 (.seq (.reg [zo 3 (.mv (.c (.i .i64 1)))])
 .ret)
 .skip)))))
 (.seq (.reg [zo 3 (.mv (.c (.i .i64 0)))])
 .ret))) }
def EY:Fun:={ cin:=[.id],cout:=[],ntmps:=10,keep:=false,res:=[],body :=
 (.regD [zo 3 (.mv (.t 0)),
 zo 4 (.mv (.t 0)),
 zo 5 (.ld false 1 (.t 1)),
 zo 6 (.nck (.t 3)),
 zo 7 (.fa 0 (.t 6)),
 ⟨none,.st 1 (.t 7) (.c (.b true)),none⟩,
 zo 8 (.nck (.t 4)),
 zo 9 (.fa 1 (.t 8)),
 ⟨none,.st 1 (.t 9) (.t 5),none⟩] [(2,(2,6))]) }
def BL:Fun:={ cin:=[(.agg [.id,.id,.sl 1 .id,.sl 1 .id,.id,.id])],cout:=[.id],ntmps:=22,keep:=false,res:=[(3,none)],body :=
 (.seq (.reg [zo 2 (.box 48 6 (.t 0)),
 zo 3 (.mv (.c (.i .i64 0)))])
 (.seq (.blk 0 (.seq (.reg [zo 5 (.ld true 6 (.t 2)),
 zo 6 (.call GL [.t 5]),
 zo 7 (.un .not (.t 6)),
 zo 4 (.mv (.t 7))])
 (.cond (.t 4)
 (.seq (.reg [zo 3 (.mv (.c (.i .i64 1)))])
 .ret)
 (.seq (.reg [zo 9 (.fa 4 (.t 2)),
 zo 10 (.ld false 1 (.t 9)),
 zo 11 (.bin .eql (.t 10) (.c (.i .i64 1))),
 zo 8 (.mv (.t 11))])
 (.cond (.t 8)
 (.seq (.reg [zo 3 (.mv (.c (.i .i64 6)))])
 .ret)
 (.seq (.reg [zo 13 (.fa 4 (.t 2)),
 zo 14 (.ld false 1 (.t 13)),
 zo 15 (.bin .eql (.t 14) (.c (.i .i64 2))),
 zo 16 (.mv (.t 15)),
 ⟨some 17,.ld false 1 (.t 1),some (16,true)⟩,
 ⟨some 18,.ld true 6 (.t 2),some (16,true)⟩,
 ⟨some 19,.call Hd [.t 17,.t 18],some (16,true)⟩,
 ⟨some 20,.un .not (.t 19),some (16,true)⟩,
 zo 21 (.pick (.t 16) (.t 20) (.c (.b false))),
 zo 12 (.mv (.t 21))])
 (.cond (.t 12)
 (.seq (.reg [zo 3 (.mv (.c (.i .i64 67)))])
 .ret)
 .skip)))))))
 (.seq (.reg [zo 3 (.mv (.c (.i .i64 0)))])
 .ret))) }
def DP:Fun:={ cin:=[(.sl 6 (.agg [.id,.id,.sl 1 .id,.sl 1 .id,.id,.id])),(.agg [.id,.id,.sl 1 .id,.sl 1 .id,.id,.id])],cout:=[.id],ntmps:=16,keep:=false,res:=[(4,none)],body :=
 (.seq (.reg [zo 2 (.box 22 1 (.t 0)),
 zo 3 (.box 48 6 (.t 1)),
 zo 4 (.mv (.c (.b false)))])
 (.seq (.reg [zo 6 (.fa 3 (.t 3)),
 zo 7 (.ld false 1 (.t 6)),
 zo 8 (.call Bo [.t 7]),
 zo 9 (.call DJ [.t 8]),
 zo 5 (.mv (.t 9))])
 (.seq (.reg [zo 10 (.mv (.t 5)),
 zo 11 (.fa 5 (.t 3)),
 zo 12 (.ld false 1 (.t 11)),
 zo 13 (.slc false 1 (.t 10) (some (.t 12)) none none),
 zo 14 (.mkf Ds [.t 2]),
 zo 15 (.call BE [.t 13,.t 14]),
 zo 4 (.mv (.t 15))])
 .ret))) }
def Dw:Fun:={ cin:=[.id],cout:=[],ntmps:=8,keep:=false,res:=[],body :=
 (.reg [zo 2 (.mv (.t 0)),
 zo 3 (.mv (.t 0)),
 zo 4 (.nck (.t 2)),
 zo 5 (.fa 4 (.t 4)),
 ⟨none,.st 1 (.t 5) (.c (.i .i64 1)),none⟩,
 zo 6 (.nck (.t 3)),
 zo 7 (.fa 5 (.t 6)),
 ⟨none,.st 1 (.t 7) (.c (.i .i64 0)),none⟩]) }
def CI:Fun:={ cin:=[(.agg [.id,.id,.sl 1 .id,.sl 1 .id,.id,.id])],cout:=[.id],ntmps:=11,keep:=false,res:=[(2,none)],body :=
 (.seq (.reg [zo 1 (.box 48 6 (.t 0)),
 zo 2 (.mv (.c (.i .i64 0)))])
 (.seq (.blk 0 (.seq (.reg [zo 4 (.ld true 6 (.t 1)),
 zo 5 (.call GL [.t 4]),
 zo 6 (.un .not (.t 5)),
 zo 3 (.mv (.t 6))])
 (.cond (.t 3)
 (.seq (.reg [zo 2 (.mv (.c (.i .i64 1)))])
 .ret)
 (.seq (.reg [zo 8 (.fa 4 (.t 1)),
 zo 9 (.ld false 1 (.t 8)),
 zo 10 (.bin .eql (.t 9) (.c (.i .i64 1))),
 zo 7 (.mv (.t 10))])
 (.cond (.t 7)
 (.seq (.reg [zo 2 (.mv (.c (.i .i64 6)))])
 .ret)
 .skip)))))
 (.seq (.reg [zo 2 (.mv (.c (.i .i64 0)))])
 .ret))) }
def EZ:Fun:={ cin:=[.id],cout:=[],ntmps:=13,keep:=false,res:=[],body :=
 (.reg [zo 2 (.mv (.t 0)),
 zo 3 (.mv (.t 0)),
 zo 4 (.mv (.t 0)),
 zo 5 (.nck (.t 4)),
 zo 6 (.fa 2 (.t 5)),
 zo 7 (.ld false 1 (.t 6)),
 zo 8 (.len 1 (.t 7)),
 zo 9 (.nck (.t 2)),
 zo 10 (.fa 4 (.t 9)),
 ⟨none,.st 1 (.t 10) (.c (.i .i64 2)),none⟩,
 zo 11 (.nck (.t 3)),
 zo 12 (.fa 5 (.t 11)),
 ⟨none,.st 1 (.t 12) (.t 8),none⟩]) }
def AO:Fun:={ cin:=[(.agg [.id,.id,(.sl 1 .id),(.sl 4 (.agg [.id,.id,(.sl 1 .id),(.sl 4 (.agg [.id,.id,.sl 1 .id,.sl 4 .id]))]))])],cout:=[.id],ntmps:=96,keep:=false,res:=[(2,none)],body :=
 (.seq (.reg [zo 1 (.box 37 4 (.t 0)),
 zo 2 (.mv (.c (.b false)))])
 (.seq (.seq (.reg [zo 4 (.fa 0 (.t 1)),
 zo 5 (.ld false 1 (.t 4)),
 zo 6 (.bin .eql (.t 5) (.c (.i .u8 1))),
 zo 7 (.mv (.t 6)),
 ⟨some 8,.fa 0 (.t 1),some (7,false)⟩,
 ⟨some 9,.ld false 1 (.t 8),some (7,false)⟩,
 ⟨some 10,.bin .eql (.t 9) (.c (.i .u8 3)),some (7,false)⟩,
 zo 11 (.pick (.t 7) (.c (.b true)) (.t 10))])
 (.cond (.t 11)
 (.seq (.reg [zo 12 (.fa 2 (.t 1)),
 zo 13 (.ld false 1 (.t 12)),
 zo 14 (.len 1 (.t 13)),
 zo 15 (.bin .eql (.t 14) (.c (.i .i64 0))),
 zo 16 (.mv (.t 15)),
 ⟨some 17,.fa 3 (.t 1),some (16,true)⟩,
 ⟨some 18,.ld false 1 (.t 17),some (16,true)⟩,
 ⟨some 19,.len 1 (.t 18),some (16,true)⟩,
 ⟨some 20,.bin .eql (.t 19) (.c (.i .i64 0)),some (16,true)⟩,
 zo 21 (.pick (.t 16) (.t 20) (.c (.b false))),
 zo 22 (.mv (.t 21)),
 ⟨some 23,.fa 1 (.t 1),some (22,true)⟩,
 ⟨some 24,.ld false 1 (.t 23),some (22,true)⟩,
 ⟨some 25,.call Db [.t 24],some (22,true)⟩,
 zo 26 (.pick (.t 22) (.t 25) (.c (.b false))),
 zo 27 (.mv (.t 26)),
 ⟨some 28,.fa 0 (.t 1),some (27,true)⟩,
 ⟨some 29,.ld false 1 (.t 28),some (27,true)⟩,
 ⟨some 30,.bin .eql (.t 29) (.c (.i .u8 1)),some (27,true)⟩,
 ⟨some 31,.mv (.t 30),some (27,true)⟩,
 ⟨some 32,.fa 1 (.t 1),some (31,false)⟩,
 ⟨some 33,.ld false 1 (.t 32),some (31,false)⟩,
 ⟨some 34,.len 0 (.t 33),some (31,false)⟩,
 ⟨some 35,.bin .gtr (.t 34) (.c (.i .i64 0)),some (31,false)⟩,
 ⟨some 36,.pick (.t 31) (.c (.b true)) (.t 35),some (27,true)⟩,
 zo 37 (.pick (.t 27) (.t 36) (.c (.b false))),
 zo 2 (.mv (.t 37))])
 .ret)
 .skip))
 (.seq (.seq (.reg [zo 38 (.fa 0 (.t 1)),
 zo 39 (.ld false 1 (.t 38)),
 zo 40 (.bin .neq (.t 39) (.c (.i .u8 2))),
 zo 41 (.mv (.t 40)),
 ⟨some 42,.fa 1 (.t 1),some (41,false)⟩,
 ⟨some 43,.ld false 1 (.t 42),some (41,false)⟩,
 ⟨some 44,.bin .neq (.t 43) (.c (.s [])),some (41,false)⟩,
 zo 45 (.pick (.t 41) (.c (.b true)) (.t 44)),
 zo 46 (.mv (.t 45)),
 ⟨some 47,.fa 2 (.t 1),some (46,false)⟩,
 ⟨some 48,.ld false 1 (.t 47),some (46,false)⟩,
 ⟨some 49,.len 1 (.t 48),some (46,false)⟩,
 ⟨some 50,.fa 3 (.t 1),some (46,false)⟩,
 ⟨some 51,.ld false 1 (.t 50),some (46,false)⟩,
 ⟨some 52,.len 1 (.t 51),some (46,false)⟩,
 ⟨some 53,.bin .neq (.t 49) (.t 52),some (46,false)⟩,
 zo 54 (.pick (.t 46) (.c (.b true)) (.t 53))])
 (.cond (.t 54)
 (.seq (.reg [zo 2 (.mv (.c (.b false)))])
 .ret)
 .skip))
 (.seq (.seq (.reg [zo 3 (.mv (.c (.i .i64 0)))])
 (.blk 0 (.loop (.seq (.seq (.reg [zo 55 (.mv (.t 3)),
 zo 56 (.fa 2 (.t 1)),
 zo 57 (.ld false 1 (.t 56)),
 zo 58 (.len 1 (.t 57)),
 zo 59 (.bin .lss (.t 55) (.t 58))])
 (.cond (.t 59)
 .skip
 (.exit 0)))
 (.seq (.blk 1 (.seq (.regD [zo 62 (.fa 2 (.t 1)),
 zo 63 (.ld false 1 (.t 62)),
 zo 64 (.mv (.t 3)),
 zo 65 (.ia 1 (.t 63) (.t 64)),
 zo 66 (.ld false 1 (.t 65)),
 zo 67 (.call Da [.t 66]),
 zo 68 (.un .not (.t 67)),
 zo 69 (.mv (.t 68)),
 ⟨some 70,.mv (.t 3),some (69,false)⟩,
 ⟨some 71,.bin .gtr (.t 70) (.c (.i .i64 0)),some (69,false)⟩,
 ⟨some 72,.mv (.t 71),some (69,false)⟩,
 ⟨some 73,.fa 2 (.t 1),some (72,true)⟩,
 ⟨some 74,.ld false 1 (.t 73),some (72,true)⟩,
 ⟨some 75,.mv (.t 3),some (72,true)⟩,
 ⟨some 76,.ia 1 (.t 74) (.t 75),some (72,true)⟩,
 ⟨some 77,.ld false 1 (.t 76),some (72,true)⟩,
 ⟨some 78,.fa 2 (.t 1),some (72,true)⟩,
 ⟨some 79,.ld false 1 (.t 78),some (72,true)⟩,
 ⟨some 80,.mv (.t 3),some (72,true)⟩,
 ⟨some 81,.bin .sub (.t 80) (.c (.i .i64 1)),some (72,true)⟩,
 ⟨some 82,.ia 1 (.t 79) (.t 81),some (72,true)⟩,
 ⟨some 83,.ld false 1 (.t 82),some (72,true)⟩,
 ⟨some 84,.bin .leq (.t 77) (.t 83),some (72,true)⟩,
 ⟨some 85,.pick (.t 72) (.t 84) (.c (.b false)),some (69,false)⟩,
 zo 86 (.pick (.t 69) (.c (.b true)) (.t 85)),
 zo 87 (.mv (.t 86)),
 ⟨some 88,.fa 3 (.t 1),some (87,false)⟩,
 ⟨some 89,.ld false 1 (.t 88),some (87,false)⟩,
 ⟨some 90,.mv (.t 3),some (87,false)⟩,
 ⟨some 91,.ia 4 (.t 89) (.t 90),some (87,false)⟩,
 ⟨some 92,.ld true 4 (.t 91),some (87,false)⟩,
 ⟨some 93,.call Cl [.t 92],some (87,false)⟩,
 ⟨some 94,.un .not (.t 93),some (87,false)⟩,
 zo 95 (.pick (.t 87) (.c (.b true)) (.t 94))] [])
 (.cond (.t 95)
 (.seq (.reg [zo 2 (.mv (.c (.b false)))])
 .ret)
 .skip)))
 (.reg [zo 60 (.mv (.t 3)),
 zo 61 (.bin .add (.t 60) (.c (.i .i64 1))),
 zo 3 (.mv (.t 61))]))))))
 (.seq (.reg [zo 2 (.mv (.c (.b true)))])
 .ret))))) }
def BX:Fun:={ cin:=[(.agg [.id,.id,(.sl 1 .id),(.sl 4 (.agg [.id,.id,(.sl 1 .id),(.sl 4 (.agg [.id,.id,.sl 1 .id,.sl 4 .id]))]))])],cout:=[.id],ntmps:=22,keep:=false,res:=[(2,none)],body :=
 (.seq (.reg [zo 1 (.box 37 4 (.t 0)),
 zo 2 (.mv (.c (.i .i64 0)))])
 (.seq (.reg [zo 3 (.mv (.c (.i .i64 0)))])
 (.seq (.seq (.reg [zo 4 (.mv (.c (.i .i64 0)))])
 (.blk 0 (.loop (.seq (.seq (.reg [zo 5 (.mv (.t 4)),
 zo 6 (.fa 3 (.t 1)),
 zo 7 (.ld false 1 (.t 6)),
 zo 8 (.len 1 (.t 7)),
 zo 9 (.bin .lss (.t 5) (.t 8))])
 (.cond (.t 9)
 .skip
 (.exit 0)))
 (.seq (.blk 1 (.reg [zo 12 (.mv (.t 3)),
 zo 13 (.fa 3 (.t 1)),
 zo 14 (.ld false 1 (.t 13)),
 zo 15 (.mv (.t 4)),
 zo 16 (.ia 4 (.t 14) (.t 15)),
 zo 17 (.ld true 4 (.t 16)),
 zo 18 (.call Cm [.t 17]),
 zo 19 (.bin .add (.t 18) (.c (.i .i64 1))),
 zo 20 (.mm true (.t 12) (.t 19)),
 zo 3 (.mv (.t 20))]))
 (.reg [zo 10 (.mv (.t 4)),
 zo 11 (.bin .add (.t 10) (.c (.i .i64 1))),
 zo 4 (.mv (.t 11))]))))))
 (.seq (.reg [zo 21 (.mv (.t 3)),
 zo 2 (.mv (.t 21))])
 .ret)))) }
def Cu:Fun:={ cin:=[(.sl 6 (.agg [.id,.id,.sl 1 .id,.sl 1 .id,.id,.id])),(.agg [.id,.id,(.sl 1 .id),(.sl 4 (.agg [.id,.id,(.sl 1 .id),(.sl 4 (.agg [.id,.id,.sl 1 .id,.sl 4 .id]))]))])],cout:=[.id,.id],ntmps:=60,keep:=false,res:=[(4,none),(5,none)],body :=
 (.seq (.reg [zo 3 (.box 37 4 (.t 1)),
 zo 4 (.mv (.c (.i .i64 0))),
 zo 5 (.mv (.c (.i .i64 0)))])
 (.seq (.seq (.reg [zo 9 (.mv (.t 0)),
 zo 10 (.call Fg [.t 9]),
 zo 11 (.un .not (.t 10)),
 zo 12 (.mv (.t 11)),
 ⟨some 13,.ld true 4 (.t 3),some (12,false)⟩,
 ⟨some 14,.call JI [.t 13],some (12,false)⟩,
 ⟨some 15,.un .not (.t 14),some (12,false)⟩,
 zo 16 (.pick (.t 12) (.c (.b true)) (.t 15))])
 (.cond (.t 16)
 (.seq (.reg [zo 4 (.mv (.c (.i .i64 0))),
 zo 5 (.mv (.c (.i .i64 4)))])
 .ret)
 .skip))
 (.seq (.seq (.reg [zo 17 (.mv (.t 0)),
 zo 18 (.len 1 (.t 17)),
 zo 19 (.mv (.c (.i .i64 0)))])
 (.blk 0 (.loop (.seq (.reg [zo 20 (.bin .lss (.t 19) (.t 18))])
 (.seq (.cond (.t 20)
 .skip
 (.exit 0))
 (.seq (.blk 1 (.seq (.reg [zo 21 (.mv (.t 19)),
 zo 6 (.mv (.t 21))])
 (.seq (.seq (.seq (.thw 0)
 (.reg [zo 22 (.mv (.t 0)),
 zo 23 (.mv (.t 6)),
 zo 24 (.ia 6 (.t 22) (.t 23)),
 zo 25 (.fa 0 (.t 24)),
 zo 26 (.ld false 1 (.t 25)),
 zo 27 (.un .not (.t 26))]))
 (.cond (.t 27)
 (.exit 1)
 .skip))
 (.seq (.reg [zo 29 (.mv (.t 0)),
 zo 30 (.ld true 4 (.t 3)),
 zo 31 (.mv (.t 6)),
 zo 32 (.call IV [.t 29,.t 30,.t 31]),
 zo 28 (.mv (.t 32)),
 zo 33 (.ext (.t 28) 0),
 zo 34 (.ext (.t 28) 1),
 zo 7 (.alloc 37 [(.i .u8 0),(.s []),.nsl,.nsl]),
 ⟨none,.st 4 (.t 7) (.t 33),none⟩,
 zo 8 (.mv (.t 34))])
 (.seq (.seq (.thw 0)
 (.regD [zo 35 (.fa 0 (.t 7)),
 zo 36 (.ld false 1 (.t 35)),
 zo 37 (.mv (.t 0)),
 zo 38 (.mv (.t 6)),
 zo 39 (.ia 6 (.t 37) (.t 38)),
 zo 40 (.fa 1 (.t 39)),
 zo 41 (.ld false 1 (.t 40)),
 zo 42 (.bin .neq (.t 36) (.t 41)),
 zo 43 (.mv (.t 42)),
 ⟨some 44,.fa 0 (.t 7),some (43,false)⟩,
 ⟨some 45,.ld false 1 (.t 44),some (43,false)⟩,
 ⟨some 46,.bin .eql (.t 45) (.c (.i .u8 2)),some (43,false)⟩,
 ⟨some 47,.mv (.t 46),some (43,false)⟩,
 ⟨some 48,.mv (.t 0),some (47,true)⟩,
 ⟨some 49,.mv (.t 6),some (47,true)⟩,
 ⟨some 50,.ia 6 (.t 48) (.t 49),some (47,true)⟩,
 ⟨some 51,.ld true 6 (.t 50),some (47,true)⟩,
 ⟨some 52,.fa 2 (.t 7),some (47,true)⟩,
 ⟨some 53,.ld false 1 (.t 52),some (47,true)⟩,
 ⟨some 54,.call GN [.t 51,.t 53],some (47,true)⟩,
 ⟨some 55,.un .not (.t 54),some (47,true)⟩,
 ⟨some 56,.pick (.t 47) (.t 55) (.c (.b false)),some (43,false)⟩,
 zo 57 (.pick (.t 43) (.c (.b true)) (.t 56))] []))
 (.cond (.t 57)
 (.seq (.reg [zo 58 (.mv (.t 6)),
 zo 4 (.mv (.t 58)),
 zo 5 (.mv (.c (.i .i64 0)))])
 .ret)
 .skip))))))
 (.reg [zo 59 (.bin .add (.t 19) (.c (.i .i64 1))),
 zo 19 (.mv (.t 59))])))))))
 (.seq (.reg [zo 4 (.mv (.c (.i .i64 (-1)))),
 zo 5 (.mv (.c (.i .i64 0)))])
 .ret)))) }
def Fi:Fun:={ cin:=[(.agg [.id,.id,.sl 1 .id,.sl 1 .id,.id,.id])],cout:=[.id],ntmps:=10,keep:=false,res:=[(2,none)],body :=
 (.seq (.reg [zo 1 (.box 48 6 (.t 0)),
 zo 2 (.mv (.c (.b false)))])
 (.seq (.reg [zo 3 (.fa 0 (.t 1)),
 zo 4 (.ld false 1 (.t 3)),
 zo 5 (.mv (.t 4)),
 ⟨some 6,.fa 1 (.t 1),some (5,true)⟩,
 ⟨some 7,.ld false 1 (.t 6),some (5,true)⟩,
 ⟨some 8,.bin .eql (.t 7) (.c (.i .u8 2)),some (5,true)⟩,
 zo 9 (.pick (.t 5) (.t 8) (.c (.b false))),
 zo 2 (.mv (.t 9))])
 .ret)) }
def Cv:Fun:={ cin:=[(.agg [.id,.id,.sl 1 .id,.sl 1 .id,.id,.id])],cout:=[.id],ntmps:=99,keep:=false,res:=[(2,none)],body :=
 (.seq (.reg [zo 1 (.box 48 6 (.t 0)),
 zo 2 (.mv (.c (.b false)))])
 (.seq (.blk 0 (.seq (.reg [zo 6 (.fa 1 (.t 1)),
 zo 7 (.ld false 1 (.t 6)),
 zo 8 (.bin .gtr (.t 7) (.c (.i .u8 3))),
 zo 9 (.mv (.t 8)),
 ⟨some 10,.fa 0 (.t 1),some (9,false)⟩,
 ⟨some 11,.ld false 1 (.t 10),some (9,false)⟩,
 ⟨some 12,.un .not (.t 11),some (9,false)⟩,
 ⟨some 13,.mv (.t 12),some (9,false)⟩,
 ⟨some 14,.fa 1 (.t 1),some (13,true)⟩,
 ⟨some 15,.ld false 1 (.t 14),some (13,true)⟩,
 ⟨some 16,.bin .neq (.t 15) (.c (.i .u8 0)),some (13,true)⟩,
 ⟨some 17,.pick (.t 13) (.t 16) (.c (.b false)),some (9,false)⟩,
 zo 18 (.pick (.t 9) (.c (.b true)) (.t 17)),
 zo 19 (.mv (.t 18)),
 ⟨some 20,.fa 2 (.t 1),some (19,false)⟩,
 ⟨some 21,.ld false 1 (.t 20),some (19,false)⟩,
 ⟨some 22,.len 1 (.t 21),some (19,false)⟩,
 ⟨some 23,.fa 3 (.t 1),some (19,false)⟩,
 ⟨some 24,.ld false 1 (.t 23),some (19,false)⟩,
 ⟨some 25,.len 1 (.t 24),some (19,false)⟩,
 ⟨some 26,.bin .neq (.t 22) (.t 25),some (19,false)⟩,
 zo 27 (.pick (.t 19) (.c (.b true)) (.t 26)),
 zo 5 (.mv (.t 27))])
 (.cond (.t 5)
 (.seq (.reg [zo 2 (.mv (.c (.b false)))])
 .ret)
 (.seq (.reg [zo 29 (.ld true 6 (.t 1)),
 zo 30 (.call Jv [.t 29]),
 zo 31 (.un .not (.t 30)),
 zo 28 (.mv (.t 31))])
 (.cond (.t 28)
 (.seq (.reg [zo 32 (.fa 2 (.t 1)),
 zo 33 (.ld false 1 (.t 32)),
 zo 34 (.len 1 (.t 33)),
 zo 35 (.bin .eql (.t 34) (.c (.i .i64 0))),
 zo 36 (.mv (.t 35)),
 ⟨some 37,.fa 4 (.t 1),some (36,true)⟩,
 ⟨some 38,.ld false 1 (.t 37),some (36,true)⟩,
 ⟨some 39,.bin .eql (.t 38) (.c (.i .i64 0)),some (36,true)⟩,
 zo 40 (.pick (.t 36) (.t 39) (.c (.b false))),
 zo 41 (.mv (.t 40)),
 ⟨some 42,.fa 5 (.t 1),some (41,true)⟩,
 ⟨some 43,.ld false 1 (.t 42),some (41,true)⟩,
 ⟨some 44,.bin .eql (.t 43) (.c (.i .i64 0)),some (41,true)⟩,
 zo 45 (.pick (.t 41) (.t 44) (.c (.b false))),
 zo 2 (.mv (.t 45))])
 .ret)
 .skip)))))
 (.seq (.seq (.reg [zo 46 (.fa 2 (.t 1)),
 zo 47 (.ld false 1 (.t 46)),
 zo 48 (.len 1 (.t 47)),
 zo 49 (.mv (.c (.i .i64 0)))])
 (.blk 1 (.loop (.seq (.reg [zo 50 (.bin .lss (.t 49) (.t 48))])
 (.seq (.cond (.t 50)
 .skip
 (.exit 1))
 (.seq (.blk 2 (.seq (.reg [zo 51 (.mv (.t 49)),
 zo 52 (.ia 1 (.t 47) (.t 49)),
 zo 53 (.ld false 1 (.t 52)),
 zo 3 (.mv (.t 51)),
 zo 4 (.mv (.t 53))])
 (.seq (.reg [zo 54 (.mv (.t 4)),
 zo 55 (.call GM [.t 54]),
 zo 56 (.un .not (.t 55)),
 zo 57 (.mv (.t 56)),
 ⟨some 58,.mv (.t 3),some (57,false)⟩,
 ⟨some 59,.bin .gtr (.t 58) (.c (.i .i64 0)),some (57,false)⟩,
 ⟨some 60,.mv (.t 59),some (57,false)⟩,
 ⟨some 61,.mv (.t 4),some (60,true)⟩,
 ⟨some 62,.fa 2 (.t 1),some (60,true)⟩,
 ⟨some 63,.ld false 1 (.t 62),some (60,true)⟩,
 ⟨some 64,.mv (.t 3),some (60,true)⟩,
 ⟨some 65,.bin .sub (.t 64) (.c (.i .i64 1)),some (60,true)⟩,
 ⟨some 66,.ia 1 (.t 63) (.t 65),some (60,true)⟩,
 ⟨some 67,.ld false 1 (.t 66),some (60,true)⟩,
 ⟨some 68,.bin .leq (.t 61) (.t 67),some (60,true)⟩,
 ⟨some 69,.pick (.t 60) (.t 68) (.c (.b false)),some (57,false)⟩,
 zo 70 (.pick (.t 57) (.c (.b true)) (.t 69))])
 (.cond (.t 70)
 (.seq (.reg [zo 2 (.mv (.c (.b false)))])
 .ret)
 .skip))))
 (.reg [zo 71 (.bin .add (.t 49) (.c (.i .i64 1))),
 zo 49 (.mv (.t 71))])))))))
 (.seq (.seq (.reg [zo 72 (.fa 4 (.t 1)),
 zo 73 (.ld false 1 (.t 72)),
 zo 74 (.bin .eql (.t 73) (.c (.i .i64 2)))])
 (.cond (.t 74)
 (.seq (.reg [zo 75 (.fa 5 (.t 1)),
 zo 76 (.ld false 1 (.t 75)),
 zo 77 (.bin .geq (.t 76) (.c (.i .i64 0))),
 zo 78 (.mv (.t 77)),
 ⟨some 79,.fa 5 (.t 1),some (78,true)⟩,
 ⟨some 80,.ld false 1 (.t 79),some (78,true)⟩,
 ⟨some 81,.fa 2 (.t 1),some (78,true)⟩,
 ⟨some 82,.ld false 1 (.t 81),some (78,true)⟩,
 ⟨some 83,.len 1 (.t 82),some (78,true)⟩,
 ⟨some 84,.bin .leq (.t 80) (.t 83),some (78,true)⟩,
 zo 85 (.pick (.t 78) (.t 84) (.c (.b false))),
 zo 2 (.mv (.t 85))])
 .ret)
 .skip))
 (.seq (.reg [zo 86 (.fa 4 (.t 1)),
 zo 87 (.ld false 1 (.t 86)),
 zo 88 (.bin .eql (.t 87) (.c (.i .i64 0))),
 zo 89 (.mv (.t 88)),
 ⟨some 90,.fa 4 (.t 1),some (89,false)⟩,
 ⟨some 91,.ld false 1 (.t 90),some (89,false)⟩,
 ⟨some 92,.bin .eql (.t 91) (.c (.i .i64 1)),some (89,false)⟩,
 zo 93 (.pick (.t 89) (.c (.b true)) (.t 92)),
 zo 94 (.mv (.t 93)),
 ⟨some 95,.fa 5 (.t 1),some (94,true)⟩,
 ⟨some 96,.ld false 1 (.t 95),some (94,true)⟩,
 ⟨some 97,.bin .eql (.t 96) (.c (.i .i64 0)),some (94,true)⟩,
 zo 98 (.pick (.t 94) (.t 97) (.c (.b false))),
 zo 2 (.mv (.t 98))])
 .ret))))) }
def AW:Fun:={ cin:=[.sl 1 .id,.id],cout:=[.id],ntmps:=9,keep:=false,res:=[(4,none)],body :=
 (.seq (.reg [zo 4 (.mv (.c (.b false)))])
 (.seq (.reg [zo 5 (.mv (.t 0)),
 zo 6 (.mv (.t 1)),
 zo 7 (.call B4 [.t 5,.t 6]),
 zo 8 (.bin .geq (.t 7) (.c (.i .i64 0))),
 zo 4 (.mv (.t 8))])
 .ret)) }
def GO:Fun:={ cin:=[.id],cout:=[.id],ntmps:=5,keep:=false,res:=[(2,none)],body :=
 (.seq (.reg [zo 2 (.mv (.c (.b false)))])
 (.seq (.reg [zo 3 (.mv (.t 0)),
 zo 4 (.bin .neq (.t 3) (.c (.i .i64 1))),
 zo 2 (.mv (.t 4))])
 .ret)) }
def Ef:Fun:={ cin:=[(.sl 6 (.agg [.id,.id,.sl 1 .id,.sl 1 .id,.id,.id]))],cout:=[],ntmps:=31,keep:=true,res:=[(2,none)],body :=
 (.seq (.reg [zo 2 (.mv (.c .nsl))])
 (.seq (.reg [zo 6 (.mv (.t 0)),
 zo 7 (.call Bx [.t 6]),
 zo 3 (.mv (.t 7))])
 (.seq (.seq (.reg [zo 8 (.mv (.t 0)),
 zo 9 (.len 1 (.t 8)),
 zo 10 (.mv (.c (.i .i64 0)))])
 (.blk 0 (.loop (.seq (.reg [zo 11 (.bin .lss (.t 10) (.t 9))])
 (.seq (.cond (.t 11)
 .skip
 (.exit 0))
 (.seq (.blk 1 (.seq (.reg [zo 12 (.mv (.t 10)),
 zo 13 (.ia 6 (.t 8) (.t 10)),
 zo 14 (.ld true 6 (.t 13)),
 zo 5 (.alloc 48 [.b false,.i .u8 0,.nsl,.nsl,.i .i64 0,.i .i64 0]),
 zo 4 (.mv (.t 12)),
 ⟨none,.st 6 (.t 5) (.t 14),none⟩])
 (.seq (.thw 3)
 (.regD [zo 15 (.mv (.t 3)),
 zo 16 (.mv (.t 4)),
 zo 17 (.mv (.t 3)),
 zo 18 (.mv (.t 4)),
 zo 19 (.fa 2 (.t 5)),
 zo 20 (.ld false 1 (.t 19)),
 zo 21 (.call Ai [.t 20]),
 zo 22 (.fa 3 (.t 5)),
 zo 23 (.ld false 1 (.t 22)),
 zo 24 (.call BW [.t 23]),
 zo 25 (.ia 6 (.t 15) (.t 16)),
 zo 26 (.fa 2 (.t 25)),
 ⟨none,.st 1 (.t 26) (.t 21),none⟩,
 zo 27 (.ia 6 (.t 17) (.t 18)),
 zo 28 (.fa 3 (.t 27)),
 ⟨none,.st 1 (.t 28) (.t 24),none⟩] [(8,(6,8))]))))
 (.reg [zo 29 (.bin .add (.t 10) (.c (.i .i64 1))),
 zo 10 (.mv (.t 29))])))))))
 (.seq (.reg [zo 30 (.mv (.t 3)),
 zo 2 (.mv (.t 30))])
 .ret)))) }
def CK:Fun:={ cin:=[.id,.id],cout:=[.id],ntmps:=9,keep:=false,res:=[(4,none)],body :=
 (.seq (.reg [zo 4 (.mv (.c (.b false)))])
 (.seq (.reg [zo 5 (.mv (.t 0)),
 zo 6 (.mv (.t 1)),
 zo 7 (.call E1 [.t 5,.t 6]),
 zo 8 (.bin .geq (.t 7) (.c (.i .i64 0))),
 zo 4 (.mv (.t 8))])
 .ret)) }
def DB:Fun:={ cin:=[.id,.id],cout:=[.id],ntmps:=17,keep:=false,res:=[(4,none)],body :=
 (.seq (.reg [zo 4 (.mv (.c (.b false)))])
 (.seq (.reg [zo 5 (.mv (.t 0)),
 zo 6 (.call De [.t 5]),
 zo 7 (.mv (.t 6)),
 ⟨some 8,.mv (.t 1),some (7,true)⟩,
 ⟨some 9,.call De [.t 8],some (7,true)⟩,
 ⟨some 10,.un .not (.t 9),some (7,true)⟩,
 zo 11 (.pick (.t 7) (.t 10) (.c (.b false))),
 zo 12 (.mv (.t 11)),
 ⟨some 13,.mv (.t 0),some (12,false)⟩,
 ⟨some 14,.mv (.t 1),some (12,false)⟩,
 ⟨some 15,.bin .lss (.t 13) (.t 14),some (12,false)⟩,
 zo 16 (.pick (.t 12) (.c (.b true)) (.t 15)),
 zo 4 (.mv (.t 16))])
 .ret)) }
def CL:Fun:={ cin:=[.id],cout:=[.id],ntmps:=6,keep:=false,res:=[(2,none)],body :=
 (.seq (.reg [zo 2 (.mv (.c (.b false)))])
 (.seq (.reg [zo 3 (.mv (.t 0)),
 zo 4 (.mv (.t 0)),
 zo 5 (.bin .neq (.t 3) (.t 4)),
 zo 2 (.mv (.t 5))])
 .ret)) }
def Bs:Fun:={ cin:=[.sl 1 .id,.id],cout:=[],ntmps:=10,keep:=false,res:=[],body :=
 (.reg [zo 4 (.mv (.t 0)),
 zo 5 (.mv (.t 0)),
 zo 6 (.len 1 (.t 5)),
 zo 7 (.mv (.t 1)),
 zo 8 (.bin .sub (.t 6) (.t 7)),
 zo 9 (.call EF [.t 4,.t 8])]) }
def CO:Fun:={ cin:=[.sl 1 .id,.id],cout:=[],ntmps:=10,keep:=false,res:=[],body :=
 (.reg [zo 4 (.mv (.t 0)),
 zo 5 (.mv (.t 0)),
 zo 6 (.len 1 (.t 5)),
 zo 7 (.mv (.t 1)),
 zo 8 (.bin .sub (.t 6) (.t 7)),
 zo 9 (.call E2 [.t 4,.t 8])]) }
def BM:Fun:={ cin:=[.id],cout:=[.sl 1 .id],ntmps:=9,keep:=false,res:=[(2,none)],body :=
 (.seq (.reg [zo 2 (.mv (.c .nsl))])
 (.seq (.reg [zo 4 (.mv (.t 0)),
 zo 5 (.call EP [.t 4]),
 zo 3 (.mv (.t 5))])
 (.seq (.seq (.thw 3)
 (.reg [zo 6 (.mv (.t 3)),
 zo 7 (.call Ct [.t 6])]))
 (.seq (.reg [zo 8 (.mv (.t 3)),
 zo 2 (.mv (.t 8))])
 .ret)))) }
def BD:Fun:={ cin:=[.sl 1 .id],cout:=[.id],ntmps:=4,keep:=false,res:=[(2,none)],body :=
 (.seq (.reg [zo 1 (.box 46 1 (.t 0)),
 zo 2 (.mv (.c .nf))])
 (.seq (.reg [zo 3 (.mkf Ae [.t 1]),
 zo 2 (.mv (.t 3))])
 .ret)) }
def DC:Fun:={ cin:=[.id],cout:=[.id],ntmps:=17,keep:=false,res:=[(3,none)],body :=
 (.seq (.reg [zo 3 (.mv (.c (.b false)))])
 (.seq (.seq (.thw 1)
 (.reg [zo 4 (.ld false 1 (.t 1)),
 zo 5 (.mv (.t 0)),
 zo 6 (.ia 6 (.t 4) (.t 5)),
 zo 7 (.fa 0 (.t 6)),
 zo 8 (.ld false 1 (.t 7)),
 zo 9 (.mv (.t 8)),
 ⟨some 10,.ld false 1 (.t 1),some (9,true)⟩,
 ⟨some 11,.mv (.t 0),some (9,true)⟩,
 ⟨some 12,.ia 6 (.t 10) (.t 11),some (9,true)⟩,
 ⟨some 13,.fa 1 (.t 12),some (9,true)⟩,
 ⟨some 14,.ld false 1 (.t 13),some (9,true)⟩,
 ⟨some 15,.bin .neq (.t 14) (.c (.i .u8 0)),some (9,true)⟩,
 zo 16 (.pick (.t 9) (.t 15) (.c (.b false))),
 zo 3 (.mv (.t 16))]))
 .ret)) }
def Co:Fun:={ cin:=[.id],cout:=[.id],ntmps:=17,keep:=false,res:=[(2,none)],body :=
 (.seq (.reg [zo 2 (.mv (.c (.b false)))])
 (.seq (.seq (.reg [zo 3 (.mv (.c (.i .i64 0)))])
 (.blk 0 (.loop (.seq (.seq (.reg [zo 4 (.mv (.t 3)),
 zo 5 (.mv (.t 0)),
 zo 6 (.len 0 (.t 5)),
 zo 7 (.bin .lss (.t 4) (.t 6))])
 (.cond (.t 7)
 .skip
 (.exit 0)))
 (.seq (.blk 1 (.seq (.reg [zo 10 (.mv (.t 0)),
 zo 11 (.mv (.t 3)),
 zo 12 (.ixS (.t 10) (.t 11)),
 zo 13 (.bin .eql (.t 12) (.c (.i .u8 0)))])
 (.cond (.t 13)
 (.seq (.reg [zo 2 (.mv (.c (.b false)))])
 .ret)
 .skip)))
 (.reg [zo 8 (.mv (.t 3)),
 zo 9 (.bin .add (.t 8) (.c (.i .i64 1))),
 zo 3 (.mv (.t 9))]))))))
 (.seq (.reg [zo 14 (.mv (.t 0)),
 zo 15 (.len 0 (.t 14)),
 zo 16 (.bin .leq (.t 15) (.c (.i .i64 256))),
 zo 2 (.mv (.t 16))])
 .ret))) }
def Ag:Fun:={ cin:=[(.sl 6 (.agg [.id,.id,.sl 1 .id,.sl 1 .id,.id,.id]))],cout:=[],ntmps:=8,keep:=true,res:=[(2,none)],body :=
 (.seq (.reg [zo 2 (.mv (.c .nsl))])
 (.seq (.seq (.reg [zo 3 (.mv (.t 0)),
 zo 4 (.eq .sl false (.t 3) (.c .nsl))])
 (.cond (.t 4)
 (.seq (.reg [zo 2 (.mv (.c .nsl))])
 .ret)
 .skip))
 (.seq (.reg [zo 5 (.bsl 6 []),
 zo 6 (.mv (.t 0)),
 zo 7 (.app 6 48 (.t 5) (.t 6)),
 zo 2 (.mv (.t 7))])
 .ret))) }
def C2:Fun:={ cin:=[(.agg [.id,.id,(.sl 1 .id),(.sl 4 (.agg [.id,.id,(.sl 1 .id),(.sl 4 (.agg [.id,.id,.sl 1 .id,.sl 4 .id]))]))])],cout:=[.id],ntmps:=20,keep:=false,res:=[(2,none)],body :=
 (.seq (.reg [zo 1 (.box 37 4 (.t 0)),
 zo 2 (.mv (.c (.b false)))])
 (.seq (.reg [zo 3 (.fa 0 (.t 1)),
 zo 4 (.ld false 1 (.t 3)),
 zo 5 (.bin .eql (.t 4) (.c (.i .u8 2))),
 zo 6 (.mv (.t 5)),
 ⟨some 7,.ld true 4 (.t 1),some (6,true)⟩,
 ⟨some 8,.call Fh [.t 7],some (6,true)⟩,
 zo 9 (.pick (.t 6) (.t 8) (.c (.b false))),
 zo 10 (.mv (.t 9)),
 ⟨some 11,.ld true 4 (.t 1),some (10,true)⟩,
 ⟨some 12,.call F1 [.t 11],some (10,true)⟩,
 ⟨some 13,.bin .leq (.t 12) (.c (.i .i64 1024)),some (10,true)⟩,
 zo 14 (.pick (.t 10) (.t 13) (.c (.b false))),
 zo 15 (.mv (.t 14)),
 ⟨some 16,.ld true 4 (.t 1),some (15,true)⟩,
 ⟨some 17,.call F2 [.t 16],some (15,true)⟩,
 ⟨some 18,.bin .leq (.t 17) (.c (.i .i64 24)),some (15,true)⟩,
 zo 19 (.pick (.t 15) (.t 18) (.c (.b false))),
 zo 2 (.mv (.t 19))])
 .ret)) }
def Dx:Fun:={ cin:=[(.sl 6 (.agg [.id,.id,.sl 1 .id,.sl 1 .id,.id,.id])),(.agg [.id,.id,(.sl 1 .id),(.sl 4 (.agg [.id,.id,(.sl 1 .id),(.sl 4 (.agg [.id,.id,.sl 1 .id,.sl 4 .id]))]))]),.id],cout:=[(.agg [.id,.id,(.sl 1 .id),(.sl 4 (.agg [.id,.id,(.sl 1 .id),(.sl 4 (.agg [.id,.id,.sl 1 .id,.sl 4 .id]))]))]),.id],ntmps:=24,keep:=false,res:=[(6,some (true,4)),(7,none)],body :=
 (.seq (.reg [zo 4 (.box 37 4 (.t 1)),
 zo 6 (.alloc 37 [(.i .u8 0),(.s []),.nsl,.nsl]),
 zo 7 (.mv (.c (.b false)))])
 (.seq (.reg [zo 11 (.mv (.t 0)),
 zo 12 (.mv (.t 2)),
 zo 13 (.call JJ [.t 11,.t 12]),
 zo 10 (.mv (.t 13)),
 zo 14 (.ext (.t 10) 0),
 zo 15 (.ext (.t 10) 1),
 zo 8 (.mv (.t 14)),
 zo 9 (.mv (.t 15))])
 (.seq (.seq (.reg [zo 16 (.mv (.t 9)),
 zo 17 (.bin .neq (.t 16) (.c (.i .i64 0)))])
 (.cond (.t 17)
 (.seq (.reg [zo 18 (.build [(.i .u8 0),(.s []),.nsl,.nsl] []),
 ⟨none,.st 4 (.t 6) (.t 18),none⟩,
 zo 7 (.mv (.c (.b false)))])
 .ret)
 .skip))
 (.seq (.reg [zo 19 (.ld true 4 (.t 4)),
 zo 20 (.mv (.t 8)),
 zo 21 (.call Kn [.t 19,.t 20]),
 zo 22 (.ext (.t 21) 0),
 zo 23 (.ext (.t 21) 1),
 ⟨none,.st 4 (.t 6) (.t 22),none⟩,
 zo 7 (.mv (.t 23))])
 .ret)))) }
def CM:Fun:={ cin:=[(.agg [.id,.id,.sl 1 .id,.sl 1 .id,.id,.id]),(.sl 1 .id)],cout:=[.id],ntmps:=29,keep:=false,res:=[(4,none)],body :=
 (.seq (.reg [zo 2 (.box 48 6 (.t 0)),
 zo 4 (.mv (.c (.b false)))])
 (.seq (.seq (.reg [zo 7 (.fa 4 (.t 2)),
 zo 8 (.ld false 1 (.t 7))])
 (.blk 0 (.seq (.reg [zo 10 (.bin .eql (.t 8) (.c (.i .i64 1))),
 zo 9 (.mv (.t 10))])
 (.cond (.t 9)
 (.seq (.reg [zo 11 (.ld true 6 (.t 2)),
 zo 12 (.fa 2 (.t 2)),
 zo 13 (.ld false 1 (.t 12)),
 zo 14 (.len 1 (.t 13)),
 zo 15 (.call D7 [.t 11,.t 14]),
 zo 5 (.alloc 55 [.nf]),
 ⟨none,.st 1 (.t 5) (.t 15),none⟩])
 (.seq (.reg [zo 16 (.mv (.t 1)),
 zo 17 (.mkf C8 [.t 5]),
 zo 18 (.call BC [.t 16,.t 17]),
 zo 19 (.un .not (.t 18)),
 zo 4 (.mv (.t 19))])
 .ret))
 (.seq (.reg [zo 21 (.bin .eql (.t 8) (.c (.i .i64 2))),
 zo 20 (.mv (.t 21))])
 (.cond (.t 20)
 (.seq (.reg [zo 22 (.ld true 6 (.t 2)),
 zo 23 (.fa 5 (.t 2)),
 zo 24 (.ld false 1 (.t 23)),
 zo 25 (.call D7 [.t 22,.t 24]),
 zo 6 (.alloc 55 [.nf]),
 ⟨none,.st 1 (.t 6) (.t 25),none⟩])
 (.seq (.reg [zo 26 (.mv (.t 1)),
 zo 27 (.mkf C9 [.t 6]),
 zo 28 (.call BC [.t 26,.t 27]),
 zo 4 (.mv (.t 28))])
 .ret))
 .skip))))))
 (.seq (.reg [zo 4 (.mv (.c (.b true)))])
 .ret))) }
def Ab:Fun:={ cin:=[.sl 1 .id,.id],cout:=[.id],ntmps:=19,keep:=false,res:=[(4,none)],body :=
 (.seq (.reg [zo 4 (.mv (.c (.i .i64 0)))])
 (.seq (.seq (.reg [zo 6 (.mv (.t 0)),
 zo 7 (.len 1 (.t 6)),
 zo 8 (.mv (.c (.i .i64 0)))])
 (.blk 0 (.loop (.seq (.reg [zo 9 (.bin .lss (.t 8) (.t 7))])
 (.seq (.cond (.t 9)
 .skip
 (.exit 0))
 (.seq (.blk 1 (.seq (.reg [zo 10 (.mv (.t 8)),
 zo 5 (.mv (.t 10))])
 (.seq (.reg [zo 11 (.mv (.t 1)),
 zo 12 (.mv (.t 0)),
 zo 13 (.mv (.t 5)),
 zo 14 (.ia 1 (.t 12) (.t 13)),
 zo 15 (.ld false 1 (.t 14)),
 zo 16 (.callX (.t 11) [.t 15])])
 (.cond (.t 16)
 (.seq (.reg [zo 17 (.mv (.t 5)),
 zo 4 (.mv (.t 17))])
 .ret)
 .skip))))
 (.reg [zo 18 (.bin .add (.t 8) (.c (.i .i64 1))),
 zo 8 (.mv (.t 18))])))))))
 (.seq (.reg [zo 4 (.mv (.c (.i .i64 (-1))))])
 .ret))) }
def AQ:Fun:={ cin:=[.sl 1 .id],cout:=[],ntmps:=8,keep:=true,res:=[(2,none)],body :=
 (.seq (.reg [zo 2 (.mv (.c .nsl))])
 (.seq (.seq (.reg [zo 3 (.mv (.t 0)),
 zo 4 (.eq .sl false (.t 3) (.c .nsl))])
 (.cond (.t 4)
 (.seq (.reg [zo 2 (.mv (.c .nsl))])
 .ret)
 .skip))
 (.seq (.reg [zo 5 (.bsl 1 []),
 zo 6 (.mv (.t 0)),
 zo 7 (.app 1 9 (.t 5) (.t 6)),
 zo 2 (.mv (.t 7))])
 .ret))) }
def Ac:Fun:={ cin:=[.sl 1 .id],cout:=[],ntmps:=8,keep:=true,res:=[(2,none)],body :=
 (.seq (.reg [zo 2 (.mv (.c .nsl))])
 (.seq (.seq (.reg [zo 3 (.mv (.t 0)),
 zo 4 (.eq .sl false (.t 3) (.c .nsl))])
 (.cond (.t 4)
 (.seq (.reg [zo 2 (.mv (.c .nsl))])
 .ret)
 .skip))
 (.seq (.reg [zo 5 (.bsl 1 []),
 zo 6 (.mv (.t 0)),
 zo 7 (.app 1 3 (.t 5) (.t 6)),
 zo 2 (.mv (.t 7))])
 .ret))) }
def BU:Fun:={ cin:=[.id,.id],cout:=[.id],ntmps:=55,keep:=false,res:=[(4,none)],body :=
 (.seq (.reg [zo 4 (.mv (.c (.i .i64 0)))])
 (.seq (.seq (.reg [zo 11 (.mv (.t 1)),
 zo 12 (.bin .eql (.t 11) (.c (.s [])))])
 (.cond (.t 12)
 (.seq (.reg [zo 4 (.mv (.c (.i .i64 (-1))))])
 .ret)
 .skip))
 (.seq (.seq (.reg [zo 13 (.mv (.t 1)),
 zo 14 (.len 0 (.t 13)),
 zo 15 (.bin .eql (.t 14) (.c (.i .i64 1)))])
 (.cond (.t 15)
 (.seq (.reg [zo 16 (.mv (.t 1)),
 zo 17 (.ixS (.t 16) (.c (.i .i64 0))),
 zo 18 (.cvI .i32 (.t 17)),
 zo 5 (.mv (.t 18))])
 (.seq (.seq (.reg [zo 19 (.mv (.t 5)),
 zo 20 (.bin .geq (.t 19) (.c (.i .i32 128)))])
 (.cond (.t 20)
 (.reg [zo 5 (.mv (.c (.i .i32 65533)))])
 .skip))
 (.seq (.reg [zo 21 (.mv (.t 0)),
 zo 22 (.mv (.t 5)),
 zo 23 (.call CB [.t 21,.t 22]),
 zo 4 (.mv (.t 23))])
 .ret)))
 .skip))
 (.seq (.seq (.reg [zo 24 (.mv (.t 0)),
 zo 25 (.len 0 (.t 24)),
 zo 26 (.call Bp [.t 25])])
 (.cond (.t 26)
 (.seq (.reg [zo 28 (.mv (.t 1)),
 zo 29 (.call Cn [.t 28]),
 zo 27 (.mv (.t 29)),
 zo 30 (.ext (.t 27) 0),
 zo 31 (.ext (.t 27) 1),
 zo 6 (.alloc 106 [.b false,.b false,.b false,.b false,.b false,.b false,.b false,.b false,.b false,.b false,.b false,.b false,.b false,.b false,.b false,.b false,.b false,.b false,.b false,.b false,.b false,.b false,.b false,.b false,.b false,.b false,.b false,.b false,.b false,.b false,.b false,.b false,.b false,.b false,.b false,.b false,.b false,.b false,.b false,.b false,.b false,.b false,.b false,.b false,.b false,.b false,.b false,.b false,.b false,.b false,.b false,.b false,.b false,.b false,.b false,.b false,.b false,.b false,.b false,.b false,.b false,.b false,.b false,.b false,.b false,.b false,.b false,.b false,.b false,.b false,.b false,.b false,.b false,.b false,.b false,.b false,.b false,.b false,.b false,.b false,.b false,.b false,.b false,.b false,.b false,.b false,.b false,.b false,.b false,.b false,.b false,.b false,.b false,.b false,.b false,.b false,.b false,.b false,.b false,.b false,.b false,.b false,.b false,.b false,.b false,.b false,.b false,.b false,.b false,.b false,.b false,.b false,.b false,.b false,.b false,.b false,.b false,.b false,.b false,.b false,.b false,.b false,.b false,.b false,.b false,.b false,.b false,.b false,.b false,.b false,.b false,.b false,.b false,.b false,.b false,.b false,.b false,.b false,.b false,.b false,.b false,.b false,.b false,.b false,.b false,.b false,.b false,.b false,.b false,.b false,.b false,.b false,.b false,.b false,.b false,.b false,.b false,.b false,.b false,.b false,.b false,.b false,.b false,.b false,.b false,.b false,.b false,.b false,.b false,.b false,.b false,.b false,.b false,.b false,.b false,.b false,.b false,.b false,.b false,.b false,.b false,.b false,.b false,.b false,.b false,.b false,.b false,.b false,.b false,.b false,.b false,.b false,.b false,.b false,.b false,.b false,.b false,.b false,.b false,.b false,.b false,.b false,.b false,.b false,.b false,.b false,.b false,.b false,.b false,.b false,.b false,.b false,.b false,.b false,.b false,.b false,.b false,.b false,.b false,.b false,.b false,.b false,.b false,.b false,.b false,.b false,.b false,.b false,.b false,.b false,.b false,.b false,.b false,.b false,.b false,.b false,.b false,.b false,.b false,.b false,.b false,.b false,.b false,.b false,.b false,.b false,.b false,.b false,.b false,.b false,.b false,.b false,.b false,.b false,.b false,.b false]),
 ⟨none,.st 256 (.t 6) (.t 30),none⟩,
 zo 7 (.mv (.t 31))])
 (.seq (.reg [zo 32 (.mv (.t 7))])
 (.cond (.t 32)
 (.seq (.seq (.reg [zo 8 (.mv (.c (.i .i64 0)))])
 (.blk 0 (.loop (.seq (.seq (.reg [zo 33 (.mv (.t 8)),
 zo 34 (.mv (.t 0)),
 zo 35 (.len 0 (.t 34)),
 zo 36 (.bin .lss (.t 33) (.t 35))])
 (.cond (.t 36)
 .skip
 (.exit 0)))
 (.seq (.blk 1 (.seq (.reg [zo 39 (.mv (.t 0)),
 zo 40 (.mv (.t 8)),
 zo 41 (.ixS (.t 39) (.t 40)),
 zo 42 (.call Bq [.t 6,.t 41])])
 (.cond (.t 42)
 (.seq (.reg [zo 43 (.mv (.t 8)),
 zo 4 (.mv (.t 43))])
 .ret)
 .skip)))
 (.reg [zo 37 (.mv (.t 8)),
 zo 38 (.bin .add (.t 37) (.c (.i .i64 1))),
 zo 8 (.mv (.t 38))]))))))
 (.seq (.reg [zo 4 (.mv (.c (.i .i64 (-1))))])
 .ret))
 .skip)))
 .skip))
 (.seq (.seq (.reg [zo 44 (.mv (.t 0)),
 zo 45 (.siter (.t 44))])
 (.blk 2 (.loop (.seq (.reg [zo 46 (.snext (.t 45)),
 zo 47 (.ext (.t 46) 0)])
 (.seq (.cond (.t 47)
 .skip
 (.exit 2))
 (.blk 3 (.seq (.reg [zo 48 (.ext (.t 46) 1),
 zo 49 (.ext (.t 46) 2),
 zo 9 (.mv (.t 48)),
 zo 10 (.mv (.t 49))])
 (.seq (.reg [zo 50 (.mv (.t 1)),
 zo 51 (.mv (.t 10)),
 zo 52 (.call CB [.t 50,.t 51]),
 zo 53 (.bin .geq (.t 52) (.c (.i .i64 0)))])
 (.cond (.t 53)
 (.seq (.reg [zo 54 (.mv (.t 9)),
 zo 4 (.mv (.t 54))])
 .ret)
 .skip)))))))))
 (.seq (.reg [zo 4 (.mv (.c (.i .i64 (-1))))])
 .ret)))))) }
def Cw:Fun:={ cin:=[.id],cout:=[.id],ntmps:=6,keep:=false,res:=[(2,none)],body :=
 (.seq (.reg [zo 2 (.mv (.c (.b false)))])
 (.seq (.reg [zo 3 (.mv (.t 0)),
 zo 4 (.mv (.t 0)),
 zo 5 (.bin .neq (.t 3) (.t 4)),
 zo 2 (.mv (.t 5))])
 .ret)) }
def B5:Fun:={ cin:=[.sl 1 .id,.id],cout:=[],ntmps:=14,keep:=false,res:=[],body :=
 (.seq (.reg [zo 4 (.mv (.t 0)),
 zo 5 (.mv (.t 1)),
 zo 6 (.slc false 1 (.t 4) none (some (.t 5)) none),
 zo 7 (.call BT [.t 6])])
 (.seq (.reg [zo 8 (.mv (.t 0)),
 zo 9 (.mv (.t 1)),
 zo 10 (.slc false 1 (.t 8) (some (.t 9)) none none),
 zo 11 (.call BT [.t 10])])
 (.seq (.thw 0)
 (.reg [zo 12 (.mv (.t 0)),
 zo 13 (.call BT [.t 12])])))) }
def Cb:Fun:={ cin:=[.sl 1 .id,.id],cout:=[],ntmps:=14,keep:=false,res:=[],body :=
 (.seq (.reg [zo 4 (.mv (.t 0)),
 zo 5 (.mv (.t 1)),
 zo 6 (.slc false 1 (.t 4) none (some (.t 5)) none),
 zo 7 (.call CN [.t 6])])
 (.seq (.reg [zo 8 (.mv (.t 0)),
 zo 9 (.mv (.t 1)),
 zo 10 (.slc false 1 (.t 8) (some (.t 9)) none none),
 zo 11 (.call CN [.t 10])])
 (.seq (.thw 0)
 (.reg [zo 12 (.mv (.t 0)),
 zo 13 (.call CN [.t 12])])))) }
def CW:Fun:={ cin:=[.id],cout:=[],ntmps:=5,keep:=true,res:=[(2,none)],body :=
 (.seq (.reg [zo 2 (.mv (.c .nsl))])
 (.seq (.reg [zo 3 (.mv (.t 0)),
 zo 4 (.call Cp [.c .nsl,.t 3]),
 zo 2 (.mv (.t 4))])
 .ret)) }
def Dy:Fun:={ cin:=[],cout:=[],ntmps:=0,keep:=false,res:=[],body:=.bad,prim:=some G6 }
def A2:Fun:={ cin:=[.id],cout:=[],ntmps:=16,keep:=false,res:=[],body :=
 (.seq (.reg [zo 5 (.ld false 1 (.t 1)),
 zo 6 (.len 1 (.t 5)),
 zo 7 (.mv (.c (.i .i64 0)))])
 (.blk 0 (.loop (.seq (.reg [zo 8 (.bin .lss (.t 7) (.t 6))])
 (.seq (.cond (.t 8)
 .skip
 (.exit 0))
 (.seq (.blk 1 (.seq (.reg [zo 9 (.ia 1 (.t 5) (.t 7)),
 zo 10 (.ld false 1 (.t 9)),
 zo 4 (.mv (.t 10))])
 (.seq (.reg [zo 11 (.mv (.t 0)),
 zo 12 (.mv (.t 4)),
 zo 13 (.callX (.t 11) [.t 12]),
 zo 14 (.un .not (.t 13))])
 (.cond (.t 14)
 .ret
 .skip))))
 (.reg [zo 15 (.bin .add (.t 7) (.c (.i .i64 1))),
 zo 7 (.mv (.t 15))]))))))) }
def A6:Fun:={ cin:=[(.agg [.id,.id,(.sl 1 .id),(.sl 4 (.agg [.id,.id,(.sl 1 .id),(.sl 4 (.agg [.id,.id,.sl 1 .id,.sl 4 .id]))]))])],cout:=[.id],ntmps:=89,keep:=false,res:=[(2,none)],body :=
 (.seq (.reg [zo 1 (.box 37 4 (.t 0)),
 zo 2 (.mv (.c (.b false)))])
 (.seq (.seq (.reg [zo 5 (.fa 0 (.t 1)),
 zo 6 (.ld false 1 (.t 5))])
 (.blk 0 (.seq (.seq (.reg [zo 8 (.bin .eql (.t 6) (.c (.i .u8 1))),
 zo 7 (.mv (.t 8))])
 (.cond (.t 7)
 .skip
 (.reg [zo 9 (.bin .eql (.t 6) (.c (.i .u8 3))),
 zo 7 (.mv (.t 9))])))
 (.cond (.t 7)
 (.seq (.reg [zo 10 (.fa 2 (.t 1)),
 zo 11 (.ld false 1 (.t 10)),
 zo 12 (.len 1 (.t 11)),
 zo 13 (.fa 3 (.t 1)),
 zo 14 (.ld false 1 (.t 13)),
 zo 15 (.len 1 (.t 14)),
 zo 16 (.bin .add (.t 12) (.t 15)),
 zo 17 (.bin .eql (.t 16) (.c (.i .i64 0))),
 zo 18 (.mv (.t 17)),
 ⟨some 19,.fa 1 (.t 1),some (18,true)⟩,
 ⟨some 20,.ld false 1 (.t 19),some (18,true)⟩,
 ⟨some 21,.len 0 (.t 20),some (18,true)⟩,
 ⟨some 22,.bin .leq (.t 21) (.c (.i .i64 256)),some (18,true)⟩,
 zo 23 (.pick (.t 18) (.t 22) (.c (.b false))),
 zo 24 (.mv (.t 23)),
 ⟨some 25,.fa 1 (.t 1),some (24,true)⟩,
 ⟨some 26,.ld false 1 (.t 25),some (24,true)⟩,
 ⟨some 27,.call CD [(.t 26),(.c (.i .u8 0))],some (24,true)⟩,
 ⟨some 28,.bin .lss (.t 27) (.c (.i .i64 0)),some (24,true)⟩,
 zo 29 (.pick (.t 24) (.t 28) (.c (.b false))),
 zo 30 (.mv (.t 29)),
 ⟨some 31,.fa 0 (.t 1),some (30,true)⟩,
 ⟨some 32,.ld false 1 (.t 31),some (30,true)⟩,
 ⟨some 33,.bin .eql (.t 32) (.c (.i .u8 1)),some (30,true)⟩,
 ⟨some 34,.mv (.t 33),some (30,true)⟩,
 ⟨some 35,.fa 1 (.t 1),some (34,false)⟩,
 ⟨some 36,.ld false 1 (.t 35),some (34,false)⟩,
 ⟨some 37,.bin .neq (.t 36) (.c (.s [])),some (34,false)⟩,
 ⟨some 38,.pick (.t 34) (.c (.b true)) (.t 37),some (30,true)⟩,
 zo 39 (.pick (.t 30) (.t 38) (.c (.b false))),
 zo 2 (.mv (.t 39))])
 .ret)
 (.seq (.reg [zo 41 (.bin .eql (.t 6) (.c (.i .u8 2))),
 zo 40 (.mv (.t 41))])
 (.cond (.t 40)
 (.seq (.seq (.reg [zo 42 (.fa 1 (.t 1)),
 zo 43 (.ld false 1 (.t 42)),
 zo 44 (.bin .neq (.t 43) (.c (.s []))),
 zo 45 (.mv (.t 44)),
 ⟨some 46,.fa 2 (.t 1),some (45,false)⟩,
 ⟨some 47,.ld false 1 (.t 46),some (45,false)⟩,
 ⟨some 48,.len 1 (.t 47),some (45,false)⟩,
 ⟨some 49,.fa 3 (.t 1),some (45,false)⟩,
 ⟨some 50,.ld false 1 (.t 49),some (45,false)⟩,
 ⟨some 51,.len 1 (.t 50),some (45,false)⟩,
 ⟨some 52,.bin .neq (.t 48) (.t 51),some (45,false)⟩,
 zo 53 (.pick (.t 45) (.c (.b true)) (.t 52))])
 (.cond (.t 53)
 (.seq (.reg [zo 2 (.mv (.c (.b false)))])
 .ret)
 .skip))
 (.seq (.seq (.reg [zo 54 (.fa 2 (.t 1)),
 zo 55 (.ld false 1 (.t 54)),
 zo 56 (.len 1 (.t 55)),
 zo 57 (.mv (.c (.i .i64 0)))])
 (.blk 1 (.loop (.seq (.reg [zo 58 (.bin .lss (.t 57) (.t 56))])
 (.seq (.cond (.t 58)
 .skip
 (.exit 1))
 (.seq (.blk 2 (.seq (.reg [zo 59 (.mv (.t 57)),
 zo 60 (.ia 1 (.t 55) (.t 57)),
 zo 61 (.ld false 1 (.t 60)),
 zo 3 (.mv (.t 59)),
 zo 4 (.mv (.t 61))])
 (.seq (.reg [zo 62 (.mv (.t 4)),
 zo 63 (.call GM [.t 62]),
 zo 64 (.un .not (.t 63)),
 zo 65 (.mv (.t 64)),
 ⟨some 66,.mv (.t 3),some (65,false)⟩,
 ⟨some 67,.bin .gtr (.t 66) (.c (.i .i64 0)),some (65,false)⟩,
 ⟨some 68,.mv (.t 67),some (65,false)⟩,
 ⟨some 69,.mv (.t 4),some (68,true)⟩,
 ⟨some 70,.fa 2 (.t 1),some (68,true)⟩,
 ⟨some 71,.ld false 1 (.t 70),some (68,true)⟩,
 ⟨some 72,.mv (.t 3),some (68,true)⟩,
 ⟨some 73,.bin .sub (.t 72) (.c (.i .i64 1)),some (68,true)⟩,
 ⟨some 74,.ia 1 (.t 71) (.t 73),some (68,true)⟩,
 ⟨some 75,.ld false 1 (.t 74),some (68,true)⟩,
 ⟨some 76,.bin .leq (.t 69) (.t 75),some (68,true)⟩,
 ⟨some 77,.pick (.t 68) (.t 76) (.c (.b false)),some (65,false)⟩,
 zo 78 (.pick (.t 65) (.c (.b true)) (.t 77)),
 zo 79 (.mv (.t 78)),
 ⟨some 80,.fa 3 (.t 1),some (79,false)⟩,
 ⟨some 81,.ld false 1 (.t 80),some (79,false)⟩,
 ⟨some 82,.mv (.t 3),some (79,false)⟩,
 ⟨some 83,.ia 4 (.t 81) (.t 82),some (79,false)⟩,
 ⟨some 84,.ld true 4 (.t 83),some (79,false)⟩,
 ⟨some 85,.call Fh [.t 84],some (79,false)⟩,
 ⟨some 86,.un .not (.t 85),some (79,false)⟩,
 zo 87 (.pick (.t 79) (.c (.b true)) (.t 86))])
 (.cond (.t 87)
 (.seq (.reg [zo 2 (.mv (.c (.b false)))])
 .ret)
 .skip))))
 (.reg [zo 88 (.bin .add (.t 57) (.c (.i .i64 1))),
 zo 57 (.mv (.t 88))])))))))
 (.seq (.reg [zo 2 (.mv (.c (.b true)))])
 .ret)))
 .skip))))))
 (.seq (.reg [zo 2 (.mv (.c (.b false)))])
 .ret))) }
def D9:Fun:={ cin:=[(.agg [.id,.id,(.sl 1 .id),(.sl 4 (.agg [.id,.id,(.sl 1 .id),(.sl 4 (.agg [.id,.id,.sl 1 .id,.sl 4 .id]))]))])],cout:=[.id],ntmps:=19,keep:=false,res:=[(2,none)],body :=
 (.seq (.reg [zo 1 (.box 37 4 (.t 0)),
 zo 2 (.mv (.c (.i .i64 0)))])
 (.seq (.reg [zo 3 (.mv (.c (.i .i64 1)))])
 (.seq (.seq (.reg [zo 6 (.fa 3 (.t 1)),
 zo 7 (.ld false 1 (.t 6)),
 zo 8 (.len 1 (.t 7)),
 zo 9 (.mv (.c (.i .i64 0)))])
 (.blk 0 (.loop (.seq (.reg [zo 10 (.bin .lss (.t 9) (.t 8))])
 (.seq (.cond (.t 10)
 .skip
 (.exit 0))
 (.seq (.blk 1 (.seq (.reg [zo 11 (.ia 4 (.t 7) (.t 9)),
 zo 12 (.ld true 4 (.t 11)),
 zo 5 (.alloc 37 [(.i .u8 0),(.s []),.nsl,.nsl]),
 ⟨none,.st 4 (.t 5) (.t 12),none⟩])
 (.reg [zo 13 (.mv (.t 3)),
 zo 14 (.ld true 4 (.t 5)),
 zo 15 (.call F1 [.t 14]),
 zo 16 (.bin .add (.t 13) (.t 15)),
 zo 3 (.mv (.t 16))])))
 (.reg [zo 17 (.bin .add (.t 9) (.c (.i .i64 1))),
 zo 9 (.mv (.t 17))])))))))
 (.seq (.reg [zo 18 (.mv (.t 3)),
 zo 2 (.mv (.t 18))])
 .ret)))) }
def EA:Fun:={ cin:=[(.agg [.id,.id,(.sl 1 .id),(.sl 4 (.agg [.id,.id,(.sl 1 .id),(.sl 4 (.agg [.id,.id,.sl 1 .id,.sl 4 .id]))]))])],cout:=[.id],ntmps:=20,keep:=false,res:=[(2,none)],body :=
 (.seq (.reg [zo 1 (.box 37 4 (.t 0)),
 zo 2 (.mv (.c (.i .i64 0)))])
 (.seq (.reg [zo 3 (.mv (.c (.i .i64 0)))])
 (.seq (.seq (.reg [zo 6 (.fa 3 (.t 1)),
 zo 7 (.ld false 1 (.t 6)),
 zo 8 (.len 1 (.t 7)),
 zo 9 (.mv (.c (.i .i64 0)))])
 (.blk 0 (.loop (.seq (.reg [zo 10 (.bin .lss (.t 9) (.t 8))])
 (.seq (.cond (.t 10)
 .skip
 (.exit 0))
 (.seq (.blk 1 (.seq (.reg [zo 11 (.ia 4 (.t 7) (.t 9)),
 zo 12 (.ld true 4 (.t 11)),
 zo 5 (.alloc 37 [(.i .u8 0),(.s []),.nsl,.nsl]),
 ⟨none,.st 4 (.t 5) (.t 12),none⟩])
 (.reg [zo 13 (.mv (.t 3)),
 zo 14 (.ld true 4 (.t 5)),
 zo 15 (.call F2 [.t 14]),
 zo 16 (.bin .add (.c (.i .i64 1)) (.t 15)),
 zo 17 (.mm true (.t 13) (.t 16)),
 zo 3 (.mv (.t 17))])))
 (.reg [zo 18 (.bin .add (.t 9) (.c (.i .i64 1))),
 zo 9 (.mv (.t 18))])))))))
 (.seq (.reg [zo 19 (.mv (.t 3)),
 zo 2 (.mv (.t 19))])
 .ret)))) }
def Bt:Fun:={ cin:=[(.sl 6 (.agg [.id,.id,.sl 1 .id,.sl 1 .id,.id,.id])),.id],cout:=[.sl 1 .id,.id],ntmps:=31,keep:=false,res:=[(4,some (false,1)),(5,some (false,1))],body :=
 (.seq (.reg [zo 3 (.box 3 1 (.t 1)),
 zo 4 (.alloc 34 [.nsl]),
 zo 5 (.alloc 26 [.i .i64 0])])
 (.seq (.blk 0 (.seq (.reg [zo 8 (.mv (.t 0)),
 zo 9 (.call Fg [.t 8]),
 zo 10 (.un .not (.t 9)),
 zo 7 (.mv (.t 10))])
 (.cond (.t 7)
 (.seq (.reg [⟨none,.st 1 (.t 4) (.c .nsl),none⟩,
 ⟨none,.st 1 (.t 5) (.c (.i .i64 4)),none⟩])
 .ret)
 (.seq (.reg [zo 12 (.ld false 1 (.t 3)),
 zo 13 (.bin .lss (.t 12) (.c (.i .i64 0))),
 zo 14 (.mv (.t 13)),
 ⟨some 15,.ld false 1 (.t 3),some (14,false)⟩,
 ⟨some 16,.mv (.t 0),some (14,false)⟩,
 ⟨some 17,.len 1 (.t 16),some (14,false)⟩,
 ⟨some 18,.bin .geq (.t 15) (.t 17),some (14,false)⟩,
 zo 19 (.pick (.t 14) (.c (.b true)) (.t 18)),
 zo 11 (.mv (.t 19))])
 (.cond (.t 11)
 (.seq (.reg [⟨none,.st 1 (.t 4) (.c .nsl),none⟩,
 ⟨none,.st 1 (.t 5) (.c (.i .i64 1)),none⟩])
 .ret)
 .skip)))))
 (.seq (.seq (.reg [zo 20 (.mv (.t 0)),
 zo 21 (.build [.i .i64 0,.nsl] []),
 zo 22 (.call FU [.t 20,.t 21])])
 (.blk 1 (.rf (.t 22) [23] (.reg [zo 6 (.alloc 118 [.i .i64 0,.nsl]),
 ⟨none,.st 2 (.t 6) (.t 23),none⟩])
 (.blk 2 (.seq (.reg [zo 24 (.fa 0 (.t 6)),
 zo 25 (.ld false 1 (.t 24)),
 zo 26 (.ld false 1 (.t 3)),
 zo 27 (.bin .eql (.t 25) (.t 26))])
 (.cond (.t 27)
 (.seq (.reg [zo 28 (.fa 1 (.t 6)),
 zo 29 (.ld false 1 (.t 28)),
 zo 30 (.call Ai [.t 29]),
 ⟨none,.st 1 (.t 4) (.t 30),none⟩,
 ⟨none,.st 1 (.t 5) (.c (.i .i64 0)),none⟩])
 .ret)
 .skip))))))
 (.seq (.reg [⟨none,.st 1 (.t 4) (.c .nsl),none⟩,
 ⟨none,.st 1 (.t 5) (.c (.i .i64 1)),none⟩])
 .ret)))) }
def F9:Fun:={ cin:=[(.agg [.id,.id,(.sl 1 .id),(.sl 4 (.agg [.id,.id,(.sl 1 .id),(.sl 4 (.agg [.id,.id,.sl 1 .id,.sl 4 .id]))]))]),(.sl 1 .id)],cout:=[(.agg [.id,.id,(.sl 1 .id),(.sl 4 (.agg [.id,.id,(.sl 1 .id),(.sl 4 (.agg [.id,.id,.sl 1 .id,.sl 4 .id]))]))]),.id],ntmps:=21,keep:=false,res:=[(4,some (true,4)),(5,none)],body :=
 (.seq (.reg [zo 2 (.box 37 4 (.t 0)),
 zo 4 (.alloc 37 [(.i .u8 0),(.s []),.nsl,.nsl]),
 zo 5 (.mv (.c (.b false)))])
 (.seq (.seq (.reg [zo 8 (.ld true 4 (.t 2)),
 zo 9 (.call Fh [.t 8]),
 zo 10 (.un .not (.t 9))])
 (.cond (.t 10)
 (.seq (.reg [zo 11 (.build [(.i .u8 0),(.s []),.nsl,.nsl] []),
 ⟨none,.st 4 (.t 4) (.t 11),none⟩,
 zo 5 (.mv (.c (.b false)))])
 .ret)
 .skip))
 (.seq (.reg [zo 13 (.ld true 4 (.t 2)),
 zo 14 (.mv (.t 1)),
 zo 15 (.call IW [.t 13,.t 14]),
 zo 12 (.mv (.t 15)),
 zo 16 (.ext (.t 12) 0),
 zo 17 (.ext (.t 12) 1),
 zo 6 (.alloc 37 [(.i .u8 0),(.s []),.nsl,.nsl]),
 ⟨none,.st 4 (.t 6) (.t 16),none⟩,
 zo 7 (.mv (.t 17))])
 (.seq (.reg [zo 18 (.ld true 4 (.t 6)),
 zo 19 (.call Hg [.t 18]),
 zo 20 (.mv (.t 7)),
 ⟨none,.st 4 (.t 4) (.t 19),none⟩,
 zo 5 (.mv (.t 20))])
 .ret)))) }
def EB:Fun:={ cin:=[(.agg [.id,.id,.sl 1 .id,.sl 1 .id,.id,.id]),.id],cout:=[.id],ntmps:=13,keep:=false,res:=[(4,none)],body :=
 (.seq (.reg [zo 2 (.box 48 6 (.t 0)),
 zo 4 (.mv (.c .nf))])
 (.seq (.reg [zo 6 (.fa 3 (.t 2)),
 zo 7 (.ld false 1 (.t 6)),
 zo 8 (.call Bo [.t 7]),
 zo 9 (.call DJ [.t 8]),
 zo 10 (.mv (.t 1)),
 zo 11 (.slc false 1 (.t 9) none (some (.t 10)) none),
 zo 5 (.alloc 46 [.nsl]),
 ⟨none,.st 1 (.t 5) (.t 11),none⟩])
 (.seq (.reg [zo 12 (.mkf Ax [.t 2,.t 5]),
 zo 4 (.mv (.t 12))])
 .ret))) }
def Aj:Fun:={ cin:=[.sl 1 .id,.id],cout:=[.id],ntmps:=9,keep:=false,res:=[(4,none)],body :=
 (.seq (.reg [zo 4 (.mv (.c (.b false)))])
 (.seq (.reg [zo 5 (.mv (.t 0)),
 zo 6 (.mv (.t 1)),
 zo 7 (.call Bz [.t 5,.t 6]),
 zo 8 (.bin .geq (.t 7) (.c (.i .i64 0))),
 zo 4 (.mv (.t 8))])
 .ret)) }
def Cd:Fun:={ cin:=[.id],cout:=[.id],ntmps:=8,keep:=false,res:=[(3,none)],body :=
 (.seq (.reg [zo 3 (.mv (.c (.b false)))])
 (.seq (.reg [zo 4 (.ld false 1 (.t 1)),
 zo 5 (.mv (.t 0)),
 zo 6 (.callX (.t 4) [.t 5]),
 zo 7 (.un .not (.t 6)),
 zo 3 (.mv (.t 7))])
 .ret)) }
def Ce:Fun:={ cin:=[.id],cout:=[.id],ntmps:=8,keep:=false,res:=[(3,none)],body :=
 (.seq (.reg [zo 3 (.mv (.c (.b false)))])
 (.seq (.reg [zo 4 (.ld false 1 (.t 1)),
 zo 5 (.mv (.t 0)),
 zo 6 (.callX (.t 4) [.t 5]),
 zo 7 (.un .not (.t 6)),
 zo 3 (.mv (.t 7))])
 .ret)) }
def A3:Fun:={ cin:=[.id,.id],cout:=[.id],ntmps:=187,keep:=false,res:=[(4,none)],body :=
 (.seq (.reg [zo 4 (.mv (.c (.i .i64 0)))])
 (.blk 0 (.seq (.reg [zo 161 (.mv (.t 1)),
 zo 162 (.bin .leq (.c (.i .i32 0)) (.t 161)),
 zo 163 (.mv (.t 162)),
 ⟨some 164,.mv (.t 1),some (163,true)⟩,
 ⟨some 165,.bin .lss (.t 164) (.c (.i .i32 128)),some (163,true)⟩,
 zo 166 (.pick (.t 163) (.t 165) (.c (.b false))),
 zo 160 (.mv (.t 166))])
 (.cond (.t 160)
 (.seq (.reg [zo 167 (.mv (.t 0)),
 zo 168 (.mv (.t 1)),
 zo 169 (.cvI .u8 (.t 168)),
 zo 170 (.call CD [.t 167,.t 169]),
 zo 4 (.mv (.t 170))])
 .ret)
 (.seq (.reg [zo 172 (.mv (.t 1)),
 zo 173 (.bin .eql (.t 172) (.c (.i .i32 65533))),
 zo 171 (.mv (.t 173))])
 (.cond (.t 171)
 (.seq (.seq (.reg [zo 174 (.mv (.t 0)),
 zo 175 (.siter (.t 174))])
 (.blk 9 (.loop (.seq (.reg [zo 176 (.snext (.t 175)),
 zo 177 (.ext (.t 176) 0)])
 (.seq (.cond (.t 177)
 .skip
 (.exit 9))
 (.blk 10 (.seq (.reg [zo 178 (.ext (.t 176) 1),
 zo 179 (.ext (.t 176) 2),
 zo 5 (.mv (.t 178)),
 zo 6 (.mv (.t 179))])
 (.seq (.reg [zo 180 (.mv (.t 6)),
 zo 181 (.bin .eql (.t 180) (.c (.i .i32 65533)))])
 (.cond (.t 181)
 (.seq (.reg [zo 182 (.mv (.t 5)),
 zo 4 (.mv (.t 182))])
 .ret)
 .skip)))))))))
 (.seq (.reg [zo 4 (.mv (.c (.i .i64 (-1))))])
 .ret))
 (.seq (.reg [zo 184 (.mv (.t 1)),
 zo 185 (.call DA [.t 184]),
 zo 186 (.un .not (.t 185)),
 zo 183 (.mv (.t 186))])
 (.cond (.t 183)
 (.seq (.reg [zo 4 (.mv (.c (.i .i64 (-1))))])
 .ret)
 (.seq (.reg [zo 17 (.mv (.t 1)),
 zo 18 (.cvRS (.t 17)),
 zo 7 (.mv (.t 18))])
 (.seq (.reg [zo 19 (.mv (.t 7)),
 zo 20 (.len 0 (.t 19)),
 zo 21 (.bin .sub (.t 20) (.c (.i .i64 1))),
 zo 8 (.mv (.t 21))])
 (.seq (.reg [zo 22 (.mv (.t 8)),
 zo 9 (.mv (.t 22))])
 (.seq (.reg [zo 10 (.mv (.c (.i .i64 0)))])
 (.seq (.blk 1 (.loop (.seq (.seq (.reg [zo 23 (.mv (.t 9)),
 zo 24 (.mv (.t 0)),
 zo 25 (.len 0 (.t 24)),
 zo 26 (.bin .lss (.t 23) (.t 25))])
 (.cond (.t 26)
 .skip
 (.exit 1)))
 (.blk 2 (.seq (.seq (.regD [zo 27 (.mv (.t 0)),
 zo 28 (.mv (.t 9)),
 zo 29 (.ixS (.t 27) (.t 28)),
 zo 30 (.mv (.t 7)),
 zo 31 (.mv (.t 8)),
 zo 32 (.ixS (.t 30) (.t 31)),
 zo 33 (.bin .neq (.t 29) (.t 32))] [])
 (.cond (.t 33)
 (.seq (.regD [zo 34 (.mv (.t 0)),
 zo 35 (.mv (.t 9)),
 zo 36 (.bin .add (.t 35) (.c (.i .i64 1))),
 zo 37 (.slS (.t 34) (some (.t 36)) none),
 zo 38 (.mv (.t 7)),
 zo 39 (.mv (.t 8)),
 zo 40 (.ixS (.t 38) (.t 39)),
 zo 41 (.call CD [.t 37,.t 40]),
 zo 11 (.mv (.t 41))] [])
 (.seq (.seq (.reg [zo 42 (.mv (.t 11)),
 zo 43 (.bin .lss (.t 42) (.c (.i .i64 0)))])
 (.cond (.t 43)
 (.seq (.reg [zo 4 (.mv (.c (.i .i64 (-1))))])
 .ret)
 .skip))
 (.reg [zo 44 (.mv (.t 9)),
 zo 45 (.mv (.t 11)),
 zo 46 (.bin .add (.t 45) (.c (.i .i64 1))),
 zo 47 (.bin .add (.t 44) (.t 46)),
 zo 9 (.mv (.t 47))])))
 .skip))
 (.seq (.seq (.reg [zo 12 (.mv (.c (.i .i64 1)))])
 (.blk 3 (.loop (.seq (.seq (.reg [zo 48 (.mv (.t 12)),
 zo 49 (.mv (.t 7)),
 zo 50 (.len 0 (.t 49)),
 zo 51 (.bin .lss (.t 48) (.t 50))])
 (.cond (.t 51)
 .skip
 (.exit 3)))
 (.seq (.blk 4 (.seq (.regD [zo 54 (.mv (.t 0)),
 zo 55 (.mv (.t 9)),
 zo 56 (.mv (.t 12)),
 zo 57 (.bin .sub (.t 55) (.t 56)),
 zo 58 (.ixS (.t 54) (.t 57)),
 zo 59 (.mv (.t 7)),
 zo 60 (.mv (.t 8)),
 zo 61 (.mv (.t 12)),
 zo 62 (.bin .sub (.t 60) (.t 61)),
 zo 63 (.ixS (.t 59) (.t 62)),
 zo 64 (.bin .neq (.t 58) (.t 63))] [])
 (.cond (.t 64)
 .bad
 .skip)))
 (.reg [zo 52 (.mv (.t 12)),
 zo 53 (.bin .add (.t 52) (.c (.i .i64 1))),
 zo 12 (.mv (.t 53))]))))))
 (.seq (.seq (.reg [zo 65 (.mv (.t 9)),
 zo 66 (.mv (.t 8)),
 zo 67 (.bin .sub (.t 65) (.t 66)),
 zo 4 (.mv (.t 67))])
 .ret)
 (.seq .skip
 (.seq (.reg [zo 68 (.mv (.t 10)),
 zo 69 (.bin .add (.t 68) (.c (.i .i64 1))),
 zo 10 (.mv (.t 69))])
 (.seq (.reg [zo 70 (.mv (.t 9)),
 zo 71 (.bin .add (.t 70) (.c (.i .i64 1))),
 zo 9 (.mv (.t 71))])
 (.seq (.reg [zo 72 (.mv (.c (.b true))),
 ⟨some 73,.mv (.t 10),some (72,true)⟩,
 ⟨some 74,.mv (.t 9),some (72,true)⟩,
 ⟨some 75,.call EG [.t 74],some (72,true)⟩,
 ⟨some 76,.bin .gtr (.t 73) (.t 75),some (72,true)⟩,
 zo 77 (.pick (.t 72) (.t 76) (.c (.b false))),
 zo 78 (.mv (.t 77)),
 ⟨some 79,.mv (.t 9),some (78,true)⟩,
 ⟨some 80,.mv (.t 0),some (78,true)⟩,
 ⟨some 81,.len 0 (.t 80),some (78,true)⟩,
 ⟨some 82,.bin .lss (.t 79) (.t 81),some (78,true)⟩,
 zo 83 (.pick (.t 78) (.t 82) (.c (.b false))),
 zo 84 (.mv (.t 83)),
 ⟨some 85,.mv (.c (.b false)),some (84,false)⟩,
 ⟨some 86,.mv (.t 10),some (85,true)⟩,
 ⟨some 87,.mv (.t 9),some (85,true)⟩,
 ⟨some 88,.bin .shr (.t 87) (.c (.i .u64 4)),some (85,true)⟩,
 ⟨some 89,.bin .add (.c (.i .i64 4)) (.t 88),some (85,true)⟩,
 ⟨some 90,.bin .geq (.t 86) (.t 89),some (85,true)⟩,
 ⟨some 91,.pick (.t 85) (.t 90) (.c (.b false)),some (84,false)⟩,
 ⟨some 92,.mv (.t 91),some (84,false)⟩,
 ⟨some 93,.mv (.t 9),some (92,true)⟩,
 ⟨some 94,.mv (.t 0),some (92,true)⟩,
 ⟨some 95,.len 0 (.t 94),some (92,true)⟩,
 ⟨some 96,.bin .lss (.t 93) (.t 95),some (92,true)⟩,
 ⟨some 97,.pick (.t 92) (.t 96) (.c (.b false)),some (84,false)⟩,
 zo 98 (.pick (.t 84) (.c (.b true)) (.t 97))])
 (.cond (.t 98)
 .bad
 .skip))))))))))))
 (.seq (.seq (.reg [zo 4 (.mv (.c (.i .i64 (-1))))])
 .ret)
 (.seq .skip
 (.seq (.cond (.c (.b true))
 (.seq (.reg [zo 99 (.mv (.t 0)),
 zo 100 (.mv (.t 9)),
 zo 101 (.mv (.t 8)),
 zo 102 (.bin .sub (.t 100) (.t 101)),
 zo 103 (.slS (.t 99) (some (.t 102)) none),
 zo 104 (.mv (.t 1)),
 zo 105 (.cvRS (.t 104)),
 zo 106 (.bad),
 zo 13 (.mv (.t 106))])
 (.seq (.reg [zo 107 (.mv (.t 13)),
 zo 108 (.bin .geq (.t 107) (.c (.i .i64 0)))])
 (.cond (.t 108)
 (.seq (.reg [zo 109 (.mv (.t 9)),
 zo 110 (.mv (.t 13)),
 zo 111 (.bin .add (.t 109) (.t 110)),
 zo 112 (.mv (.t 8)),
 zo 113 (.bin .sub (.t 111) (.t 112)),
 zo 4 (.mv (.t 113))])
 .ret)
 .skip)))
 (.seq (.reg [zo 114 (.mv (.t 7)),
 zo 115 (.mv (.t 8)),
 zo 116 (.ixS (.t 114) (.t 115)),
 zo 14 (.mv (.t 116))])
 (.seq (.reg [zo 117 (.mv (.t 7)),
 zo 118 (.mv (.t 8)),
 zo 119 (.bin .sub (.t 118) (.c (.i .i64 1))),
 zo 120 (.ixS (.t 117) (.t 119)),
 zo 15 (.mv (.t 120))])
 (.seq .skip
 (.blk 5 (.loop (.seq (.seq (.reg [zo 121 (.mv (.t 9)),
 zo 122 (.mv (.t 0)),
 zo 123 (.len 0 (.t 122)),
 zo 124 (.bin .lss (.t 121) (.t 123))])
 (.cond (.t 124)
 .skip
 (.exit 5)))
 (.seq (.blk 6 (.seq (.reg [zo 127 (.mv (.t 0)),
 zo 128 (.mv (.t 9)),
 zo 129 (.ixS (.t 127) (.t 128)),
 zo 130 (.mv (.t 14)),
 zo 131 (.bin .eql (.t 129) (.t 130)),
 zo 132 (.mv (.t 131)),
 ⟨some 133,.mv (.t 0),some (132,true)⟩,
 ⟨some 134,.mv (.t 9),some (132,true)⟩,
 ⟨some 135,.bin .sub (.t 134) (.c (.i .i64 1)),some (132,true)⟩,
 ⟨some 136,.ixS (.t 133) (.t 135),some (132,true)⟩,
 ⟨some 137,.mv (.t 15),some (132,true)⟩,
 ⟨some 138,.bin .eql (.t 136) (.t 137),some (132,true)⟩,
 zo 139 (.pick (.t 132) (.t 138) (.c (.b false)))])
 (.cond (.t 139)
 (.seq (.seq (.reg [zo 16 (.mv (.c (.i .i64 2)))])
 (.blk 7 (.loop (.seq (.seq (.reg [zo 140 (.mv (.t 16)),
 zo 141 (.mv (.t 7)),
 zo 142 (.len 0 (.t 141)),
 zo 143 (.bin .lss (.t 140) (.t 142))])
 (.cond (.t 143)
 .skip
 (.exit 7)))
 (.seq (.blk 8 (.seq (.regD [zo 146 (.mv (.t 0)),
 zo 147 (.mv (.t 9)),
 zo 148 (.mv (.t 16)),
 zo 149 (.bin .sub (.t 147) (.t 148)),
 zo 150 (.ixS (.t 146) (.t 149)),
 zo 151 (.mv (.t 7)),
 zo 152 (.mv (.t 8)),
 zo 153 (.mv (.t 16)),
 zo 154 (.bin .sub (.t 152) (.t 153)),
 zo 155 (.ixS (.t 151) (.t 154)),
 zo 156 (.bin .neq (.t 150) (.t 155))] [])
 (.cond (.t 156)
 (.exit 6)
 .skip)))
 (.reg [zo 144 (.mv (.t 16)),
 zo 145 (.bin .add (.t 144) (.c (.i .i64 1))),
 zo 16 (.mv (.t 145))]))))))
 (.seq (.reg [zo 157 (.mv (.t 9)),
 zo 158 (.mv (.t 8)),
 zo 159 (.bin .sub (.t 157) (.t 158)),
 zo 4 (.mv (.t 159))])
 .ret))
 .skip)))
 (.reg [zo 125 (.mv (.t 9)),
 zo 126 (.bin .add (.t 125) (.c (.i .i64 1))),
 zo 9 (.mv (.t 126))])))))))))
 (.seq (.reg [zo 4 (.mv (.c (.i .i64 (-1))))])
 .ret))))))))))))))))) }
def BN:Fun:={ cin:=[.id],cout:=[.id],ntmps:=5,keep:=false,res:=[(2,none)],body :=
 (.seq (.reg [zo 2 (.mv (.c (.b false)))])
 (.seq (.reg [zo 3 (.mv (.t 0)),
 zo 4 (.bin .gtr (.t 3) (.c (.i .i64 8))),
 zo 2 (.mv (.t 4))])
 .ret)) }
def BJ:Fun:={ cin:=[.id],cout:=[(.agg [.id,.id,.id,.id,.id,.id,.id,.id,.id,.id,.id,.id,.id,.id,.id,.id,.id,.id,.id,.id,.id,.id,.id,.id,.id,.id,.id,.id,.id,.id,.id,.id,.id,.id,.id,.id,.id,.id,.id,.id,.id,.id,.id,.id,.id,.id,.id,.id,.id,.id,.id,.id,.id,.id,.id,.id,.id,.id,.id,.id,.id,.id,.id,.id,.id,.id,.id,.id,.id,.id,.id,.id,.id,.id,.id,.id,.id,.id,.id,.id,.id,.id,.id,.id,.id,.id,.id,.id,.id,.id,.id,.id,.id,.id,.id,.id,.id,.id,.id,.id,.id,.id,.id,.id,.id,.id,.id,.id,.id,.id,.id,.id,.id,.id,.id,.id,.id,.id,.id,.id,.id,.id,.id,.id,.id,.id,.id,.id,.id,.id,.id,.id,.id,.id,.id,.id,.id,.id,.id,.id,.id,.id,.id,.id,.id,.id,.id,.id,.id,.id,.id,.id,.id,.id,.id,.id,.id,.id,.id,.id,.id,.id,.id,.id,.id,.id,.id,.id,.id,.id,.id,.id,.id,.id,.id,.id,.id,.id,.id,.id,.id,.id,.id,.id,.id,.id,.id,.id,.id,.id,.id,.id,.id,.id,.id,.id,.id,.id,.id,.id,.id,.id,.id,.id,.id,.id,.id,.id,.id,.id,.id,.id,.id,.id,.id,.id,.id,.id,.id,.id,.id,.id,.id,.id,.id,.id,.id,.id,.id,.id,.id,.id,.id,.id,.id,.id,.id,.id,.id,.id,.id,.id,.id,.id,.id,.id,.id,.id,.id,.id,.id,.id,.id,.id,.id,.id]),.id],ntmps:=21,keep:=false,res:=[(2,some (true,256)),(3,none)],body :=
 (.seq (.reg [zo 2 (.alloc 106 [.b false,.b false,.b false,.b false,.b false,.b false,.b false,.b false,.b false,.b false,.b false,.b false,.b false,.b false,.b false,.b false,.b false,.b false,.b false,.b false,.b false,.b false,.b false,.b false,.b false,.b false,.b false,.b false,.b false,.b false,.b false,.b false,.b false,.b false,.b false,.b false,.b false,.b false,.b false,.b false,.b false,.b false,.b false,.b false,.b false,.b false,.b false,.b false,.b false,.b false,.b false,.b false,.b false,.b false,.b false,.b false,.b false,.b false,.b false,.b false,.b false,.b false,.b false,.b false,.b false,.b false,.b false,.b false,.b false,.b false,.b false,.b false,.b false,.b false,.b false,.b false,.b false,.b false,.b false,.b false,.b false,.b false,.b false,.b false,.b false,.b false,.b false,.b false,.b false,.b false,.b false,.b false,.b false,.b false,.b false,.b false,.b false,.b false,.b false,.b false,.b false,.b false,.b false,.b false,.b false,.b false,.b false,.b false,.b false,.b false,.b false,.b false,.b false,.b false,.b false,.b false,.b false,.b false,.b false,.b false,.b false,.b false,.b false,.b false,.b false,.b false,.b false,.b false,.b false,.b false,.b false,.b false,.b false,.b false,.b false,.b false,.b false,.b false,.b false,.b false,.b false,.b false,.b false,.b false,.b false,.b false,.b false,.b false,.b false,.b false,.b false,.b false,.b false,.b false,.b false,.b false,.b false,.b false,.b false,.b false,.b false,.b false,.b false,.b false,.b false,.b false,.b false,.b false,.b false,.b false,.b false,.b false,.b false,.b false,.b false,.b false,.b false,.b false,.b false,.b false,.b false,.b false,.b false,.b false,.b false,.b false,.b false,.b false,.b false,.b false,.b false,.b false,.b false,.b false,.b false,.b false,.b false,.b false,.b false,.b false,.b false,.b false,.b false,.b false,.b false,.b false,.b false,.b false,.b false,.b false,.b false,.b false,.b false,.b false,.b false,.b false,.b false,.b false,.b false,.b false,.b false,.b false,.b false,.b false,.b false,.b false,.b false,.b false,.b false,.b false,.b false,.b false,.b false,.b false,.b false,.b false,.b false,.b false,.b false,.b false,.b false,.b false,.b false,.b false,.b false,.b false,.b false,.b false,.b false,.b false,.b false,.b false,.b false,.b false,.b false,.b false]),
 zo 3 (.mv (.c (.b false)))])
 (.seq (.seq (.reg [zo 4 (.mv (.c (.i .i64 0)))])
 (.blk 0 (.loop (.seq (.seq (.reg [zo 6 (.mv (.t 4)),
 zo 7 (.mv (.t 0)),
 zo 8 (.len 0 (.t 7)),
 zo 9 (.bin .lss (.t 6) (.t 8))])
 (.cond (.t 9)
 .skip
 (.exit 0)))
 (.seq (.blk 1 (.seq (.reg [zo 12 (.mv (.t 0)),
 zo 13 (.mv (.t 4)),
 zo 14 (.ixS (.t 12) (.t 13)),
 zo 5 (.mv (.t 14))])
 (.seq (.seq (.reg [zo 15 (.mv (.t 5)),
 zo 16 (.bin .geq (.t 15) (.c (.i .u8 128)))])
 (.cond (.t 16)
 (.seq (.reg [zo 17 (.ld true 256 (.t 2)),
 ⟨none,.st 256 (.t 2) (.t 17),none⟩,
 zo 3 (.mv (.c (.b false)))])
 .ret)
 .skip))
 (.reg [zo 18 (.mv (.t 5)),
 zo 19 (.iaA 256 1 (.t 2) (.t 18)),
 ⟨none,.st 1 (.t 19) (.c (.b true)),none⟩]))))
 (.reg [zo 10 (.mv (.t 4)),
 zo 11 (.bin .add (.t 10) (.c (.i .i64 1))),
 zo 4 (.mv (.t 11))]))))))
 (.seq (.reg [zo 20 (.ld true 256 (.t 2)),
 ⟨none,.st 256 (.t 2) (.t 20),none⟩,
 zo 3 (.mv (.c (.b true)))])
 .ret))) }
def BO:Fun:={ cin:=[.id,.id],cout:=[.id],ntmps:=10,keep:=false,res:=[(4,none)],body :=
 (.seq (.reg [zo 4 (.mv (.c (.b false)))])
 (.seq (.reg [zo 5 (.mv (.t 0)),
 zo 6 (.mv (.t 1)),
 zo 7 (.nck (.t 5)),
 zo 8 (.iaA 256 1 (.t 7) (.t 6)),
 zo 9 (.ld false 1 (.t 8)),
 zo 4 (.mv (.t 9))])
 .ret)) }
def BV:Fun:={ cin:=[.sl 1 .id],cout:=[],ntmps:=28,keep:=false,res:=[],body :=
 (.seq (.reg [zo 4 (.mv (.t 0)),
 zo 5 (.len 1 (.t 4)),
 zo 6 (.bin .sub (.t 5) (.c (.i .i64 1))),
 zo 2 (.mv (.c (.i .i64 0))),
 zo 3 (.mv (.t 6))])
 (.blk 0 (.loop (.seq (.seq (.reg [zo 7 (.mv (.t 2)),
 zo 8 (.mv (.t 3)),
 zo 9 (.bin .lss (.t 7) (.t 8))])
 (.cond (.t 9)
 .skip
 (.exit 0)))
 (.seq (.blk 1 (.seq (.thw 0)
 (.regD [zo 14 (.mv (.t 0)),
 zo 15 (.mv (.t 2)),
 zo 16 (.mv (.t 0)),
 zo 17 (.mv (.t 3)),
 zo 18 (.mv (.t 0)),
 zo 19 (.mv (.t 3)),
 zo 20 (.ia 1 (.t 18) (.t 19)),
 zo 21 (.ld false 1 (.t 20)),
 zo 22 (.mv (.t 0)),
 zo 23 (.mv (.t 2)),
 zo 24 (.ia 1 (.t 22) (.t 23)),
 zo 25 (.ld false 1 (.t 24)),
 zo 26 (.ia 1 (.t 14) (.t 15)),
 ⟨none,.st 1 (.t 26) (.t 21),none⟩,
 zo 27 (.ia 1 (.t 16) (.t 17)),
 ⟨none,.st 1 (.t 27) (.t 25),none⟩] [])))
 (.reg [zo 10 (.mv (.t 2)),
 zo 11 (.bin .add (.t 10) (.c (.i .i64 1))),
 zo 12 (.mv (.t 3)),
 zo 13 (.bin .sub (.t 12) (.c (.i .i64 1))),
 zo 2 (.mv (.t 11)),
 zo 3 (.mv (.t 13))])))))) }
def CS:Fun:={ cin:=[.sl 1 .id],cout:=[],ntmps:=28,keep:=false,res:=[],body :=
 (.seq (.reg [zo 4 (.mv (.t 0)),
 zo 5 (.len 1 (.t 4)),
 zo 6 (.bin .sub (.t 5) (.c (.i .i64 1))),
 zo 2 (.mv (.c (.i .i64 0))),
 zo 3 (.mv (.t 6))])
 (.blk 0 (.loop (.seq (.seq (.reg [zo 7 (.mv (.t 2)),
 zo 8 (.mv (.t 3)),
 zo 9 (.bin .lss (.t 7) (.t 8))])
 (.cond (.t 9)
 .skip
 (.exit 0)))
 (.seq (.blk 1 (.seq (.thw 0)
 (.regD [zo 14 (.mv (.t 0)),
 zo 15 (.mv (.t 2)),
 zo 16 (.mv (.t 0)),
 zo 17 (.mv (.t 3)),
 zo 18 (.mv (.t 0)),
 zo 19 (.mv (.t 3)),
 zo 20 (.ia 1 (.t 18) (.t 19)),
 zo 21 (.ld false 1 (.t 20)),
 zo 22 (.mv (.t 0)),
 zo 23 (.mv (.t 2)),
 zo 24 (.ia 1 (.t 22) (.t 23)),
 zo 25 (.ld false 1 (.t 24)),
 zo 26 (.ia 1 (.t 14) (.t 15)),
 ⟨none,.st 1 (.t 26) (.t 21),none⟩,
 zo 27 (.ia 1 (.t 16) (.t 17)),
 ⟨none,.st 1 (.t 27) (.t 25),none⟩] [])))
 (.reg [zo 10 (.mv (.t 2)),
 zo 11 (.bin .add (.t 10) (.c (.i .i64 1))),
 zo 12 (.mv (.t 3)),
 zo 13 (.bin .sub (.t 12) (.c (.i .i64 1))),
 zo 2 (.mv (.t 11)),
 zo 3 (.mv (.t 13))])))))) }
def Ah:Fun:={ cin:=[],cout:=[],ntmps:=13,keep:=true,res:=[(4,none)],body :=
 (.seq (.reg [zo 2 (.box 46 1 (.t 0)),
 zo 4 (.mv (.c .nsl))])
 (.seq (.seq (.reg [zo 6 (.mv (.t 1))])
 (.blk 0 (.rf (.t 6) [7] (.reg [zo 5 (.mv (.t 7))])
 (.blk 1 (.reg [zo 8 (.ld false 1 (.t 2)),
 zo 9 (.mv (.t 5)),
 zo 10 (.bsl 1 [.t 9]),
 zo 11 (.app 1 3 (.t 8) (.t 10)),
 ⟨none,.st 1 (.t 2) (.t 11),none⟩])))))
 (.seq (.reg [zo 12 (.ld false 1 (.t 2)),
 zo 4 (.mv (.t 12))])
 .ret))) }
def Ci:Fun:={ cin:=[.id,.id],cout:=[.id],ntmps:=8,keep:=false,res:=[(4,none)],body :=
 (.seq (.reg [zo 4 (.mv (.c (.i .i64 0)))])
 (.seq (.reg [zo 5 (.mv (.t 0)),
 zo 6 (.mv (.t 1)),
 zo 7 (.call B2 [.t 5,.t 6]),
 zo 4 (.mv (.t 7))])
 .ret)) }
def FV:Fun:={ cin:=[(.sl 6 (.agg [.id,.id,.sl 1 .id,.sl 1 .id,.id,.id])),(.agg [.id,.sl 1 .id])],cout:=[.id],ntmps:=6,keep:=false,res:=[(4,none)],body :=
 (.seq (.reg [zo 2 (.box 22 1 (.t 0)),
 zo 3 (.box 118 2 (.t 1)),
 zo 4 (.mv (.c .nf))])
 (.seq (.reg [zo 5 (.mkf Br [.t 3,.t 2]),
 zo 4 (.mv (.t 5))])
 .ret)) }
def Eo:Fun:={ cin:=[(.agg [.id,.id,(.sl 1 .id),(.sl 4 (.agg [.id,.id,(.sl 1 .id),(.sl 4 (.agg [.id,.id,.sl 1 .id,.sl 4 .id]))]))]),(.sl 1 .id)],cout:=[(.agg [.id,.id,(.sl 1 .id),(.sl 4 (.agg [.id,.id,(.sl 1 .id),(.sl 4 (.agg [.id,.id,.sl 1 .id,.sl 4 .id]))]))]),.id],ntmps:=38,keep:=false,res:=[(4,some (true,4)),(5,none)],body :=
 (.seq (.reg [zo 2 (.box 37 4 (.t 0)),
 zo 4 (.alloc 37 [(.i .u8 0),(.s []),.nsl,.nsl]),
 zo 5 (.mv (.c (.b false)))])
 (.seq (.seq (.reg [zo 10 (.mv (.t 1)),
 zo 11 (.len 1 (.t 10)),
 zo 12 (.mv (.c (.i .i64 0)))])
 (.blk 0 (.loop (.seq (.reg [zo 13 (.bin .lss (.t 12) (.t 11))])
 (.seq (.cond (.t 13)
 .skip
 (.exit 0))
 (.seq (.blk 1 (.seq (.reg [zo 14 (.ia 1 (.t 10) (.t 12)),
 zo 15 (.ld false 1 (.t 14)),
 zo 7 (.mv (.t 15))])
 (.seq (.reg [zo 17 (.fa 2 (.t 2)),
 zo 18 (.ld false 1 (.t 17)),
 zo 19 (.mv (.t 7)),
 zo 20 (.call AR [.t 18,.t 19]),
 zo 16 (.mv (.t 20)),
 zo 21 (.ext (.t 16) 0),
 zo 22 (.ext (.t 16) 1),
 zo 8 (.mv (.t 21)),
 zo 9 (.mv (.t 22))])
 (.seq (.seq (.reg [zo 23 (.fa 0 (.t 2)),
 zo 24 (.ld false 1 (.t 23)),
 zo 25 (.bin .neq (.t 24) (.c (.i .u8 2))),
 zo 26 (.mv (.t 25)),
 ⟨some 27,.mv (.t 9),some (26,false)⟩,
 ⟨some 28,.un .not (.t 27),some (26,false)⟩,
 zo 29 (.pick (.t 26) (.c (.b true)) (.t 28))])
 (.cond (.t 29)
 (.seq (.reg [zo 30 (.build [(.i .u8 0),(.s []),.nsl,.nsl] []),
 ⟨none,.st 4 (.t 4) (.t 30),none⟩,
 zo 5 (.mv (.c (.b false)))])
 .ret)
 .skip))
 (.reg [zo 31 (.fa 3 (.t 2)),
 zo 32 (.ld false 1 (.t 31)),
 zo 33 (.mv (.t 8)),
 zo 34 (.ia 4 (.t 32) (.t 33)),
 zo 35 (.ld true 4 (.t 34)),
 ⟨none,.st 4 (.t 2) (.t 35),none⟩])))))
 (.reg [zo 36 (.bin .add (.t 12) (.c (.i .i64 1))),
 zo 12 (.mv (.t 36))])))))))
 (.seq (.reg [zo 37 (.ld true 4 (.t 2)),
 ⟨none,.st 4 (.t 4) (.t 37),none⟩,
 zo 5 (.mv (.c (.b true)))])
 .ret))) }
def FW:Fun:={ cin:=[(.agg [.id,.id,(.sl 1 .id),(.sl 4 (.agg [.id,.id,(.sl 1 .id),(.sl 4 (.agg [.id,.id,.sl 1 .id,.sl 4 .id]))]))])],cout:=[(.agg [.id,.id,(.sl 1 .id),(.sl 4 (.agg [.id,.id,(.sl 1 .id),(.sl 4 (.agg [.id,.id,.sl 1 .id,.sl 4 .id]))]))])],ntmps:=26,keep:=false,res:=[(2,some (true,4))],body :=
 (.seq (.reg [zo 1 (.box 37 4 (.t 0)),
 zo 2 (.alloc 37 [(.i .u8 0),(.s []),.nsl,.nsl])])
 (.seq (.reg [zo 6 (.fa 2 (.t 1)),
 zo 7 (.ld false 1 (.t 6)),
 zo 8 (.call Ai [.t 7]),
 zo 9 (.fa 2 (.t 1)),
 ⟨none,.st 1 (.t 9) (.t 8),none⟩])
 (.seq (.reg [zo 3 (.mv (.c .nsl))])
 (.seq (.seq (.reg [zo 10 (.fa 3 (.t 1)),
 zo 11 (.ld false 1 (.t 10)),
 zo 12 (.len 1 (.t 11)),
 zo 13 (.mv (.c (.i .i64 0)))])
 (.blk 0 (.loop (.seq (.reg [zo 14 (.bin .lss (.t 13) (.t 12))])
 (.seq (.cond (.t 14)
 .skip
 (.exit 0))
 (.seq (.blk 1 (.seq (.reg [zo 15 (.ia 4 (.t 11) (.t 13)),
 zo 16 (.ld true 4 (.t 15)),
 zo 5 (.alloc 37 [(.i .u8 0),(.s []),.nsl,.nsl]),
 ⟨none,.st 4 (.t 5) (.t 16),none⟩])
 (.reg [zo 17 (.mv (.t 3)),
 zo 18 (.ld true 4 (.t 5)),
 zo 19 (.call Hg [.t 18]),
 zo 20 (.bsl 4 [.t 19]),
 zo 21 (.app 4 37 (.t 17) (.t 20)),
 zo 3 (.mv (.t 21))])))
 (.reg [zo 22 (.bin .add (.t 13) (.c (.i .i64 1))),
 zo 13 (.mv (.t 22))])))))))
 (.seq (.reg [zo 23 (.mv (.t 3)),
 zo 24 (.fa 3 (.t 1)),
 ⟨none,.st 1 (.t 24) (.t 23),none⟩])
 (.seq (.reg [zo 25 (.ld true 4 (.t 1)),
 ⟨none,.st 4 (.t 2) (.t 25),none⟩])
 .ret)))))) }
def Cj:Fun:={ cin:=[.id],cout:=[.id],ntmps:=24,keep:=false,res:=[(4,none)],body :=
 (.seq (.reg [zo 4 (.mv (.c (.b false)))])
 (.seq (.reg [zo 8 (.fa 2 (.t 1)),
 zo 9 (.ld false 1 (.t 8)),
 zo 10 (.mv (.t 0)),
 zo 11 (.call AR [.t 9,.t 10]),
 zo 7 (.mv (.t 11)),
 zo 12 (.ext (.t 7) 0),
 zo 13 (.ext (.t 7) 1),
 zo 5 (.mv (.t 12)),
 zo 6 (.mv (.t 13))])
 (.seq (.regD [zo 14 (.mv (.t 6)),
 zo 15 (.mv (.t 14)),
 ⟨some 16,.ld false 1 (.t 2),some (15,true)⟩,
 ⟨some 17,.fa 3 (.t 1),some (15,true)⟩,
 ⟨some 18,.ld false 1 (.t 17),some (15,true)⟩,
 ⟨some 19,.mv (.t 5),some (15,true)⟩,
 ⟨some 20,.ia 1 (.t 18) (.t 19),some (15,true)⟩,
 ⟨some 21,.ld false 1 (.t 20),some (15,true)⟩,
 ⟨some 22,.call C1 [.t 16,.t 21],some (15,true)⟩,
 zo 23 (.pick (.t 15) (.t 22) (.c (.b false))),
 zo 4 (.mv (.t 23))] [])
 .ret))) }
def BF:Fun:={ cin:=[.sl 1 .id,.id],cout:=[.id],ntmps:=9,keep:=false,res:=[(4,none)],body :=
 (.seq (.reg [zo 4 (.mv (.c (.b false)))])
 (.seq (.reg [zo 5 (.mv (.t 0)),
 zo 6 (.mv (.t 1)),
 zo 7 (.call Dc [.t 5,.t 6]),
 zo 8 (.bin .geq (.t 7) (.c (.i .i64 0))),
 zo 4 (.mv (.t 8))])
 .ret)) }
def Au:Fun:={ cin:=[.sl 1 .id,.id],cout:=[.id],ntmps:=19,keep:=false,res:=[(4,none)],body :=
 (.seq (.reg [zo 4 (.mv (.c (.i .i64 0)))])
 (.seq (.seq (.reg [zo 6 (.mv (.t 0)),
 zo 7 (.len 1 (.t 6)),
 zo 8 (.mv (.c (.i .i64 0)))])
 (.blk 0 (.loop (.seq (.reg [zo 9 (.bin .lss (.t 8) (.t 7))])
 (.seq (.cond (.t 9)
 .skip
 (.exit 0))
 (.seq (.blk 1 (.seq (.reg [zo 10 (.mv (.t 8)),
 zo 5 (.mv (.t 10))])
 (.seq (.reg [zo 11 (.mv (.t 1)),
 zo 12 (.mv (.t 0)),
 zo 13 (.mv (.t 5)),
 zo 14 (.ia 1 (.t 12) (.t 13)),
 zo 15 (.ld false 1 (.t 14)),
 zo 16 (.callX (.t 11) [.t 15])])
 (.cond (.t 16)
 (.seq (.reg [zo 17 (.mv (.t 5)),
 zo 4 (.mv (.t 17))])
 .ret)
 .skip))))
 (.reg [zo 18 (.bin .add (.t 8) (.c (.i .i64 1))),
 zo 8 (.mv (.t 18))])))))))
 (.seq (.reg [zo 4 (.mv (.c (.i .i64 (-1))))])
 .ret))) }
def Bi:Fun:={ cin:=[.id],cout:=[.id],ntmps:=17,keep:=false,res:=[(2,none)],body :=
 (.seq (.reg [zo 2 (.mv (.c (.b false)))])
 (.seq (.blk 0 (.seq (.reg [zo 4 (.mv (.t 0)),
 zo 5 (.bin .leq (.c (.i .i32 0)) (.t 4)),
 zo 6 (.mv (.t 5)),
 ⟨some 7,.mv (.t 0),some (6,true)⟩,
 ⟨some 8,.bin .lss (.t 7) (.c (.i .i32 55296)),some (6,true)⟩,
 zo 9 (.pick (.t 6) (.t 8) (.c (.b false))),
 zo 3 (.mv (.t 9))])
 (.cond (.t 3)
 (.seq (.reg [zo 2 (.mv (.c (.b true)))])
 .ret)
 (.seq (.reg [zo 11 (.mv (.t 0)),
 zo 12 (.bin .lss (.c (.i .i32 57343)) (.t 11)),
 zo 13 (.mv (.t 12)),
 ⟨some 14,.mv (.t 0),some (13,true)⟩,
 ⟨some 15,.bin .leq (.t 14) (.c (.i .i32 1114111)),some (13,true)⟩,
 zo 16 (.pick (.t 13) (.t 15) (.c (.b false))),
 zo 10 (.mv (.t 16))])
 (.cond (.t 10)
 (.seq (.reg [zo 2 (.mv (.c (.b true)))])
 .ret)
 .skip)))))
 (.seq (.reg [zo 2 (.mv (.c (.b false)))])
 .ret))) }
def B7:Fun:={ cin:=[.id],cout:=[.id],ntmps:=6,keep:=false,res:=[(2,none)],body :=
 (.seq (.reg [zo 2 (.mv (.c (.i .i64 0)))])
 (.seq (.reg [zo 3 (.mv (.t 0)),
 zo 4 (.bin .add (.t 3) (.c (.i .i64 16))),
 zo 5 (.bin .quo (.t 4) (.c (.i .i64 8))),
 zo 2 (.mv (.t 5))])
 .ret)) }
def A4:Fun:={ cin:=[.id,.id],cout:=[.id],ntmps:=8,keep:=false,res:=[(4,none)],body :=
 (.seq (.reg [zo 4 (.mv (.c (.i .i64 0)))])
 (.seq (.reg [zo 5 (.mv (.t 0)),
 zo 6 (.mv (.t 1)),
 zo 7 (.xtn 0 [.t 5,.t 6]),
 zo 4 (.mv (.t 7))])
 .ret)) }
def Bd:Fun:={ cin:=[.id],cout:=[],ntmps:=51,keep:=false,res:=[],body :=
 (.seq (.reg [zo 3 (.box 137 1 (.t 0))])
 (.seq (.seq (.reg [zo 8 (.ld false 1 (.t 3)),
 zo 9 (.ld true 2 (.t 1)),
 zo 10 (.callX (.t 8) [.t 9]),
 zo 11 (.un .not (.t 10))])
 (.cond (.t 11)
 .ret
 .skip))
 (.seq (.reg [zo 12 (.ld false 1 (.t 2)),
 zo 13 (.fa 0 (.t 1)),
 zo 14 (.ld false 1 (.t 13)),
 zo 15 (.ia 6 (.t 12) (.t 14)),
 zo 16 (.ld true 6 (.t 15)),
 zo 4 (.alloc 48 [.b false,.i .u8 0,.nsl,.nsl,.i .i64 0,.i .i64 0]),
 ⟨none,.st 6 (.t 4) (.t 16),none⟩])
 (.seq (.reg [zo 17 (.fa 3 (.t 4)),
 zo 18 (.ld false 1 (.t 17)),
 zo 19 (.len 1 (.t 18)),
 zo 20 (.mv (.c (.i .i64 0)))])
 (.blk 0 (.loop (.seq (.reg [zo 21 (.bin .lss (.t 20) (.t 19))])
 (.seq (.cond (.t 21)
 .skip
 (.exit 0))
 (.seq (.blk 1 (.seq (.reg [zo 22 (.mv (.t 20)),
 zo 23 (.ia 1 (.t 18) (.t 20)),
 zo 24 (.ld false 1 (.t 23)),
 zo 5 (.mv (.t 22)),
 zo 6 (.mv (.t 24))])
 (.seq (.regD [zo 25 (.ld false 1 (.t 2)),
 zo 26 (.mv (.t 6)),
 zo 27 (.fa 1 (.t 1)),
 zo 28 (.ld false 1 (.t 27)),
 zo 29 (.fa 1 (.t 1)),
 zo 30 (.ld false 1 (.t 29)),
 zo 31 (.len 1 (.t 30)),
 zo 32 (.fa 1 (.t 1)),
 zo 33 (.ld false 1 (.t 32)),
 zo 34 (.len 1 (.t 33)),
 zo 35 (.slc false 1 (.t 28) none (some (.t 31)) (some (.t 34))),
 zo 36 (.fa 2 (.t 4)),
 zo 37 (.ld false 1 (.t 36)),
 zo 38 (.mv (.t 5)),
 zo 39 (.ia 1 (.t 37) (.t 38)),
 zo 40 (.ld false 1 (.t 39)),
 zo 41 (.bsl 1 [.t 40]),
 zo 42 (.appQ 1 9 (.t 35) (.t 41)),
 zo 43 (.build [.i .i64 0,.nsl] [(0,1,(.t 26)),(1,1,(.t 42))]),
 zo 44 (.callQ false FU [.t 25,.t 43])] [(0,(0,18))])
 (.blk 2 (.rf (.t 44) [45] (.reg [zo 7 (.alloc 118 [.i .i64 0,.nsl]),
 ⟨none,.st 2 (.t 7) (.t 45),none⟩])
 (.blk 3 (.seq (.reg [zo 46 (.ld false 1 (.t 3)),
 zo 47 (.ld true 2 (.t 7)),
 zo 48 (.callX (.t 46) [.t 47]),
 zo 49 (.un .not (.t 48))])
 (.cond (.t 49)
 .ret
 .skip))))))))
 (.reg [zo 50 (.bin .add (.t 20) (.c (.i .i64 1))),
 zo 20 (.mv (.t 50))])))))))))) }
def BZ:Fun:={ cin:=[.sl 1 .id,.id],cout:=[.id],ntmps:=19,keep:=false,res:=[(4,none)],body :=
 (.seq (.reg [zo 4 (.mv (.c (.i .i64 0)))])
 (.seq (.seq (.reg [zo 6 (.mv (.t 0)),
 zo 7 (.len 1 (.t 6)),
 zo 8 (.mv (.c (.i .i64 0)))])
 (.blk 0 (.loop (.seq (.reg [zo 9 (.bin .lss (.t 8) (.t 7))])
 (.seq (.cond (.t 9)
 .skip
 (.exit 0))
 (.seq (.blk 1 (.seq (.reg [zo 10 (.mv (.t 8)),
 zo 5 (.mv (.t 10))])
 (.seq (.reg [zo 11 (.mv (.t 1)),
 zo 12 (.mv (.t 0)),
 zo 13 (.mv (.t 5)),
 zo 14 (.ia 1 (.t 12) (.t 13)),
 zo 15 (.ld false 1 (.t 14)),
 zo 16 (.bin .eql (.t 11) (.t 15))])
 (.cond (.t 16)
 (.seq (.reg [zo 17 (.mv (.t 5)),
 zo 4 (.mv (.t 17))])
 .ret)
 .skip))))
 (.reg [zo 18 (.bin .add (.t 8) (.c (.i .i64 1))),
 zo 8 (.mv (.t 18))])))))))
 (.seq (.reg [zo 4 (.mv (.c (.i .i64 (-1))))])
 .ret))) }
def tab:PT:=(.n 72 Co (.n 41 EY (.n 25 E4 (.n 14 DL (.n 7 E3 (.n 6 BI (.n 5 AF .e .e) .e) (.n 12 Dt (.n 9 DK .e .e) .e)) (.n 21 BS (.n 20 Az (.n 16 Du .e .e) .e) (.n 24 D8 .e .e))) (.n 34 AP (.n 31 Dv (.n 30 Ca (.n 29 Aq .e .e) .e) (.n 33 DN (.n 32 DM .e .e) .e)) (.n 38 A5 (.n 36 Av (.n 35 Aa .e .e) .e) (.n 40 CH .e .e)))) (.n 57 AW (.n 50 AO (.n 45 Dw (.n 44 DP (.n 43 BL .e .e) .e) (.n 48 EZ (.n 47 CI .e .e) .e)) (.n 55 Fi (.n 54 Cu (.n 51 BX .e .e) .e) (.n 56 Cv .e .e))) (.n 64 Bs (.n 60 CK (.n 59 Ef (.n 58 GO .e .e) .e) (.n 62 CL (.n 61 DB .e .e) .e)) (.n 69 BD (.n 68 BM (.n 66 CO .e .e) .e) (.n 70 DC .e .e))))) (.n 102 Cd (.n 87 Cb (.n 82 AQ (.n 79 Dx (.n 78 C2 (.n 73 Ag .e .e) .e) (.n 81 Ab (.n 80 CM .e .e) .e)) (.n 85 Cw (.n 84 BU (.n 83 Ac .e .e) .e) (.n 86 B5 .e .e))) (.n 97 EA (.n 93 A2 (.n 92 Dy (.n 91 CW .e .e) .e) (.n 96 D9 (.n 95 A6 .e .e) .e)) (.n 100 EB (.n 99 F9 (.n 98 Bt .e .e) .e) (.n 101 Aj .e .e)))) (.n 115 Eo (.n 108 BV (.n 105 BN (.n 104 A3 (.n 103 Ce .e .e) .e) (.n 107 BO (.n 106 BJ .e .e) .e)) (.n 113 Ci (.n 110 Ah (.n 109 CS .e .e) .e) (.n 114 FV .e .e))) (.n 120 Bi (.n 118 BF (.n 117 Cj (.n 116 FW .e .e) .e) (.n 119 Au .e .e)) (.n 135 Bd (.n 134 A4 (.n 121 B7 .e .e) .e) (.n 136 BZ .e .e))))))
def prog (n:Nat):Option Fun:=tab.get n
def tabC:PT:=(.n 61 DB (.n 36 Av (.n 29 Aq (.n 14 DL (.n 9 DK (.n 7 Em .e .e) (.n 12 Dt .e .e)) (.n 25 E4 (.n 16 Du .e .e) (.n 28 Nt .e .e))) (.n 33 DN (.n 31 Dv (.n 30 Ca .e .e) (.n 32 DM .e .e)) (.n 35 Aa (.n 34 AP .e .e) .e))) (.n 48 EZ (.n 44 DP (.n 41 EY (.n 40 CH .e .e) (.n 43 BL .e .e)) (.n 47 CI (.n 45 Dw .e .e) .e)) (.n 58 GO (.n 56 Cv (.n 55 Fi .e .e) (.n 57 AW .e .e)) (.n 60 CK (.n 59 Ef .e .e) .e)))) (.n 91 CW (.n 81 Ab (.n 68 BM (.n 64 Bs (.n 62 CL .e .e) (.n 66 CO .e .e)) (.n 70 DC (.n 69 BD .e .e) (.n 73 Ag .e .e))) (.n 85 Cw (.n 83 Ac (.n 82 AQ .e .e) (.n 84 BU .e .e)) (.n 87 Cb (.n 86 B5 .e .e) .e))) (.n 108 BV (.n 105 BN (.n 93 A2 (.n 92 Dy .e .e) (.n 104 A3 .e .e)) (.n 107 BO (.n 106 BJ .e .e) .e)) (.n 120 Bi (.n 110 Ah (.n 109 CS .e .e) (.n 113 Ci .e .e)) (.n 134 A4 (.n 121 B7 .e .e) .e)))))
def progC (n:Nat):Option Fun:=tabC.get n
theorem GW:prog EE=some AF:=rfl
theorem Hu:prog DZ=some BI:=rfl
theorem Hh:prog CZ=some E3:=rfl
theorem Q9:prog GK=some DK:=rfl
theorem P1:prog Ff=some Dt:=rfl
theorem Og:prog F0=some DL:=rfl
theorem P2:prog Gd=some Du:=rfl
theorem IX:prog Dm=some Az:=rfl
theorem Hi:prog Bn=some BS:=rfl
theorem Oh:prog DI=some D8:=rfl
theorem Vc:prog Fg=some E4:=rfl
theorem Iz:prog Cc=some Aq:=rfl
theorem Oi:prog Cq=some Ca:=rfl
theorem RC:prog GL=some Dv:=rfl
theorem RD:prog GM=some DM:=rfl
theorem Oj:prog Cr=some DN:=rfl
theorem Bf:prog AR=some AP:=rfl
theorem CV:prog AU=some Aa:=rfl
theorem DQ:prog Ak=some Av:=rfl
theorem Hv:prog Da=some A5:=rfl
theorem NR:prog ES=some CH:=rfl
theorem NS:prog ET=some EY:=rfl
theorem Mi:prog Dn=some BL:=rfl
theorem Ol:prog Hd=some DP:=rfl
theorem Mj:prog Dp=some Dw:=rfl
theorem NT:prog EU=some CI:=rfl
theorem NU:prog EW=some EZ:=rfl
theorem Hw:prog Cl=some AO:=rfl
theorem Hx:prog Cm=some BX:=rfl
theorem Om:prog He=some Cu:=rfl
theorem Vd:prog Jv=some Fi:=rfl
theorem Ve:prog Mh=some Cv:=rfl
theorem DU:prog BE=some AW:=rfl
theorem RE:prog Hf=some GO:=rfl
theorem RF:prog JH=some Ef:=rfl
theorem IY:prog Dq=some CK:=rfl
theorem Ko:prog FS=some DB:=rfl
theorem IZ:prog Cs=some CL:=rfl
theorem Mk:prog Dr=some Bs:=rfl
theorem Nu:prog El=some CO:=rfl
theorem JK:prog DJ=some BM:=rfl
theorem Hj:prog Bo=some BD:=rfl
theorem Ml:prog Ds=some DC:=rfl
theorem Hy:prog Db=some Co:=rfl
theorem FB:prog Bx=some Ag:=rfl
theorem RH:prog JI=some C2:=rfl
theorem P3:prog IV=some Dx:=rfl
theorem Mm:prog GN=some CM:=rfl
theorem EH:prog B4=some Ab:=rfl
theorem Df:prog Ai=some AQ:=rfl
theorem FG:prog BW=some Ac:=rfl
theorem Jw:prog E1=some BU:=rfl
theorem Jx:prog De=some Cw:=rfl
theorem NI:prog EF=some B5:=rfl
theorem On:prog E2=some Cb:=rfl
theorem Iv:prog EP=some CW:=rfl
theorem Fj:prog Ct=some Dy:=rfl
theorem Gq:prog Ae=some A2:=rfl
theorem P4:prog Fh=some A6:=rfl
theorem Oo:prog F1=some D9:=rfl
theorem Oq:prog F2=some EA:=rfl
theorem RI:prog JJ=some Bt:=rfl
theorem Tg:prog Kn=some F9:=rfl
theorem Ot:prog D7=some EB:=rfl
theorem Eg:prog BC=some Aj:=rfl
theorem Kq:prog C8=some Cd:=rfl
theorem Kr:prog C9=some Ce:=rfl
theorem JL:prog CB=some A3:=rfl
theorem GP:prog Bp=some BN:=rfl
theorem Hz:prog Cn=some BJ:=rfl
theorem GQ:prog Bq=some BO:=rfl
theorem LF:prog BT=some BV:=rfl
theorem Nv:prog CN=some CS:=rfl
theorem GX:prog Cp=some Ah:=rfl
theorem JM:prog CD=some Ci:=rfl
theorem RJ:prog FU=some FV:=rfl
theorem P5:prog IW=some Eo:=rfl
theorem RK:prog Hg=some FW:=rfl
theorem Mn:prog Ax=some Cj:=rfl
theorem Gr:prog C1=some BF:=rfl
theorem FC:prog Bz=some Au:=rfl
theorem G8:prog DA=some Bi:=rfl
theorem NJ:prog EG=some B7:=rfl
theorem FD:prog B2=some A4:=rfl
theorem Ou:prog Br=some Bd:=rfl
theorem IA:prog Dc=some BZ:=rfl
end Go.Proofs.YtgloinighjdhlaaGreat
