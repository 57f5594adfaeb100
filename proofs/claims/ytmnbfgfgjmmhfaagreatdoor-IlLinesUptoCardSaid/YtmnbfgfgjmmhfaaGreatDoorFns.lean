/-
  The functions, as the abstract machine's: numbers and texts. By program.
-/
import Derived.Test.YtmnbfgfgjmmhfaaGreatDoorAmPrim
import Derived.Test.YtmnbfgfgjmmhfaaGreatDoorAmRg
set_option linter.all false
set_option linter.unusedVariables false
set_option linter.unusedSimpArgs false
set_option linter.unusedSectionVars false
set_option maxRecDepth 100000
namespace Go.Proofs.YtmnbfgfgjmmhfaaGreatDoor
open Go.Proofs.YtmnbfgfgjmmhfaaGreatDoor.Am
def CH : Nat := 7
def HW : Nat := 18
def PB : Nat := 21
def HX : Nat := 23
def Qh : Nat := 24
def BA : Nat := 25
def Bl : Nat := 26
def Bw : Nat := 27
def FK : Nat := 29
def FL : Nat := 36
def GU : Nat := 49
def Fh : Nat := 50
def A1 : Nat := 51
def FM : Nat := 52
def Lf : Nat := 53
def A8 : Nat := 54
def FN : Nat := 55
def Kh : Nat := 57
def MT : Nat := 58
def Be : Nat := 59
def Em : Nat := 60
def NQ : Nat := 61
def CY : Nat := 62
def D6 : Nat := 63
def Jf : Nat := 64
def Ez : Nat := 65
def EU : Nat := 70
def Ay : Nat := 71
def AU : Nat := 72
def AY : Nat := 73
def EV : Nat := 76
def BG : Nat := 84
def AD : Nat := 85
def Ah : Nat := 86
def Eo : Nat := 87
def BD : Nat := 88
def Az : Nat := 89
def CZ : Nat := 90
def IL : Nat := 91
def BJ : Nat := 92
def Dx : Nat := 93
def EW : Nat := 94
def Ci : Nat := 95
def GA : Nat := 101
def Ep : Nat := 102
def Gn : Nat := 117
def BS : Nat := 118
def GB : Nat := 119
def Bm : Nat := 120
def E0 : Nat := 125
def EB : Nat := 142
def GC : Nat := 143
def Co : Nat := 144
def Ak : Nat := 145
def IY : Nat := 146
def B5 : Nat := 147
def BX : Nat := 148
def DS : Nat := 163
def Gu : Nat := 164
def B9 : Nat := 165
def BW : Nat := 170
def BO : Nat := 171
def Bx : Nat := 172
def BP : Nat := 173
def Ca : Nat := 178
def CS : Nat := 179
def AX : Fun := { cin := [(.agg [.id,.id,(.sl 2 (.agg [(.sl 3 (.agg [.id,.id,.id])),.id])),(.sl 4 (.agg [.id,.id,(.sl 2 (.agg [.sl 3 .id,.id])),(.sl 4 (.agg [.id,.id,.sl 2 .id,.sl 4 .id]))]))]),(.agg [.id,.id,(.sl 2 (.agg [(.sl 3 (.agg [.id,.id,.id])),.id])),(.sl 4 (.agg [.id,.id,(.sl 2 (.agg [.sl 3 .id,.id])),(.sl 4 (.agg [.id,.id,.sl 2 .id,.sl 4 .id]))]))])],cout := [.id],ntmps := 61,keep := false,res := [(4,none)],body :=
 (.seq (.reg [⟨some 2,.box 25 4 (.t 0),none⟩,
 ⟨some 3,.box 25 4 (.t 1),none⟩,
 ⟨some 4,.mv (.c (.b false)),none⟩])
 (.seq (.seq (.reg [⟨some 9,.ld true 4 (.t 2),none⟩,
 ⟨some 10,.call BA [.t 9],none⟩,
 ⟨some 11,.bin .gtr (.t 10) (.c (.i .i64 400)),none⟩,
 ⟨some 12,.mv (.t 11),none⟩,
 ⟨some 13,.ld true 4 (.t 3),some (12,false)⟩,
 ⟨some 14,.call BA [.t 13],some (12,false)⟩,
 ⟨some 15,.bin .gtr (.t 14) (.c (.i .i64 400)),some (12,false)⟩,
 ⟨some 16,.pick (.t 12) (.c (.b true)) (.t 15),none⟩,
 ⟨some 17,.mv (.t 16),none⟩,
 ⟨some 18,.call Bl [],some (17,false)⟩,
 ⟨some 19,.un .not (.t 18),some (17,false)⟩,
 ⟨some 20,.pick (.t 17) (.c (.b true)) (.t 19),none⟩])
 (.cond (.t 20)
 (.seq (.reg [⟨some 21,.call Bl [],none⟩,
 ⟨some 4,.mv (.t 21),none⟩])
 .ret)
 .skip))
 (.seq (.reg [⟨some 23,.ld true 4 (.t 2),none⟩,
 ⟨some 24,.call FK [.t 23],none⟩,
 ⟨some 22,.mv (.t 24),none⟩,
 ⟨some 25,.ext (.t 22) 0,none⟩,
 ⟨some 26,.ext (.t 22) 1,none⟩,
 ⟨some 5,.mv (.t 25),none⟩,
 ⟨some 6,.mv (.t 26),none⟩])
 (.seq (.reg [⟨some 28,.ld true 4 (.t 3),none⟩,
 ⟨some 29,.call FK [.t 28],none⟩,
 ⟨some 27,.mv (.t 29),none⟩,
 ⟨some 30,.ext (.t 27) 0,none⟩,
 ⟨some 31,.ext (.t 27) 1,none⟩,
 ⟨some 7,.mv (.t 30),none⟩,
 ⟨some 8,.mv (.t 31),none⟩])
 (.seq (.seq (.reg [⟨some 32,.mv (.t 6),none⟩,
 ⟨some 33,.bin .eql (.t 32) (.c (.i .i64 0)),none⟩,
 ⟨some 34,.ld true 4 (.t 2),none⟩,
 ⟨some 35,.call HW [.t 34],none⟩,
 ⟨some 36,.eq .bool true (.t 33) (.t 35),none⟩,
 ⟨some 37,.mv (.t 36),none⟩,
 ⟨some 38,.mv (.t 6),some (37,false)⟩,
 ⟨some 39,.bin .eql (.t 38) (.c (.i .i64 0)),some (37,false)⟩,
 ⟨some 40,.mv (.t 39),some (37,false)⟩,
 ⟨some 41,.mv (.t 5),some (40,true)⟩,
 ⟨some 42,.len 1 (.t 41),some (40,true)⟩,
 ⟨some 43,.ld true 4 (.t 2),some (40,true)⟩,
 ⟨some 44,.call HX [.t 43],some (40,true)⟩,
 ⟨some 45,.bin .neq (.t 42) (.t 44),some (40,true)⟩,
 ⟨some 46,.pick (.t 40) (.t 45) (.c (.b false)),some (37,false)⟩,
 ⟨some 47,.pick (.t 37) (.c (.b true)) (.t 46),none⟩])
 (.cond (.t 47)
 (.seq (.reg [⟨some 4,.mv (.c (.b false)),none⟩])
 .ret)
 .skip))
 (.seq (.seq (.reg [⟨some 48,.mv (.t 6),none⟩,
 ⟨some 49,.bin .neq (.t 48) (.c (.i .i64 0)),none⟩,
 ⟨some 50,.mv (.t 49),none⟩,
 ⟨some 51,.mv (.t 8),some (50,false)⟩,
 ⟨some 52,.bin .neq (.t 51) (.c (.i .i64 0)),some (50,false)⟩,
 ⟨some 53,.pick (.t 50) (.c (.b true)) (.t 52),none⟩])
 (.cond (.t 53)
 (.seq (.reg [⟨some 4,.mv (.c (.b true)),none⟩])
 .ret)
 .skip))
 (.seq (.regD [⟨some 54,.mv (.t 5),none⟩,
 ⟨some 55,.mv (.t 7),none⟩,
 ⟨some 56,.call Bw [.t 54,.t 55],none⟩,
 ⟨some 57,.ld true 4 (.t 2),none⟩,
 ⟨some 58,.ld true 4 (.t 3),none⟩,
 ⟨some 59,.call FL [.t 57,.t 58],none⟩,
 ⟨some 60,.eq .bool false (.t 56) (.t 59),none⟩,
 ⟨some 4,.mv (.t 60),none⟩] [(3,(2,3)),(4,(2,4))])
 .ret))))))) }
def Er : Fun := { cin := [(.agg [.id,.id,(.sl 2 (.agg [(.sl 3 (.agg [.id,.id,.id])),.id])),(.sl 4 (.agg [.id,.id,(.sl 2 (.agg [.sl 3 .id,.id])),(.sl 4 (.agg [.id,.id,.sl 2 .id,.sl 4 .id]))]))])],cout := [.id],ntmps := 78,keep := false,res := [(2,none)],body :=
 (.seq (.reg [⟨some 1,.box 25 4 (.t 0),none⟩,
 ⟨some 2,.mv (.c (.b false)),none⟩])
 (.seq (.regD [⟨some 6,.call GU [],none⟩,
 ⟨some 7,.fa 0 (.t 1),none⟩,
 ⟨some 8,.ld false 1 (.t 7),none⟩,
 ⟨some 9,.look 0 (.agg [(.s []),(.b false),(.i .i64 0),(.i .i64 0),.nf]) true (.t 6) (.t 8),none⟩,
 ⟨some 5,.mv (.t 9),none⟩,
 ⟨some 10,.ext (.t 5) 0,none⟩,
 ⟨some 11,.ext (.t 5) 1,none⟩,
 ⟨none,.mv (.c (.tup [])),none⟩,
 ⟨some 3,.adp 71 [(.s []),(.b false),(.i .i64 0),(.i .i64 0),.nf] 5 (.t 10),none⟩,
 ⟨some 4,.mv (.t 11),none⟩] [(2,(0,2))])
 (.seq (.blk 0 (.seq (.reg [⟨some 13,.mv (.t 4),none⟩,
 ⟨some 14,.un .not (.t 13),none⟩,
 ⟨some 15,.mv (.t 14),none⟩,
 ⟨some 16,.fa 4 (.t 3),some (15,false)⟩,
 ⟨some 17,.ld false 1 (.t 16),some (15,false)⟩,
 ⟨some 18,.fa 3 (.t 1),some (15,false)⟩,
 ⟨some 19,.ld false 1 (.t 18),some (15,false)⟩,
 ⟨some 20,.len 1 (.t 19),some (15,false)⟩,
 ⟨some 21,.callX (.t 17) [.t 20],some (15,false)⟩,
 ⟨some 22,.un .not (.t 21),some (15,false)⟩,
 ⟨some 23,.pick (.t 15) (.c (.b true)) (.t 22),none⟩,
 ⟨some 24,.mv (.t 23),none⟩,
 ⟨some 25,.fa 2 (.t 1),some (24,false)⟩,
 ⟨some 26,.ld false 1 (.t 25),some (24,false)⟩,
 ⟨some 27,.len 1 (.t 26),some (24,false)⟩,
 ⟨some 28,.fa 2 (.t 3),some (24,false)⟩,
 ⟨some 29,.ld false 1 (.t 28),some (24,false)⟩,
 ⟨some 30,.bin .lss (.t 27) (.t 29),some (24,false)⟩,
 ⟨some 31,.pick (.t 24) (.c (.b true)) (.t 30),none⟩,
 ⟨some 32,.mv (.t 31),none⟩,
 ⟨some 33,.fa 2 (.t 1),some (32,false)⟩,
 ⟨some 34,.ld false 1 (.t 33),some (32,false)⟩,
 ⟨some 35,.len 1 (.t 34),some (32,false)⟩,
 ⟨some 36,.fa 3 (.t 3),some (32,false)⟩,
 ⟨some 37,.ld false 1 (.t 36),some (32,false)⟩,
 ⟨some 38,.bin .gtr (.t 35) (.t 37),some (32,false)⟩,
 ⟨some 39,.pick (.t 32) (.c (.b true)) (.t 38),none⟩,
 ⟨some 12,.mv (.t 39),none⟩])
 (.cond (.t 12)
 (.seq (.reg [⟨some 2,.mv (.c (.b false)),none⟩])
 .ret)
 (.seq (.reg [⟨some 41,.fa 1 (.t 3),none⟩,
 ⟨some 42,.ld false 1 (.t 41),none⟩,
 ⟨some 43,.fa 1 (.t 1),none⟩,
 ⟨some 44,.ld false 1 (.t 43),none⟩,
 ⟨some 45,.bin .neq (.t 44) (.c (.s [])),none⟩,
 ⟨some 46,.eq .bool true (.t 42) (.t 45),none⟩,
 ⟨some 47,.mv (.t 46),none⟩,
 ⟨some 48,.fa 1 (.t 3),some (47,false)⟩,
 ⟨some 49,.ld false 1 (.t 48),some (47,false)⟩,
 ⟨some 50,.mv (.t 49),some (47,false)⟩,
 ⟨some 51,.fa 1 (.t 1),some (50,true)⟩,
 ⟨some 52,.ld false 1 (.t 51),some (50,true)⟩,
 ⟨some 53,.call Fh [.t 52],some (50,true)⟩,
 ⟨some 54,.un .not (.t 53),some (50,true)⟩,
 ⟨some 55,.pick (.t 50) (.t 54) (.c (.b false)),some (47,false)⟩,
 ⟨some 56,.pick (.t 47) (.c (.b true)) (.t 55),none⟩,
 ⟨some 40,.mv (.t 56),none⟩])
 (.cond (.t 40)
 (.seq (.reg [⟨some 2,.mv (.c (.b false)),none⟩])
 .ret)
 (.seq (.reg [⟨some 58,.fa 0 (.t 1),none⟩,
 ⟨some 59,.ld false 1 (.t 58),none⟩,
 ⟨some 60,.bin .eql (.t 59) (.c (.i .u8 2)),none⟩,
 ⟨some 61,.mv (.t 60),none⟩,
 ⟨some 62,.fa 2 (.t 1),some (61,true)⟩,
 ⟨some 63,.ld false 1 (.t 62),some (61,true)⟩,
 ⟨some 64,.ia 2 (.t 63) (.c (.i .i64 0)),some (61,true)⟩,
 ⟨some 65,.fa 1 (.t 64),some (61,true)⟩,
 ⟨some 66,.ld false 1 (.t 65),some (61,true)⟩,
 ⟨some 67,.pick (.t 61) (.t 66) (.c (.b false)),none⟩,
 ⟨some 57,.mv (.t 67),none⟩])
 (.cond (.t 57)
 (.seq (.reg [⟨some 2,.mv (.c (.b false)),none⟩])
 .ret)
 .skip)))))))
 (.seq (.reg [⟨some 68,.fa 2 (.t 1),none⟩,
 ⟨some 69,.ld false 1 (.t 68),none⟩,
 ⟨some 70,.call A1 [(.t 69),(.c (.fn FM []))],none⟩,
 ⟨some 71,.un .not (.t 70),none⟩,
 ⟨some 72,.mv (.t 71),none⟩,
 ⟨some 73,.fa 3 (.t 1),some (72,true)⟩,
 ⟨some 74,.ld false 1 (.t 73),some (72,true)⟩,
 ⟨some 75,.call A8 [(.t 74),(.c (.fn FN []))],some (72,true)⟩,
 ⟨some 76,.un .not (.t 75),some (72,true)⟩,
 ⟨some 77,.pick (.t 72) (.t 76) (.c (.b false)),none⟩,
 ⟨some 2,.mv (.t 77),none⟩])
 .ret)))) }
def Ki : Fun := { cin := [(.agg [.id,.id,(.sl 2 (.agg [(.sl 3 (.agg [.id,.id,.id])),.id])),(.sl 4 (.agg [.id,.id,(.sl 2 (.agg [.sl 3 .id,.id])),(.sl 4 (.agg [.id,.id,.sl 2 .id,.sl 4 .id]))]))])],cout := [.sl 1 .id],ntmps := 5,keep := false,res := [(2,none)],body :=
 (.seq (.reg [⟨some 1,.box 25 4 (.t 0),none⟩,
 ⟨some 2,.mv (.c .nsl),none⟩])
 (.seq (.reg [⟨some 3,.ld true 4 (.t 1),none⟩,
 ⟨some 4,.call Kh [(.t 3),(.c (.fn MT []))],none⟩,
 ⟨some 2,.mv (.t 4),none⟩])
 .ret)) }
def DT : Fun := { cin := [(.agg [.id,.id,(.sl 2 (.agg [(.sl 3 (.agg [.id,.id,.id])),.id])),(.sl 4 (.agg [.id,.id,(.sl 2 (.agg [.sl 3 .id,.id])),(.sl 4 (.agg [.id,.id,.sl 2 .id,.sl 4 .id]))]))])],cout := [.id],ntmps := 11,keep := false,res := [(2,none)],body :=
 (.seq (.reg [⟨some 1,.box 25 4 (.t 0),none⟩,
 ⟨some 2,.mv (.c (.i .i64 0)),none⟩])
 (.seq (.reg [⟨some 3,.alloc 3 [.i .i64 0],none⟩,
 ⟨none,.st 1 (.t 3) (.c (.i .i64 0)),none⟩])
 (.seq (.seq (.reg [⟨some 4,.ld true 4 (.t 1),none⟩,
 ⟨some 5,.call Em [(.t 4),(.c (.i .i64 0))],none⟩])
 (.blk 0 (.rf (.t 5) [6,7] .skip
 (.blk 1 (.reg [⟨some 8,.ld false 1 (.t 3),none⟩,
 ⟨some 9,.bin .add (.t 8) (.c (.i .i64 1)),none⟩,
 ⟨none,.st 1 (.t 3) (.t 9),none⟩])))))
 (.seq (.reg [⟨some 10,.ld false 1 (.t 3),none⟩,
 ⟨some 2,.mv (.t 10),none⟩])
 .ret)))) }
def MU : Fun := { cin := [(.agg [.id,.id,(.sl 2 (.agg [(.sl 3 (.agg [.id,.id,.id])),.id])),(.sl 4 (.agg [.id,.id,(.sl 2 (.agg [.sl 3 .id,.id])),(.sl 4 (.agg [.id,.id,.sl 2 .id,.sl 4 .id]))]))])],cout := [.sl 1 .id],ntmps := 5,keep := false,res := [(2,none)],body :=
 (.seq (.reg [⟨some 1,.box 25 4 (.t 0),none⟩,
 ⟨some 2,.mv (.c .nsl),none⟩])
 (.seq (.reg [⟨some 3,.ld true 4 (.t 1),none⟩,
 ⟨some 4,.call Kh [(.t 3),(.c (.fn NQ []))],none⟩,
 ⟨some 2,.mv (.t 4),none⟩])
 .ret)) }
def Af : Fun := { cin := [(.agg [.id,.id,(.sl 2 (.agg [(.sl 3 (.agg [.id,.id,.id])),.id])),(.sl 4 (.agg [.id,.id,(.sl 2 (.agg [.sl 3 .id,.id])),(.sl 4 (.agg [.id,.id,.sl 2 .id,.sl 4 .id]))]))])],cout := [.id],ntmps := 98,keep := false,res := [(2,none)],body :=
 (.seq (.reg [⟨some 1,.box 25 4 (.t 0),none⟩,
 ⟨some 2,.mv (.c (.i .i64 0)),none⟩])
 (.seq (.reg [⟨some 3,.mv (.c (.i .i64 1)),none⟩])
 (.seq (.seq (.reg [⟨some 7,.fa 2 (.t 1),none⟩,
 ⟨some 8,.ld false 1 (.t 7),none⟩,
 ⟨some 9,.len 1 (.t 8),none⟩,
 ⟨some 10,.bin .gtr (.t 9) (.c (.i .i64 300)),none⟩,
 ⟨some 11,.mv (.t 10),none⟩,
 ⟨some 12,.fa 3 (.t 1),some (11,false)⟩,
 ⟨some 13,.ld false 1 (.t 12),some (11,false)⟩,
 ⟨some 14,.len 1 (.t 13),some (11,false)⟩,
 ⟨some 15,.bin .gtr (.t 14) (.c (.i .i64 300)),some (11,false)⟩,
 ⟨some 16,.pick (.t 11) (.c (.b true)) (.t 15),none⟩,
 ⟨some 17,.mv (.t 16),none⟩,
 ⟨some 18,.fa 1 (.t 1),some (17,false)⟩,
 ⟨some 19,.ld false 1 (.t 18),some (17,false)⟩,
 ⟨some 20,.len 0 (.t 19),some (17,false)⟩,
 ⟨some 21,.bin .gtr (.t 20) (.c (.i .i64 300)),some (17,false)⟩,
 ⟨some 22,.pick (.t 17) (.c (.b true)) (.t 21),none⟩])
 (.cond (.t 22)
 (.seq (.reg [⟨some 2,.mv (.c (.i .i64 1000)),none⟩])
 .ret)
 .skip))
 (.seq (.seq (.reg [⟨some 4,.mv (.c (.i .i64 0)),none⟩])
 (.blk 0 (.loop (.seq (.seq (.reg [⟨some 23,.mv (.t 4),none⟩,
 ⟨some 24,.fa 2 (.t 1),none⟩,
 ⟨some 25,.ld false 1 (.t 24),none⟩,
 ⟨some 26,.len 1 (.t 25),none⟩,
 ⟨some 27,.bin .lss (.t 23) (.t 26),none⟩])
 (.cond (.t 27)
 .skip
 (.exit 0)))
 (.seq (.blk 1 (.seq (.seq (.reg [⟨some 30,.fa 2 (.t 1),none⟩,
 ⟨some 31,.ld false 1 (.t 30),none⟩,
 ⟨some 32,.mv (.t 4),none⟩,
 ⟨some 33,.ia 2 (.t 31) (.t 32),none⟩,
 ⟨some 34,.fa 0 (.t 33),none⟩,
 ⟨some 35,.ld false 1 (.t 34),none⟩,
 ⟨some 36,.len 1 (.t 35),none⟩,
 ⟨some 37,.bin .gtr (.t 36) (.c (.i .i64 100)),none⟩])
 (.cond (.t 37)
 (.seq (.reg [⟨some 2,.mv (.c (.i .i64 1000)),none⟩])
 .ret)
 .skip))
 (.seq (.reg [⟨some 38,.mv (.t 3),none⟩,
 ⟨some 39,.bin .add (.t 38) (.c (.i .i64 1)),none⟩,
 ⟨some 3,.mv (.t 39),none⟩])
 (.seq (.reg [⟨some 5,.mv (.c (.i .i64 0)),none⟩])
 (.blk 2 (.loop (.seq (.seq (.reg [⟨some 40,.mv (.t 5),none⟩,
 ⟨some 41,.fa 2 (.t 1),none⟩,
 ⟨some 42,.ld false 1 (.t 41),none⟩,
 ⟨some 43,.mv (.t 4),none⟩,
 ⟨some 44,.ia 2 (.t 42) (.t 43),none⟩,
 ⟨some 45,.fa 0 (.t 44),none⟩,
 ⟨some 46,.ld false 1 (.t 45),none⟩,
 ⟨some 47,.len 1 (.t 46),none⟩,
 ⟨some 48,.bin .lss (.t 40) (.t 47),none⟩])
 (.cond (.t 48)
 .skip
 (.exit 2)))
 (.seq (.blk 3 (.seq (.seq (.reg [⟨some 51,.fa 2 (.t 1),none⟩,
 ⟨some 52,.ld false 1 (.t 51),none⟩,
 ⟨some 53,.mv (.t 4),none⟩,
 ⟨some 54,.ia 2 (.t 52) (.t 53),none⟩,
 ⟨some 55,.fa 0 (.t 54),none⟩,
 ⟨some 56,.ld false 1 (.t 55),none⟩,
 ⟨some 57,.mv (.t 5),none⟩,
 ⟨some 58,.ia 3 (.t 56) (.t 57),none⟩,
 ⟨some 59,.fa 1 (.t 58),none⟩,
 ⟨some 60,.ld false 1 (.t 59),none⟩,
 ⟨some 61,.len 0 (.t 60),none⟩,
 ⟨some 62,.bin .gtr (.t 61) (.c (.i .i64 2000)),none⟩])
 (.cond (.t 62)
 (.seq (.reg [⟨some 2,.mv (.c (.i .i64 1000)),none⟩])
 .ret)
 .skip))
 (.reg [⟨some 63,.mv (.t 3),none⟩,
 ⟨some 64,.bin .add (.t 63) (.c (.i .i64 1)),none⟩,
 ⟨some 65,.fa 2 (.t 1),none⟩,
 ⟨some 66,.ld false 1 (.t 65),none⟩,
 ⟨some 67,.mv (.t 4),none⟩,
 ⟨some 68,.ia 2 (.t 66) (.t 67),none⟩,
 ⟨some 69,.fa 0 (.t 68),none⟩,
 ⟨some 70,.ld false 1 (.t 69),none⟩,
 ⟨some 71,.mv (.t 5),none⟩,
 ⟨some 72,.ia 3 (.t 70) (.t 71),none⟩,
 ⟨some 73,.fa 1 (.t 72),none⟩,
 ⟨some 74,.ld false 1 (.t 73),none⟩,
 ⟨some 75,.len 0 (.t 74),none⟩,
 ⟨some 76,.bin .quo (.t 75) (.c (.i .i64 100)),none⟩,
 ⟨some 77,.bin .add (.t 64) (.t 76),none⟩,
 ⟨some 3,.mv (.t 77),none⟩])))
 (.reg [⟨some 49,.mv (.t 5),none⟩,
 ⟨some 50,.bin .add (.t 49) (.c (.i .i64 1)),none⟩,
 ⟨some 5,.mv (.t 50),none⟩])))))))))
 (.reg [⟨some 28,.mv (.t 4),none⟩,
 ⟨some 29,.bin .add (.t 28) (.c (.i .i64 1)),none⟩,
 ⟨some 4,.mv (.t 29),none⟩]))))))
 (.seq (.seq (.reg [⟨some 6,.mv (.c (.i .i64 0)),none⟩])
 (.blk 4 (.loop (.seq (.seq (.reg [⟨some 78,.mv (.t 6),none⟩,
 ⟨some 79,.fa 3 (.t 1),none⟩,
 ⟨some 80,.ld false 1 (.t 79),none⟩,
 ⟨some 81,.len 1 (.t 80),none⟩,
 ⟨some 82,.bin .lss (.t 78) (.t 81),none⟩,
 ⟨some 83,.mv (.t 82),none⟩,
 ⟨some 84,.mv (.t 3),some (83,true)⟩,
 ⟨some 85,.bin .leq (.t 84) (.c (.i .i64 400)),some (83,true)⟩,
 ⟨some 86,.pick (.t 83) (.t 85) (.c (.b false)),none⟩])
 (.cond (.t 86)
 .skip
 (.exit 4)))
 (.seq (.blk 5 (.reg [⟨some 89,.mv (.t 3),none⟩,
 ⟨some 90,.fa 3 (.t 1),none⟩,
 ⟨some 91,.ld false 1 (.t 90),none⟩,
 ⟨some 92,.mv (.t 6),none⟩,
 ⟨some 93,.ia 4 (.t 91) (.t 92),none⟩,
 ⟨some 94,.ld true 4 (.t 93),none⟩,
 ⟨some 95,.call BA [.t 94],none⟩,
 ⟨some 96,.bin .add (.t 89) (.t 95),none⟩,
 ⟨some 3,.mv (.t 96),none⟩]))
 (.reg [⟨some 87,.mv (.t 6),none⟩,
 ⟨some 88,.bin .add (.t 87) (.c (.i .i64 1)),none⟩,
 ⟨some 6,.mv (.t 88),none⟩]))))))
 (.seq (.reg [⟨some 97,.mv (.t 3),none⟩,
 ⟨some 2,.mv (.t 97),none⟩])
 .ret)))))) }
def DU : Fun := { cin := [],cout := [],ntmps := 0,keep := false,res := [],body := .bad,prim := some (Ho K3) }
def DI : Fun := { cin := [],cout := [.id],ntmps := 86,keep := false,res := [(0,none)],body :=
 (.seq (.reg [⟨some 0,.mv (.c (.b false)),none⟩])
 (.seq (.reg [⟨some 7,.build [(.b false),(.s []),(.b false)] [(1,1,(.c (.s [101,99,104,111])))],none⟩,
 ⟨some 8,.bsl 3 [.t 7],none⟩,
 ⟨some 9,.build [.nsl,.b false] [(0,1,(.t 8))],none⟩,
 ⟨some 10,.build [(.b false),(.s []),(.b false)] [(0,1,(.c (.b true))),(1,1,(.c (.s [120])))],none⟩,
 ⟨some 11,.bsl 3 [.t 10],none⟩,
 ⟨some 12,.build [.nsl,.b false] [(0,1,(.t 11)),(1,1,(.c (.b true)))],none⟩,
 ⟨some 13,.bsl 2 [.t 9,.t 12],none⟩,
 ⟨some 14,.build [(.i .u8 0),(.s []),.nsl,.nsl] [(0,1,(.c (.i .u8 3))),(2,1,(.t 13))],none⟩,
 ⟨some 1,.alloc 25 [(.i .u8 0),(.s []),.nsl,.nsl],none⟩,
 ⟨none,.st 4 (.t 1) (.t 14),none⟩])
 (.seq (.reg [⟨some 16,.ld true 4 (.t 1),none⟩,
 ⟨some 17,.call FK [.t 16],none⟩,
 ⟨some 15,.mv (.t 17),none⟩,
 ⟨some 18,.ext (.t 15) 0,none⟩,
 ⟨some 19,.ext (.t 15) 1,none⟩,
 ⟨some 2,.mv (.t 18),none⟩,
 ⟨some 3,.mv (.t 19),none⟩])
 (.seq (.reg [⟨some 20,.build [(.i .u8 0),(.s []),.nsl,.nsl] [(0,1,(.c (.i .u8 1)))],none⟩,
 ⟨some 21,.build [(.i .u8 0),(.s []),.nsl,.nsl] [(0,1,(.c (.i .u8 6)))],none⟩,
 ⟨some 22,.bsl 4 [.t 20,.t 21],none⟩,
 ⟨some 23,.build [(.i .u8 0),(.s []),.nsl,.nsl] [(0,1,(.c (.i .u8 5))),(3,1,(.t 22))],none⟩,
 ⟨some 4,.alloc 25 [(.i .u8 0),(.s []),.nsl,.nsl],none⟩,
 ⟨none,.st 4 (.t 4) (.t 23),none⟩])
 (.seq (.reg [⟨some 25,.ld true 4 (.t 4),none⟩,
 ⟨some 26,.call FK [.t 25],none⟩,
 ⟨some 24,.mv (.t 26),none⟩,
 ⟨some 27,.ext (.t 24) 0,none⟩,
 ⟨some 28,.ext (.t 24) 1,none⟩,
 ⟨some 5,.mv (.t 27),none⟩,
 ⟨some 6,.mv (.t 28),none⟩])
 (.seq (.reg [⟨some 29,.mv (.t 3),none⟩,
 ⟨some 30,.bin .eql (.t 29) (.c (.i .i64 0)),none⟩,
 ⟨some 31,.mv (.t 30),none⟩,
 ⟨some 32,.mv (.t 2),some (31,true)⟩,
 ⟨some 33,.len 1 (.t 32),some (31,true)⟩,
 ⟨some 34,.bin .eql (.t 33) (.c (.i .i64 1)),some (31,true)⟩,
 ⟨some 35,.pick (.t 31) (.t 34) (.c (.b false)),none⟩,
 ⟨some 36,.mv (.t 35),none⟩,
 ⟨some 37,.mv (.t 2),some (36,true)⟩,
 ⟨some 38,.ia 1 (.t 37) (.c (.i .i64 0)),some (36,true)⟩,
 ⟨some 39,.ld false 1 (.t 38),some (36,true)⟩,
 ⟨some 40,.bin .eql (.t 39) (.c (.s [99,97,108,108,32,61,56,58,98,112,52,58,101,99,104,111,32,42,53,58,118,112,49,58,120])),some (36,true)⟩,
 ⟨some 41,.pick (.t 36) (.t 40) (.c (.b false)),none⟩,
 ⟨some 42,.mv (.t 41),none⟩,
 ⟨some 43,.mv (.t 6),some (42,true)⟩,
 ⟨some 44,.bin .eql (.t 43) (.c (.i .i64 0)),some (42,true)⟩,
 ⟨some 45,.pick (.t 42) (.t 44) (.c (.b false)),none⟩,
 ⟨some 46,.mv (.t 45),none⟩,
 ⟨some 47,.mv (.t 5),some (46,true)⟩,
 ⟨some 48,.len 1 (.t 47),some (46,true)⟩,
 ⟨some 49,.bin .eql (.t 48) (.c (.i .i64 3)),some (46,true)⟩,
 ⟨some 50,.pick (.t 46) (.t 49) (.c (.b false)),none⟩,
 ⟨some 51,.mv (.t 50),none⟩,
 ⟨some 52,.mv (.t 5),some (51,true)⟩,
 ⟨some 53,.ia 1 (.t 52) (.c (.i .i64 0)),some (51,true)⟩,
 ⟨some 54,.ld false 1 (.t 53),some (51,true)⟩,
 ⟨some 55,.bin .eql (.t 54) (.c (.s [115,101,113])),some (51,true)⟩,
 ⟨some 56,.pick (.t 51) (.t 55) (.c (.b false)),none⟩,
 ⟨some 57,.mv (.t 56),none⟩,
 ⟨some 58,.mv (.t 5),some (57,true)⟩,
 ⟨some 59,.ia 1 (.t 58) (.c (.i .i64 1)),some (57,true)⟩,
 ⟨some 60,.ld false 1 (.t 59),some (57,true)⟩,
 ⟨some 61,.bin .eql (.t 60) (.c (.s [32,115,107,105,112])),some (57,true)⟩,
 ⟨some 62,.pick (.t 57) (.t 61) (.c (.b false)),none⟩,
 ⟨some 63,.mv (.t 62),none⟩,
 ⟨some 64,.mv (.t 5),some (63,true)⟩,
 ⟨some 65,.ia 1 (.t 64) (.c (.i .i64 2)),some (63,true)⟩,
 ⟨some 66,.ld false 1 (.t 65),some (63,true)⟩,
 ⟨some 67,.bin .eql (.t 66) (.c (.s [32,110,111,116])),some (63,true)⟩,
 ⟨some 68,.pick (.t 63) (.t 67) (.c (.b false)),none⟩,
 ⟨some 69,.mv (.t 68),none⟩,
 ⟨some 70,.ld true 4 (.t 4),some (69,true)⟩,
 ⟨some 71,.call HX [.t 70],some (69,true)⟩,
 ⟨some 72,.bin .eql (.t 71) (.c (.i .i64 3)),some (69,true)⟩,
 ⟨some 73,.pick (.t 69) (.t 72) (.c (.b false)),none⟩,
 ⟨some 74,.mv (.t 73),none⟩,
 ⟨some 75,.ld true 4 (.t 1),some (74,true)⟩,
 ⟨some 76,.call PB [.t 75],some (74,true)⟩,
 ⟨some 77,.bsl 1 [(.c (.s [120]))],some (74,true)⟩,
 ⟨some 78,.call Bw [.t 76,.t 77],some (74,true)⟩,
 ⟨some 79,.pick (.t 74) (.t 78) (.c (.b false)),none⟩,
 ⟨some 80,.mv (.t 79),none⟩,
 ⟨some 81,.ld true 4 (.t 1),some (80,true)⟩,
 ⟨some 82,.call Qh [.t 81],some (80,true)⟩,
 ⟨some 83,.len 1 (.t 82),some (80,true)⟩,
 ⟨some 84,.bin .eql (.t 83) (.c (.i .i64 0)),some (80,true)⟩,
 ⟨some 85,.pick (.t 80) (.t 84) (.c (.b false)),none⟩,
 ⟨some 0,.mv (.t 85),none⟩])
 .ret)))))) }
def Ao : Fun := { cin := [.sl 1 .id,.sl 1 .id],cout := [.id],ntmps := 15,keep := false,res := [(4,none)],body :=
 (.seq (.reg [⟨some 4,.mv (.c (.b false)),none⟩])
 (.seq (.reg [⟨some 5,.mv (.t 0),none⟩,
 ⟨some 6,.len 1 (.t 5),none⟩,
 ⟨some 7,.mv (.t 1),none⟩,
 ⟨some 8,.len 1 (.t 7),none⟩,
 ⟨some 9,.bin .eql (.t 6) (.t 8),none⟩,
 ⟨some 10,.mv (.t 9),none⟩,
 ⟨some 11,.mv (.t 0),some (10,true)⟩,
 ⟨some 12,.mv (.t 1),some (10,true)⟩,
 ⟨some 13,.call CY [.t 11,.t 12],some (10,true)⟩,
 ⟨some 14,.pick (.t 10) (.t 13) (.c (.b false)),none⟩,
 ⟨some 4,.mv (.t 14),none⟩])
 .ret)) }
def CA : Fun := { cin := [(.agg [.id,.id,(.sl 2 (.agg [(.sl 3 (.agg [.id,.id,.id])),.id])),(.sl 4 (.agg [.id,.id,(.sl 2 (.agg [.sl 3 .id,.id])),(.sl 4 (.agg [.id,.id,.sl 2 .id,.sl 4 .id]))]))])],cout := [.sl 1 .id,.id],ntmps := 55,keep := false,res := [(2,none),(3,none)],body :=
 (.seq (.reg [⟨some 1,.box 25 4 (.t 0),none⟩,
 ⟨some 2,.mv (.c .nsl),none⟩,
 ⟨some 3,.mv (.c (.i .i64 0)),none⟩])
 (.seq (.seq (.reg [⟨some 11,.ld true 4 (.t 1),none⟩,
 ⟨some 12,.call HW [.t 11],none⟩,
 ⟨some 13,.un .not (.t 12),none⟩])
 (.cond (.t 13)
 (.seq (.reg [⟨some 2,.mv (.c .nsl),none⟩,
 ⟨some 3,.mv (.c (.i .i64 4)),none⟩])
 .ret)
 .skip))
 (.seq (.reg [⟨some 14,.call GU [],none⟩,
 ⟨some 4,.alloc 73 [.nm],none⟩,
 ⟨none,.st 1 (.t 4) (.t 14),none⟩])
 (.seq (.reg [⟨some 5,.alloc 26 [.nsl],none⟩])
 (.seq (.seq (.reg [⟨some 15,.ld true 4 (.t 1),none⟩,
 ⟨some 16,.call Em [(.t 15),(.c (.i .i64 0))],none⟩])
 (.blk 0 (.rf (.t 16) [17,18] (.seq (.reg [⟨some 6,.mv (.t 17),none⟩])
 (.reg [⟨some 7,.alloc 25 [(.i .u8 0),(.s []),.nsl,.nsl],none⟩,
 ⟨none,.st 4 (.t 7) (.t 18),none⟩]))
 (.blk 1 (.seq (.regD [⟨some 19,.mv (.t 6),none⟩,
 ⟨some 20,.call D6 [(.c (.s [32])),(.t 19)],none⟩,
 ⟨some 21,.ld false 1 (.t 4),none⟩,
 ⟨some 22,.fa 0 (.t 7),none⟩,
 ⟨some 23,.ld false 1 (.t 22),none⟩,
 ⟨some 24,.look 0 (.agg [(.s []),(.b false),(.i .i64 0),(.i .i64 0),.nf]) false (.t 21) (.t 23),none⟩,
 ⟨some 25,.fld false 0 1 (.t 24),none⟩,
 ⟨some 26,.bin .add (.t 20) (.t 25),none⟩,
 ⟨some 27,.bsl 1 [.t 26],none⟩,
 ⟨some 8,.mv (.t 27),none⟩] [(2,(1,2)),(4,(1,4)),(5,(1,5))])
 (.seq (.seq (.reg [⟨some 28,.fa 1 (.t 7),none⟩,
 ⟨some 29,.ld false 1 (.t 28),none⟩,
 ⟨some 30,.bin .neq (.t 29) (.c (.s [])),none⟩])
 (.cond (.t 30)
 (.reg [⟨some 31,.mv (.t 8),none⟩,
 ⟨some 32,.fa 1 (.t 7),none⟩,
 ⟨some 33,.ld false 1 (.t 32),none⟩,
 ⟨some 34,.bsl 1 [.t 33],none⟩,
 ⟨some 35,.app 1 9 (.t 31) (.t 34),none⟩,
 ⟨some 8,.mv (.t 35),none⟩])
 .skip))
 (.seq (.seq (.reg [⟨some 36,.fa 2 (.t 7),none⟩,
 ⟨some 37,.ld false 1 (.t 36),none⟩,
 ⟨some 38,.len 1 (.t 37),none⟩,
 ⟨some 39,.mv (.c (.i .i64 0)),none⟩])
 (.blk 2 (.loop (.seq (.reg [⟨some 40,.bin .lss (.t 39) (.t 38),none⟩])
 (.seq (.cond (.t 40)
 .skip
 (.exit 2))
 (.seq (.blk 3 (.seq (.reg [⟨some 41,.ia 2 (.t 37) (.t 39),none⟩,
 ⟨some 42,.ld true 2 (.t 41),none⟩,
 ⟨some 10,.alloc 78 [.nsl,.b false],none⟩,
 ⟨none,.st 2 (.t 10) (.t 42),none⟩])
 (.reg [⟨some 43,.mv (.t 8),none⟩,
 ⟨some 44,.ld true 2 (.t 10),none⟩,
 ⟨some 45,.call Jf [.t 44],none⟩,
 ⟨some 46,.bsl 1 [.t 45],none⟩,
 ⟨some 47,.app 1 9 (.t 43) (.t 46),none⟩,
 ⟨some 8,.mv (.t 47),none⟩])))
 (.reg [⟨some 48,.bin .add (.t 39) (.c (.i .i64 1)),none⟩,
 ⟨some 39,.mv (.t 48),none⟩])))))))
 (.regD [⟨some 49,.ld false 1 (.t 5),none⟩,
 ⟨some 50,.mv (.t 8),none⟩,
 ⟨some 51,.callQ false Ez [(.t 50),(.c (.s [32]))],none⟩,
 ⟨some 52,.bsl 1 [.t 51],none⟩,
 ⟨some 53,.app 1 9 (.t 49) (.t 52),none⟩,
 ⟨none,.st 1 (.t 5) (.t 53),none⟩] [(0,(0,3))]))))))))
 (.seq (.reg [⟨some 54,.ld false 1 (.t 5),none⟩,
 ⟨some 2,.mv (.t 54),none⟩,
 ⟨some 3,.mv (.c (.i .i64 0)),none⟩])
 .ret)))))) }
def DV : Fun := { cin := [(.agg [.id,.id,(.sl 2 (.agg [(.sl 3 (.agg [.id,.id,.id])),.id])),(.sl 4 (.agg [.id,.id,(.sl 2 (.agg [.sl 3 .id,.id])),(.sl 4 (.agg [.id,.id,.sl 2 .id,.sl 4 .id]))]))]),(.agg [.id,.id,(.sl 2 (.agg [(.sl 3 (.agg [.id,.id,.id])),.id])),(.sl 4 (.agg [.id,.id,(.sl 2 (.agg [.sl 3 .id,.id])),(.sl 4 (.agg [.id,.id,.sl 2 .id,.sl 4 .id]))]))])],cout := [.id],ntmps := 33,keep := false,res := [(4,none)],body :=
 (.seq (.reg [⟨some 2,.box 25 4 (.t 0),none⟩,
 ⟨some 3,.box 25 4 (.t 1),none⟩,
 ⟨some 4,.mv (.c (.b false)),none⟩])
 (.seq (.reg [⟨some 5,.mv (.c (.fn EU [])),none⟩])
 (.seq (.reg [⟨some 6,.fa 0 (.t 2),none⟩,
 ⟨some 7,.ld false 1 (.t 6),none⟩,
 ⟨some 8,.fa 0 (.t 3),none⟩,
 ⟨some 9,.ld false 1 (.t 8),none⟩,
 ⟨some 10,.bin .eql (.t 7) (.t 9),none⟩,
 ⟨some 11,.mv (.t 10),none⟩,
 ⟨some 12,.fa 1 (.t 2),some (11,true)⟩,
 ⟨some 13,.ld false 1 (.t 12),some (11,true)⟩,
 ⟨some 14,.fa 1 (.t 3),some (11,true)⟩,
 ⟨some 15,.ld false 1 (.t 14),some (11,true)⟩,
 ⟨some 16,.bin .eql (.t 13) (.t 15),some (11,true)⟩,
 ⟨some 17,.pick (.t 11) (.t 16) (.c (.b false)),none⟩,
 ⟨some 18,.mv (.t 17),none⟩,
 ⟨some 19,.fa 2 (.t 2),some (18,true)⟩,
 ⟨some 20,.ld false 1 (.t 19),some (18,true)⟩,
 ⟨some 21,.fa 2 (.t 3),some (18,true)⟩,
 ⟨some 22,.ld false 1 (.t 21),some (18,true)⟩,
 ⟨some 23,.mv (.t 5),some (18,true)⟩,
 ⟨some 24,.call AU [.t 20,.t 22,.t 23],some (18,true)⟩,
 ⟨some 25,.pick (.t 18) (.t 24) (.c (.b false)),none⟩,
 ⟨some 26,.mv (.t 25),none⟩,
 ⟨some 27,.fa 3 (.t 2),some (26,true)⟩,
 ⟨some 28,.ld false 1 (.t 27),some (26,true)⟩,
 ⟨some 29,.fa 3 (.t 3),some (26,true)⟩,
 ⟨some 30,.ld false 1 (.t 29),some (26,true)⟩,
 ⟨some 31,.call AY [(.t 28),(.t 30),(.c (.fn FL []))],some (26,true)⟩,
 ⟨some 32,.pick (.t 26) (.t 31) (.c (.b false)),none⟩,
 ⟨some 4,.mv (.t 32),none⟩])
 .ret))) }
def FO : Fun := { cin := [],cout := [.id],ntmps := 29,keep := false,res := [(0,none)],body :=
 (.seq (.reg [⟨some 0,.mv (.c .nm),none⟩])
 (.seq (.reg [⟨some 1,.mv (.c (.fn BG [])),none⟩])
 (.seq (.reg [⟨some 2,.mkm,none⟩,
 ⟨some 3,.mv (.t 1),none⟩,
 ⟨some 4,.callX (.t 3) [(.c (.i .i64 0))],none⟩,
 ⟨some 5,.build [(.s []),(.b false),(.i .i64 0),(.i .i64 0),.nf] [(0,1,(.c (.s [115,107,105,112]))),(1,1,(.c (.b false))),(2,1,(.c (.i .i64 0))),(3,1,(.c (.i .i64 0))),(4,1,(.t 4))],none⟩,
 ⟨none,.ins 0 (.t 2) (.c (.i .u8 1)) (.t 5),none⟩,
 ⟨some 6,.mv (.t 1),none⟩,
 ⟨some 7,.callX (.t 6) [(.c (.i .i64 0))],none⟩,
 ⟨some 8,.build [(.s []),(.b false),(.i .i64 0),(.i .i64 0),.nf] [(0,1,(.c (.s [99,104,101,99,107]))),(1,1,(.c (.b false))),(2,1,(.c (.i .i64 0))),(3,1,(.c (.i .i64 0))),(4,1,(.t 7))],none⟩,
 ⟨none,.ins 0 (.t 2) (.c (.i .u8 4)) (.t 8),none⟩,
 ⟨some 9,.mv (.t 1),none⟩,
 ⟨some 10,.callX (.t 9) [(.c (.i .i64 0))],none⟩,
 ⟨some 11,.build [(.s []),(.b false),(.i .i64 0),(.i .i64 0),.nf] [(0,1,(.c (.s [110,111,116]))),(1,1,(.c (.b false))),(2,1,(.c (.i .i64 0))),(3,1,(.c (.i .i64 0))),(4,1,(.t 10))],none⟩,
 ⟨none,.ins 0 (.t 2) (.c (.i .u8 6)) (.t 11),none⟩,
 ⟨some 12,.mv (.t 1),none⟩,
 ⟨some 13,.callX (.t 12) [(.c (.i .i64 0))],none⟩,
 ⟨some 14,.build [(.s []),(.b false),(.i .i64 0),(.i .i64 0),.nf] [(0,1,(.c (.s [97,115,115,105,103,110]))),(1,1,(.c (.b true))),(2,1,(.c (.i .i64 1))),(3,1,(.c (.i .i64 1))),(4,1,(.t 13))],none⟩,
 ⟨none,.ins 0 (.t 2) (.c (.i .u8 2)) (.t 14),none⟩,
 ⟨some 15,.mv (.t 1),none⟩,
 ⟨some 16,.callX (.t 15) [(.c (.i .i64 0))],none⟩,
 ⟨some 17,.build [(.s []),(.b false),(.i .i64 0),(.i .i64 0),.nf] [(0,1,(.c (.s [99,97,108,108]))),(1,1,(.c (.b false))),(2,1,(.c (.i .i64 1))),(3,1,(.c (.i .i64 64))),(4,1,(.t 16))],none⟩,
 ⟨none,.ins 0 (.t 2) (.c (.i .u8 3)) (.t 17),none⟩,
 ⟨some 18,.build [(.s []),(.b false),(.i .i64 0),(.i .i64 0),.nf] [(0,1,(.c (.s [115,101,113]))),(1,1,(.c (.b false))),(2,1,(.c (.i .i64 0))),(3,1,(.c (.i .i64 0))),(4,1,(.c (.fn Ah [])))],none⟩,
 ⟨none,.ins 0 (.t 2) (.c (.i .u8 5)) (.t 18),none⟩,
 ⟨some 19,.mv (.t 1),none⟩,
 ⟨some 20,.callX (.t 19) [(.c (.i .i64 3))],none⟩,
 ⟨some 21,.build [(.s []),(.b false),(.i .i64 0),(.i .i64 0),.nf] [(0,1,(.c (.s [105,102]))),(1,1,(.c (.b false))),(2,1,(.c (.i .i64 0))),(3,1,(.c (.i .i64 0))),(4,1,(.t 20))],none⟩,
 ⟨none,.ins 0 (.t 2) (.c (.i .u8 7)) (.t 21),none⟩,
 ⟨some 22,.mv (.t 1),none⟩,
 ⟨some 23,.callX (.t 22) [(.c (.i .i64 2))],none⟩,
 ⟨some 24,.build [(.s []),(.b false),(.i .i64 0),(.i .i64 0),.nf] [(0,1,(.c (.s [108,111,111,112]))),(1,1,(.c (.b false))),(2,1,(.c (.i .i64 0))),(3,1,(.c (.i .i64 0))),(4,1,(.t 23))],none⟩,
 ⟨none,.ins 0 (.t 2) (.c (.i .u8 8)) (.t 24),none⟩,
 ⟨some 25,.mv (.t 1),none⟩,
 ⟨some 26,.callX (.t 25) [(.c (.i .i64 1))],none⟩,
 ⟨some 27,.build [(.s []),(.b false),(.i .i64 0),(.i .i64 0),.nf] [(0,1,(.c (.s [101,97,99,104]))),(1,1,(.c (.b true))),(2,1,(.c (.i .i64 0))),(3,1,(.c (.i .i64 64))),(4,1,(.t 26))],none⟩,
 ⟨none,.ins 0 (.t 2) (.c (.i .u8 9)) (.t 27),none⟩,
 ⟨some 28,.mv (.t 2),none⟩,
 ⟨some 0,.mv (.t 28),none⟩])
 .ret))) }
def Bn : Fun := { cin := [.id],cout := [.id],ntmps := 15,keep := false,res := [(2,none)],body :=
 (.seq (.reg [⟨some 2,.mv (.c (.b false)),none⟩])
 (.seq (.reg [⟨some 3,.mv (.t 0),none⟩,
 ⟨some 4,.call Eo [.t 3],none⟩,
 ⟨some 5,.mv (.t 4),none⟩,
 ⟨some 6,.mv (.t 0),some (5,true)⟩,
 ⟨some 7,.len 0 (.t 6),some (5,true)⟩,
 ⟨some 8,.bin .gtr (.t 7) (.c (.i .i64 1)),some (5,true)⟩,
 ⟨some 9,.mv (.t 8),some (5,true)⟩,
 ⟨some 10,.mv (.t 0),some (9,false)⟩,
 ⟨some 11,.call Be [(.c (.s [49,50,51,52,53,54,55,56,57,35,63])),(.t 10)],some (9,false)⟩,
 ⟨some 12,.un .not (.t 11),some (9,false)⟩,
 ⟨some 13,.pick (.t 9) (.c (.b true)) (.t 12),some (5,true)⟩,
 ⟨some 14,.pick (.t 5) (.t 13) (.c (.b false)),none⟩,
 ⟨some 2,.mv (.t 14),none⟩])
 .ret)) }
def AL : Fun := { cin := [(.sl 2 (.agg [(.sl 3 (.agg [.id,.id,.id])),.id])),.id],cout := [.id],ntmps := 9,keep := false,res := [(4,none)],body :=
 (.seq (.reg [⟨some 4,.mv (.c (.b false)),none⟩])
 (.seq (.reg [⟨some 5,.mv (.t 0),none⟩,
 ⟨some 6,.mv (.t 1),none⟩,
 ⟨some 7,.call BD [.t 5,.t 6],none⟩,
 ⟨some 8,.bin .geq (.t 7) (.c (.i .i64 0)),none⟩,
 ⟨some 4,.mv (.t 8),none⟩])
 .ret)) }
def Ds : Fun := { cin := [(.agg [(.sl 3 (.agg [.id,.id,.id])),.id])],cout := [.id],ntmps := 6,keep := false,res := [(2,none)],body :=
 (.seq (.reg [⟨some 1,.box 78 2 (.t 0),none⟩,
 ⟨some 2,.mv (.c (.b false)),none⟩])
 (.seq (.reg [⟨some 3,.ld true 2 (.t 1),none⟩,
 ⟨some 4,.call Lf [.t 3],none⟩,
 ⟨some 5,.un .not (.t 4),none⟩,
 ⟨some 2,.mv (.t 5),none⟩])
 .ret)) }
def C8 : Fun := { cin := [(.agg [(.sl 3 (.agg [.id,.id,.id])),.id])],cout := [.id],ntmps := 51,keep := false,res := [(2,none)],body :=
 (.seq (.reg [⟨some 1,.box 78 2 (.t 0),none⟩,
 ⟨some 2,.mv (.c (.b false)),none⟩])
 (.seq (.seq (.reg [⟨some 5,.fa 0 (.t 1),none⟩,
 ⟨some 6,.ld false 1 (.t 5),none⟩,
 ⟨some 7,.len 1 (.t 6),none⟩,
 ⟨some 8,.bin .eql (.t 7) (.c (.i .i64 0)),none⟩])
 (.cond (.t 8)
 (.seq (.reg [⟨some 2,.mv (.c (.b true)),none⟩])
 .ret)
 .skip))
 (.seq (.reg [⟨some 9,.fa 0 (.t 1),none⟩,
 ⟨some 10,.ld false 1 (.t 9),none⟩,
 ⟨some 11,.call Az [.t 10],none⟩,
 ⟨some 3,.mv (.t 11),none⟩])
 (.seq (.seq (.seq (.thw 3)
 (.reg [⟨some 12,.mv (.t 3),none⟩,
 ⟨some 13,.ia 3 (.t 12) (.c (.i .i64 0)),none⟩,
 ⟨some 4,.mv (.t 13),none⟩]))
 (.seq (.reg [⟨some 14,.mv (.t 4),none⟩,
 ⟨some 15,.nck (.t 14),none⟩,
 ⟨some 16,.fa 0 (.t 15),none⟩,
 ⟨some 17,.ld false 1 (.t 16),none⟩,
 ⟨some 18,.un .not (.t 17),none⟩,
 ⟨some 19,.mv (.t 18),none⟩,
 ⟨some 20,.mv (.t 4),some (19,true)⟩,
 ⟨some 21,.nck (.t 20),some (19,true)⟩,
 ⟨some 22,.fa 2 (.t 21),some (19,true)⟩,
 ⟨some 23,.ld false 1 (.t 22),some (19,true)⟩,
 ⟨some 24,.un .not (.t 23),some (19,true)⟩,
 ⟨some 25,.pick (.t 19) (.t 24) (.c (.b false)),none⟩,
 ⟨some 26,.mv (.t 25),none⟩,
 ⟨some 27,.mv (.t 4),some (26,true)⟩,
 ⟨some 28,.nck (.t 27),some (26,true)⟩,
 ⟨some 29,.fa 1 (.t 28),some (26,true)⟩,
 ⟨some 30,.ld false 1 (.t 29),some (26,true)⟩,
 ⟨some 31,.call CZ [(.t 30),(.c (.s [35]))],some (26,true)⟩,
 ⟨some 32,.mv (.t 31),some (26,true)⟩,
 ⟨some 33,.mv (.t 4),some (32,false)⟩,
 ⟨some 34,.nck (.t 33),some (32,false)⟩,
 ⟨some 35,.fa 1 (.t 34),some (32,false)⟩,
 ⟨some 36,.ld false 1 (.t 35),some (32,false)⟩,
 ⟨some 37,.call CZ [(.t 36),(.c (.s [126]))],some (32,false)⟩,
 ⟨some 38,.pick (.t 32) (.c (.b true)) (.t 37),some (26,true)⟩,
 ⟨some 39,.pick (.t 26) (.t 38) (.c (.b false)),none⟩])
 (.cond (.t 39)
 (.reg [⟨some 40,.mv (.t 4),none⟩,
 ⟨some 41,.mv (.t 4),none⟩,
 ⟨some 42,.nck (.t 41),none⟩,
 ⟨some 43,.fa 1 (.t 42),none⟩,
 ⟨some 44,.ld false 1 (.t 43),none⟩,
 ⟨some 45,.bin .add (.c (.s [95])) (.t 44),none⟩,
 ⟨some 46,.nck (.t 40),none⟩,
 ⟨some 47,.fa 1 (.t 46),none⟩,
 ⟨none,.st 1 (.t 47) (.t 45),none⟩])
 .skip)))
 (.seq (.reg [⟨some 48,.mv (.t 3),none⟩,
 ⟨some 49,.build [.nsl,.i .i64 0] [(0,1,(.t 48))],none⟩,
 ⟨some 50,.call IL [.t 49],none⟩,
 ⟨some 2,.mv (.t 50),none⟩])
 .ret))))) }
def AO : Fun := { cin := [(.sl 4 (.agg [.id,.id,(.sl 2 (.agg [(.sl 3 (.agg [.id,.id,.id])),.id])),(.sl 4 (.agg [.id,.id,(.sl 2 (.agg [.id,.id])),(.sl 4 (.agg [.id,.id,.id,.id]))]))])),.id],cout := [.id],ntmps := 9,keep := false,res := [(4,none)],body :=
 (.seq (.reg [⟨some 4,.mv (.c (.b false)),none⟩])
 (.seq (.reg [⟨some 5,.mv (.t 0),none⟩,
 ⟨some 6,.mv (.t 1),none⟩,
 ⟨some 7,.call BJ [.t 5,.t 6],none⟩,
 ⟨some 8,.bin .geq (.t 7) (.c (.i .i64 0)),none⟩,
 ⟨some 4,.mv (.t 8),none⟩])
 .ret)) }
def Dt : Fun := { cin := [(.agg [.id,.id,(.sl 2 (.agg [(.sl 3 (.agg [.id,.id,.id])),.id])),(.sl 4 (.agg [.id,.id,(.sl 2 (.agg [.sl 3 .id,.id])),(.sl 4 (.agg [.id,.id,.sl 2 .id,.sl 4 .id]))]))])],cout := [.id],ntmps := 6,keep := false,res := [(2,none)],body :=
 (.seq (.reg [⟨some 1,.box 25 4 (.t 0),none⟩,
 ⟨some 2,.mv (.c (.b false)),none⟩])
 (.seq (.reg [⟨some 3,.ld true 4 (.t 1),none⟩,
 ⟨some 4,.call HW [.t 3],none⟩,
 ⟨some 5,.un .not (.t 4),none⟩,
 ⟨some 2,.mv (.t 5),none⟩])
 .ret)) }
def Kj : Fun := { cin := [(.agg [.id,.id,(.sl 2 (.agg [(.sl 3 (.agg [.id,.id,.id])),.id])),(.sl 4 (.agg [.id,.id,(.sl 2 (.agg [.sl 3 .id,.id])),(.sl 4 (.agg [.id,.id,.sl 2 .id,.sl 4 .id]))]))]),.id],cout := [.sl 1 .id],ntmps := 21,keep := false,res := [(4,none)],body :=
 (.seq (.reg [⟨some 2,.box 25 4 (.t 0),none⟩,
 ⟨some 3,.box 39 1 (.t 1),none⟩,
 ⟨some 4,.mv (.c .nsl),none⟩])
 (.seq (.reg [⟨some 5,.alloc 26 [.nsl],none⟩])
 (.seq (.seq (.reg [⟨some 8,.ld true 4 (.t 2),none⟩,
 ⟨some 9,.call Em [(.t 8),(.c (.i .i64 0))],none⟩])
 (.blk 0 (.rf (.t 9) [10,11] (.reg [⟨some 7,.alloc 25 [(.i .u8 0),(.s []),.nsl,.nsl],none⟩,
 ⟨none,.st 4 (.t 7) (.t 11),none⟩])
 (.blk 1 (.regD [⟨some 12,.ld false 1 (.t 5),none⟩,
 ⟨some 13,.ld false 1 (.t 3),none⟩,
 ⟨some 14,.ld true 4 (.t 7),none⟩,
 ⟨some 15,.callX (.t 13) [.t 14],none⟩,
 ⟨some 16,.app 1 9 (.t 12) (.t 15),none⟩,
 ⟨none,.st 1 (.t 5) (.t 16),none⟩] [(0,(0,4))])))))
 (.seq (.seq (.thw 5)
 (.reg [⟨some 17,.ld false 1 (.t 5),none⟩,
 ⟨some 18,.call EV [.t 17],none⟩]))
 (.seq (.seq (.thw 5)
 (.reg [⟨some 19,.ld false 1 (.t 5),none⟩,
 ⟨some 20,.call Dx [.t 19],none⟩,
 ⟨some 4,.mv (.t 20),none⟩]))
 .ret))))) }
def IZ : Fun := { cin := [(.agg [.id,.id,(.sl 2 (.agg [(.sl 3 (.agg [.id,.id,.id])),.id])),(.sl 4 (.agg [.id,.id,(.sl 2 (.agg [.sl 3 .id,.id])),(.sl 4 (.agg [.id,.id,.sl 2 .id,.sl 4 .id]))]))])],cout := [.sl 1 .id],ntmps := 44,keep := false,res := [(2,none)],body :=
 (.seq (.reg [⟨some 1,.box 25 4 (.t 0),none⟩,
 ⟨some 2,.mv (.c .nsl),none⟩])
 (.seq (.reg [⟨some 3,.mv (.c .nsl),none⟩])
 (.seq (.seq (.reg [⟨some 8,.fa 2 (.t 1),none⟩,
 ⟨some 9,.ld false 1 (.t 8),none⟩,
 ⟨some 10,.len 1 (.t 9),none⟩,
 ⟨some 11,.mv (.c (.i .i64 0)),none⟩])
 (.blk 0 (.loop (.seq (.reg [⟨some 12,.bin .lss (.t 11) (.t 10),none⟩])
 (.seq (.cond (.t 12)
 .skip
 (.exit 0))
 (.seq (.blk 1 (.seq (.reg [⟨some 13,.ia 2 (.t 9) (.t 11),none⟩,
 ⟨some 14,.ld true 2 (.t 13),none⟩,
 ⟨some 5,.alloc 78 [.nsl,.b false],none⟩,
 ⟨none,.st 2 (.t 5) (.t 14),none⟩])
 (.seq (.reg [⟨some 15,.fa 0 (.t 5),none⟩,
 ⟨some 16,.ld false 1 (.t 15),none⟩,
 ⟨some 17,.len 1 (.t 16),none⟩,
 ⟨some 18,.mv (.c (.i .i64 0)),none⟩])
 (.blk 2 (.loop (.seq (.reg [⟨some 19,.bin .lss (.t 18) (.t 17),none⟩])
 (.seq (.cond (.t 19)
 .skip
 (.exit 2))
 (.seq (.blk 3 (.seq (.reg [⟨some 20,.ia 3 (.t 16) (.t 18),none⟩,
 ⟨some 21,.ld true 3 (.t 20),none⟩,
 ⟨some 7,.alloc 85 [(.b false),(.s []),(.b false)],none⟩,
 ⟨none,.st 3 (.t 7) (.t 21),none⟩])
 (.seq (.reg [⟨some 22,.fa 0 (.t 7),none⟩,
 ⟨some 23,.ld false 1 (.t 22),none⟩,
 ⟨some 24,.mv (.t 23),none⟩,
 ⟨some 25,.fa 1 (.t 7),some (24,true)⟩,
 ⟨some 26,.ld false 1 (.t 25),some (24,true)⟩,
 ⟨some 27,.len 0 (.t 26),some (24,true)⟩,
 ⟨some 28,.bin .eql (.t 27) (.c (.i .i64 1)),some (24,true)⟩,
 ⟨some 29,.mv (.t 28),some (24,true)⟩,
 ⟨some 30,.fa 1 (.t 7),some (29,true)⟩,
 ⟨some 31,.ld false 1 (.t 30),some (29,true)⟩,
 ⟨some 32,.call Be [(.c (.s [49,50,51,52,53,54,55,56,57,35,63])),(.t 31)],some (29,true)⟩,
 ⟨some 33,.pick (.t 29) (.t 32) (.c (.b false)),some (24,true)⟩,
 ⟨some 34,.un .not (.t 33),some (24,true)⟩,
 ⟨some 35,.pick (.t 24) (.t 34) (.c (.b false)),none⟩])
 (.cond (.t 35)
 (.reg [⟨some 36,.mv (.t 3),none⟩,
 ⟨some 37,.fa 1 (.t 7),none⟩,
 ⟨some 38,.ld false 1 (.t 37),none⟩,
 ⟨some 39,.bsl 1 [.t 38],none⟩,
 ⟨some 40,.app 1 9 (.t 36) (.t 39),none⟩,
 ⟨some 3,.mv (.t 40),none⟩])
 .skip))))
 (.reg [⟨some 41,.bin .add (.t 18) (.c (.i .i64 1)),none⟩,
 ⟨some 18,.mv (.t 41),none⟩])))))))))
 (.reg [⟨some 42,.bin .add (.t 11) (.c (.i .i64 1)),none⟩,
 ⟨some 11,.mv (.t 42),none⟩])))))))
 (.seq (.reg [⟨some 43,.mv (.t 3),none⟩,
 ⟨some 2,.mv (.t 43),none⟩])
 .ret)))) }
def CB : Fun := { cin := [.id,.id],cout := [.id],ntmps := 9,keep := false,res := [(4,none)],body :=
 (.seq (.reg [⟨some 4,.mv (.c (.b false)),none⟩])
 (.seq (.reg [⟨some 5,.mv (.t 0),none⟩,
 ⟨some 6,.mv (.t 1),none⟩,
 ⟨some 7,.call EW [.t 5,.t 6],none⟩,
 ⟨some 8,.bin .geq (.t 7) (.c (.i .i64 0)),none⟩,
 ⟨some 4,.mv (.t 8),none⟩])
 .ret)) }
def Fi : Fun := { cin := [(.agg [.id,.id,(.sl 2 (.agg [(.sl 3 (.agg [.id,.id,.id])),.id])),(.sl 4 (.agg [.id,.id,(.sl 2 (.agg [.sl 3 .id,.id])),(.sl 4 (.agg [.id,.id,.sl 2 .id,.sl 4 .id]))]))]),.id],cout := [.id],ntmps := 6,keep := false,res := [(4,none)],body :=
 (.seq (.reg [⟨some 2,.box 25 4 (.t 0),none⟩,
 ⟨some 3,.box 3 1 (.t 1),none⟩,
 ⟨some 4,.mv (.c .nf),none⟩])
 (.seq (.reg [⟨some 5,.mkf Ci [.t 3,.t 2],none⟩,
 ⟨some 4,.mv (.t 5),none⟩])
 .ret)) }
def Jg : Fun := { cin := [(.agg [.id,.id,(.sl 2 (.agg [(.sl 3 (.agg [.id,.id,.id])),.id])),(.sl 4 (.agg [.id,.id,(.sl 2 (.agg [.sl 3 .id,.id])),(.sl 4 (.agg [.id,.id,.sl 2 .id,.sl 4 .id]))]))])],cout := [.sl 1 .id],ntmps := 14,keep := false,res := [(2,none)],body :=
 (.seq (.reg [⟨some 1,.box 25 4 (.t 0),none⟩,
 ⟨some 2,.mv (.c .nsl),none⟩])
 (.seq (.seq (.reg [⟨some 3,.fa 0 (.t 1),none⟩,
 ⟨some 4,.ld false 1 (.t 3),none⟩,
 ⟨some 5,.bin .eql (.t 4) (.c (.i .u8 2)),none⟩,
 ⟨some 6,.mv (.t 5),none⟩,
 ⟨some 7,.fa 0 (.t 1),some (6,false)⟩,
 ⟨some 8,.ld false 1 (.t 7),some (6,false)⟩,
 ⟨some 9,.bin .eql (.t 8) (.c (.i .u8 9)),some (6,false)⟩,
 ⟨some 10,.pick (.t 6) (.c (.b true)) (.t 9),none⟩])
 (.cond (.t 10)
 (.seq (.reg [⟨some 11,.fa 1 (.t 1),none⟩,
 ⟨some 12,.ld false 1 (.t 11),none⟩,
 ⟨some 13,.bsl 1 [.t 12],none⟩,
 ⟨some 2,.mv (.t 13),none⟩])
 .ret)
 .skip))
 (.seq (.reg [⟨some 2,.mv (.c .nsl),none⟩])
 .ret))) }
def Ai : Fun := { cin := [.sl 1 .id,.sl 1 .id],cout := [.id],ntmps := 26,keep := false,res := [(4,none)],body :=
 (.seq (.reg [⟨some 4,.mv (.c (.b false)),none⟩])
 (.seq (.seq (.reg [⟨some 6,.mv (.t 0),none⟩,
 ⟨some 7,.len 1 (.t 6),none⟩,
 ⟨some 8,.mv (.t 1),none⟩,
 ⟨some 9,.len 1 (.t 8),none⟩,
 ⟨some 10,.bin .gtr (.t 7) (.t 9),none⟩])
 (.cond (.t 10)
 (.seq (.reg [⟨some 4,.mv (.c (.b false)),none⟩])
 .ret)
 .skip))
 (.seq (.seq (.reg [⟨some 5,.mv (.c (.i .i64 0)),none⟩])
 (.blk 0 (.loop (.seq (.seq (.reg [⟨some 11,.mv (.t 5),none⟩,
 ⟨some 12,.mv (.t 0),none⟩,
 ⟨some 13,.len 1 (.t 12),none⟩,
 ⟨some 14,.bin .lss (.t 11) (.t 13),none⟩])
 (.cond (.t 14)
 .skip
 (.exit 0)))
 (.seq (.blk 1 (.seq (.regD [⟨some 17,.mv (.t 0),none⟩,
 ⟨some 18,.mv (.t 5),none⟩,
 ⟨some 19,.ia 1 (.t 17) (.t 18),none⟩,
 ⟨some 20,.ld false 1 (.t 19),none⟩,
 ⟨some 21,.mv (.t 1),none⟩,
 ⟨some 22,.mv (.t 5),none⟩,
 ⟨some 23,.ia 1 (.t 21) (.t 22),none⟩,
 ⟨some 24,.ld false 1 (.t 23),none⟩,
 ⟨some 25,.bin .neq (.t 20) (.t 24),none⟩] [])
 (.cond (.t 25)
 (.seq (.reg [⟨some 4,.mv (.c (.b false)),none⟩])
 .ret)
 .skip)))
 (.reg [⟨some 15,.mv (.t 5),none⟩,
 ⟨some 16,.bin .add (.t 15) (.c (.i .i64 1)),none⟩,
 ⟨some 5,.mv (.t 16),none⟩]))))))
 (.seq (.reg [⟨some 4,.mv (.c (.b true)),none⟩])
 .ret)))) }
def D7 : Fun := { cin := [],cout := [],ntmps := 0,keep := false,res := [],body := .bad,prim := some (Ho GR) }
def EY : Fun := { cin := [(.agg [(.sl 3 (.agg [.id,.id,.id])),.id])],cout := [.id],ntmps := 33,keep := false,res := [(2,none)],body :=
 (.seq (.reg [⟨some 1,.box 78 2 (.t 0),none⟩,
 ⟨some 2,.mv (.c (.s [])),none⟩])
 (.seq (.reg [⟨some 3,.mv (.c (.s [])),none⟩])
 (.seq (.seq (.reg [⟨some 6,.fa 0 (.t 1),none⟩,
 ⟨some 7,.ld false 1 (.t 6),none⟩,
 ⟨some 8,.len 1 (.t 7),none⟩,
 ⟨some 9,.mv (.c (.i .i64 0)),none⟩])
 (.blk 0 (.loop (.seq (.reg [⟨some 10,.bin .lss (.t 9) (.t 8),none⟩])
 (.seq (.cond (.t 10)
 .skip
 (.exit 0))
 (.seq (.blk 1 (.seq (.reg [⟨some 11,.ia 3 (.t 7) (.t 9),none⟩,
 ⟨some 12,.ld true 3 (.t 11),none⟩,
 ⟨some 5,.alloc 85 [(.b false),(.s []),(.b false)],none⟩,
 ⟨none,.st 3 (.t 5) (.t 12),none⟩])
 (.regD [⟨some 13,.mv (.t 3),none⟩,
 ⟨some 14,.fa 0 (.t 5),none⟩,
 ⟨some 15,.ld false 1 (.t 14),none⟩,
 ⟨some 16,.call GA [(.t 15),(.c (.s [118])),(.c (.s [98]))],none⟩,
 ⟨some 17,.fa 2 (.t 5),none⟩,
 ⟨some 18,.ld false 1 (.t 17),none⟩,
 ⟨some 19,.call GA [(.t 18),(.c (.s [113])),(.c (.s [112]))],none⟩,
 ⟨some 20,.bin .add (.t 16) (.t 19),none⟩,
 ⟨some 21,.fa 1 (.t 5),none⟩,
 ⟨some 22,.ld false 1 (.t 21),none⟩,
 ⟨some 23,.call Ep [.t 22],none⟩,
 ⟨some 24,.bin .add (.t 20) (.t 23),none⟩,
 ⟨some 25,.bin .add (.t 13) (.t 24),none⟩,
 ⟨some 3,.mv (.t 25),none⟩] [(5,(3,5)),(9,(3,9))])))
 (.reg [⟨some 26,.bin .add (.t 9) (.c (.i .i64 1)),none⟩,
 ⟨some 9,.mv (.t 26),none⟩])))))))
 (.seq (.reg [⟨some 27,.fa 1 (.t 1),none⟩,
 ⟨some 28,.ld false 1 (.t 27),none⟩,
 ⟨some 29,.call GA [(.t 28),(.c (.s [42])),(.c (.s [61]))],none⟩,
 ⟨some 30,.mv (.t 3),none⟩,
 ⟨some 31,.call Ep [.t 30],none⟩,
 ⟨some 32,.bin .add (.t 29) (.t 31),none⟩,
 ⟨some 2,.mv (.t 32),none⟩])
 .ret)))) }
def E1 : Fun := { cin := [],cout := [],ntmps := 0,keep := false,res := [],body := .bad,prim := some (Ho HH) }
def DB : Fun := { cin := [(.agg [(.sl 3 (.agg [.id,.id,.id])),.id]),(.agg [(.sl 3 (.agg [.id,.id,.id])),.id])],cout := [.id],ntmps := 17,keep := false,res := [(4,none)],body :=
 (.seq (.reg [⟨some 2,.box 78 2 (.t 0),none⟩,
 ⟨some 3,.box 78 2 (.t 1),none⟩,
 ⟨some 4,.mv (.c (.b false)),none⟩])
 (.seq (.reg [⟨some 5,.fa 1 (.t 2),none⟩,
 ⟨some 6,.ld false 1 (.t 5),none⟩,
 ⟨some 7,.fa 1 (.t 3),none⟩,
 ⟨some 8,.ld false 1 (.t 7),none⟩,
 ⟨some 9,.eq .bool false (.t 6) (.t 8),none⟩,
 ⟨some 10,.mv (.t 9),none⟩,
 ⟨some 11,.fa 0 (.t 2),some (10,true)⟩,
 ⟨some 12,.ld false 1 (.t 11),some (10,true)⟩,
 ⟨some 13,.fa 0 (.t 3),some (10,true)⟩,
 ⟨some 14,.ld false 1 (.t 13),some (10,true)⟩,
 ⟨some 15,.call Ay [.t 12,.t 14],some (10,true)⟩,
 ⟨some 16,.pick (.t 10) (.t 15) (.c (.b false)),none⟩,
 ⟨some 4,.mv (.t 16),none⟩])
 .ret)) }
def AZ : Fun := { cin := [(.sl 3 (.agg [.id,.id,.id])),(.sl 3 (.agg [.id,.id,.id]))],cout := [.id],ntmps := 26,keep := false,res := [(4,none)],body :=
 (.seq (.reg [⟨some 4,.mv (.c (.b false)),none⟩])
 (.seq (.seq (.reg [⟨some 6,.mv (.t 0),none⟩,
 ⟨some 7,.len 1 (.t 6),none⟩,
 ⟨some 8,.mv (.t 1),none⟩,
 ⟨some 9,.len 1 (.t 8),none⟩,
 ⟨some 10,.bin .neq (.t 7) (.t 9),none⟩])
 (.cond (.t 10)
 (.seq (.reg [⟨some 4,.mv (.c (.b false)),none⟩])
 .ret)
 .skip))
 (.seq (.seq (.reg [⟨some 11,.mv (.t 0),none⟩,
 ⟨some 12,.len 1 (.t 11),none⟩,
 ⟨some 13,.mv (.c (.i .i64 0)),none⟩])
 (.blk 0 (.loop (.seq (.reg [⟨some 14,.bin .lss (.t 13) (.t 12),none⟩])
 (.seq (.cond (.t 14)
 .skip
 (.exit 0))
 (.seq (.blk 1 (.seq (.reg [⟨some 15,.mv (.t 13),none⟩,
 ⟨some 5,.mv (.t 15),none⟩])
 (.seq (.regD [⟨some 16,.mv (.t 0),none⟩,
 ⟨some 17,.mv (.t 5),none⟩,
 ⟨some 18,.ia 3 (.t 16) (.t 17),none⟩,
 ⟨some 19,.ld true 3 (.t 18),none⟩,
 ⟨some 20,.mv (.t 1),none⟩,
 ⟨some 21,.mv (.t 5),none⟩,
 ⟨some 22,.ia 3 (.t 20) (.t 21),none⟩,
 ⟨some 23,.ld true 3 (.t 22),none⟩,
 ⟨some 24,.eq (.st [0,2,0]) true (.t 19) (.t 23),none⟩] [])
 (.cond (.t 24)
 (.seq (.reg [⟨some 4,.mv (.c (.b false)),none⟩])
 .ret)
 .skip))))
 (.reg [⟨some 25,.bin .add (.t 13) (.c (.i .i64 1)),none⟩,
 ⟨some 13,.mv (.t 25),none⟩])))))))
 (.seq (.reg [⟨some 4,.mv (.c (.b true)),none⟩])
 .ret)))) }
def AI : Fun := { cin := [(.sl 2 (.agg [(.sl 3 (.agg [.id,.id,.id])),.id])),(.sl 2 (.agg [(.sl 3 (.agg [.id,.id,.id])),.id])),.id],cout := [.id],ntmps := 32,keep := false,res := [(6,none)],body :=
 (.seq (.reg [⟨some 6,.mv (.c (.b false)),none⟩])
 (.seq (.seq (.reg [⟨some 10,.mv (.t 0),none⟩,
 ⟨some 11,.len 1 (.t 10),none⟩,
 ⟨some 12,.mv (.t 1),none⟩,
 ⟨some 13,.len 1 (.t 12),none⟩,
 ⟨some 14,.bin .neq (.t 11) (.t 13),none⟩])
 (.cond (.t 14)
 (.seq (.reg [⟨some 6,.mv (.c (.b false)),none⟩])
 .ret)
 .skip))
 (.seq (.seq (.reg [⟨some 15,.mv (.t 0),none⟩,
 ⟨some 16,.len 1 (.t 15),none⟩,
 ⟨some 17,.mv (.c (.i .i64 0)),none⟩])
 (.blk 0 (.loop (.seq (.reg [⟨some 18,.bin .lss (.t 17) (.t 16),none⟩])
 (.seq (.cond (.t 18)
 .skip
 (.exit 0))
 (.seq (.blk 1 (.seq (.reg [⟨some 19,.mv (.t 17),none⟩,
 ⟨some 20,.ia 2 (.t 15) (.t 17),none⟩,
 ⟨some 21,.ld true 2 (.t 20),none⟩,
 ⟨some 8,.alloc 78 [.nsl,.b false],none⟩,
 ⟨some 7,.mv (.t 19),none⟩,
 ⟨none,.st 2 (.t 8) (.t 21),none⟩])
 (.seq (.reg [⟨some 22,.mv (.t 1),none⟩,
 ⟨some 23,.mv (.t 7),none⟩,
 ⟨some 24,.ia 2 (.t 22) (.t 23),none⟩,
 ⟨some 25,.ld true 2 (.t 24),none⟩,
 ⟨some 9,.alloc 78 [.nsl,.b false],none⟩,
 ⟨none,.st 2 (.t 9) (.t 25),none⟩])
 (.seq (.reg [⟨some 26,.mv (.t 2),none⟩,
 ⟨some 27,.ld true 2 (.t 8),none⟩,
 ⟨some 28,.ld true 2 (.t 9),none⟩,
 ⟨some 29,.callX (.t 26) [.t 27,.t 28],none⟩,
 ⟨some 30,.un .not (.t 29),none⟩])
 (.cond (.t 30)
 (.seq (.reg [⟨some 6,.mv (.c (.b false)),none⟩])
 .ret)
 .skip)))))
 (.reg [⟨some 31,.bin .add (.t 17) (.c (.i .i64 1)),none⟩,
 ⟨some 17,.mv (.t 31),none⟩])))))))
 (.seq (.reg [⟨some 6,.mv (.c (.b true)),none⟩])
 .ret)))) }
def AJ : Fun := { cin := [(.sl 4 (.agg [.id,.id,(.sl 2 (.agg [(.sl 3 (.agg [.id,.id,.id])),.id])),(.sl 4 (.agg [.id,.id,(.sl 2 (.agg [.id,.id])),(.sl 4 (.agg [.id,.id,.id,.id]))]))])),(.sl 4 (.agg [.id,.id,(.sl 2 (.agg [(.sl 3 (.agg [.id,.id,.id])),.id])),(.sl 4 (.agg [.id,.id,(.sl 2 (.agg [.id,.id])),(.sl 4 (.agg [.id,.id,.id,.id]))]))])),.id],cout := [.id],ntmps := 32,keep := false,res := [(6,none)],body :=
 (.seq (.reg [⟨some 6,.mv (.c (.b false)),none⟩])
 (.seq (.seq (.reg [⟨some 10,.mv (.t 0),none⟩,
 ⟨some 11,.len 1 (.t 10),none⟩,
 ⟨some 12,.mv (.t 1),none⟩,
 ⟨some 13,.len 1 (.t 12),none⟩,
 ⟨some 14,.bin .neq (.t 11) (.t 13),none⟩])
 (.cond (.t 14)
 (.seq (.reg [⟨some 6,.mv (.c (.b false)),none⟩])
 .ret)
 .skip))
 (.seq (.seq (.reg [⟨some 15,.mv (.t 0),none⟩,
 ⟨some 16,.len 1 (.t 15),none⟩,
 ⟨some 17,.mv (.c (.i .i64 0)),none⟩])
 (.blk 0 (.loop (.seq (.reg [⟨some 18,.bin .lss (.t 17) (.t 16),none⟩])
 (.seq (.cond (.t 18)
 .skip
 (.exit 0))
 (.seq (.blk 1 (.seq (.reg [⟨some 19,.mv (.t 17),none⟩,
 ⟨some 20,.ia 4 (.t 15) (.t 17),none⟩,
 ⟨some 21,.ld true 4 (.t 20),none⟩,
 ⟨some 8,.alloc 25 [(.i .u8 0),(.s []),.nsl,.nsl],none⟩,
 ⟨some 7,.mv (.t 19),none⟩,
 ⟨none,.st 4 (.t 8) (.t 21),none⟩])
 (.seq (.reg [⟨some 22,.mv (.t 1),none⟩,
 ⟨some 23,.mv (.t 7),none⟩,
 ⟨some 24,.ia 4 (.t 22) (.t 23),none⟩,
 ⟨some 25,.ld true 4 (.t 24),none⟩,
 ⟨some 9,.alloc 25 [(.i .u8 0),(.s []),.nsl,.nsl],none⟩,
 ⟨none,.st 4 (.t 9) (.t 25),none⟩])
 (.seq (.reg [⟨some 26,.mv (.t 2),none⟩,
 ⟨some 27,.ld true 4 (.t 8),none⟩,
 ⟨some 28,.ld true 4 (.t 9),none⟩,
 ⟨some 29,.callX (.t 26) [.t 27,.t 28],none⟩,
 ⟨some 30,.un .not (.t 29),none⟩])
 (.cond (.t 30)
 (.seq (.reg [⟨some 6,.mv (.c (.b false)),none⟩])
 .ret)
 .skip)))))
 (.reg [⟨some 31,.bin .add (.t 17) (.c (.i .i64 1)),none⟩,
 ⟨some 17,.mv (.t 31),none⟩])))))))
 (.seq (.reg [⟨some 6,.mv (.c (.b true)),none⟩])
 .ret)))) }
def EZ : Fun := { cin := [],cout := [],ntmps := 0,keep := false,res := [],body := .bad,prim := some HR }
def Cp : Fun := { cin := [.id],cout := [.id],ntmps := 4,keep := false,res := [(2,none)],body :=
 (.seq (.reg [⟨some 1,.box 3 1 (.t 0),none⟩,
 ⟨some 2,.mv (.c .nf),none⟩])
 (.seq (.reg [⟨some 3,.mkf AD [.t 1],none⟩,
 ⟨some 2,.mv (.t 3),none⟩])
 .ret)) }
def CI : Fun := { cin := [.id],cout := [.id],ntmps := 7,keep := false,res := [(3,none)],body :=
 (.seq (.reg [⟨some 3,.mv (.c (.b false)),none⟩])
 (.seq (.reg [⟨some 4,.mv (.t 0),none⟩,
 ⟨some 5,.ld false 1 (.t 1),none⟩,
 ⟨some 6,.bin .eql (.t 4) (.t 5),none⟩,
 ⟨some 3,.mv (.t 6),none⟩])
 .ret)) }
def Dy : Fun := { cin := [.id],cout := [.id],ntmps := 3,keep := false,res := [(2,none)],body :=
 (.seq (.reg [⟨some 2,.mv (.c (.b false)),none⟩])
 (.seq (.reg [⟨some 2,.mv (.c (.b true)),none⟩])
 .ret)) }
def Bp : Fun := { cin := [.id],cout := [.id],ntmps := 19,keep := false,res := [(2,none)],body :=
 (.seq (.reg [⟨some 2,.mv (.c (.b false)),none⟩])
 (.seq (.seq (.reg [⟨some 3,.mv (.t 0),none⟩,
 ⟨some 4,.len 0 (.t 3),none⟩,
 ⟨some 5,.bin .eql (.t 4) (.c (.i .i64 1)),none⟩,
 ⟨some 6,.mv (.t 5),none⟩,
 ⟨some 7,.mv (.t 0),some (6,true)⟩,
 ⟨some 8,.call Be [(.c (.s [49,50,51,52,53,54,55,56,57,35,63])),(.t 7)],some (6,true)⟩,
 ⟨some 9,.pick (.t 6) (.t 8) (.c (.b false)),none⟩])
 (.cond (.t 9)
 (.seq (.reg [⟨some 2,.mv (.c (.b true)),none⟩])
 .ret)
 .skip))
 (.seq (.reg [⟨some 10,.mv (.t 0),none⟩,
 ⟨some 11,.bin .neq (.t 10) (.c (.s [])),none⟩,
 ⟨some 12,.mv (.t 11),none⟩,
 ⟨some 13,.mv (.t 0),some (12,true)⟩,
 ⟨some 14,.call Gn [.t 13],some (12,true)⟩,
 ⟨some 15,.mv (.t 0),some (12,true)⟩,
 ⟨some 16,.len 0 (.t 15),some (12,true)⟩,
 ⟨some 17,.bin .eql (.t 14) (.t 16),some (12,true)⟩,
 ⟨some 18,.pick (.t 12) (.t 17) (.c (.b false)),none⟩,
 ⟨some 2,.mv (.t 18),none⟩])
 .ret))) }
def AQ : Fun := { cin := [(.sl 2 (.agg [(.sl 3 (.agg [.id,.id,.id])),.id])),.id],cout := [.id],ntmps := 19,keep := false,res := [(4,none)],body :=
 (.seq (.reg [⟨some 4,.mv (.c (.i .i64 0)),none⟩])
 (.seq (.seq (.reg [⟨some 6,.mv (.t 0),none⟩,
 ⟨some 7,.len 1 (.t 6),none⟩,
 ⟨some 8,.mv (.c (.i .i64 0)),none⟩])
 (.blk 0 (.loop (.seq (.reg [⟨some 9,.bin .lss (.t 8) (.t 7),none⟩])
 (.seq (.cond (.t 9)
 .skip
 (.exit 0))
 (.seq (.blk 1 (.seq (.reg [⟨some 10,.mv (.t 8),none⟩,
 ⟨some 5,.mv (.t 10),none⟩])
 (.seq (.reg [⟨some 11,.mv (.t 1),none⟩,
 ⟨some 12,.mv (.t 0),none⟩,
 ⟨some 13,.mv (.t 5),none⟩,
 ⟨some 14,.ia 2 (.t 12) (.t 13),none⟩,
 ⟨some 15,.ld true 2 (.t 14),none⟩,
 ⟨some 16,.callX (.t 11) [.t 15],none⟩])
 (.cond (.t 16)
 (.seq (.reg [⟨some 17,.mv (.t 5),none⟩,
 ⟨some 4,.mv (.t 17),none⟩])
 .ret)
 .skip))))
 (.reg [⟨some 18,.bin .add (.t 8) (.c (.i .i64 1)),none⟩,
 ⟨some 8,.mv (.t 18),none⟩])))))))
 (.seq (.reg [⟨some 4,.mv (.c (.i .i64 (-1))),none⟩])
 .ret))) }
def Aa : Fun := { cin := [(.sl 3 (.agg [.id,.id,.id]))],cout := [],ntmps := 8,keep := true,res := [(2,none)],body :=
 (.seq (.reg [⟨some 2,.mv (.c .nsl),none⟩])
 (.seq (.seq (.reg [⟨some 3,.mv (.t 0),none⟩,
 ⟨some 4,.eq .sl false (.t 3) (.c .nsl),none⟩])
 (.cond (.t 4)
 (.seq (.reg [⟨some 2,.mv (.c .nsl),none⟩])
 .ret)
 .skip))
 (.seq (.reg [⟨some 5,.bsl 3 [],none⟩,
 ⟨some 6,.mv (.t 0),none⟩,
 ⟨some 7,.app 3 85 (.t 5) (.t 6),none⟩,
 ⟨some 2,.mv (.t 7),none⟩])
 .ret))) }
def Bu : Fun := { cin := [.id,.id],cout := [.id],ntmps := 8,keep := false,res := [(4,none)],body :=
 (.seq (.reg [⟨some 4,.mv (.c (.b false)),none⟩])
 (.seq (.reg [⟨some 5,.mv (.t 0),none⟩,
 ⟨some 6,.mv (.t 1),none⟩,
 ⟨some 7,.call BS [.t 5,.t 6],none⟩,
 ⟨some 4,.mv (.t 7),none⟩])
 .ret)) }
def Cx : Fun := { cin := [(.agg [(.sl 3 (.agg [.id,.id,.id])),.id])],cout := [.id],ntmps := 77,keep := false,res := [(2,none)],body :=
 (.seq (.reg [⟨some 1,.box 102 2 (.t 0),none⟩,
 ⟨some 2,.mv (.c (.b false)),none⟩])
 (.seq (.seq (.reg [⟨some 7,.fa 0 (.t 1),none⟩,
 ⟨some 8,.ld false 1 (.t 7),none⟩,
 ⟨some 9,.len 1 (.t 8),none⟩,
 ⟨some 10,.mv (.c (.i .i64 0)),none⟩])
 (.blk 0 (.loop (.seq (.reg [⟨some 11,.bin .lss (.t 10) (.t 9),none⟩])
 (.seq (.cond (.t 11)
 .skip
 (.exit 0))
 (.seq (.blk 1 (.seq (.reg [⟨some 12,.mv (.t 10),none⟩,
 ⟨some 13,.ia 3 (.t 8) (.t 10),none⟩,
 ⟨some 14,.ld true 3 (.t 13),none⟩,
 ⟨some 4,.alloc 85 [(.b false),(.s []),(.b false)],none⟩,
 ⟨some 3,.mv (.t 12),none⟩,
 ⟨none,.st 3 (.t 4) (.t 14),none⟩])
 (.seq (.reg [⟨some 5,.mv (.c (.b false)),none⟩])
 (.seq (.blk 2 (.seq (.reg [⟨some 21,.fa 0 (.t 4),none⟩,
 ⟨some 22,.ld false 1 (.t 21),none⟩,
 ⟨some 20,.mv (.t 22),none⟩])
 (.cond (.t 20)
 (.reg [⟨some 23,.fa 1 (.t 4),none⟩,
 ⟨some 24,.ld false 1 (.t 23),none⟩,
 ⟨some 25,.call Eo [.t 24],none⟩,
 ⟨some 5,.mv (.t 25),none⟩])
 (.seq (.reg [⟨some 27,.fa 2 (.t 4),none⟩,
 ⟨some 28,.ld false 1 (.t 27),none⟩,
 ⟨some 26,.mv (.t 28),none⟩])
 (.cond (.t 26)
 (.reg [⟨some 29,.fa 1 (.t 4),none⟩,
 ⟨some 30,.ld false 1 (.t 29),none⟩,
 ⟨some 31,.call Be [(.t 30),(.c (.s [0]))],none⟩,
 ⟨some 32,.un .not (.t 31),none⟩,
 ⟨some 5,.mv (.t 32),none⟩])
 (.reg [⟨some 15,.fa 1 (.t 4),none⟩,
 ⟨some 16,.ld false 1 (.t 15),none⟩,
 ⟨some 17,.mv (.t 3),none⟩,
 ⟨some 18,.bin .eql (.t 17) (.c (.i .i64 0)),none⟩,
 ⟨some 19,.call GB [.t 16,.t 18],none⟩,
 ⟨some 5,.mv (.t 19),none⟩]))))))
 (.seq (.seq (.reg [⟨some 33,.mv (.t 5),none⟩,
 ⟨some 34,.un .not (.t 33),none⟩])
 (.cond (.t 34)
 (.seq (.reg [⟨some 2,.mv (.c (.b false)),none⟩])
 .ret)
 .skip))
 (.seq (.seq (.reg [⟨some 35,.mv (.t 3),none⟩,
 ⟨some 36,.bin .eql (.t 35) (.c (.i .i64 0)),none⟩])
 (.cond (.t 36)
 (.exit 1)
 .skip))
 (.seq (.reg [⟨some 37,.fa 0 (.t 1),none⟩,
 ⟨some 38,.ld false 1 (.t 37),none⟩,
 ⟨some 39,.mv (.t 3),none⟩,
 ⟨some 40,.bin .sub (.t 39) (.c (.i .i64 1)),none⟩,
 ⟨some 41,.ia 3 (.t 38) (.t 40),none⟩,
 ⟨some 42,.ld true 3 (.t 41),none⟩,
 ⟨some 6,.alloc 85 [(.b false),(.s []),(.b false)],none⟩,
 ⟨none,.st 3 (.t 6) (.t 42),none⟩])
 (.seq (.reg [⟨some 43,.fa 2 (.t 4),none⟩,
 ⟨some 44,.ld false 1 (.t 43),none⟩,
 ⟨some 45,.fa 2 (.t 6),none⟩,
 ⟨some 46,.ld false 1 (.t 45),none⟩,
 ⟨some 47,.eq .bool false (.t 44) (.t 46),none⟩,
 ⟨some 48,.mv (.t 47),none⟩,
 ⟨some 49,.fa 0 (.t 4),some (48,true)⟩,
 ⟨some 50,.ld false 1 (.t 49),some (48,true)⟩,
 ⟨some 51,.un .not (.t 50),some (48,true)⟩,
 ⟨some 52,.mv (.t 51),some (48,true)⟩,
 ⟨some 53,.fa 0 (.t 6),some (52,true)⟩,
 ⟨some 54,.ld false 1 (.t 53),some (52,true)⟩,
 ⟨some 55,.un .not (.t 54),some (52,true)⟩,
 ⟨some 56,.pick (.t 52) (.t 55) (.c (.b false)),some (48,true)⟩,
 ⟨some 57,.mv (.t 56),some (48,true)⟩,
 ⟨some 58,.fa 2 (.t 4),some (57,false)⟩,
 ⟨some 59,.ld false 1 (.t 58),some (57,false)⟩,
 ⟨some 60,.mv (.t 59),some (57,false)⟩,
 ⟨some 61,.fa 1 (.t 4),some (60,true)⟩,
 ⟨some 62,.ld false 1 (.t 61),some (60,true)⟩,
 ⟨some 63,.bin .eql (.t 62) (.c (.s [])),some (60,true)⟩,
 ⟨some 64,.mv (.t 63),some (60,true)⟩,
 ⟨some 65,.fa 1 (.t 6),some (64,false)⟩,
 ⟨some 66,.ld false 1 (.t 65),some (64,false)⟩,
 ⟨some 67,.bin .eql (.t 66) (.c (.s [])),some (64,false)⟩,
 ⟨some 68,.pick (.t 64) (.c (.b true)) (.t 67),some (60,true)⟩,
 ⟨some 69,.pick (.t 60) (.t 68) (.c (.b false)),some (57,false)⟩,
 ⟨some 70,.pick (.t 57) (.c (.b true)) (.t 69),some (48,true)⟩,
 ⟨some 71,.pick (.t 48) (.t 70) (.c (.b false)),none⟩])
 (.cond (.t 71)
 (.seq (.reg [⟨some 2,.mv (.c (.b false)),none⟩])
 .ret)
 .skip)))))))))
 (.reg [⟨some 72,.bin .add (.t 10) (.c (.i .i64 1)),none⟩,
 ⟨some 10,.mv (.t 72),none⟩])))))))
 (.seq (.reg [⟨some 73,.fa 0 (.t 1),none⟩,
 ⟨some 74,.ld false 1 (.t 73),none⟩,
 ⟨some 75,.len 1 (.t 74),none⟩,
 ⟨some 76,.bin .gtr (.t 75) (.c (.i .i64 0)),none⟩,
 ⟨some 2,.mv (.t 76),none⟩])
 .ret))) }
def AW : Fun := { cin := [(.sl 4 (.agg [.id,.id,(.sl 2 (.agg [(.sl 3 (.agg [.id,.id,.id])),.id])),(.sl 4 (.agg [.id,.id,(.sl 2 (.agg [.id,.id])),(.sl 4 (.agg [.id,.id,.id,.id]))]))])),.id],cout := [.id],ntmps := 19,keep := false,res := [(4,none)],body :=
 (.seq (.reg [⟨some 4,.mv (.c (.i .i64 0)),none⟩])
 (.seq (.seq (.reg [⟨some 6,.mv (.t 0),none⟩,
 ⟨some 7,.len 1 (.t 6),none⟩,
 ⟨some 8,.mv (.c (.i .i64 0)),none⟩])
 (.blk 0 (.loop (.seq (.reg [⟨some 9,.bin .lss (.t 8) (.t 7),none⟩])
 (.seq (.cond (.t 9)
 .skip
 (.exit 0))
 (.seq (.blk 1 (.seq (.reg [⟨some 10,.mv (.t 8),none⟩,
 ⟨some 5,.mv (.t 10),none⟩])
 (.seq (.reg [⟨some 11,.mv (.t 1),none⟩,
 ⟨some 12,.mv (.t 0),none⟩,
 ⟨some 13,.mv (.t 5),none⟩,
 ⟨some 14,.ia 4 (.t 12) (.t 13),none⟩,
 ⟨some 15,.ld true 4 (.t 14),none⟩,
 ⟨some 16,.callX (.t 11) [.t 15],none⟩])
 (.cond (.t 16)
 (.seq (.reg [⟨some 17,.mv (.t 5),none⟩,
 ⟨some 4,.mv (.t 17),none⟩])
 .ret)
 .skip))))
 (.reg [⟨some 18,.bin .add (.t 8) (.c (.i .i64 1)),none⟩,
 ⟨some 8,.mv (.t 18),none⟩])))))))
 (.seq (.reg [⟨some 4,.mv (.c (.i .i64 (-1))),none⟩])
 .ret))) }
def Dz : Fun := { cin := [],cout := [],ntmps := 0,keep := false,res := [],body := .bad,prim := some El }
def Cq : Fun := { cin := [.id,.id],cout := [.id],ntmps := 8,keep := false,res := [(4,none)],body :=
 (.seq (.reg [⟨some 4,.mv (.c (.i .i64 0)),none⟩])
 (.seq (.reg [⟨some 5,.mv (.t 0),none⟩,
 ⟨some 6,.mv (.t 1),none⟩,
 ⟨some 7,.call Bm [.t 5,.t 6],none⟩,
 ⟨some 4,.mv (.t 7),none⟩])
 .ret)) }
def Br : Fun := { cin := [.id],cout := [],ntmps := 32,keep := false,res := [],body :=
 (.seq (.reg [⟨some 3,.box 118 1 (.t 0),none⟩])
 (.seq (.seq (.reg [⟨some 8,.ld false 1 (.t 3),none⟩,
 ⟨some 9,.ld false 1 (.t 1),none⟩,
 ⟨some 10,.ld true 4 (.t 2),none⟩,
 ⟨some 11,.callX (.t 8) [.t 9,.t 10],none⟩,
 ⟨some 12,.un .not (.t 11),none⟩])
 (.cond (.t 12)
 .ret
 .skip))
 (.seq (.reg [⟨some 13,.fa 3 (.t 2),none⟩,
 ⟨some 14,.ld false 1 (.t 13),none⟩,
 ⟨some 15,.len 1 (.t 14),none⟩,
 ⟨some 16,.mv (.c (.i .i64 0)),none⟩])
 (.blk 0 (.loop (.seq (.reg [⟨some 17,.bin .lss (.t 16) (.t 15),none⟩])
 (.seq (.cond (.t 17)
 .skip
 (.exit 0))
 (.seq (.blk 1 (.seq (.reg [⟨some 18,.ia 4 (.t 14) (.t 16),none⟩,
 ⟨some 19,.ld true 4 (.t 18),none⟩,
 ⟨some 5,.alloc 25 [(.i .u8 0),(.s []),.nsl,.nsl],none⟩,
 ⟨none,.st 4 (.t 5) (.t 19),none⟩])
 (.seq (.reg [⟨some 20,.ld true 4 (.t 5),none⟩,
 ⟨some 21,.ld false 1 (.t 1),none⟩,
 ⟨some 22,.bin .add (.t 21) (.c (.i .i64 1)),none⟩,
 ⟨some 23,.call Em [.t 20,.t 22],none⟩])
 (.blk 2 (.rf (.t 23) [24,25] (.seq (.reg [⟨some 6,.mv (.t 24),none⟩])
 (.reg [⟨some 7,.alloc 25 [(.i .u8 0),(.s []),.nsl,.nsl],none⟩,
 ⟨none,.st 4 (.t 7) (.t 25),none⟩]))
 (.blk 3 (.seq (.reg [⟨some 26,.ld false 1 (.t 3),none⟩,
 ⟨some 27,.mv (.t 6),none⟩,
 ⟨some 28,.ld true 4 (.t 7),none⟩,
 ⟨some 29,.callX (.t 26) [.t 27,.t 28],none⟩,
 ⟨some 30,.un .not (.t 29),none⟩])
 (.cond (.t 30)
 .ret
 .skip))))))))
 (.reg [⟨some 31,.bin .add (.t 16) (.c (.i .i64 1)),none⟩,
 ⟨some 16,.mv (.t 31),none⟩]))))))))) }
def GD : Fun := { cin := [.id,.id,.id],cout := [.id],ntmps := 10,keep := false,res := [(6,none)],body :=
 (.seq (.reg [⟨some 6,.mv (.c (.s [])),none⟩])
 (.seq (.seq (.reg [⟨some 7,.mv (.t 0),none⟩])
 (.cond (.t 7)
 (.seq (.reg [⟨some 8,.mv (.t 1),none⟩,
 ⟨some 6,.mv (.t 8),none⟩])
 .ret)
 .skip))
 (.seq (.reg [⟨some 9,.mv (.t 2),none⟩,
 ⟨some 6,.mv (.t 9),none⟩])
 .ret))) }
def D0 : Fun := { cin := [.id],cout := [.id],ntmps := 9,keep := false,res := [(2,none)],body :=
 (.seq (.reg [⟨some 2,.mv (.c (.s [])),none⟩])
 (.seq (.reg [⟨some 3,.mv (.t 0),none⟩,
 ⟨some 4,.len 0 (.t 3),none⟩,
 ⟨some 5,.call E0 [.t 4],none⟩,
 ⟨some 6,.bin .add (.t 5) (.c (.s [58])),none⟩,
 ⟨some 7,.mv (.t 0),none⟩,
 ⟨some 8,.bin .add (.t 6) (.t 7),none⟩,
 ⟨some 2,.mv (.t 8),none⟩])
 .ret)) }
def Cb : Fun := { cin := [.id],cout := [.id],ntmps := 35,keep := false,res := [(2,none)],body :=
 (.seq (.reg [⟨some 2,.mv (.c (.i .i64 0)),none⟩])
 (.seq (.seq (.reg [⟨some 4,.mv (.t 0),none⟩,
 ⟨some 5,.bin .eql (.t 4) (.c (.s [])),none⟩,
 ⟨some 6,.mv (.t 5),none⟩,
 ⟨some 7,.mv (.t 0),some (6,false)⟩,
 ⟨some 8,.ixS (.t 7) (.c (.i .i64 0)),some (6,false)⟩,
 ⟨some 9,.call EB [.t 8],some (6,false)⟩,
 ⟨some 10,.un .not (.t 9),some (6,false)⟩,
 ⟨some 11,.pick (.t 6) (.c (.b true)) (.t 10),none⟩])
 (.cond (.t 11)
 (.seq (.reg [⟨some 2,.mv (.c (.i .i64 0)),none⟩])
 .ret)
 .skip))
 (.seq (.reg [⟨some 3,.mv (.c (.i .i64 1)),none⟩])
 (.seq (.blk 0 (.loop (.seq (.seq (.reg [⟨some 12,.mv (.t 3),none⟩,
 ⟨some 13,.mv (.t 0),none⟩,
 ⟨some 14,.len 0 (.t 13),none⟩,
 ⟨some 15,.bin .lss (.t 12) (.t 14),none⟩,
 ⟨some 16,.mv (.t 15),none⟩,
 ⟨some 17,.mv (.t 3),some (16,true)⟩,
 ⟨some 18,.bin .lss (.t 17) (.c (.i .i64 64)),some (16,true)⟩,
 ⟨some 19,.pick (.t 16) (.t 18) (.c (.b false)),none⟩,
 ⟨some 20,.mv (.t 19),none⟩,
 ⟨some 21,.mv (.t 0),some (20,true)⟩,
 ⟨some 22,.mv (.t 3),some (20,true)⟩,
 ⟨some 23,.ixS (.t 21) (.t 22),some (20,true)⟩,
 ⟨some 24,.call EB [.t 23],some (20,true)⟩,
 ⟨some 25,.mv (.t 24),some (20,true)⟩,
 ⟨some 26,.mv (.t 0),some (25,false)⟩,
 ⟨some 27,.mv (.t 3),some (25,false)⟩,
 ⟨some 28,.ixS (.t 26) (.t 27),some (25,false)⟩,
 ⟨some 29,.call GC [.t 28],some (25,false)⟩,
 ⟨some 30,.pick (.t 25) (.c (.b true)) (.t 29),some (20,true)⟩,
 ⟨some 31,.pick (.t 20) (.t 30) (.c (.b false)),none⟩])
 (.cond (.t 31)
 .skip
 (.exit 0)))
 (.blk 1 (.reg [⟨some 32,.mv (.t 3),none⟩,
 ⟨some 33,.bin .add (.t 32) (.c (.i .i64 1)),none⟩,
 ⟨some 3,.mv (.t 33),none⟩])))))
 (.seq (.reg [⟨some 34,.mv (.t 3),none⟩,
 ⟨some 2,.mv (.t 34),none⟩])
 .ret))))) }
def AR : Fun := { cin := [.id,.id],cout := [.id],ntmps := 18,keep := false,res := [(4,none)],body :=
 (.seq (.reg [⟨some 4,.mv (.c (.b false)),none⟩])
 (.seq (.reg [⟨some 5,.mv (.t 0),none⟩,
 ⟨some 6,.len 0 (.t 5),none⟩,
 ⟨some 7,.mv (.t 1),none⟩,
 ⟨some 8,.len 0 (.t 7),none⟩,
 ⟨some 9,.bin .geq (.t 6) (.t 8),none⟩,
 ⟨some 10,.mv (.t 9),none⟩,
 ⟨some 11,.mv (.t 0),some (10,true)⟩,
 ⟨some 12,.mv (.t 1),some (10,true)⟩,
 ⟨some 13,.len 0 (.t 12),some (10,true)⟩,
 ⟨some 14,.slS (.t 11) none (some (.t 13)),some (10,true)⟩,
 ⟨some 15,.mv (.t 1),some (10,true)⟩,
 ⟨some 16,.bin .eql (.t 14) (.t 15),some (10,true)⟩,
 ⟨some 17,.pick (.t 10) (.t 16) (.c (.b false)),none⟩,
 ⟨some 4,.mv (.t 17),none⟩])
 .ret)) }
def Bb : Fun := { cin := [.id,.id],cout := [.id],ntmps := 26,keep := false,res := [(4,none)],body :=
 (.seq (.reg [⟨some 4,.mv (.c (.b false)),none⟩])
 (.seq (.reg [⟨some 5,.mv (.t 0),none⟩,
 ⟨some 6,.bin .neq (.t 5) (.c (.s [])),none⟩,
 ⟨some 7,.mv (.t 6),none⟩,
 ⟨some 8,.mv (.t 0),some (7,true)⟩,
 ⟨some 9,.call Co [(.t 8),(.c (.s [32,9,10,39,34,92,36,59,38,124,60,62,40,41,42,63,91,96,0]))],some (7,true)⟩,
 ⟨some 10,.un .not (.t 9),some (7,true)⟩,
 ⟨some 11,.pick (.t 7) (.t 10) (.c (.b false)),none⟩,
 ⟨some 12,.mv (.t 11),none⟩,
 ⟨some 13,.mv (.t 1),some (12,true)⟩,
 ⟨some 14,.mv (.t 13),some (12,true)⟩,
 ⟨some 15,.mv (.t 0),some (14,true)⟩,
 ⟨some 16,.ixS (.t 15) (.c (.i .i64 0)),some (14,true)⟩,
 ⟨some 17,.bin .eql (.t 16) (.c (.i .u8 35)),some (14,true)⟩,
 ⟨some 18,.mv (.t 17),some (14,true)⟩,
 ⟨some 19,.mv (.t 0),some (18,false)⟩,
 ⟨some 20,.ixS (.t 19) (.c (.i .i64 0)),some (18,false)⟩,
 ⟨some 21,.bin .eql (.t 20) (.c (.i .u8 126)),some (18,false)⟩,
 ⟨some 22,.pick (.t 18) (.c (.b true)) (.t 21),some (14,true)⟩,
 ⟨some 23,.pick (.t 14) (.t 22) (.c (.b false)),some (12,true)⟩,
 ⟨some 24,.un .not (.t 23),some (12,true)⟩,
 ⟨some 25,.pick (.t 12) (.t 24) (.c (.b false)),none⟩,
 ⟨some 4,.mv (.t 25),none⟩])
 .ret)) }
def Aw : Fun := { cin := [.id,.id],cout := [.id],ntmps := 143,keep := false,res := [(4,none)],body :=
 (.seq (.reg [⟨some 4,.mv (.c (.i .i64 0)),none⟩])
 (.seq (.reg [⟨some 14,.mv (.t 1),none⟩,
 ⟨some 15,.len 0 (.t 14),none⟩,
 ⟨some 5,.mv (.t 15),none⟩])
 (.seq (.blk 0 (.seq (.reg [⟨some 17,.mv (.t 5),none⟩,
 ⟨some 18,.bin .eql (.t 17) (.c (.i .i64 0)),none⟩,
 ⟨some 19,.mv (.t 18),none⟩,
 ⟨some 20,.mv (.t 1),some (19,false)⟩,
 ⟨some 21,.mv (.t 0),some (19,false)⟩,
 ⟨some 22,.bin .eql (.t 20) (.t 21),some (19,false)⟩,
 ⟨some 23,.pick (.t 19) (.c (.b true)) (.t 22),none⟩,
 ⟨some 16,.mv (.t 23),none⟩])
 (.cond (.t 16)
 (.seq (.reg [⟨some 4,.mv (.c (.i .i64 0)),none⟩])
 .ret)
 (.seq (.reg [⟨some 25,.mv (.t 5),none⟩,
 ⟨some 26,.bin .eql (.t 25) (.c (.i .i64 1)),none⟩,
 ⟨some 24,.mv (.t 26),none⟩])
 (.cond (.t 24)
 (.seq (.reg [⟨some 27,.mv (.t 0),none⟩,
 ⟨some 28,.mv (.t 1),none⟩,
 ⟨some 29,.ixS (.t 28) (.c (.i .i64 0)),none⟩,
 ⟨some 30,.call Ak [.t 27,.t 29],none⟩,
 ⟨some 4,.mv (.t 30),none⟩])
 .ret)
 (.seq (.reg [⟨some 32,.mv (.t 5),none⟩,
 ⟨some 33,.mv (.t 0),none⟩,
 ⟨some 34,.len 0 (.t 33),none⟩,
 ⟨some 35,.bin .geq (.t 32) (.t 34),none⟩,
 ⟨some 31,.mv (.t 35),none⟩])
 (.cond (.t 31)
 (.seq (.reg [⟨some 4,.mv (.c (.i .i64 (-1))),none⟩])
 .ret)
 (.seq (.reg [⟨some 37,.mv (.t 5),none⟩,
 ⟨some 38,.bad,none⟩,
 ⟨some 39,.bin .leq (.t 37) (.t 38),none⟩,
 ⟨some 40,.mv (.t 39),none⟩,
 ⟨some 41,.mv (.t 0),some (40,true)⟩,
 ⟨some 42,.len 0 (.t 41),some (40,true)⟩,
 ⟨some 43,.bin .leq (.t 42) (.c (.i .i64 64)),some (40,true)⟩,
 ⟨some 44,.pick (.t 40) (.t 43) (.c (.b false)),none⟩,
 ⟨some 36,.mv (.t 44),none⟩])
 (.cond (.t 36)
 (.seq (.reg [⟨some 45,.mv (.t 0),none⟩,
 ⟨some 46,.mv (.t 1),none⟩,
 ⟨some 47,.bad,none⟩,
 ⟨some 4,.mv (.t 47),none⟩])
 .ret)
 .skip)))))))))
 (.seq (.reg [⟨some 48,.mv (.t 1),none⟩,
 ⟨some 49,.ixS (.t 48) (.c (.i .i64 0)),none⟩,
 ⟨some 6,.mv (.t 49),none⟩])
 (.seq (.reg [⟨some 50,.mv (.t 1),none⟩,
 ⟨some 51,.ixS (.t 50) (.c (.i .i64 1)),none⟩,
 ⟨some 7,.mv (.t 51),none⟩])
 (.seq (.reg [⟨some 8,.mv (.c (.i .i64 0)),none⟩])
 (.seq (.reg [⟨some 52,.mv (.t 0),none⟩,
 ⟨some 53,.len 0 (.t 52),none⟩,
 ⟨some 54,.mv (.t 5),none⟩,
 ⟨some 55,.bin .sub (.t 53) (.t 54),none⟩,
 ⟨some 56,.bin .add (.t 55) (.c (.i .i64 1)),none⟩,
 ⟨some 9,.mv (.t 56),none⟩])
 (.seq (.reg [⟨some 10,.mv (.c (.i .i64 0)),none⟩])
 (.seq (.blk 1 (.loop (.seq (.seq (.reg [⟨some 57,.mv (.t 8),none⟩,
 ⟨some 58,.mv (.t 9),none⟩,
 ⟨some 59,.bin .lss (.t 57) (.t 58),none⟩])
 (.cond (.t 59)
 .skip
 (.exit 1)))
 (.blk 2 (.seq (.seq (.reg [⟨some 60,.mv (.t 0),none⟩,
 ⟨some 61,.mv (.t 8),none⟩,
 ⟨some 62,.ixS (.t 60) (.t 61),none⟩,
 ⟨some 63,.mv (.t 6),none⟩,
 ⟨some 64,.bin .neq (.t 62) (.t 63),none⟩])
 (.cond (.t 64)
 (.seq (.reg [⟨some 65,.mv (.t 0),none⟩,
 ⟨some 66,.mv (.t 8),none⟩,
 ⟨some 67,.bin .add (.t 66) (.c (.i .i64 1)),none⟩,
 ⟨some 68,.mv (.t 9),none⟩,
 ⟨some 69,.slS (.t 65) (some (.t 67)) (some (.t 68)),none⟩,
 ⟨some 70,.mv (.t 6),none⟩,
 ⟨some 71,.call Ak [.t 69,.t 70],none⟩,
 ⟨some 11,.mv (.t 71),none⟩])
 (.seq (.seq (.reg [⟨some 72,.mv (.t 11),none⟩,
 ⟨some 73,.bin .lss (.t 72) (.c (.i .i64 0)),none⟩])
 (.cond (.t 73)
 (.seq (.reg [⟨some 4,.mv (.c (.i .i64 (-1))),none⟩])
 .ret)
 .skip))
 (.reg [⟨some 74,.mv (.t 8),none⟩,
 ⟨some 75,.mv (.t 11),none⟩,
 ⟨some 76,.bin .add (.t 75) (.c (.i .i64 1)),none⟩,
 ⟨some 77,.bin .add (.t 74) (.t 76),none⟩,
 ⟨some 8,.mv (.t 77),none⟩])))
 .skip))
 (.seq (.seq (.reg [⟨some 78,.mv (.t 0),none⟩,
 ⟨some 79,.mv (.t 8),none⟩,
 ⟨some 80,.bin .add (.t 79) (.c (.i .i64 1)),none⟩,
 ⟨some 81,.ixS (.t 78) (.t 80),none⟩,
 ⟨some 82,.mv (.t 7),none⟩,
 ⟨some 83,.bin .eql (.t 81) (.t 82),none⟩,
 ⟨some 84,.mv (.t 83),none⟩,
 ⟨some 85,.mv (.t 0),some (84,true)⟩,
 ⟨some 86,.mv (.t 8),some (84,true)⟩,
 ⟨some 87,.mv (.t 8),some (84,true)⟩,
 ⟨some 88,.mv (.t 5),some (84,true)⟩,
 ⟨some 89,.bin .add (.t 87) (.t 88),some (84,true)⟩,
 ⟨some 90,.slS (.t 85) (some (.t 86)) (some (.t 89)),some (84,true)⟩,
 ⟨some 91,.mv (.t 1),some (84,true)⟩,
 ⟨some 92,.bin .eql (.t 90) (.t 91),some (84,true)⟩,
 ⟨some 93,.pick (.t 84) (.t 92) (.c (.b false)),none⟩])
 (.cond (.t 93)
 (.seq (.reg [⟨some 94,.mv (.t 8),none⟩,
 ⟨some 4,.mv (.t 94),none⟩])
 .ret)
 .skip))
 (.seq (.reg [⟨some 95,.mv (.t 8),none⟩,
 ⟨some 96,.bin .add (.t 95) (.c (.i .i64 1)),none⟩,
 ⟨some 8,.mv (.t 96),none⟩])
 (.seq (.reg [⟨some 97,.mv (.t 10),none⟩,
 ⟨some 98,.bin .add (.t 97) (.c (.i .i64 1)),none⟩,
 ⟨some 10,.mv (.t 98),none⟩])
 (.seq (.reg [⟨some 99,.mv (.t 5),none⟩,
 ⟨some 100,.bad,none⟩,
 ⟨some 101,.bin .leq (.t 99) (.t 100),none⟩,
 ⟨some 102,.mv (.t 101),none⟩,
 ⟨some 103,.mv (.t 10),some (102,true)⟩,
 ⟨some 104,.mv (.t 8),some (102,true)⟩,
 ⟨some 105,.call B5 [.t 104],some (102,true)⟩,
 ⟨some 106,.bin .gtr (.t 103) (.t 105),some (102,true)⟩,
 ⟨some 107,.pick (.t 102) (.t 106) (.c (.b false)),none⟩])
 (.cond (.t 107)
 (.seq (.reg [⟨some 108,.mv (.t 0),none⟩,
 ⟨some 109,.mv (.t 8),none⟩,
 ⟨some 110,.slS (.t 108) (some (.t 109)) none,none⟩,
 ⟨some 111,.mv (.t 1),none⟩,
 ⟨some 112,.bad,none⟩,
 ⟨some 12,.mv (.t 112),none⟩])
 (.seq (.seq (.reg [⟨some 113,.mv (.t 12),none⟩,
 ⟨some 114,.bin .geq (.t 113) (.c (.i .i64 0)),none⟩])
 (.cond (.t 114)
 (.seq (.reg [⟨some 115,.mv (.t 12),none⟩,
 ⟨some 116,.mv (.t 8),none⟩,
 ⟨some 117,.bin .add (.t 115) (.t 116),none⟩,
 ⟨some 4,.mv (.t 117),none⟩])
 .ret)
 .skip))
 (.seq (.reg [⟨some 4,.mv (.c (.i .i64 (-1))),none⟩])
 .ret)))
 (.seq (.reg [⟨some 118,.mv (.t 5),none⟩,
 ⟨some 119,.bad,none⟩,
 ⟨some 120,.bin .gtr (.t 118) (.t 119),none⟩,
 ⟨some 121,.mv (.t 120),none⟩,
 ⟨some 122,.mv (.t 10),some (121,true)⟩,
 ⟨some 123,.mv (.t 8),some (121,true)⟩,
 ⟨some 124,.bin .shr (.t 123) (.c (.i .u64 4)),some (121,true)⟩,
 ⟨some 125,.bin .add (.c (.i .i64 4)) (.t 124),some (121,true)⟩,
 ⟨some 126,.bin .geq (.t 122) (.t 125),some (121,true)⟩,
 ⟨some 127,.pick (.t 121) (.t 126) (.c (.b false)),none⟩,
 ⟨some 128,.mv (.t 127),none⟩,
 ⟨some 129,.mv (.t 8),some (128,true)⟩,
 ⟨some 130,.mv (.t 9),some (128,true)⟩,
 ⟨some 131,.bin .lss (.t 129) (.t 130),some (128,true)⟩,
 ⟨some 132,.pick (.t 128) (.t 131) (.c (.b false)),none⟩])
 (.cond (.t 132)
 (.seq (.reg [⟨some 133,.mv (.t 0),none⟩,
 ⟨some 134,.mv (.t 8),none⟩,
 ⟨some 135,.slS (.t 133) (some (.t 134)) none,none⟩,
 ⟨some 136,.mv (.t 1),none⟩,
 ⟨some 137,.call BX [.t 135,.t 136],none⟩,
 ⟨some 13,.mv (.t 137),none⟩])
 (.seq (.seq (.reg [⟨some 138,.mv (.t 13),none⟩,
 ⟨some 139,.bin .lss (.t 138) (.c (.i .i64 0)),none⟩])
 (.cond (.t 139)
 (.seq (.reg [⟨some 4,.mv (.c (.i .i64 (-1))),none⟩])
 .ret)
 .skip))
 (.seq (.reg [⟨some 140,.mv (.t 8),none⟩,
 ⟨some 141,.mv (.t 13),none⟩,
 ⟨some 142,.bin .add (.t 140) (.t 141),none⟩,
 ⟨some 4,.mv (.t 142),none⟩])
 .ret)))
 .skip))))))))))))
 (.seq (.reg [⟨some 4,.mv (.c (.i .i64 (-1))),none⟩])
 .ret)))))))))) }
def E2 : Fun := { cin := [],cout := [],ntmps := 0,keep := false,res := [],body := .bad,prim := some (Ho G6) }
def Cc : Fun := { cin := [.id],cout := [.id],ntmps := 15,keep := false,res := [(2,none)],body :=
 (.seq (.reg [⟨some 2,.mv (.c (.b false)),none⟩])
 (.seq (.reg [⟨some 3,.mv (.t 0),none⟩,
 ⟨some 4,.bin .eql (.t 3) (.c (.i .u8 95)),none⟩,
 ⟨some 5,.mv (.t 4),none⟩,
 ⟨some 6,.mv (.t 0),some (5,false)⟩,
 ⟨some 7,.bin .or (.t 6) (.c (.i .u8 32)),some (5,false)⟩,
 ⟨some 8,.bin .geq (.t 7) (.c (.i .u8 97)),some (5,false)⟩,
 ⟨some 9,.mv (.t 8),some (5,false)⟩,
 ⟨some 10,.mv (.t 0),some (9,true)⟩,
 ⟨some 11,.bin .or (.t 10) (.c (.i .u8 32)),some (9,true)⟩,
 ⟨some 12,.bin .leq (.t 11) (.c (.i .u8 122)),some (9,true)⟩,
 ⟨some 13,.pick (.t 9) (.t 12) (.c (.b false)),some (5,false)⟩,
 ⟨some 14,.pick (.t 5) (.c (.b true)) (.t 13),none⟩,
 ⟨some 2,.mv (.t 14),none⟩])
 .ret)) }
def DJ : Fun := { cin := [.id],cout := [.id],ntmps := 9,keep := false,res := [(2,none)],body :=
 (.seq (.reg [⟨some 2,.mv (.c (.b false)),none⟩])
 (.seq (.reg [⟨some 3,.mv (.t 0),none⟩,
 ⟨some 4,.bin .geq (.t 3) (.c (.i .u8 48)),none⟩,
 ⟨some 5,.mv (.t 4),none⟩,
 ⟨some 6,.mv (.t 0),some (5,true)⟩,
 ⟨some 7,.bin .leq (.t 6) (.c (.i .u8 57)),some (5,true)⟩,
 ⟨some 8,.pick (.t 5) (.t 7) (.c (.b false)),none⟩,
 ⟨some 2,.mv (.t 8),none⟩])
 .ret)) }
def Bc : Fun := { cin := [.id,.id],cout := [.id],ntmps := 9,keep := false,res := [(4,none)],body :=
 (.seq (.reg [⟨some 4,.mv (.c (.b false)),none⟩])
 (.seq (.reg [⟨some 5,.mv (.t 0),none⟩,
 ⟨some 6,.mv (.t 1),none⟩,
 ⟨some 7,.call DS [.t 5,.t 6],none⟩,
 ⟨some 8,.bin .geq (.t 7) (.c (.i .i64 0)),none⟩,
 ⟨some 4,.mv (.t 8),none⟩])
 .ret)) }
def Al : Fun := { cin := [.id,.id],cout := [.id],ntmps := 8,keep := false,res := [(4,none)],body :=
 (.seq (.reg [⟨some 4,.mv (.c (.i .i64 0)),none⟩])
 (.seq (.reg [⟨some 5,.mv (.t 0),none⟩,
 ⟨some 6,.mv (.t 1),none⟩,
 ⟨some 7,.xtn 0 [.t 5,.t 6],none⟩,
 ⟨some 4,.mv (.t 7),none⟩])
 .ret)) }
def BT : Fun := { cin := [.id],cout := [.id],ntmps := 6,keep := false,res := [(2,none)],body :=
 (.seq (.reg [⟨some 2,.mv (.c (.i .i64 0)),none⟩])
 (.seq (.reg [⟨some 3,.mv (.t 0),none⟩,
 ⟨some 4,.bin .add (.t 3) (.c (.i .i64 16)),none⟩,
 ⟨some 5,.bin .quo (.t 4) (.c (.i .i64 8)),none⟩,
 ⟨some 2,.mv (.t 5),none⟩])
 .ret)) }
def Ag : Fun := { cin := [.id,.id],cout := [.id],ntmps := 81,keep := false,res := [(4,none)],body :=
 (.seq (.reg [⟨some 4,.mv (.c (.i .i64 0)),none⟩])
 (.seq (.reg [⟨some 12,.mv (.t 1),none⟩,
 ⟨some 13,.call B9 [.t 12],none⟩,
 ⟨some 11,.mv (.t 13),none⟩,
 ⟨some 14,.ext (.t 11) 0,none⟩,
 ⟨some 15,.ext (.t 11) 1,none⟩,
 ⟨some 5,.mv (.t 14),none⟩,
 ⟨some 6,.mv (.t 15),none⟩])
 (.seq (.reg [⟨some 16,.mv (.t 1),none⟩,
 ⟨some 17,.len 0 (.t 16),none⟩,
 ⟨some 7,.mv (.t 17),none⟩])
 (.seq (.reg [⟨some 8,.mv (.c (.i .u32 0)),none⟩])
 (.seq (.seq (.reg [⟨some 9,.mv (.c (.i .i64 0)),none⟩])
 (.blk 0 (.loop (.seq (.seq (.reg [⟨some 18,.mv (.t 9),none⟩,
 ⟨some 19,.mv (.t 7),none⟩,
 ⟨some 20,.bin .lss (.t 18) (.t 19),none⟩])
 (.cond (.t 20)
 .skip
 (.exit 0)))
 (.seq (.blk 1 (.reg [⟨some 23,.mv (.t 8),none⟩,
 ⟨some 24,.bin .mul (.t 23) (.c (.i .u32 16777619)),none⟩,
 ⟨some 25,.mv (.t 0),none⟩,
 ⟨some 26,.mv (.t 9),none⟩,
 ⟨some 27,.ixS (.t 25) (.t 26),none⟩,
 ⟨some 28,.cvI .u32 (.t 27),none⟩,
 ⟨some 29,.bin .add (.t 24) (.t 28),none⟩,
 ⟨some 8,.mv (.t 29),none⟩]))
 (.reg [⟨some 21,.mv (.t 9),none⟩,
 ⟨some 22,.bin .add (.t 21) (.c (.i .i64 1)),none⟩,
 ⟨some 9,.mv (.t 22),none⟩]))))))
 (.seq (.seq (.reg [⟨some 30,.mv (.t 8),none⟩,
 ⟨some 31,.mv (.t 5),none⟩,
 ⟨some 32,.bin .eql (.t 30) (.t 31),none⟩,
 ⟨some 33,.mv (.t 32),none⟩,
 ⟨some 34,.mv (.t 0),some (33,true)⟩,
 ⟨some 35,.mv (.t 7),some (33,true)⟩,
 ⟨some 36,.slS (.t 34) none (some (.t 35)),some (33,true)⟩,
 ⟨some 37,.mv (.t 1),some (33,true)⟩,
 ⟨some 38,.bin .eql (.t 36) (.t 37),some (33,true)⟩,
 ⟨some 39,.pick (.t 33) (.t 38) (.c (.b false)),none⟩])
 (.cond (.t 39)
 (.seq (.reg [⟨some 4,.mv (.c (.i .i64 0)),none⟩])
 .ret)
 .skip))
 (.seq (.seq (.reg [⟨some 40,.mv (.t 7),none⟩,
 ⟨some 10,.mv (.t 40),none⟩])
 (.blk 2 (.loop (.seq (.seq (.reg [⟨some 41,.mv (.t 10),none⟩,
 ⟨some 42,.mv (.t 0),none⟩,
 ⟨some 43,.len 0 (.t 42),none⟩,
 ⟨some 44,.bin .lss (.t 41) (.t 43),none⟩])
 (.cond (.t 44)
 .skip
 (.exit 2)))
 (.blk 3 (.seq (.reg [⟨some 45,.mv (.t 8),none⟩,
 ⟨some 46,.bin .mul (.t 45) (.c (.i .u32 16777619)),none⟩,
 ⟨some 8,.mv (.t 46),none⟩])
 (.seq (.reg [⟨some 47,.mv (.t 8),none⟩,
 ⟨some 48,.mv (.t 0),none⟩,
 ⟨some 49,.mv (.t 10),none⟩,
 ⟨some 50,.ixS (.t 48) (.t 49),none⟩,
 ⟨some 51,.cvI .u32 (.t 50),none⟩,
 ⟨some 52,.bin .add (.t 47) (.t 51),none⟩,
 ⟨some 8,.mv (.t 52),none⟩])
 (.seq (.reg [⟨some 53,.mv (.t 8),none⟩,
 ⟨some 54,.mv (.t 6),none⟩,
 ⟨some 55,.mv (.t 0),none⟩,
 ⟨some 56,.mv (.t 10),none⟩,
 ⟨some 57,.mv (.t 7),none⟩,
 ⟨some 58,.bin .sub (.t 56) (.t 57),none⟩,
 ⟨some 59,.ixS (.t 55) (.t 58),none⟩,
 ⟨some 60,.cvI .u32 (.t 59),none⟩,
 ⟨some 61,.bin .mul (.t 54) (.t 60),none⟩,
 ⟨some 62,.bin .sub (.t 53) (.t 61),none⟩,
 ⟨some 8,.mv (.t 62),none⟩])
 (.seq (.reg [⟨some 63,.mv (.t 10),none⟩,
 ⟨some 64,.bin .add (.t 63) (.c (.i .i64 1)),none⟩,
 ⟨some 10,.mv (.t 64),none⟩])
 (.seq (.reg [⟨some 65,.mv (.t 8),none⟩,
 ⟨some 66,.mv (.t 5),none⟩,
 ⟨some 67,.bin .eql (.t 65) (.t 66),none⟩,
 ⟨some 68,.mv (.t 67),none⟩,
 ⟨some 69,.mv (.t 0),some (68,true)⟩,
 ⟨some 70,.mv (.t 10),some (68,true)⟩,
 ⟨some 71,.mv (.t 7),some (68,true)⟩,
 ⟨some 72,.bin .sub (.t 70) (.t 71),some (68,true)⟩,
 ⟨some 73,.mv (.t 10),some (68,true)⟩,
 ⟨some 74,.slS (.t 69) (some (.t 72)) (some (.t 73)),some (68,true)⟩,
 ⟨some 75,.mv (.t 1),some (68,true)⟩,
 ⟨some 76,.bin .eql (.t 74) (.t 75),some (68,true)⟩,
 ⟨some 77,.pick (.t 68) (.t 76) (.c (.b false)),none⟩])
 (.cond (.t 77)
 (.seq (.reg [⟨some 78,.mv (.t 10),none⟩,
 ⟨some 79,.mv (.t 7),none⟩,
 ⟨some 80,.bin .sub (.t 78) (.t 79),none⟩,
 ⟨some 4,.mv (.t 80),none⟩])
 .ret)
 .skip)))))))))))
 (.seq (.reg [⟨some 4,.mv (.c (.i .i64 (-1))),none⟩])
 .ret)))))))) }
def A9 : Fun := { cin := [.id,.id],cout := [.id],ntmps := 55,keep := false,res := [(4,none)],body :=
 (.seq (.reg [⟨some 4,.mv (.c (.i .i64 0)),none⟩])
 (.seq (.seq (.reg [⟨some 11,.mv (.t 1),none⟩,
 ⟨some 12,.bin .eql (.t 11) (.c (.s [])),none⟩])
 (.cond (.t 12)
 (.seq (.reg [⟨some 4,.mv (.c (.i .i64 (-1))),none⟩])
 .ret)
 .skip))
 (.seq (.seq (.reg [⟨some 13,.mv (.t 1),none⟩,
 ⟨some 14,.len 0 (.t 13),none⟩,
 ⟨some 15,.bin .eql (.t 14) (.c (.i .i64 1)),none⟩])
 (.cond (.t 15)
 (.seq (.reg [⟨some 16,.mv (.t 1),none⟩,
 ⟨some 17,.ixS (.t 16) (.c (.i .i64 0)),none⟩,
 ⟨some 18,.cvI .i32 (.t 17),none⟩,
 ⟨some 5,.mv (.t 18),none⟩])
 (.seq (.seq (.reg [⟨some 19,.mv (.t 5),none⟩,
 ⟨some 20,.bin .geq (.t 19) (.c (.i .i32 128)),none⟩])
 (.cond (.t 20)
 (.reg [⟨some 5,.mv (.c (.i .i32 65533)),none⟩])
 .skip))
 (.seq (.reg [⟨some 21,.mv (.t 0),none⟩,
 ⟨some 22,.mv (.t 5),none⟩,
 ⟨some 23,.call BW [.t 21,.t 22],none⟩,
 ⟨some 4,.mv (.t 23),none⟩])
 .ret)))
 .skip))
 (.seq (.seq (.reg [⟨some 24,.mv (.t 0),none⟩,
 ⟨some 25,.len 0 (.t 24),none⟩,
 ⟨some 26,.call BO [.t 25],none⟩])
 (.cond (.t 26)
 (.seq (.reg [⟨some 28,.mv (.t 1),none⟩,
 ⟨some 29,.call Bx [.t 28],none⟩,
 ⟨some 27,.mv (.t 29),none⟩,
 ⟨some 30,.ext (.t 27) 0,none⟩,
 ⟨some 31,.ext (.t 27) 1,none⟩,
 ⟨some 6,.alloc 184 [.b false,.b false,.b false,.b false,.b false,.b false,.b false,.b false,.b false,.b false,.b false,.b false,.b false,.b false,.b false,.b false,.b false,.b false,.b false,.b false,.b false,.b false,.b false,.b false,.b false,.b false,.b false,.b false,.b false,.b false,.b false,.b false,.b false,.b false,.b false,.b false,.b false,.b false,.b false,.b false,.b false,.b false,.b false,.b false,.b false,.b false,.b false,.b false,.b false,.b false,.b false,.b false,.b false,.b false,.b false,.b false,.b false,.b false,.b false,.b false,.b false,.b false,.b false,.b false,.b false,.b false,.b false,.b false,.b false,.b false,.b false,.b false,.b false,.b false,.b false,.b false,.b false,.b false,.b false,.b false,.b false,.b false,.b false,.b false,.b false,.b false,.b false,.b false,.b false,.b false,.b false,.b false,.b false,.b false,.b false,.b false,.b false,.b false,.b false,.b false,.b false,.b false,.b false,.b false,.b false,.b false,.b false,.b false,.b false,.b false,.b false,.b false,.b false,.b false,.b false,.b false,.b false,.b false,.b false,.b false,.b false,.b false,.b false,.b false,.b false,.b false,.b false,.b false,.b false,.b false,.b false,.b false,.b false,.b false,.b false,.b false,.b false,.b false,.b false,.b false,.b false,.b false,.b false,.b false,.b false,.b false,.b false,.b false,.b false,.b false,.b false,.b false,.b false,.b false,.b false,.b false,.b false,.b false,.b false,.b false,.b false,.b false,.b false,.b false,.b false,.b false,.b false,.b false,.b false,.b false,.b false,.b false,.b false,.b false,.b false,.b false,.b false,.b false,.b false,.b false,.b false,.b false,.b false,.b false,.b false,.b false,.b false,.b false,.b false,.b false,.b false,.b false,.b false,.b false,.b false,.b false,.b false,.b false,.b false,.b false,.b false,.b false,.b false,.b false,.b false,.b false,.b false,.b false,.b false,.b false,.b false,.b false,.b false,.b false,.b false,.b false,.b false,.b false,.b false,.b false,.b false,.b false,.b false,.b false,.b false,.b false,.b false,.b false,.b false,.b false,.b false,.b false,.b false,.b false,.b false,.b false,.b false,.b false,.b false,.b false,.b false,.b false,.b false,.b false,.b false,.b false,.b false,.b false,.b false,.b false,.b false,.b false,.b false,.b false,.b false,.b false],none⟩,
 ⟨none,.st 256 (.t 6) (.t 30),none⟩,
 ⟨some 7,.mv (.t 31),none⟩])
 (.seq (.reg [⟨some 32,.mv (.t 7),none⟩])
 (.cond (.t 32)
 (.seq (.seq (.reg [⟨some 8,.mv (.c (.i .i64 0)),none⟩])
 (.blk 0 (.loop (.seq (.seq (.reg [⟨some 33,.mv (.t 8),none⟩,
 ⟨some 34,.mv (.t 0),none⟩,
 ⟨some 35,.len 0 (.t 34),none⟩,
 ⟨some 36,.bin .lss (.t 33) (.t 35),none⟩])
 (.cond (.t 36)
 .skip
 (.exit 0)))
 (.seq (.blk 1 (.seq (.reg [⟨some 39,.mv (.t 0),none⟩,
 ⟨some 40,.mv (.t 8),none⟩,
 ⟨some 41,.ixS (.t 39) (.t 40),none⟩,
 ⟨some 42,.call BP [.t 6,.t 41],none⟩])
 (.cond (.t 42)
 (.seq (.reg [⟨some 43,.mv (.t 8),none⟩,
 ⟨some 4,.mv (.t 43),none⟩])
 .ret)
 .skip)))
 (.reg [⟨some 37,.mv (.t 8),none⟩,
 ⟨some 38,.bin .add (.t 37) (.c (.i .i64 1)),none⟩,
 ⟨some 8,.mv (.t 38),none⟩]))))))
 (.seq (.reg [⟨some 4,.mv (.c (.i .i64 (-1))),none⟩])
 .ret))
 .skip)))
 .skip))
 (.seq (.seq (.reg [⟨some 44,.mv (.t 0),none⟩,
 ⟨some 45,.siter (.t 44),none⟩])
 (.blk 2 (.loop (.seq (.reg [⟨some 46,.snext (.t 45),none⟩,
 ⟨some 47,.ext (.t 46) 0,none⟩])
 (.seq (.cond (.t 47)
 .skip
 (.exit 2))
 (.blk 3 (.seq (.reg [⟨some 48,.ext (.t 46) 1,none⟩,
 ⟨some 49,.ext (.t 46) 2,none⟩,
 ⟨some 9,.mv (.t 48),none⟩,
 ⟨some 10,.mv (.t 49),none⟩])
 (.seq (.reg [⟨some 50,.mv (.t 1),none⟩,
 ⟨some 51,.mv (.t 10),none⟩,
 ⟨some 52,.call BW [.t 50,.t 51],none⟩,
 ⟨some 53,.bin .geq (.t 52) (.c (.i .i64 0)),none⟩])
 (.cond (.t 53)
 (.seq (.reg [⟨some 54,.mv (.t 9),none⟩,
 ⟨some 4,.mv (.t 54),none⟩])
 .ret)
 .skip)))))))))
 (.seq (.reg [⟨some 4,.mv (.c (.i .i64 (-1))),none⟩])
 .ret)))))) }
def Ax : Fun := { cin := [.id],cout := [.id,.id],ntmps := 39,keep := false,res := [(2,none),(3,none)],body :=
 (.seq (.reg [⟨some 2,.mv (.c (.i .u32 0)),none⟩,
 ⟨some 3,.mv (.c (.i .u32 0)),none⟩])
 (.seq (.reg [⟨some 4,.mv (.c (.i .u32 0)),none⟩])
 (.seq (.seq (.reg [⟨some 5,.mv (.c (.i .i64 0)),none⟩])
 (.blk 0 (.loop (.seq (.seq (.reg [⟨some 9,.mv (.t 5),none⟩,
 ⟨some 10,.mv (.t 0),none⟩,
 ⟨some 11,.len 0 (.t 10),none⟩,
 ⟨some 12,.bin .lss (.t 9) (.t 11),none⟩])
 (.cond (.t 12)
 .skip
 (.exit 0)))
 (.seq (.blk 1 (.reg [⟨some 15,.mv (.t 4),none⟩,
 ⟨some 16,.bin .mul (.t 15) (.c (.i .u32 16777619)),none⟩,
 ⟨some 17,.mv (.t 0),none⟩,
 ⟨some 18,.mv (.t 5),none⟩,
 ⟨some 19,.ixS (.t 17) (.t 18),none⟩,
 ⟨some 20,.cvI .u32 (.t 19),none⟩,
 ⟨some 21,.bin .add (.t 16) (.t 20),none⟩,
 ⟨some 4,.mv (.t 21),none⟩]))
 (.reg [⟨some 13,.mv (.t 5),none⟩,
 ⟨some 14,.bin .add (.t 13) (.c (.i .i64 1)),none⟩,
 ⟨some 5,.mv (.t 14),none⟩]))))))
 (.seq (.reg [⟨some 6,.mv (.c (.i .u32 1)),none⟩,
 ⟨some 7,.mv (.c (.i .u32 16777619)),none⟩])
 (.seq (.seq (.reg [⟨some 22,.mv (.t 0),none⟩,
 ⟨some 23,.len 0 (.t 22),none⟩,
 ⟨some 8,.mv (.t 23),none⟩])
 (.blk 2 (.loop (.seq (.seq (.reg [⟨some 24,.mv (.t 8),none⟩,
 ⟨some 25,.bin .gtr (.t 24) (.c (.i .i64 0)),none⟩])
 (.cond (.t 25)
 .skip
 (.exit 2)))
 (.seq (.blk 3 (.seq (.seq (.reg [⟨some 28,.mv (.t 8),none⟩,
 ⟨some 29,.bin .and (.t 28) (.c (.i .i64 1)),none⟩,
 ⟨some 30,.bin .neq (.t 29) (.c (.i .i64 0)),none⟩])
 (.cond (.t 30)
 (.reg [⟨some 31,.mv (.t 6),none⟩,
 ⟨some 32,.mv (.t 7),none⟩,
 ⟨some 33,.bin .mul (.t 31) (.t 32),none⟩,
 ⟨some 6,.mv (.t 33),none⟩])
 .skip))
 (.reg [⟨some 34,.mv (.t 7),none⟩,
 ⟨some 35,.mv (.t 7),none⟩,
 ⟨some 36,.bin .mul (.t 34) (.t 35),none⟩,
 ⟨some 7,.mv (.t 36),none⟩])))
 (.reg [⟨some 26,.mv (.t 8),none⟩,
 ⟨some 27,.bin .shr (.t 26) (.c (.i .u64 1)),none⟩,
 ⟨some 8,.mv (.t 27),none⟩]))))))
 (.seq (.reg [⟨some 37,.mv (.t 4),none⟩,
 ⟨some 38,.mv (.t 6),none⟩,
 ⟨some 2,.mv (.t 37),none⟩,
 ⟨some 3,.mv (.t 38),none⟩])
 .ret)))))) }
def A2 : Fun := { cin := [.id,.id],cout := [.id],ntmps := 187,keep := false,res := [(4,none)],body :=
 (.seq (.reg [⟨some 4,.mv (.c (.i .i64 0)),none⟩])
 (.blk 0 (.seq (.reg [⟨some 161,.mv (.t 1),none⟩,
 ⟨some 162,.bin .leq (.c (.i .i32 0)) (.t 161),none⟩,
 ⟨some 163,.mv (.t 162),none⟩,
 ⟨some 164,.mv (.t 1),some (163,true)⟩,
 ⟨some 165,.bin .lss (.t 164) (.c (.i .i32 128)),some (163,true)⟩,
 ⟨some 166,.pick (.t 163) (.t 165) (.c (.b false)),none⟩,
 ⟨some 160,.mv (.t 166),none⟩])
 (.cond (.t 160)
 (.seq (.reg [⟨some 167,.mv (.t 0),none⟩,
 ⟨some 168,.mv (.t 1),none⟩,
 ⟨some 169,.cvI .u8 (.t 168),none⟩,
 ⟨some 170,.call Ca [.t 167,.t 169],none⟩,
 ⟨some 4,.mv (.t 170),none⟩])
 .ret)
 (.seq (.reg [⟨some 172,.mv (.t 1),none⟩,
 ⟨some 173,.bin .eql (.t 172) (.c (.i .i32 65533)),none⟩,
 ⟨some 171,.mv (.t 173),none⟩])
 (.cond (.t 171)
 (.seq (.seq (.reg [⟨some 174,.mv (.t 0),none⟩,
 ⟨some 175,.siter (.t 174),none⟩])
 (.blk 9 (.loop (.seq (.reg [⟨some 176,.snext (.t 175),none⟩,
 ⟨some 177,.ext (.t 176) 0,none⟩])
 (.seq (.cond (.t 177)
 .skip
 (.exit 9))
 (.blk 10 (.seq (.reg [⟨some 178,.ext (.t 176) 1,none⟩,
 ⟨some 179,.ext (.t 176) 2,none⟩,
 ⟨some 5,.mv (.t 178),none⟩,
 ⟨some 6,.mv (.t 179),none⟩])
 (.seq (.reg [⟨some 180,.mv (.t 6),none⟩,
 ⟨some 181,.bin .eql (.t 180) (.c (.i .i32 65533)),none⟩])
 (.cond (.t 181)
 (.seq (.reg [⟨some 182,.mv (.t 5),none⟩,
 ⟨some 4,.mv (.t 182),none⟩])
 .ret)
 .skip)))))))))
 (.seq (.reg [⟨some 4,.mv (.c (.i .i64 (-1))),none⟩])
 .ret))
 (.seq (.reg [⟨some 184,.mv (.t 1),none⟩,
 ⟨some 185,.call CS [.t 184],none⟩,
 ⟨some 186,.un .not (.t 185),none⟩,
 ⟨some 183,.mv (.t 186),none⟩])
 (.cond (.t 183)
 (.seq (.reg [⟨some 4,.mv (.c (.i .i64 (-1))),none⟩])
 .ret)
 (.seq (.reg [⟨some 17,.mv (.t 1),none⟩,
 ⟨some 18,.cvRS (.t 17),none⟩,
 ⟨some 7,.mv (.t 18),none⟩])
 (.seq (.reg [⟨some 19,.mv (.t 7),none⟩,
 ⟨some 20,.len 0 (.t 19),none⟩,
 ⟨some 21,.bin .sub (.t 20) (.c (.i .i64 1)),none⟩,
 ⟨some 8,.mv (.t 21),none⟩])
 (.seq (.reg [⟨some 22,.mv (.t 8),none⟩,
 ⟨some 9,.mv (.t 22),none⟩])
 (.seq (.reg [⟨some 10,.mv (.c (.i .i64 0)),none⟩])
 (.seq (.blk 1 (.loop (.seq (.seq (.reg [⟨some 23,.mv (.t 9),none⟩,
 ⟨some 24,.mv (.t 0),none⟩,
 ⟨some 25,.len 0 (.t 24),none⟩,
 ⟨some 26,.bin .lss (.t 23) (.t 25),none⟩])
 (.cond (.t 26)
 .skip
 (.exit 1)))
 (.blk 2 (.seq (.seq (.regD [⟨some 27,.mv (.t 0),none⟩,
 ⟨some 28,.mv (.t 9),none⟩,
 ⟨some 29,.ixS (.t 27) (.t 28),none⟩,
 ⟨some 30,.mv (.t 7),none⟩,
 ⟨some 31,.mv (.t 8),none⟩,
 ⟨some 32,.ixS (.t 30) (.t 31),none⟩,
 ⟨some 33,.bin .neq (.t 29) (.t 32),none⟩] [])
 (.cond (.t 33)
 (.seq (.regD [⟨some 34,.mv (.t 0),none⟩,
 ⟨some 35,.mv (.t 9),none⟩,
 ⟨some 36,.bin .add (.t 35) (.c (.i .i64 1)),none⟩,
 ⟨some 37,.slS (.t 34) (some (.t 36)) none,none⟩,
 ⟨some 38,.mv (.t 7),none⟩,
 ⟨some 39,.mv (.t 8),none⟩,
 ⟨some 40,.ixS (.t 38) (.t 39),none⟩,
 ⟨some 41,.call Ca [.t 37,.t 40],none⟩,
 ⟨some 11,.mv (.t 41),none⟩] [])
 (.seq (.seq (.reg [⟨some 42,.mv (.t 11),none⟩,
 ⟨some 43,.bin .lss (.t 42) (.c (.i .i64 0)),none⟩])
 (.cond (.t 43)
 (.seq (.reg [⟨some 4,.mv (.c (.i .i64 (-1))),none⟩])
 .ret)
 .skip))
 (.reg [⟨some 44,.mv (.t 9),none⟩,
 ⟨some 45,.mv (.t 11),none⟩,
 ⟨some 46,.bin .add (.t 45) (.c (.i .i64 1)),none⟩,
 ⟨some 47,.bin .add (.t 44) (.t 46),none⟩,
 ⟨some 9,.mv (.t 47),none⟩])))
 .skip))
 (.seq (.seq (.reg [⟨some 12,.mv (.c (.i .i64 1)),none⟩])
 (.blk 3 (.loop (.seq (.seq (.reg [⟨some 48,.mv (.t 12),none⟩,
 ⟨some 49,.mv (.t 7),none⟩,
 ⟨some 50,.len 0 (.t 49),none⟩,
 ⟨some 51,.bin .lss (.t 48) (.t 50),none⟩])
 (.cond (.t 51)
 .skip
 (.exit 3)))
 (.seq (.blk 4 (.seq (.regD [⟨some 54,.mv (.t 0),none⟩,
 ⟨some 55,.mv (.t 9),none⟩,
 ⟨some 56,.mv (.t 12),none⟩,
 ⟨some 57,.bin .sub (.t 55) (.t 56),none⟩,
 ⟨some 58,.ixS (.t 54) (.t 57),none⟩,
 ⟨some 59,.mv (.t 7),none⟩,
 ⟨some 60,.mv (.t 8),none⟩,
 ⟨some 61,.mv (.t 12),none⟩,
 ⟨some 62,.bin .sub (.t 60) (.t 61),none⟩,
 ⟨some 63,.ixS (.t 59) (.t 62),none⟩,
 ⟨some 64,.bin .neq (.t 58) (.t 63),none⟩] [])
 (.cond (.t 64)
 .bad
 .skip)))
 (.reg [⟨some 52,.mv (.t 12),none⟩,
 ⟨some 53,.bin .add (.t 52) (.c (.i .i64 1)),none⟩,
 ⟨some 12,.mv (.t 53),none⟩]))))))
 (.seq (.seq (.reg [⟨some 65,.mv (.t 9),none⟩,
 ⟨some 66,.mv (.t 8),none⟩,
 ⟨some 67,.bin .sub (.t 65) (.t 66),none⟩,
 ⟨some 4,.mv (.t 67),none⟩])
 .ret)
 (.seq .skip
 (.seq (.reg [⟨some 68,.mv (.t 10),none⟩,
 ⟨some 69,.bin .add (.t 68) (.c (.i .i64 1)),none⟩,
 ⟨some 10,.mv (.t 69),none⟩])
 (.seq (.reg [⟨some 70,.mv (.t 9),none⟩,
 ⟨some 71,.bin .add (.t 70) (.c (.i .i64 1)),none⟩,
 ⟨some 9,.mv (.t 71),none⟩])
 (.seq (.reg [⟨some 72,.mv (.c (.b true)),none⟩,
 ⟨some 73,.mv (.t 10),some (72,true)⟩,
 ⟨some 74,.mv (.t 9),some (72,true)⟩,
 ⟨some 75,.call B5 [.t 74],some (72,true)⟩,
 ⟨some 76,.bin .gtr (.t 73) (.t 75),some (72,true)⟩,
 ⟨some 77,.pick (.t 72) (.t 76) (.c (.b false)),none⟩,
 ⟨some 78,.mv (.t 77),none⟩,
 ⟨some 79,.mv (.t 9),some (78,true)⟩,
 ⟨some 80,.mv (.t 0),some (78,true)⟩,
 ⟨some 81,.len 0 (.t 80),some (78,true)⟩,
 ⟨some 82,.bin .lss (.t 79) (.t 81),some (78,true)⟩,
 ⟨some 83,.pick (.t 78) (.t 82) (.c (.b false)),none⟩,
 ⟨some 84,.mv (.t 83),none⟩,
 ⟨some 85,.mv (.c (.b false)),some (84,false)⟩,
 ⟨some 86,.mv (.t 10),some (85,true)⟩,
 ⟨some 87,.mv (.t 9),some (85,true)⟩,
 ⟨some 88,.bin .shr (.t 87) (.c (.i .u64 4)),some (85,true)⟩,
 ⟨some 89,.bin .add (.c (.i .i64 4)) (.t 88),some (85,true)⟩,
 ⟨some 90,.bin .geq (.t 86) (.t 89),some (85,true)⟩,
 ⟨some 91,.pick (.t 85) (.t 90) (.c (.b false)),some (84,false)⟩,
 ⟨some 92,.mv (.t 91),some (84,false)⟩,
 ⟨some 93,.mv (.t 9),some (92,true)⟩,
 ⟨some 94,.mv (.t 0),some (92,true)⟩,
 ⟨some 95,.len 0 (.t 94),some (92,true)⟩,
 ⟨some 96,.bin .lss (.t 93) (.t 95),some (92,true)⟩,
 ⟨some 97,.pick (.t 92) (.t 96) (.c (.b false)),some (84,false)⟩,
 ⟨some 98,.pick (.t 84) (.c (.b true)) (.t 97),none⟩])
 (.cond (.t 98)
 .bad
 .skip))))))))))))
 (.seq (.seq (.reg [⟨some 4,.mv (.c (.i .i64 (-1))),none⟩])
 .ret)
 (.seq .skip
 (.seq (.cond (.c (.b true))
 (.seq (.reg [⟨some 99,.mv (.t 0),none⟩,
 ⟨some 100,.mv (.t 9),none⟩,
 ⟨some 101,.mv (.t 8),none⟩,
 ⟨some 102,.bin .sub (.t 100) (.t 101),none⟩,
 ⟨some 103,.slS (.t 99) (some (.t 102)) none,none⟩,
 ⟨some 104,.mv (.t 1),none⟩,
 ⟨some 105,.cvRS (.t 104),none⟩,
 ⟨some 106,.bad,none⟩,
 ⟨some 13,.mv (.t 106),none⟩])
 (.seq (.reg [⟨some 107,.mv (.t 13),none⟩,
 ⟨some 108,.bin .geq (.t 107) (.c (.i .i64 0)),none⟩])
 (.cond (.t 108)
 (.seq (.reg [⟨some 109,.mv (.t 9),none⟩,
 ⟨some 110,.mv (.t 13),none⟩,
 ⟨some 111,.bin .add (.t 109) (.t 110),none⟩,
 ⟨some 112,.mv (.t 8),none⟩,
 ⟨some 113,.bin .sub (.t 111) (.t 112),none⟩,
 ⟨some 4,.mv (.t 113),none⟩])
 .ret)
 .skip)))
 (.seq (.reg [⟨some 114,.mv (.t 7),none⟩,
 ⟨some 115,.mv (.t 8),none⟩,
 ⟨some 116,.ixS (.t 114) (.t 115),none⟩,
 ⟨some 14,.mv (.t 116),none⟩])
 (.seq (.reg [⟨some 117,.mv (.t 7),none⟩,
 ⟨some 118,.mv (.t 8),none⟩,
 ⟨some 119,.bin .sub (.t 118) (.c (.i .i64 1)),none⟩,
 ⟨some 120,.ixS (.t 117) (.t 119),none⟩,
 ⟨some 15,.mv (.t 120),none⟩])
 (.seq .skip
 (.blk 5 (.loop (.seq (.seq (.reg [⟨some 121,.mv (.t 9),none⟩,
 ⟨some 122,.mv (.t 0),none⟩,
 ⟨some 123,.len 0 (.t 122),none⟩,
 ⟨some 124,.bin .lss (.t 121) (.t 123),none⟩])
 (.cond (.t 124)
 .skip
 (.exit 5)))
 (.seq (.blk 6 (.seq (.reg [⟨some 127,.mv (.t 0),none⟩,
 ⟨some 128,.mv (.t 9),none⟩,
 ⟨some 129,.ixS (.t 127) (.t 128),none⟩,
 ⟨some 130,.mv (.t 14),none⟩,
 ⟨some 131,.bin .eql (.t 129) (.t 130),none⟩,
 ⟨some 132,.mv (.t 131),none⟩,
 ⟨some 133,.mv (.t 0),some (132,true)⟩,
 ⟨some 134,.mv (.t 9),some (132,true)⟩,
 ⟨some 135,.bin .sub (.t 134) (.c (.i .i64 1)),some (132,true)⟩,
 ⟨some 136,.ixS (.t 133) (.t 135),some (132,true)⟩,
 ⟨some 137,.mv (.t 15),some (132,true)⟩,
 ⟨some 138,.bin .eql (.t 136) (.t 137),some (132,true)⟩,
 ⟨some 139,.pick (.t 132) (.t 138) (.c (.b false)),none⟩])
 (.cond (.t 139)
 (.seq (.seq (.reg [⟨some 16,.mv (.c (.i .i64 2)),none⟩])
 (.blk 7 (.loop (.seq (.seq (.reg [⟨some 140,.mv (.t 16),none⟩,
 ⟨some 141,.mv (.t 7),none⟩,
 ⟨some 142,.len 0 (.t 141),none⟩,
 ⟨some 143,.bin .lss (.t 140) (.t 142),none⟩])
 (.cond (.t 143)
 .skip
 (.exit 7)))
 (.seq (.blk 8 (.seq (.regD [⟨some 146,.mv (.t 0),none⟩,
 ⟨some 147,.mv (.t 9),none⟩,
 ⟨some 148,.mv (.t 16),none⟩,
 ⟨some 149,.bin .sub (.t 147) (.t 148),none⟩,
 ⟨some 150,.ixS (.t 146) (.t 149),none⟩,
 ⟨some 151,.mv (.t 7),none⟩,
 ⟨some 152,.mv (.t 8),none⟩,
 ⟨some 153,.mv (.t 16),none⟩,
 ⟨some 154,.bin .sub (.t 152) (.t 153),none⟩,
 ⟨some 155,.ixS (.t 151) (.t 154),none⟩,
 ⟨some 156,.bin .neq (.t 150) (.t 155),none⟩] [])
 (.cond (.t 156)
 (.exit 6)
 .skip)))
 (.reg [⟨some 144,.mv (.t 16),none⟩,
 ⟨some 145,.bin .add (.t 144) (.c (.i .i64 1)),none⟩,
 ⟨some 16,.mv (.t 145),none⟩]))))))
 (.seq (.reg [⟨some 157,.mv (.t 9),none⟩,
 ⟨some 158,.mv (.t 8),none⟩,
 ⟨some 159,.bin .sub (.t 157) (.t 158),none⟩,
 ⟨some 4,.mv (.t 159),none⟩])
 .ret))
 .skip)))
 (.reg [⟨some 125,.mv (.t 9),none⟩,
 ⟨some 126,.bin .add (.t 125) (.c (.i .i64 1)),none⟩,
 ⟨some 9,.mv (.t 126),none⟩])))))))))
 (.seq (.reg [⟨some 4,.mv (.c (.i .i64 (-1))),none⟩])
 .ret))))))))))))))))) }
def A3 : Fun := { cin := [.id],cout := [.id],ntmps := 5,keep := false,res := [(2,none)],body :=
 (.seq (.reg [⟨some 2,.mv (.c (.b false)),none⟩])
 (.seq (.reg [⟨some 3,.mv (.t 0),none⟩,
 ⟨some 4,.bin .gtr (.t 3) (.c (.i .i64 8)),none⟩,
 ⟨some 2,.mv (.t 4),none⟩])
 .ret)) }
def Ap : Fun := { cin := [.id],cout := [(.agg [.id,.id,.id,.id,.id,.id,.id,.id,.id,.id,.id,.id,.id,.id,.id,.id,.id,.id,.id,.id,.id,.id,.id,.id,.id,.id,.id,.id,.id,.id,.id,.id,.id,.id,.id,.id,.id,.id,.id,.id,.id,.id,.id,.id,.id,.id,.id,.id,.id,.id,.id,.id,.id,.id,.id,.id,.id,.id,.id,.id,.id,.id,.id,.id,.id,.id,.id,.id,.id,.id,.id,.id,.id,.id,.id,.id,.id,.id,.id,.id,.id,.id,.id,.id,.id,.id,.id,.id,.id,.id,.id,.id,.id,.id,.id,.id,.id,.id,.id,.id,.id,.id,.id,.id,.id,.id,.id,.id,.id,.id,.id,.id,.id,.id,.id,.id,.id,.id,.id,.id,.id,.id,.id,.id,.id,.id,.id,.id,.id,.id,.id,.id,.id,.id,.id,.id,.id,.id,.id,.id,.id,.id,.id,.id,.id,.id,.id,.id,.id,.id,.id,.id,.id,.id,.id,.id,.id,.id,.id,.id,.id,.id,.id,.id,.id,.id,.id,.id,.id,.id,.id,.id,.id,.id,.id,.id,.id,.id,.id,.id,.id,.id,.id,.id,.id,.id,.id,.id,.id,.id,.id,.id,.id,.id,.id,.id,.id,.id,.id,.id,.id,.id,.id,.id,.id,.id,.id,.id,.id,.id,.id,.id,.id,.id,.id,.id,.id,.id,.id,.id,.id,.id,.id,.id,.id,.id,.id,.id,.id,.id,.id,.id,.id,.id,.id,.id,.id,.id,.id,.id,.id,.id,.id,.id,.id,.id,.id,.id,.id,.id,.id,.id,.id,.id,.id,.id]),.id],ntmps := 21,keep := false,res := [(2,some (true,256)),(3,none)],body :=
 (.seq (.reg [⟨some 2,.alloc 184 [.b false,.b false,.b false,.b false,.b false,.b false,.b false,.b false,.b false,.b false,.b false,.b false,.b false,.b false,.b false,.b false,.b false,.b false,.b false,.b false,.b false,.b false,.b false,.b false,.b false,.b false,.b false,.b false,.b false,.b false,.b false,.b false,.b false,.b false,.b false,.b false,.b false,.b false,.b false,.b false,.b false,.b false,.b false,.b false,.b false,.b false,.b false,.b false,.b false,.b false,.b false,.b false,.b false,.b false,.b false,.b false,.b false,.b false,.b false,.b false,.b false,.b false,.b false,.b false,.b false,.b false,.b false,.b false,.b false,.b false,.b false,.b false,.b false,.b false,.b false,.b false,.b false,.b false,.b false,.b false,.b false,.b false,.b false,.b false,.b false,.b false,.b false,.b false,.b false,.b false,.b false,.b false,.b false,.b false,.b false,.b false,.b false,.b false,.b false,.b false,.b false,.b false,.b false,.b false,.b false,.b false,.b false,.b false,.b false,.b false,.b false,.b false,.b false,.b false,.b false,.b false,.b false,.b false,.b false,.b false,.b false,.b false,.b false,.b false,.b false,.b false,.b false,.b false,.b false,.b false,.b false,.b false,.b false,.b false,.b false,.b false,.b false,.b false,.b false,.b false,.b false,.b false,.b false,.b false,.b false,.b false,.b false,.b false,.b false,.b false,.b false,.b false,.b false,.b false,.b false,.b false,.b false,.b false,.b false,.b false,.b false,.b false,.b false,.b false,.b false,.b false,.b false,.b false,.b false,.b false,.b false,.b false,.b false,.b false,.b false,.b false,.b false,.b false,.b false,.b false,.b false,.b false,.b false,.b false,.b false,.b false,.b false,.b false,.b false,.b false,.b false,.b false,.b false,.b false,.b false,.b false,.b false,.b false,.b false,.b false,.b false,.b false,.b false,.b false,.b false,.b false,.b false,.b false,.b false,.b false,.b false,.b false,.b false,.b false,.b false,.b false,.b false,.b false,.b false,.b false,.b false,.b false,.b false,.b false,.b false,.b false,.b false,.b false,.b false,.b false,.b false,.b false,.b false,.b false,.b false,.b false,.b false,.b false,.b false,.b false,.b false,.b false,.b false,.b false,.b false,.b false,.b false,.b false,.b false,.b false,.b false,.b false,.b false,.b false,.b false,.b false],none⟩,
 ⟨some 3,.mv (.c (.b false)),none⟩])
 (.seq (.seq (.reg [⟨some 4,.mv (.c (.i .i64 0)),none⟩])
 (.blk 0 (.loop (.seq (.seq (.reg [⟨some 6,.mv (.t 4),none⟩,
 ⟨some 7,.mv (.t 0),none⟩,
 ⟨some 8,.len 0 (.t 7),none⟩,
 ⟨some 9,.bin .lss (.t 6) (.t 8),none⟩])
 (.cond (.t 9)
 .skip
 (.exit 0)))
 (.seq (.blk 1 (.seq (.reg [⟨some 12,.mv (.t 0),none⟩,
 ⟨some 13,.mv (.t 4),none⟩,
 ⟨some 14,.ixS (.t 12) (.t 13),none⟩,
 ⟨some 5,.mv (.t 14),none⟩])
 (.seq (.seq (.reg [⟨some 15,.mv (.t 5),none⟩,
 ⟨some 16,.bin .geq (.t 15) (.c (.i .u8 128)),none⟩])
 (.cond (.t 16)
 (.seq (.reg [⟨some 17,.ld true 256 (.t 2),none⟩,
 ⟨none,.st 256 (.t 2) (.t 17),none⟩,
 ⟨some 3,.mv (.c (.b false)),none⟩])
 .ret)
 .skip))
 (.reg [⟨some 18,.mv (.t 5),none⟩,
 ⟨some 19,.iaA 256 1 (.t 2) (.t 18),none⟩,
 ⟨none,.st 1 (.t 19) (.c (.b true)),none⟩]))))
 (.reg [⟨some 10,.mv (.t 4),none⟩,
 ⟨some 11,.bin .add (.t 10) (.c (.i .i64 1)),none⟩,
 ⟨some 4,.mv (.t 11),none⟩]))))))
 (.seq (.reg [⟨some 20,.ld true 256 (.t 2),none⟩,
 ⟨none,.st 256 (.t 2) (.t 20),none⟩,
 ⟨some 3,.mv (.c (.b true)),none⟩])
 .ret))) }
def A4 : Fun := { cin := [.id,.id],cout := [.id],ntmps := 10,keep := false,res := [(4,none)],body :=
 (.seq (.reg [⟨some 4,.mv (.c (.b false)),none⟩])
 (.seq (.reg [⟨some 5,.mv (.t 0),none⟩,
 ⟨some 6,.mv (.t 1),none⟩,
 ⟨some 7,.nck (.t 5),none⟩,
 ⟨some 8,.iaA 256 1 (.t 7) (.t 6),none⟩,
 ⟨some 9,.ld false 1 (.t 8),none⟩,
 ⟨some 4,.mv (.t 9),none⟩])
 .ret)) }
def Bv : Fun := { cin := [.id,.id],cout := [.id],ntmps := 8,keep := false,res := [(4,none)],body :=
 (.seq (.reg [⟨some 4,.mv (.c (.i .i64 0)),none⟩])
 (.seq (.reg [⟨some 5,.mv (.t 0),none⟩,
 ⟨some 6,.mv (.t 1),none⟩,
 ⟨some 7,.call Ak [.t 5,.t 6],none⟩,
 ⟨some 4,.mv (.t 7),none⟩])
 .ret)) }
def BH : Fun := { cin := [.id],cout := [.id],ntmps := 17,keep := false,res := [(2,none)],body :=
 (.seq (.reg [⟨some 2,.mv (.c (.b false)),none⟩])
 (.seq (.blk 0 (.seq (.reg [⟨some 4,.mv (.t 0),none⟩,
 ⟨some 5,.bin .leq (.c (.i .i32 0)) (.t 4),none⟩,
 ⟨some 6,.mv (.t 5),none⟩,
 ⟨some 7,.mv (.t 0),some (6,true)⟩,
 ⟨some 8,.bin .lss (.t 7) (.c (.i .i32 55296)),some (6,true)⟩,
 ⟨some 9,.pick (.t 6) (.t 8) (.c (.b false)),none⟩,
 ⟨some 3,.mv (.t 9),none⟩])
 (.cond (.t 3)
 (.seq (.reg [⟨some 2,.mv (.c (.b true)),none⟩])
 .ret)
 (.seq (.reg [⟨some 11,.mv (.t 0),none⟩,
 ⟨some 12,.bin .lss (.c (.i .i32 57343)) (.t 11),none⟩,
 ⟨some 13,.mv (.t 12),none⟩,
 ⟨some 14,.mv (.t 0),some (13,true)⟩,
 ⟨some 15,.bin .leq (.t 14) (.c (.i .i32 1114111)),some (13,true)⟩,
 ⟨some 16,.pick (.t 13) (.t 15) (.c (.b false)),none⟩,
 ⟨some 10,.mv (.t 16),none⟩])
 (.cond (.t 10)
 (.seq (.reg [⟨some 2,.mv (.c (.b true)),none⟩])
 .ret)
 .skip)))))
 (.seq (.reg [⟨some 2,.mv (.c (.b false)),none⟩])
 .ret))) }
def tab : PT := (.n 87 Bp (.n 55 Dt (.n 36 DV (.n 25 Af (.n 18 Er (.n 7 AX .e .e) (.n 23 DT .e .e)) (.n 27 Ao (.n 26 DU .e .e) (.n 29 CA .e .e))) (.n 52 Ds (.n 50 Bn (.n 49 FO .e .e) (.n 51 AL .e .e)) (.n 54 AO (.n 53 C8 .e .e) .e))) (.n 70 DB (.n 63 D7 (.n 60 Fi (.n 59 CB .e .e) (.n 62 Ai .e .e)) (.n 65 E1 (.n 64 EY .e .e) .e)) (.n 84 Cp (.n 72 AI (.n 71 AZ .e .e) (.n 73 AJ .e .e)) (.n 86 Dy (.n 85 CI .e .e) .e)))) (.n 142 Cc (.n 101 GD (.n 91 Cx (.n 89 Aa (.n 88 AQ .e .e) (.n 90 Bu .e .e)) (.n 94 Cq (.n 92 AW .e .e) (.n 95 Br .e .e))) (.n 119 Bb (.n 117 Cb (.n 102 D0 .e .e) (.n 118 AR .e .e)) (.n 125 E2 (.n 120 Aw .e .e) .e))) (.n 165 Ax (.n 147 BT (.n 144 Bc (.n 143 DJ .e .e) (.n 145 Al .e .e)) (.n 163 A9 (.n 148 Ag .e .e) .e)) (.n 173 A4 (.n 171 A3 (.n 170 A2 .e .e) (.n 172 Ap .e .e)) (.n 179 BH (.n 178 Bv .e .e) .e)))))
def prog (n : Nat) : Option Fun := tab.get n
def tabC : PT := (.n 88 AQ (.n 57 Kj (.n 49 FO (.n 24 MU (.n 21 Ki (.n 18 Er .e .e) (.n 23 DT .e .e)) (.n 27 Ao (.n 26 DI .e .e) (.n 29 CA .e .e))) (.n 53 C8 (.n 51 AL (.n 50 Bn .e .e) (.n 52 Ds .e .e)) (.n 55 Dt (.n 54 AO .e .e) .e))) (.n 64 EY (.n 61 Jg (.n 59 CB (.n 58 IZ .e .e) (.n 60 Fi .e .e)) (.n 63 D7 (.n 62 Ai .e .e) .e)) (.n 85 CI (.n 76 EZ (.n 65 E1 .e .e) (.n 84 Cp .e .e)) (.n 87 Bp (.n 86 Dy .e .e) .e)))) (.n 142 Cc (.n 101 GD (.n 92 AW (.n 90 Bu (.n 89 Aa .e .e) (.n 91 Cx .e .e)) (.n 94 Cq (.n 93 Dz .e .e) (.n 95 Br .e .e))) (.n 119 Bb (.n 117 Cb (.n 102 D0 .e .e) (.n 118 AR .e .e)) (.n 125 E2 (.n 120 Aw .e .e) .e))) (.n 165 Ax (.n 147 BT (.n 144 Bc (.n 143 DJ .e .e) (.n 145 Al .e .e)) (.n 163 A9 (.n 148 Ag .e .e) .e)) (.n 173 A4 (.n 171 A3 (.n 170 A2 .e .e) (.n 172 Ap .e .e)) (.n 179 BH (.n 178 Bv .e .e) .e)))))
def progC (n : Nat) : Option Fun := tabC.get n
theorem E3 : prog CH = some AX := rfl
theorem SX : prog HW = some Er := rfl
theorem Qi : prog HX = some DT := rfl
theorem Fu : prog BA = some Af := rfl
theorem Fj : prog Bl = some DU := rfl
theorem Fv : prog Bw = some Ao := rfl
theorem Qj : prog FK = some CA := rfl
theorem Qk : prog FL = some DV := rfl
theorem PC : prog GU = some FO := rfl
theorem Lg : prog Fh = some Bn := rfl
theorem Cr : prog A1 = some AL := rfl
theorem PD : prog FM = some Ds := rfl
theorem SY : prog Lf = some C8 := rfl
theorem C2 : prog A8 = some AO := rfl
theorem PE : prog FN = some Dt := rfl
theorem HY : prog Be = some CB := rfl
theorem SZ : prog Em = some Fi := rfl
theorem Fk : prog CY = some Ai := rfl
theorem Ir : prog D6 = some D7 := rfl
theorem Ql : prog Jf = some EY := rfl
theorem J6 : prog Ez = some E1 := rfl
theorem NR : prog EU = some DB := rfl
theorem DY : prog Ay = some AZ := rfl
theorem Bg : prog AU = some AI := rfl
theorem Bz : prog AY = some AJ := rfl
theorem MV : prog BG = some Cp := rfl
theorem J7 : prog AD = some CI := rfl
theorem MW : prog Ah = some Dy := rfl
theorem MX : prog Eo = some Bp := rfl
theorem C4 : prog BD = some AQ := rfl
theorem DZ : prog Az = some Aa := rfl
theorem Gp : prog CZ = some Bu := rfl
theorem PF : prog IL = some Cx := rfl
theorem DL : prog BJ = some AW := rfl
theorem Jh : prog EW = some Cq := rfl
theorem PG : prog Ci = some Br := rfl
theorem Qm : prog GA = some GD := rfl
theorem MY : prog Ep = some D0 := rfl
theorem NS : prog Gn = some Cb := rfl
theorem Da : prog BS = some AR := rfl
theorem MZ : prog GB = some Bb := rfl
theorem EC : prog Bm = some Aw := rfl
theorem J8 : prog E0 = some E2 := rfl
theorem Lh : prog EB = some Cc := rfl
theorem Ma : prog GC = some DJ := rfl
theorem GE : prog Co = some Bc := rfl
theorem Db : prog Ak = some Al := rfl
theorem Jw : prog B5 = some BT := rfl
theorem Fz : prog BX = some Ag := rfl
theorem HZ : prog DS = some A9 := rfl
theorem Ha : prog B9 = some Ax := rfl
theorem Gq : prog BW = some A2 := rfl
theorem Ea : prog BO = some A3 := rfl
theorem Fw : prog Bx = some Ap := rfl
theorem Eb : prog BP = some A4 := rfl
theorem Gr : prog Ca = some Bv := rfl
theorem FP : prog CS = some BH := rfl
end Go.Proofs.YtmnbfgfgjmmhfaaGreatDoor
