/-
  The functions, as the abstract machine's: numbers and texts. By program.
-/
import Derived.Test.YtbfgoopcnkeblaaGreatAmKeep
import Derived.Test.YtbfgoopcnkeblaaGreatAmRg
set_option linter.all false
set_option linter.unusedVariables false
set_option linter.unusedSimpArgs false
set_option linter.unusedSectionVars false
set_option maxRecDepth 100000
namespace Go.Proofs.YtbfgoopcnkeblaaGreat
open Go.Proofs.YtbfgoopcnkeblaaGreat.Am
def DT : Nat := 5
def CZ : Nat := 6
def BD : Nat := 7
def Da : Nat := 8
def A3 : Nat := 9
def Hq : Nat := 10
def GQ : Nat := 11
def HI : Nat := 12
def B5 : Nat := 14
def Bl : Nat := 15
def Cn : Nat := 19
def FZ : Nat := 20
def IP : Nat := 21
def Fv : Nat := 22
def Fw : Nat := 23
def BI : Nat := 24
def FA : Nat := 25
def DH : Nat := 26
def Fa : Nat := 27
def HJ : Nat := 34
def Gk : Nat := 35
def Gl : Nat := 36
def JU : Nat := 37
def Fb : Nat := 38
def Fc : Nat := 39
def Dd : Nat := 40
def FB : Nat := 41
def AX : Nat := 42
def BP : Nat := 43
def DU : Nat := 44
def CA : Nat := 45
def Fx : Nat := 46
def Ad : Nat := 47
def GI : Nat := 53
def Fy : Nat := 54
def JV : Nat := 55
def MD : Nat := 56
def CS : Nat := 57
def HK : Nat := 58
def ET : Nat := 59
def ME : Nat := 60
def Kg : Nat := 61
def J7 : Nat := 62
def A5 : Nat := 63
def B7 : Nat := 64
def Ao : Nat := 65
def E3 : Nat := 66
def Cu : Nat := 67
def Be : Nat := 68
def Bx : Nat := 69
def Dn : Nat := 70
def Iq : Nat := 75
def J8 : Nat := 76
def D1 : Nat := 77
def BF : Nat := 78
def DB : Nat := 79
def DC : Nat := 80
def Cq : Nat := 81
def Ca : Nat := 82
def Ap : Nat := 83
def AH : Nat := 84
def AQ : Nat := 87
def De : Nat := 88
def Iv : Nat := 89
def Ed : Nat := 90
def E4 : Nat := 91
def Hr : Nat := 92
def HL : Nat := 93
def EM : Nat := 94
def Cb : Nat := 95
def Av : Nat := 96
def C5 : Nat := 97
def Bz : Nat := 98
def CB : Nat := 102
def Bq : Nat := 103
def Co : Nat := 104
def Br : Nat := 105
def Bs : Nat := 106
def EA : Nat := 107
def Cv : Nat := 108
def Ae : Nat := 109
def Db : Nat := 110
def DD : Nat := 121
def D5 : Nat := 122
def Kh : Nat := 123
def Cr : Nat := 124
def AO : Fun := { cin := [(.agg [.id,.id,(.sl 1 .id),(.sl 4 (.agg [.id,.id,(.sl 1 .id),(.sl 4 (.agg [.id,.id,.sl 1 .id,.sl 4 .id]))]))]),(.sl 6 (.agg [.id,.id,.sl 1 .id,.sl 1 .id,.id,.id])),(.agg [.id,.id,(.sl 1 .id),(.sl 4 (.agg [.id,.id,(.sl 1 .id),(.sl 4 (.agg [.id,.id,.sl 1 .id,.sl 4 .id]))]))])],cout := [.id],ntmps := 68,keep := false,res := [(6,none)],body :=
 (.seq (.reg [⟨some 3,.box 30 4 (.t 0),none⟩,
 ⟨some 5,.box 30 4 (.t 2),none⟩,
 ⟨some 6,.mv (.c (.b false)),none⟩])
 (.seq (.seq (.reg [⟨some 11,.call CZ [],none⟩,
 ⟨some 12,.un .not (.t 11),none⟩,
 ⟨some 13,.mv (.t 12),none⟩,
 ⟨some 14,.mv (.t 1),some (13,false)⟩,
 ⟨some 15,.call Cn [.t 14],some (13,false)⟩,
 ⟨some 16,.pick (.t 13) (.c (.b true)) (.t 15),none⟩,
 ⟨some 17,.mv (.t 16),none⟩,
 ⟨some 18,.ld true 4 (.t 3),some (17,false)⟩,
 ⟨some 19,.call Bl [.t 18],some (17,false)⟩,
 ⟨some 20,.bin .geq (.t 19) (.c (.i .i64 300)),some (17,false)⟩,
 ⟨some 21,.pick (.t 17) (.c (.b true)) (.t 20),none⟩,
 ⟨some 22,.mv (.t 21),none⟩,
 ⟨some 23,.ld true 4 (.t 5),some (22,false)⟩,
 ⟨some 24,.call Bl [.t 23],some (22,false)⟩,
 ⟨some 25,.bin .geq (.t 24) (.c (.i .i64 190)),some (22,false)⟩,
 ⟨some 26,.pick (.t 22) (.c (.b true)) (.t 25),none⟩])
 (.cond (.t 26)
 (.seq (.reg [⟨some 27,.call CZ [],none⟩,
 ⟨some 6,.mv (.t 27),none⟩])
 .ret)
 .skip))
 (.seq (.reg [⟨some 29,.ld true 4 (.t 5),none⟩,
 ⟨some 30,.call HI [.t 29],none⟩,
 ⟨some 28,.mv (.t 30),none⟩,
 ⟨some 31,.ext (.t 28) 0,none⟩,
 ⟨some 32,.ext (.t 28) 1,none⟩,
 ⟨some 7,.alloc 34 [(.i .i64 0),(.i .u8 0),(.s []),(.i .i64 0),.nsl,.nsl],none⟩,
 ⟨none,.st 6 (.t 7) (.t 31),none⟩,
 ⟨some 8,.mv (.t 32),none⟩])
 (.seq (.seq (.reg [⟨some 33,.mv (.t 8),none⟩,
 ⟨some 34,.bin .eql (.t 33) (.c (.i .i64 0)),none⟩])
 (.cond (.t 34)
 (.seq (.reg [⟨some 36,.ld true 6 (.t 7),none⟩,
 ⟨some 37,.call GQ [.t 36],none⟩,
 ⟨some 35,.mv (.t 37),none⟩,
 ⟨some 38,.ext (.t 35) 0,none⟩,
 ⟨some 39,.ext (.t 35) 1,none⟩,
 ⟨some 9,.alloc 30 [(.i .u8 0),(.s []),.nsl,.nsl],none⟩,
 ⟨none,.st 4 (.t 9) (.t 38),none⟩,
 ⟨some 10,.mv (.t 39),none⟩])
 (.seq (.reg [⟨some 40,.mv (.t 10),none⟩,
 ⟨some 41,.bin .neq (.t 40) (.c (.i .i64 0)),none⟩,
 ⟨some 42,.mv (.t 41),none⟩,
 ⟨some 43,.ld true 4 (.t 9),some (42,false)⟩,
 ⟨some 44,.ld true 4 (.t 5),some (42,false)⟩,
 ⟨some 45,.call B5 [.t 43,.t 44],some (42,false)⟩,
 ⟨some 46,.un .not (.t 45),some (42,false)⟩,
 ⟨some 47,.pick (.t 42) (.c (.b true)) (.t 46),none⟩])
 (.cond (.t 47)
 (.seq (.reg [⟨some 6,.mv (.c (.b false)),none⟩])
 .ret)
 .skip)))
 .skip))
 (.seq (.seq (.reg [⟨some 48,.mv (.t 1),none⟩,
 ⟨some 49,.ld true 4 (.t 3),none⟩,
 ⟨some 50,.call FZ [.t 48,.t 49],none⟩,
 ⟨some 51,.un .not (.t 50),none⟩])
 (.cond (.t 51)
 (.seq (.reg [⟨some 6,.mv (.c (.b true)),none⟩])
 .ret)
 .skip))
 (.seq (.reg [⟨some 52,.mv (.t 1),none⟩,
 ⟨some 53,.ld true 4 (.t 3),none⟩,
 ⟨some 54,.build [(.i .i64 0),(.i .u8 0),(.s []),(.i .i64 0),.nsl,.nsl] [(3,1,(.c (.i .i64 (-1))))],none⟩,
 ⟨some 55,.ld true 4 (.t 3),none⟩,
 ⟨some 56,.call A3 [.t 52,.t 53,.t 54,.t 55],none⟩,
 ⟨some 57,.mv (.t 56),none⟩,
 ⟨some 58,.mv (.t 8),some (57,true)⟩,
 ⟨some 59,.bin .neq (.t 58) (.c (.i .i64 0)),some (57,true)⟩,
 ⟨some 60,.mv (.t 59),some (57,true)⟩,
 ⟨some 61,.mv (.t 1),some (60,false)⟩,
 ⟨some 62,.ld true 4 (.t 3),some (60,false)⟩,
 ⟨some 63,.ld true 6 (.t 7),some (60,false)⟩,
 ⟨some 64,.ld true 4 (.t 5),some (60,false)⟩,
 ⟨some 65,.call A3 [.t 61,.t 62,.t 63,.t 64],some (60,false)⟩,
 ⟨some 66,.pick (.t 60) (.c (.b true)) (.t 65),some (57,true)⟩,
 ⟨some 67,.pick (.t 57) (.t 66) (.c (.b false)),none⟩,
 ⟨some 6,.mv (.t 67),none⟩])
 .ret)))))) }
def Ee : Fun := { cin := [],cout := [],ntmps := 0,keep := false,res := [],body := .bad,prim := some (QP Nd) }
def EU : Fun := { cin := [],cout := [.id],ntmps := 42,keep := false,res := [(0,none)],body :=
 (.seq (.reg [⟨some 0,.mv (.c (.b false)),none⟩])
 (.seq (.reg [⟨some 3,.call IP [],none⟩,
 ⟨some 1,.mv (.t 3),none⟩])
 (.seq (.reg [⟨some 4,.build [(.i .i64 0),(.i .u8 0),(.s []),(.i .i64 0),.nsl,.nsl] [(0,1,(.c (.i .i64 (-1)))),(1,1,(.c (.i .u8 1))),(2,1,(.c (.s [99]))),(3,1,(.c (.i .i64 (-1))))],none⟩,
 ⟨some 2,.alloc 34 [(.i .i64 0),(.i .u8 0),(.s []),(.i .i64 0),.nsl,.nsl],none⟩,
 ⟨none,.st 6 (.t 2) (.t 4),none⟩])
 (.seq (.regD [⟨some 5,.mv (.t 1),none⟩,
 ⟨some 6,.bsl 1 [(.c (.s [97])),(.c (.s [98]))],none⟩,
 ⟨some 7,.call BD [.t 6],none⟩,
 ⟨some 8,.build [(.i .i64 0),(.i .u8 0),(.s []),(.i .i64 0),.nsl,.nsl] [(3,1,(.c (.i .i64 (-1))))],none⟩,
 ⟨some 9,.bsl 1 [(.c (.s [97])),(.c (.s [98]))],none⟩,
 ⟨some 10,.call BD [.t 9],none⟩,
 ⟨some 11,.call A3 [.t 5,.t 7,.t 8,.t 10],none⟩,
 ⟨some 12,.mv (.t 11),none⟩,
 ⟨some 13,.mv (.t 1),some (12,true)⟩,
 ⟨some 14,.bsl 1 [(.c (.s [97])),(.c (.s [98]))],some (12,true)⟩,
 ⟨some 15,.call BD [.t 14],some (12,true)⟩,
 ⟨some 16,.build [(.i .i64 0),(.i .u8 0),(.s []),(.i .i64 0),.nsl,.nsl] [(0,1,(.c (.i .i64 (-1)))),(3,1,(.c (.i .i64 (-1))))],some (12,true)⟩,
 ⟨some 17,.call Da [(.c (.i .i64 0)),(.c (.s [97])),(.t 16)],some (12,true)⟩,
 ⟨some 18,.bsl 1 [(.c (.s [98]))],some (12,true)⟩,
 ⟨some 19,.call BD [.t 18],some (12,true)⟩,
 ⟨some 20,.call A3 [.t 13,.t 15,.t 17,.t 19],some (12,true)⟩,
 ⟨some 21,.pick (.t 12) (.t 20) (.c (.b false)),none⟩,
 ⟨some 22,.mv (.t 21),none⟩,
 ⟨some 23,.mv (.t 1),some (22,true)⟩,
 ⟨some 24,.bsl 1 [(.c (.s [97])),(.c (.s [98]))],some (22,true)⟩,
 ⟨some 25,.call BD [.t 24],some (22,true)⟩,
 ⟨some 26,.ld true 6 (.t 2),some (22,true)⟩,
 ⟨some 27,.call Da [(.c (.i .i64 0)),(.c (.s [99])),(.t 26)],some (22,true)⟩,
 ⟨some 28,.bsl 1 [(.c (.s [97])),(.c (.s [98])),(.c (.s [99]))],some (22,true)⟩,
 ⟨some 29,.call BD [.t 28],some (22,true)⟩,
 ⟨some 30,.call A3 [.t 23,.t 25,.t 27,.t 29],some (22,true)⟩,
 ⟨some 31,.pick (.t 22) (.t 30) (.c (.b false)),none⟩,
 ⟨some 32,.mv (.t 31),none⟩,
 ⟨some 33,.mv (.t 1),some (32,true)⟩,
 ⟨some 34,.bsl 1 [(.c (.s [97])),(.c (.s [98]))],some (32,true)⟩,
 ⟨some 35,.call BD [.t 34],some (32,true)⟩,
 ⟨some 36,.ld true 6 (.t 2),some (32,true)⟩,
 ⟨some 37,.call Da [(.c (.i .i64 (-1))),(.c (.s [99])),(.t 36)],some (32,true)⟩,
 ⟨some 38,.bsl 1 [(.c (.s [99]))],some (32,true)⟩,
 ⟨some 39,.call BD [.t 38],some (32,true)⟩,
 ⟨some 40,.call A3 [.t 33,.t 35,.t 37,.t 39],some (32,true)⟩,
 ⟨some 41,.pick (.t 32) (.t 40) (.c (.b false)),none⟩,
 ⟨some 0,.mv (.t 41),none⟩] [(21,(20,21)),(31,(30,31))])
 .ret)))) }
def FF : Fun := { cin := [.sl 1 .id],cout := [],ntmps := 32,keep := true,res := [(2,some (true,4))],body :=
 (.seq (.reg [⟨some 2,.alloc 30 [(.i .u8 0),(.s []),.nsl,.nsl],none⟩])
 (.seq (.reg [⟨some 5,.build [(.i .u8 0),(.s []),.nsl,.nsl] [(0,1,(.c (.i .u8 2)))],none⟩,
 ⟨some 3,.alloc 30 [(.i .u8 0),(.s []),.nsl,.nsl],none⟩,
 ⟨none,.st 4 (.t 3) (.t 5),none⟩])
 (.seq (.seq (.reg [⟨some 4,.mv (.c (.i .i64 0)),none⟩])
 (.blk 0 (.loop (.seq (.seq (.reg [⟨some 6,.mv (.t 4),none⟩,
 ⟨some 7,.mv (.t 0),none⟩,
 ⟨some 8,.len 1 (.t 7),none⟩,
 ⟨some 9,.bin .lss (.t 6) (.t 8),none⟩])
 (.cond (.t 9)
 .skip
 (.exit 0)))
 (.seq (.blk 1 (.seq (.regD [⟨some 12,.fa 2 (.t 3),none⟩,
 ⟨some 13,.ld false 1 (.t 12),none⟩,
 ⟨some 14,.mv (.t 0),none⟩,
 ⟨some 15,.mv (.t 4),none⟩,
 ⟨some 16,.ia 1 (.t 14) (.t 15),none⟩,
 ⟨some 17,.ld false 1 (.t 16),none⟩,
 ⟨some 18,.bsl 1 [.t 17],none⟩,
 ⟨some 19,.app 1 9 (.t 13) (.t 18),none⟩,
 ⟨some 20,.fa 2 (.t 3),none⟩,
 ⟨none,.st 1 (.t 20) (.t 19),none⟩] [])
 (.regD [⟨some 21,.fa 3 (.t 3),none⟩,
 ⟨some 22,.ld false 1 (.t 21),none⟩,
 ⟨some 23,.mv (.t 0),none⟩,
 ⟨some 24,.mv (.t 4),none⟩,
 ⟨some 25,.ia 1 (.t 23) (.t 24),none⟩,
 ⟨some 26,.ld false 1 (.t 25),none⟩,
 ⟨some 27,.build [(.i .u8 0),(.s []),.nsl,.nsl] [(0,1,(.c (.i .u8 1))),(1,1,(.t 26))],none⟩,
 ⟨some 28,.bsl 4 [.t 27],none⟩,
 ⟨some 29,.app 4 30 (.t 22) (.t 28),none⟩,
 ⟨some 30,.fa 3 (.t 3),none⟩,
 ⟨none,.st 1 (.t 30) (.t 29),none⟩] [])))
 (.reg [⟨some 10,.mv (.t 4),none⟩,
 ⟨some 11,.bin .add (.t 10) (.c (.i .i64 1)),none⟩,
 ⟨some 4,.mv (.t 11),none⟩]))))))
 (.seq (.reg [⟨some 31,.ldK true 4 (.t 3),none⟩,
 ⟨none,.st 4 (.t 2) (.t 31),none⟩])
 .ret)))) }
def Eo : Fun := { cin := [.id,.id,(.agg [.id,.id,.id,.id,(.sl 1 .id),(.sl 6 (.agg [.id,.id,.id,.id,(.sl 1 .id),(.sl 6 (.agg [.id,.id,.id,.id,.sl 1 .id,.sl 6 .id]))]))])],cout := [(.agg [.id,.id,.id,.id,(.sl 1 .id),(.sl 6 (.agg [.id,.id,.id,.id,(.sl 1 .id),(.sl 6 (.agg [.id,.id,.id,.id,.sl 1 .id,.sl 6 .id]))]))])],ntmps := 13,keep := false,res := [(6,some (true,6))],body :=
 (.seq (.reg [⟨some 5,.box 34 6 (.t 2),none⟩,
 ⟨some 6,.alloc 34 [(.i .i64 0),(.i .u8 0),(.s []),(.i .i64 0),.nsl,.nsl],none⟩])
 (.seq (.reg [⟨some 7,.mv (.t 0),none⟩,
 ⟨some 8,.mv (.t 1),none⟩,
 ⟨some 9,.bsl 1 [.t 8],none⟩,
 ⟨some 10,.ld true 6 (.t 5),none⟩,
 ⟨some 11,.bsl 6 [.t 10],none⟩,
 ⟨some 12,.build [(.i .i64 0),(.i .u8 0),(.s []),(.i .i64 0),.nsl,.nsl] [(0,1,(.c (.i .i64 (-1)))),(1,1,(.c (.i .u8 2))),(3,1,(.t 7)),(4,1,(.t 9)),(5,1,(.t 11))],none⟩,
 ⟨none,.st 6 (.t 6) (.t 12),none⟩])
 .ret)) }
def BX : Fun := { cin := [(.sl 6 (.agg [.id,.id,.sl 1 .id,.sl 1 .id,.id,.id])),(.agg [.id,.id,(.sl 1 .id),(.sl 4 (.agg [.id,.id,(.sl 1 .id),(.sl 4 (.agg [.id,.id,.sl 1 .id,.sl 4 .id]))]))]),(.agg [.id,.id,.id,.id,(.sl 1 .id),(.sl 6 (.agg [.id,.id,.id,.id,(.sl 1 .id),(.sl 6 (.agg [.id,.id,.id,.id,.sl 1 .id,.sl 6 .id]))]))]),(.agg [.id,.id,(.sl 1 .id),(.sl 4 (.agg [.id,.id,(.sl 1 .id),(.sl 4 (.agg [.id,.id,.sl 1 .id,.sl 4 .id]))]))])],cout := [.id],ntmps := 25,keep := false,res := [(8,none)],body :=
 (.seq (.reg [⟨some 5,.box 30 4 (.t 1),none⟩,
 ⟨some 6,.box 34 6 (.t 2),none⟩,
 ⟨some 7,.box 30 4 (.t 3),none⟩,
 ⟨some 8,.mv (.c (.b false)),none⟩])
 (.seq (.reg [⟨some 12,.mv (.t 0),none⟩,
 ⟨some 13,.ld true 4 (.t 5),none⟩,
 ⟨some 14,.ld true 6 (.t 6),none⟩,
 ⟨some 15,.call Hq [.t 12,.t 13,.t 14],none⟩,
 ⟨some 11,.mv (.t 15),none⟩,
 ⟨some 16,.ext (.t 11) 0,none⟩,
 ⟨some 17,.ext (.t 11) 1,none⟩,
 ⟨some 9,.alloc 30 [(.i .u8 0),(.s []),.nsl,.nsl],none⟩,
 ⟨none,.st 4 (.t 9) (.t 16),none⟩,
 ⟨some 10,.mv (.t 17),none⟩])
 (.seq (.reg [⟨some 18,.mv (.t 10),none⟩,
 ⟨some 19,.bin .eql (.t 18) (.c (.i .i64 0)),none⟩,
 ⟨some 20,.mv (.t 19),none⟩,
 ⟨some 21,.ld true 4 (.t 9),some (20,true)⟩,
 ⟨some 22,.ld true 4 (.t 7),some (20,true)⟩,
 ⟨some 23,.call B5 [.t 21,.t 22],some (20,true)⟩,
 ⟨some 24,.pick (.t 20) (.t 23) (.c (.b false)),none⟩,
 ⟨some 8,.mv (.t 24),none⟩])
 .ret))) }
def Dp : Fun := { cin := [(.sl 6 (.agg [.id,.id,.sl 1 .id,.sl 1 .id,.id,.id])),(.agg [.id,.id,(.sl 1 .id),(.sl 4 (.agg [.id,.id,(.sl 1 .id),(.sl 4 (.agg [.id,.id,.sl 1 .id,.sl 4 .id]))]))]),(.agg [.id,.id,.id,.id,(.sl 1 .id),(.sl 6 (.agg [.id,.id,.id,.id,(.sl 1 .id),(.sl 6 (.agg [.id,.id,.id,.id,.sl 1 .id,.sl 6 .id]))]))])],cout := [(.agg [.id,.id,(.sl 1 .id),(.sl 4 (.agg [.id,.id,(.sl 1 .id),(.sl 4 (.agg [.id,.id,.sl 1 .id,.sl 4 .id]))]))]),.id],ntmps := 31,keep := false,res := [(6,some (true,4)),(7,none)],body :=
 (.seq (.reg [⟨some 4,.box 30 4 (.t 1),none⟩,
 ⟨some 5,.box 34 6 (.t 2),none⟩,
 ⟨some 6,.alloc 30 [(.i .u8 0),(.s []),.nsl,.nsl],none⟩,
 ⟨some 7,.mv (.c (.i .i64 0)),none⟩])
 (.seq (.blk 0 (.seq (.reg [⟨some 9,.mv (.t 0),none⟩,
 ⟨some 10,.ld true 6 (.t 5),none⟩,
 ⟨some 11,.call Fv [.t 9,.t 10],none⟩,
 ⟨some 12,.un .not (.t 11),none⟩,
 ⟨some 13,.mv (.t 12),none⟩,
 ⟨some 14,.ld true 4 (.t 4),some (13,false)⟩,
 ⟨some 15,.call Fw [.t 14],some (13,false)⟩,
 ⟨some 16,.un .not (.t 15),some (13,false)⟩,
 ⟨some 17,.pick (.t 13) (.c (.b true)) (.t 16),none⟩,
 ⟨some 8,.mv (.t 17),none⟩])
 (.cond (.t 8)
 (.seq (.reg [⟨some 18,.build [(.i .u8 0),(.s []),.nsl,.nsl] [],none⟩,
 ⟨none,.st 4 (.t 6) (.t 18),none⟩,
 ⟨some 7,.mv (.c (.i .i64 4)),none⟩])
 .ret)
 (.seq (.reg [⟨some 20,.mv (.t 0),none⟩,
 ⟨some 21,.ld true 4 (.t 4),none⟩,
 ⟨some 22,.call FZ [.t 20,.t 21],none⟩,
 ⟨some 23,.un .not (.t 22),none⟩,
 ⟨some 19,.mv (.t 23),none⟩])
 (.cond (.t 19)
 (.seq (.reg [⟨some 24,.build [(.i .u8 0),(.s []),.nsl,.nsl] [],none⟩,
 ⟨none,.st 4 (.t 6) (.t 24),none⟩,
 ⟨some 7,.mv (.c (.i .i64 67)),none⟩])
 .ret)
 .skip)))))
 (.seq (.reg [⟨some 25,.mv (.t 0),none⟩,
 ⟨some 26,.ld true 4 (.t 4),none⟩,
 ⟨some 27,.build [.nsl,(.i .u8 0),(.s []),.nsl,.nsl] [(0,1,(.t 25)),(1,4,(.t 26))],none⟩,
 ⟨some 28,.box 56 5 (.t 27),none⟩,
 ⟨some 29,.ld true 6 (.t 5),none⟩,
 ⟨some 30,.call BI [.t 28,.t 29],none⟩,
 ⟨none,.st 4 (.t 6) (.t 30),none⟩,
 ⟨some 7,.mv (.c (.i .i64 0)),none⟩])
 .ret))) }
def Cd : Fun := { cin := [(.agg [.id,.id,.id,.id,(.sl 1 .id),(.sl 6 (.agg [.id,.id,.id,.id,(.sl 1 .id),(.sl 6 (.agg [.id,.id,.id,.id,.sl 1 .id,.sl 6 .id]))]))])],cout := [(.agg [.id,.id,(.sl 1 .id),(.sl 4 (.agg [.id,.id,(.sl 1 .id),(.sl 4 (.agg [.id,.id,.sl 1 .id,.sl 4 .id]))]))]),.id],ntmps := 18,keep := false,res := [(2,some (true,4)),(3,none)],body :=
 (.seq (.reg [⟨some 1,.box 34 6 (.t 0),none⟩,
 ⟨some 2,.alloc 30 [(.i .u8 0),(.s []),.nsl,.nsl],none⟩,
 ⟨some 3,.mv (.c (.i .i64 0)),none⟩])
 (.seq (.seq (.regD [⟨some 4,.ld true 6 (.t 1),none⟩,
 ⟨some 5,.call FA [.t 4],none⟩,
 ⟨some 6,.un .not (.t 5),none⟩,
 ⟨some 7,.mv (.t 6),none⟩,
 ⟨some 8,.call IP [],some (7,false)⟩,
 ⟨some 9,.ld true 6 (.t 1),some (7,false)⟩,
 ⟨some 10,.call Fv [.t 8,.t 9],some (7,false)⟩,
 ⟨some 11,.un .not (.t 10),some (7,false)⟩,
 ⟨some 12,.pick (.t 7) (.c (.b true)) (.t 11),none⟩] [(5,(4,5))])
 (.cond (.t 12)
 (.seq (.reg [⟨some 13,.build [(.i .u8 0),(.s []),.nsl,.nsl] [],none⟩,
 ⟨none,.st 4 (.t 2) (.t 13),none⟩,
 ⟨some 3,.mv (.c (.i .i64 4)),none⟩])
 .ret)
 .skip))
 (.seq (.reg [⟨some 14,.build [.nsl,(.i .u8 0),(.s []),.nsl,.nsl] [],none⟩,
 ⟨some 15,.box 56 5 (.t 14),none⟩,
 ⟨some 16,.ld true 6 (.t 1),none⟩,
 ⟨some 17,.call BI [.t 15,.t 16],none⟩,
 ⟨none,.st 4 (.t 2) (.t 17),none⟩,
 ⟨some 3,.mv (.c (.i .i64 0)),none⟩])
 .ret))) }
def Cw : Fun := { cin := [(.agg [.id,.id,(.sl 1 .id),(.sl 4 (.agg [.id,.id,(.sl 1 .id),(.sl 4 (.agg [.id,.id,.sl 1 .id,.sl 4 .id]))]))])],cout := [(.agg [.id,.id,.id,.id,(.sl 1 .id),(.sl 6 (.agg [.id,.id,.id,.id,(.sl 1 .id),(.sl 6 (.agg [.id,.id,.id,.id,.sl 1 .id,.sl 6 .id]))]))]),.id],ntmps := 15,keep := false,res := [(2,some (true,6)),(3,none)],body :=
 (.seq (.reg [⟨some 1,.box 30 4 (.t 0),none⟩,
 ⟨some 2,.alloc 34 [(.i .i64 0),(.i .u8 0),(.s []),(.i .i64 0),.nsl,.nsl],none⟩,
 ⟨some 3,.mv (.c (.i .i64 0)),none⟩])
 (.seq (.seq (.reg [⟨some 4,.fa 0 (.t 1),none⟩,
 ⟨some 5,.ld false 1 (.t 4),none⟩,
 ⟨some 6,.bin .neq (.t 5) (.c (.i .u8 2)),none⟩,
 ⟨some 7,.mv (.t 6),none⟩,
 ⟨some 8,.ld true 4 (.t 1),some (7,false)⟩,
 ⟨some 9,.call DH [.t 8],some (7,false)⟩,
 ⟨some 10,.un .not (.t 9),some (7,false)⟩,
 ⟨some 11,.pick (.t 7) (.c (.b true)) (.t 10),none⟩])
 (.cond (.t 11)
 (.seq (.reg [⟨some 12,.build [(.i .i64 0),(.i .u8 0),(.s []),(.i .i64 0),.nsl,.nsl] [],none⟩,
 ⟨none,.st 6 (.t 2) (.t 12),none⟩,
 ⟨some 3,.mv (.c (.i .i64 4)),none⟩])
 .ret)
 .skip))
 (.seq (.reg [⟨some 13,.ld true 4 (.t 1),none⟩,
 ⟨some 14,.call Fa [.t 13],none⟩,
 ⟨none,.st 6 (.t 2) (.t 14),none⟩,
 ⟨some 3,.mv (.c (.i .i64 0)),none⟩])
 .ret))) }
def BK : Fun := { cin := [(.agg [.id,.id,(.sl 1 .id),(.sl 4 (.agg [.id,.id,(.sl 1 .id),(.sl 4 (.agg [.id,.id,.sl 1 .id,.sl 4 .id]))]))]),(.agg [.id,.id,(.sl 1 .id),(.sl 4 (.agg [.id,.id,(.sl 1 .id),(.sl 4 (.agg [.id,.id,.sl 1 .id,.sl 4 .id]))]))])],cout := [.id],ntmps := 74,keep := false,res := [(4,none)],body :=
 (.seq (.reg [⟨some 2,.box 30 4 (.t 0),none⟩,
 ⟨some 3,.box 30 4 (.t 1),none⟩,
 ⟨some 4,.mv (.c (.b false)),none⟩])
 (.seq (.seq (.reg [⟨some 7,.fa 0 (.t 2),none⟩,
 ⟨some 8,.ld false 1 (.t 7),none⟩,
 ⟨some 9,.fa 0 (.t 3),none⟩,
 ⟨some 10,.ld false 1 (.t 9),none⟩,
 ⟨some 11,.bin .neq (.t 8) (.t 10),none⟩,
 ⟨some 12,.mv (.t 11),none⟩,
 ⟨some 13,.fa 1 (.t 2),some (12,false)⟩,
 ⟨some 14,.ld false 1 (.t 13),some (12,false)⟩,
 ⟨some 15,.fa 1 (.t 3),some (12,false)⟩,
 ⟨some 16,.ld false 1 (.t 15),some (12,false)⟩,
 ⟨some 17,.bin .neq (.t 14) (.t 16),some (12,false)⟩,
 ⟨some 18,.pick (.t 12) (.c (.b true)) (.t 17),none⟩,
 ⟨some 19,.mv (.t 18),none⟩,
 ⟨some 20,.fa 2 (.t 2),some (19,false)⟩,
 ⟨some 21,.ld false 1 (.t 20),some (19,false)⟩,
 ⟨some 22,.len 1 (.t 21),some (19,false)⟩,
 ⟨some 23,.fa 2 (.t 3),some (19,false)⟩,
 ⟨some 24,.ld false 1 (.t 23),some (19,false)⟩,
 ⟨some 25,.len 1 (.t 24),some (19,false)⟩,
 ⟨some 26,.bin .neq (.t 22) (.t 25),some (19,false)⟩,
 ⟨some 27,.pick (.t 19) (.c (.b true)) (.t 26),none⟩,
 ⟨some 28,.mv (.t 27),none⟩,
 ⟨some 29,.fa 3 (.t 2),some (28,false)⟩,
 ⟨some 30,.ld false 1 (.t 29),some (28,false)⟩,
 ⟨some 31,.len 1 (.t 30),some (28,false)⟩,
 ⟨some 32,.fa 3 (.t 3),some (28,false)⟩,
 ⟨some 33,.ld false 1 (.t 32),some (28,false)⟩,
 ⟨some 34,.len 1 (.t 33),some (28,false)⟩,
 ⟨some 35,.bin .neq (.t 31) (.t 34),some (28,false)⟩,
 ⟨some 36,.pick (.t 28) (.c (.b true)) (.t 35),none⟩])
 (.cond (.t 36)
 (.seq (.reg [⟨some 4,.mv (.c (.b false)),none⟩])
 .ret)
 .skip))
 (.seq (.seq (.reg [⟨some 5,.mv (.c (.i .i64 0)),none⟩])
 (.blk 0 (.loop (.seq (.seq (.reg [⟨some 37,.mv (.t 5),none⟩,
 ⟨some 38,.fa 2 (.t 2),none⟩,
 ⟨some 39,.ld false 1 (.t 38),none⟩,
 ⟨some 40,.len 1 (.t 39),none⟩,
 ⟨some 41,.bin .lss (.t 37) (.t 40),none⟩])
 (.cond (.t 41)
 .skip
 (.exit 0)))
 (.seq (.blk 1 (.seq (.regD [⟨some 44,.fa 2 (.t 2),none⟩,
 ⟨some 45,.ld false 1 (.t 44),none⟩,
 ⟨some 46,.mv (.t 5),none⟩,
 ⟨some 47,.ia 1 (.t 45) (.t 46),none⟩,
 ⟨some 48,.ld false 1 (.t 47),none⟩,
 ⟨some 49,.fa 2 (.t 3),none⟩,
 ⟨some 50,.ld false 1 (.t 49),none⟩,
 ⟨some 51,.mv (.t 5),none⟩,
 ⟨some 52,.ia 1 (.t 50) (.t 51),none⟩,
 ⟨some 53,.ld false 1 (.t 52),none⟩,
 ⟨some 54,.bin .neq (.t 48) (.t 53),none⟩] [])
 (.cond (.t 54)
 (.seq (.reg [⟨some 4,.mv (.c (.b false)),none⟩])
 .ret)
 .skip)))
 (.reg [⟨some 42,.mv (.t 5),none⟩,
 ⟨some 43,.bin .add (.t 42) (.c (.i .i64 1)),none⟩,
 ⟨some 5,.mv (.t 43),none⟩]))))))
 (.seq (.seq (.reg [⟨some 6,.mv (.c (.i .i64 0)),none⟩])
 (.blk 2 (.loop (.seq (.seq (.reg [⟨some 55,.mv (.t 6),none⟩,
 ⟨some 56,.fa 3 (.t 2),none⟩,
 ⟨some 57,.ld false 1 (.t 56),none⟩,
 ⟨some 58,.len 1 (.t 57),none⟩,
 ⟨some 59,.bin .lss (.t 55) (.t 58),none⟩])
 (.cond (.t 59)
 .skip
 (.exit 2)))
 (.seq (.blk 3 (.seq (.regD [⟨some 62,.fa 3 (.t 2),none⟩,
 ⟨some 63,.ld false 1 (.t 62),none⟩,
 ⟨some 64,.mv (.t 6),none⟩,
 ⟨some 65,.ia 4 (.t 63) (.t 64),none⟩,
 ⟨some 66,.ld true 4 (.t 65),none⟩,
 ⟨some 67,.fa 3 (.t 3),none⟩,
 ⟨some 68,.ld false 1 (.t 67),none⟩,
 ⟨some 69,.mv (.t 6),none⟩,
 ⟨some 70,.ia 4 (.t 68) (.t 69),none⟩,
 ⟨some 71,.ld true 4 (.t 70),none⟩,
 ⟨some 72,.call B5 [.t 66,.t 71],none⟩,
 ⟨some 73,.un .not (.t 72),none⟩] [])
 (.cond (.t 73)
 (.seq (.reg [⟨some 4,.mv (.c (.b false)),none⟩])
 .ret)
 .skip)))
 (.reg [⟨some 60,.mv (.t 6),none⟩,
 ⟨some 61,.bin .add (.t 60) (.c (.i .i64 1)),none⟩,
 ⟨some 6,.mv (.t 61),none⟩]))))))
 (.seq (.reg [⟨some 4,.mv (.c (.b true)),none⟩])
 .ret))))) }
def Ab : Fun := { cin := [(.agg [.id,.id,(.sl 1 .id),(.sl 4 (.agg [.id,.id,(.sl 1 .id),(.sl 4 (.agg [.id,.id,.sl 1 .id,.sl 4 .id]))]))])],cout := [.id],ntmps := 52,keep := false,res := [(2,none)],body :=
 (.seq (.reg [⟨some 1,.box 30 4 (.t 0),none⟩,
 ⟨some 2,.mv (.c (.i .i64 0)),none⟩])
 (.seq (.reg [⟨some 6,.fa 1 (.t 1),none⟩,
 ⟨some 7,.ld false 1 (.t 6),none⟩,
 ⟨some 8,.len 0 (.t 7),none⟩,
 ⟨some 9,.bin .quo (.t 8) (.c (.i .i64 64)),none⟩,
 ⟨some 10,.bin .add (.c (.i .i64 1)) (.t 9),none⟩,
 ⟨some 3,.mv (.t 10),none⟩])
 (.seq (.seq (.reg [⟨some 4,.mv (.c (.i .i64 0)),none⟩])
 (.blk 0 (.loop (.seq (.seq (.reg [⟨some 11,.mv (.t 4),none⟩,
 ⟨some 12,.fa 2 (.t 1),none⟩,
 ⟨some 13,.ld false 1 (.t 12),none⟩,
 ⟨some 14,.len 1 (.t 13),none⟩,
 ⟨some 15,.bin .lss (.t 11) (.t 14),none⟩,
 ⟨some 16,.mv (.t 15),none⟩,
 ⟨some 17,.mv (.t 3),some (16,true)⟩,
 ⟨some 18,.bin .lss (.t 17) (.c (.i .i64 1000)),some (16,true)⟩,
 ⟨some 19,.pick (.t 16) (.t 18) (.c (.b false)),none⟩])
 (.cond (.t 19)
 .skip
 (.exit 0)))
 (.seq (.blk 1 (.reg [⟨some 22,.mv (.t 3),none⟩,
 ⟨some 23,.bin .add (.t 22) (.c (.i .i64 1)),none⟩,
 ⟨some 24,.fa 2 (.t 1),none⟩,
 ⟨some 25,.ld false 1 (.t 24),none⟩,
 ⟨some 26,.mv (.t 4),none⟩,
 ⟨some 27,.ia 1 (.t 25) (.t 26),none⟩,
 ⟨some 28,.ld false 1 (.t 27),none⟩,
 ⟨some 29,.len 0 (.t 28),none⟩,
 ⟨some 30,.bin .quo (.t 29) (.c (.i .i64 64)),none⟩,
 ⟨some 31,.bin .add (.t 23) (.t 30),none⟩,
 ⟨some 3,.mv (.t 31),none⟩]))
 (.reg [⟨some 20,.mv (.t 4),none⟩,
 ⟨some 21,.bin .add (.t 20) (.c (.i .i64 1)),none⟩,
 ⟨some 4,.mv (.t 21),none⟩]))))))
 (.seq (.seq (.reg [⟨some 5,.mv (.c (.i .i64 0)),none⟩])
 (.blk 2 (.loop (.seq (.seq (.reg [⟨some 32,.mv (.t 5),none⟩,
 ⟨some 33,.fa 3 (.t 1),none⟩,
 ⟨some 34,.ld false 1 (.t 33),none⟩,
 ⟨some 35,.len 1 (.t 34),none⟩,
 ⟨some 36,.bin .lss (.t 32) (.t 35),none⟩,
 ⟨some 37,.mv (.t 36),none⟩,
 ⟨some 38,.mv (.t 3),some (37,true)⟩,
 ⟨some 39,.bin .lss (.t 38) (.c (.i .i64 1000)),some (37,true)⟩,
 ⟨some 40,.pick (.t 37) (.t 39) (.c (.b false)),none⟩])
 (.cond (.t 40)
 .skip
 (.exit 2)))
 (.seq (.blk 3 (.reg [⟨some 43,.mv (.t 3),none⟩,
 ⟨some 44,.fa 3 (.t 1),none⟩,
 ⟨some 45,.ld false 1 (.t 44),none⟩,
 ⟨some 46,.mv (.t 5),none⟩,
 ⟨some 47,.ia 4 (.t 45) (.t 46),none⟩,
 ⟨some 48,.ld true 4 (.t 47),none⟩,
 ⟨some 49,.call Bl [.t 48],none⟩,
 ⟨some 50,.bin .add (.t 43) (.t 49),none⟩,
 ⟨some 3,.mv (.t 50),none⟩]))
 (.reg [⟨some 41,.mv (.t 5),none⟩,
 ⟨some 42,.bin .add (.t 41) (.c (.i .i64 1)),none⟩,
 ⟨some 5,.mv (.t 42),none⟩]))))))
 (.seq (.reg [⟨some 51,.mv (.t 3),none⟩,
 ⟨some 2,.mv (.t 51),none⟩])
 .ret))))) }
def Bb : Fun := { cin := [(.sl 6 (.agg [.id,.id,.sl 1 .id,.sl 1 .id,.id,.id]))],cout := [.id],ntmps := 60,keep := false,res := [(2,none)],body :=
 (.seq (.reg [⟨some 2,.mv (.c (.b false)),none⟩])
 (.seq (.reg [⟨some 3,.mv (.c (.i .i64 0)),none⟩])
 (.seq (.seq (.reg [⟨some 4,.mv (.c (.i .i64 0)),none⟩])
 (.blk 0 (.loop (.seq (.seq (.reg [⟨some 6,.mv (.t 4),none⟩,
 ⟨some 7,.mv (.t 0),none⟩,
 ⟨some 8,.len 1 (.t 7),none⟩,
 ⟨some 9,.bin .lss (.t 6) (.t 8),none⟩,
 ⟨some 10,.mv (.t 9),none⟩,
 ⟨some 11,.mv (.t 3),some (10,true)⟩,
 ⟨some 12,.bin .lss (.t 11) (.c (.i .i64 300)),some (10,true)⟩,
 ⟨some 13,.pick (.t 10) (.t 12) (.c (.b false)),none⟩])
 (.cond (.t 13)
 .skip
 (.exit 0)))
 (.seq (.blk 1 (.seq (.seq (.thw 0)
 (.regD [⟨some 16,.mv (.t 3),none⟩,
 ⟨some 17,.bin .add (.t 16) (.c (.i .i64 1)),none⟩,
 ⟨some 18,.mv (.t 0),none⟩,
 ⟨some 19,.mv (.t 4),none⟩,
 ⟨some 20,.ia 6 (.t 18) (.t 19),none⟩,
 ⟨some 21,.fa 2 (.t 20),none⟩,
 ⟨some 22,.ld false 1 (.t 21),none⟩,
 ⟨some 23,.len 1 (.t 22),none⟩,
 ⟨some 24,.bin .add (.t 17) (.t 23),none⟩,
 ⟨some 25,.mv (.t 0),none⟩,
 ⟨some 26,.mv (.t 4),none⟩,
 ⟨some 27,.ia 6 (.t 25) (.t 26),none⟩,
 ⟨some 28,.fa 3 (.t 27),none⟩,
 ⟨some 29,.ld false 1 (.t 28),none⟩,
 ⟨some 30,.len 1 (.t 29),none⟩,
 ⟨some 31,.bin .add (.t 24) (.t 30),none⟩,
 ⟨some 3,.mv (.t 31),none⟩] []))
 (.seq (.reg [⟨some 5,.mv (.c (.i .i64 0)),none⟩])
 (.blk 2 (.loop (.seq (.seq (.seq (.thw 0)
 (.reg [⟨some 32,.mv (.t 5),none⟩,
 ⟨some 33,.mv (.t 0),none⟩,
 ⟨some 34,.mv (.t 4),none⟩,
 ⟨some 35,.ia 6 (.t 33) (.t 34),none⟩,
 ⟨some 36,.fa 2 (.t 35),none⟩,
 ⟨some 37,.ld false 1 (.t 36),none⟩,
 ⟨some 38,.len 1 (.t 37),none⟩,
 ⟨some 39,.bin .lss (.t 32) (.t 38),none⟩,
 ⟨some 40,.mv (.t 39),none⟩,
 ⟨some 41,.mv (.t 3),some (40,true)⟩,
 ⟨some 42,.bin .lss (.t 41) (.c (.i .i64 300)),some (40,true)⟩,
 ⟨some 43,.pick (.t 40) (.t 42) (.c (.b false)),none⟩]))
 (.cond (.t 43)
 .skip
 (.exit 2)))
 (.seq (.blk 3 (.seq (.thw 0)
 (.reg [⟨some 46,.mv (.t 3),none⟩,
 ⟨some 47,.mv (.t 0),none⟩,
 ⟨some 48,.mv (.t 4),none⟩,
 ⟨some 49,.ia 6 (.t 47) (.t 48),none⟩,
 ⟨some 50,.fa 2 (.t 49),none⟩,
 ⟨some 51,.ld false 1 (.t 50),none⟩,
 ⟨some 52,.mv (.t 5),none⟩,
 ⟨some 53,.ia 1 (.t 51) (.t 52),none⟩,
 ⟨some 54,.ld false 1 (.t 53),none⟩,
 ⟨some 55,.len 0 (.t 54),none⟩,
 ⟨some 56,.bin .quo (.t 55) (.c (.i .i64 64)),none⟩,
 ⟨some 57,.bin .add (.t 46) (.t 56),none⟩,
 ⟨some 3,.mv (.t 57),none⟩])))
 (.reg [⟨some 44,.mv (.t 5),none⟩,
 ⟨some 45,.bin .add (.t 44) (.c (.i .i64 1)),none⟩,
 ⟨some 5,.mv (.t 45),none⟩]))))))))
 (.reg [⟨some 14,.mv (.t 4),none⟩,
 ⟨some 15,.bin .add (.t 14) (.c (.i .i64 1)),none⟩,
 ⟨some 4,.mv (.t 15),none⟩]))))))
 (.seq (.reg [⟨some 58,.mv (.t 3),none⟩,
 ⟨some 59,.bin .geq (.t 58) (.c (.i .i64 300)),none⟩,
 ⟨some 2,.mv (.t 59),none⟩])
 .ret)))) }
def DK : Fun := { cin := [(.sl 6 (.agg [.id,.id,.sl 1 .id,.sl 1 .id,.id,.id])),(.agg [.id,.id,(.sl 1 .id),(.sl 4 (.agg [.id,.id,(.sl 1 .id),(.sl 4 (.agg [.id,.id,.sl 1 .id,.sl 4 .id]))]))])],cout := [.id],ntmps := 19,keep := false,res := [(4,none)],body :=
 (.seq (.reg [⟨some 3,.box 30 4 (.t 1),none⟩,
 ⟨some 4,.mv (.c (.b false)),none⟩])
 (.seq (.reg [⟨some 8,.mv (.t 0),none⟩,
 ⟨some 9,.ld true 4 (.t 3),none⟩,
 ⟨some 10,.call HJ [.t 8,.t 9],none⟩,
 ⟨some 7,.mv (.t 10),none⟩,
 ⟨some 11,.ext (.t 7) 0,none⟩,
 ⟨some 12,.ext (.t 7) 1,none⟩,
 ⟨some 5,.mv (.t 11),none⟩,
 ⟨some 6,.mv (.t 12),none⟩])
 (.seq (.reg [⟨some 13,.mv (.t 6),none⟩,
 ⟨some 14,.bin .eql (.t 13) (.c (.i .i64 0)),none⟩,
 ⟨some 15,.mv (.t 14),none⟩,
 ⟨some 16,.mv (.t 5),some (15,true)⟩,
 ⟨some 17,.bin .lss (.t 16) (.c (.i .i64 0)),some (15,true)⟩,
 ⟨some 18,.pick (.t 15) (.t 17) (.c (.b false)),none⟩,
 ⟨some 4,.mv (.t 18),none⟩])
 .ret))) }
def Gm : Fun := { cin := [],cout := [(.sl 6 (.agg [.id,.id,.sl 1 .id,.sl 1 .id,.id,.id]))],ntmps := 3,keep := false,res := [(0,none)],body :=
 (.seq (.reg [⟨some 0,.mv (.c .nsl),none⟩])
 (.seq (.reg [⟨some 1,.build [.b false,.i .u8 0,.nsl,.nsl,.i .i64 0,.i .i64 0] [(0,1,(.c (.b true))),(1,1,(.c (.i .u8 2)))],none⟩,
 ⟨some 2,.bsl 6 [.t 1],none⟩,
 ⟨some 0,.mv (.t 2),none⟩])
 .ret)) }
def Ci : Fun := { cin := [(.sl 6 (.agg [.id,.id,.sl 1 .id,.sl 1 .id,.id,.id])),(.agg [.id,.id,.id,.id,(.sl 1 .id),(.sl 6 (.agg [.id,.id,.id,.id,(.sl 1 .id),(.sl 6 (.agg [.id,.id,.id,.id,.sl 1 .id,.sl 6 .id]))]))])],cout := [.id],ntmps := 33,keep := false,res := [(4,none)],body :=
 (.seq (.reg [⟨some 3,.box 34 6 (.t 1),none⟩,
 ⟨some 4,.mv (.c (.b false)),none⟩])
 (.seq (.reg [⟨some 5,.mv (.t 0),none⟩,
 ⟨some 6,.call Gk [.t 5],none⟩,
 ⟨some 7,.mv (.t 6),none⟩,
 ⟨some 8,.mv (.t 0),some (7,true)⟩,
 ⟨some 9,.ld true 6 (.t 3),some (7,true)⟩,
 ⟨some 10,.call Gl [(.t 8),(.t 9),(.c (.b false))],some (7,true)⟩,
 ⟨some 11,.pick (.t 7) (.t 10) (.c (.b false)),none⟩,
 ⟨some 12,.mv (.t 11),none⟩,
 ⟨some 13,.fa 0 (.t 3),some (12,true)⟩,
 ⟨some 14,.ld false 1 (.t 13),some (12,true)⟩,
 ⟨some 15,.bin .geq (.t 14) (.c (.i .i64 0)),some (12,true)⟩,
 ⟨some 16,.mv (.t 15),some (12,true)⟩,
 ⟨some 17,.mv (.t 0),some (16,true)⟩,
 ⟨some 18,.fa 0 (.t 3),some (16,true)⟩,
 ⟨some 19,.ld false 1 (.t 18),some (16,true)⟩,
 ⟨some 20,.call JU [.t 17,.t 19],some (16,true)⟩,
 ⟨some 21,.pick (.t 16) (.t 20) (.c (.b false)),some (12,true)⟩,
 ⟨some 22,.mv (.t 21),some (12,true)⟩,
 ⟨some 23,.fa 0 (.t 3),some (22,false)⟩,
 ⟨some 24,.ld false 1 (.t 23),some (22,false)⟩,
 ⟨some 25,.bin .lss (.t 24) (.c (.i .i64 0)),some (22,false)⟩,
 ⟨some 26,.mv (.t 25),some (22,false)⟩,
 ⟨some 27,.fa 1 (.t 3),some (26,true)⟩,
 ⟨some 28,.ld false 1 (.t 27),some (26,true)⟩,
 ⟨some 29,.bin .eql (.t 28) (.c (.i .u8 2)),some (26,true)⟩,
 ⟨some 30,.pick (.t 26) (.t 29) (.c (.b false)),some (22,false)⟩,
 ⟨some 31,.pick (.t 22) (.c (.b true)) (.t 30),some (12,true)⟩,
 ⟨some 32,.pick (.t 12) (.t 31) (.c (.b false)),none⟩,
 ⟨some 4,.mv (.t 32),none⟩])
 .ret)) }
def Cj : Fun := { cin := [(.agg [.id,.id,(.sl 1 .id),(.sl 4 (.agg [.id,.id,(.sl 1 .id),(.sl 4 (.agg [.id,.id,.sl 1 .id,.sl 4 .id]))]))])],cout := [.id],ntmps := 20,keep := false,res := [(2,none)],body :=
 (.seq (.reg [⟨some 1,.box 30 4 (.t 0),none⟩,
 ⟨some 2,.mv (.c (.b false)),none⟩])
 (.seq (.reg [⟨some 3,.fa 0 (.t 1),none⟩,
 ⟨some 4,.ld false 1 (.t 3),none⟩,
 ⟨some 5,.bin .eql (.t 4) (.c (.i .u8 2)),none⟩,
 ⟨some 6,.mv (.t 5),none⟩,
 ⟨some 7,.ld true 4 (.t 1),some (6,true)⟩,
 ⟨some 8,.call DH [.t 7],some (6,true)⟩,
 ⟨some 9,.pick (.t 6) (.t 8) (.c (.b false)),none⟩,
 ⟨some 10,.mv (.t 9),none⟩,
 ⟨some 11,.ld true 4 (.t 1),some (10,true)⟩,
 ⟨some 12,.call Fb [.t 11],some (10,true)⟩,
 ⟨some 13,.bin .leq (.t 12) (.c (.i .i64 1024)),some (10,true)⟩,
 ⟨some 14,.pick (.t 10) (.t 13) (.c (.b false)),none⟩,
 ⟨some 15,.mv (.t 14),none⟩,
 ⟨some 16,.ld true 4 (.t 1),some (15,true)⟩,
 ⟨some 17,.call Fc [.t 16],some (15,true)⟩,
 ⟨some 18,.bin .leq (.t 17) (.c (.i .i64 24)),some (15,true)⟩,
 ⟨some 19,.pick (.t 15) (.t 18) (.c (.b false)),none⟩,
 ⟨some 2,.mv (.t 19),none⟩])
 .ret)) }
def AZ : Fun := { cin := [.id,(.agg [.id,.id,.id,.id,(.sl 1 .id),(.sl 6 (.agg [.id,.id,.id,.id,(.sl 1 .id),(.sl 6 (.agg [.id,.id,.id,.id,.sl 1 .id,.sl 6 .id]))]))])],cout := [(.agg [.id,.id,(.sl 1 .id),(.sl 4 (.agg [.id,.id,(.sl 1 .id),(.sl 4 (.agg [.id,.id,.sl 1 .id,.sl 4 .id]))]))])],ntmps := 82,keep := false,res := [(4,some (true,4))],body :=
 (.seq (.reg [⟨some 2,.box 54 1 (.t 0),none⟩,
 ⟨some 3,.box 34 6 (.t 1),none⟩,
 ⟨some 4,.alloc 30 [(.i .u8 0),(.s []),.nsl,.nsl],none⟩])
 (.seq (.seq (.reg [⟨some 13,.fa 0 (.t 3),none⟩,
 ⟨some 14,.ld false 1 (.t 13),none⟩,
 ⟨some 15,.bin .geq (.t 14) (.c (.i .i64 0)),none⟩])
 (.cond (.t 15)
 (.seq (.reg [⟨some 16,.ld false 1 (.t 2),none⟩,
 ⟨some 17,.fa 0 (.t 3),none⟩,
 ⟨some 18,.ld false 1 (.t 17),none⟩,
 ⟨some 19,.call Dd [.t 16,.t 18],none⟩,
 ⟨none,.st 4 (.t 4) (.t 19),none⟩])
 .ret)
 .skip))
 (.seq (.reg [⟨some 20,.fa 1 (.t 3),none⟩,
 ⟨some 21,.ld false 1 (.t 20),none⟩,
 ⟨some 22,.fa 2 (.t 3),none⟩,
 ⟨some 23,.ld false 1 (.t 22),none⟩,
 ⟨some 24,.build [(.i .u8 0),(.s []),.nsl,.nsl] [(0,1,(.t 21)),(1,1,(.t 23))],none⟩,
 ⟨some 5,.alloc 30 [(.i .u8 0),(.s []),.nsl,.nsl],none⟩,
 ⟨none,.st 4 (.t 5) (.t 24),none⟩])
 (.seq (.reg [⟨some 25,.build [(.i .u8 0),(.s []),.nsl,.nsl] [],none⟩,
 ⟨some 6,.alloc 30 [(.i .u8 0),(.s []),.nsl,.nsl],none⟩,
 ⟨none,.st 4 (.t 6) (.t 25),none⟩])
 (.seq (.seq (.reg [⟨some 26,.fa 3 (.t 3),none⟩,
 ⟨some 27,.ld false 1 (.t 26),none⟩,
 ⟨some 28,.bin .geq (.t 27) (.c (.i .i64 0)),none⟩])
 (.cond (.t 28)
 (.reg [⟨some 29,.ld false 1 (.t 2),none⟩,
 ⟨some 30,.fa 3 (.t 3),none⟩,
 ⟨some 31,.ld false 1 (.t 30),none⟩,
 ⟨some 32,.call Dd [.t 29,.t 31],none⟩,
 ⟨none,.st 4 (.t 6) (.t 32),none⟩])
 .skip))
 (.seq (.seq (.reg [⟨some 33,.fa 2 (.t 6),none⟩,
 ⟨some 34,.ld false 1 (.t 33),none⟩,
 ⟨some 35,.fa 4 (.t 3),none⟩,
 ⟨some 36,.ld false 1 (.t 35),none⟩,
 ⟨some 37,.call FB [.t 34,.t 36],none⟩])
 (.blk 0 (.rf (.t 37) [38] (.reg [⟨some 7,.mv (.t 38),none⟩])
 (.blk 1 (.seq (.reg [⟨some 8,.alloc 30 [(.i .u8 0),(.s []),.nsl,.nsl],none⟩])
 (.seq (.seq (.reg [⟨some 40,.fa 4 (.t 3),none⟩,
 ⟨some 41,.ld false 1 (.t 40),none⟩,
 ⟨some 42,.mv (.t 7),none⟩,
 ⟨some 43,.call AX [.t 41,.t 42],none⟩,
 ⟨some 39,.mv (.t 43),none⟩,
 ⟨some 44,.ext (.t 39) 0,none⟩,
 ⟨some 45,.ext (.t 39) 1,none⟩,
 ⟨some 9,.mv (.t 44),none⟩,
 ⟨some 10,.mv (.t 45),none⟩])
 (.seq (.reg [⟨some 46,.mv (.t 10),none⟩])
 (.cond (.t 46)
 (.regD [⟨some 47,.ld false 1 (.t 2),none⟩,
 ⟨some 48,.fa 5 (.t 3),none⟩,
 ⟨some 49,.ld false 1 (.t 48),none⟩,
 ⟨some 50,.mv (.t 9),none⟩,
 ⟨some 51,.ia 6 (.t 49) (.t 50),none⟩,
 ⟨some 52,.ld true 6 (.t 51),none⟩,
 ⟨some 53,.call BI [.t 47,.t 52],none⟩,
 ⟨none,.st 4 (.t 8) (.t 53),none⟩] [])
 (.seq (.reg [⟨some 55,.fa 2 (.t 6),none⟩,
 ⟨some 56,.ld false 1 (.t 55),none⟩,
 ⟨some 57,.mv (.t 7),none⟩,
 ⟨some 58,.call AX [.t 56,.t 57],none⟩,
 ⟨some 54,.mv (.t 58),none⟩,
 ⟨some 59,.ext (.t 54) 0,none⟩,
 ⟨some 60,.ext (.t 54) 1,none⟩,
 ⟨some 11,.mv (.t 59),none⟩,
 ⟨some 12,.mv (.t 60),none⟩])
 (.reg [⟨some 61,.fa 3 (.t 6),none⟩,
 ⟨some 62,.ld false 1 (.t 61),none⟩,
 ⟨some 63,.mv (.t 11),none⟩,
 ⟨some 64,.ia 4 (.t 62) (.t 63),none⟩,
 ⟨some 65,.ld true 4 (.t 64),none⟩,
 ⟨none,.st 4 (.t 8) (.t 65),none⟩])))))
 (.seq (.reg [⟨some 66,.fa 0 (.t 8),none⟩,
 ⟨some 67,.ld false 1 (.t 66),none⟩,
 ⟨some 68,.bin .neq (.t 67) (.c (.i .u8 0)),none⟩])
 (.cond (.t 68)
 (.regD [⟨some 69,.fa 2 (.t 5),none⟩,
 ⟨some 70,.ld false 1 (.t 69),none⟩,
 ⟨some 71,.mv (.t 7),none⟩,
 ⟨some 72,.bsl 1 [.t 71],none⟩,
 ⟨some 73,.app 1 9 (.t 70) (.t 72),none⟩,
 ⟨some 74,.fa 3 (.t 5),none⟩,
 ⟨some 75,.ld false 1 (.t 74),none⟩,
 ⟨some 76,.ld true 4 (.t 8),none⟩,
 ⟨some 77,.bsl 4 [.t 76],none⟩,
 ⟨some 78,.app 4 30 (.t 75) (.t 77),none⟩,
 ⟨some 79,.fa 2 (.t 5),none⟩,
 ⟨none,.st 1 (.t 79) (.t 73),none⟩,
 ⟨some 80,.fa 3 (.t 5),none⟩,
 ⟨none,.st 1 (.t 80) (.t 78),none⟩] [(6,(4,6)),(7,(4,7))])
 .skip))))))))
 (.seq (.reg [⟨some 81,.ld true 4 (.t 5),none⟩,
 ⟨none,.st 4 (.t 4) (.t 81),none⟩])
 .ret))))))) }
def Ce : Fun := { cin := [(.agg [.id,.id,.id,.id,(.sl 1 .id),(.sl 6 (.agg [.id,.id,.id,.id,(.sl 1 .id),(.sl 6 (.agg [.id,.id,.id,.id,.sl 1 .id,.sl 6 .id]))]))])],cout := [.id],ntmps := 17,keep := false,res := [(2,none)],body :=
 (.seq (.reg [⟨some 1,.box 34 6 (.t 0),none⟩,
 ⟨some 2,.mv (.c (.b false)),none⟩])
 (.seq (.reg [⟨some 3,.fa 0 (.t 1),none⟩,
 ⟨some 4,.ld false 1 (.t 3),none⟩,
 ⟨some 5,.bin .eql (.t 4) (.c (.i .i64 (-1))),none⟩,
 ⟨some 6,.mv (.t 5),none⟩,
 ⟨some 7,.fa 3 (.t 1),some (6,true)⟩,
 ⟨some 8,.ld false 1 (.t 7),some (6,true)⟩,
 ⟨some 9,.bin .eql (.t 8) (.c (.i .i64 (-1))),some (6,true)⟩,
 ⟨some 10,.pick (.t 6) (.t 9) (.c (.b false)),none⟩,
 ⟨some 11,.mv (.t 10),none⟩,
 ⟨some 12,.fa 5 (.t 1),some (11,true)⟩,
 ⟨some 13,.ld false 1 (.t 12),some (11,true)⟩,
 ⟨some 14,.call BP [(.t 13),(.c (.fn DU []))],some (11,true)⟩,
 ⟨some 15,.un .not (.t 14),some (11,true)⟩,
 ⟨some 16,.pick (.t 11) (.t 15) (.c (.b false)),none⟩,
 ⟨some 2,.mv (.t 16),none⟩])
 .ret)) }
def A1 : Fun := { cin := [(.agg [.id,.id,(.sl 1 .id),(.sl 4 (.agg [.id,.id,(.sl 1 .id),(.sl 4 (.agg [.id,.id,.sl 1 .id,.sl 4 .id]))]))])],cout := [.id],ntmps := 89,keep := false,res := [(2,none)],body :=
 (.seq (.reg [⟨some 1,.box 30 4 (.t 0),none⟩,
 ⟨some 2,.mv (.c (.b false)),none⟩])
 (.seq (.seq (.reg [⟨some 5,.fa 0 (.t 1),none⟩,
 ⟨some 6,.ld false 1 (.t 5),none⟩])
 (.blk 0 (.seq (.seq (.reg [⟨some 8,.bin .eql (.t 6) (.c (.i .u8 1)),none⟩,
 ⟨some 7,.mv (.t 8),none⟩])
 (.cond (.t 7)
 .skip
 (.reg [⟨some 9,.bin .eql (.t 6) (.c (.i .u8 3)),none⟩,
 ⟨some 7,.mv (.t 9),none⟩])))
 (.cond (.t 7)
 (.seq (.reg [⟨some 10,.fa 2 (.t 1),none⟩,
 ⟨some 11,.ld false 1 (.t 10),none⟩,
 ⟨some 12,.len 1 (.t 11),none⟩,
 ⟨some 13,.fa 3 (.t 1),none⟩,
 ⟨some 14,.ld false 1 (.t 13),none⟩,
 ⟨some 15,.len 1 (.t 14),none⟩,
 ⟨some 16,.bin .add (.t 12) (.t 15),none⟩,
 ⟨some 17,.bin .eql (.t 16) (.c (.i .i64 0)),none⟩,
 ⟨some 18,.mv (.t 17),none⟩,
 ⟨some 19,.fa 1 (.t 1),some (18,true)⟩,
 ⟨some 20,.ld false 1 (.t 19),some (18,true)⟩,
 ⟨some 21,.len 0 (.t 20),some (18,true)⟩,
 ⟨some 22,.bin .leq (.t 21) (.c (.i .i64 256)),some (18,true)⟩,
 ⟨some 23,.pick (.t 18) (.t 22) (.c (.b false)),none⟩,
 ⟨some 24,.mv (.t 23),none⟩,
 ⟨some 25,.fa 1 (.t 1),some (24,true)⟩,
 ⟨some 26,.ld false 1 (.t 25),some (24,true)⟩,
 ⟨some 27,.call CA [(.t 26),(.c (.i .u8 0))],some (24,true)⟩,
 ⟨some 28,.bin .lss (.t 27) (.c (.i .i64 0)),some (24,true)⟩,
 ⟨some 29,.pick (.t 24) (.t 28) (.c (.b false)),none⟩,
 ⟨some 30,.mv (.t 29),none⟩,
 ⟨some 31,.fa 0 (.t 1),some (30,true)⟩,
 ⟨some 32,.ld false 1 (.t 31),some (30,true)⟩,
 ⟨some 33,.bin .eql (.t 32) (.c (.i .u8 1)),some (30,true)⟩,
 ⟨some 34,.mv (.t 33),some (30,true)⟩,
 ⟨some 35,.fa 1 (.t 1),some (34,false)⟩,
 ⟨some 36,.ld false 1 (.t 35),some (34,false)⟩,
 ⟨some 37,.bin .neq (.t 36) (.c (.s [])),some (34,false)⟩,
 ⟨some 38,.pick (.t 34) (.c (.b true)) (.t 37),some (30,true)⟩,
 ⟨some 39,.pick (.t 30) (.t 38) (.c (.b false)),none⟩,
 ⟨some 2,.mv (.t 39),none⟩])
 .ret)
 (.seq (.reg [⟨some 41,.bin .eql (.t 6) (.c (.i .u8 2)),none⟩,
 ⟨some 40,.mv (.t 41),none⟩])
 (.cond (.t 40)
 (.seq (.seq (.reg [⟨some 42,.fa 1 (.t 1),none⟩,
 ⟨some 43,.ld false 1 (.t 42),none⟩,
 ⟨some 44,.bin .neq (.t 43) (.c (.s [])),none⟩,
 ⟨some 45,.mv (.t 44),none⟩,
 ⟨some 46,.fa 2 (.t 1),some (45,false)⟩,
 ⟨some 47,.ld false 1 (.t 46),some (45,false)⟩,
 ⟨some 48,.len 1 (.t 47),some (45,false)⟩,
 ⟨some 49,.fa 3 (.t 1),some (45,false)⟩,
 ⟨some 50,.ld false 1 (.t 49),some (45,false)⟩,
 ⟨some 51,.len 1 (.t 50),some (45,false)⟩,
 ⟨some 52,.bin .neq (.t 48) (.t 51),some (45,false)⟩,
 ⟨some 53,.pick (.t 45) (.c (.b true)) (.t 52),none⟩])
 (.cond (.t 53)
 (.seq (.reg [⟨some 2,.mv (.c (.b false)),none⟩])
 .ret)
 .skip))
 (.seq (.seq (.reg [⟨some 54,.fa 2 (.t 1),none⟩,
 ⟨some 55,.ld false 1 (.t 54),none⟩,
 ⟨some 56,.len 1 (.t 55),none⟩,
 ⟨some 57,.mv (.c (.i .i64 0)),none⟩])
 (.blk 1 (.loop (.seq (.reg [⟨some 58,.bin .lss (.t 57) (.t 56),none⟩])
 (.seq (.cond (.t 58)
 .skip
 (.exit 1))
 (.seq (.blk 2 (.seq (.reg [⟨some 59,.mv (.t 57),none⟩,
 ⟨some 60,.ia 1 (.t 55) (.t 57),none⟩,
 ⟨some 61,.ld false 1 (.t 60),none⟩,
 ⟨some 3,.mv (.t 59),none⟩,
 ⟨some 4,.mv (.t 61),none⟩])
 (.seq (.reg [⟨some 62,.mv (.t 4),none⟩,
 ⟨some 63,.call Fx [.t 62],none⟩,
 ⟨some 64,.un .not (.t 63),none⟩,
 ⟨some 65,.mv (.t 64),none⟩,
 ⟨some 66,.mv (.t 3),some (65,false)⟩,
 ⟨some 67,.bin .gtr (.t 66) (.c (.i .i64 0)),some (65,false)⟩,
 ⟨some 68,.mv (.t 67),some (65,false)⟩,
 ⟨some 69,.mv (.t 4),some (68,true)⟩,
 ⟨some 70,.fa 2 (.t 1),some (68,true)⟩,
 ⟨some 71,.ld false 1 (.t 70),some (68,true)⟩,
 ⟨some 72,.mv (.t 3),some (68,true)⟩,
 ⟨some 73,.bin .sub (.t 72) (.c (.i .i64 1)),some (68,true)⟩,
 ⟨some 74,.ia 1 (.t 71) (.t 73),some (68,true)⟩,
 ⟨some 75,.ld false 1 (.t 74),some (68,true)⟩,
 ⟨some 76,.bin .leq (.t 69) (.t 75),some (68,true)⟩,
 ⟨some 77,.pick (.t 68) (.t 76) (.c (.b false)),some (65,false)⟩,
 ⟨some 78,.pick (.t 65) (.c (.b true)) (.t 77),none⟩,
 ⟨some 79,.mv (.t 78),none⟩,
 ⟨some 80,.fa 3 (.t 1),some (79,false)⟩,
 ⟨some 81,.ld false 1 (.t 80),some (79,false)⟩,
 ⟨some 82,.mv (.t 3),some (79,false)⟩,
 ⟨some 83,.ia 4 (.t 81) (.t 82),some (79,false)⟩,
 ⟨some 84,.ld true 4 (.t 83),some (79,false)⟩,
 ⟨some 85,.call DH [.t 84],some (79,false)⟩,
 ⟨some 86,.un .not (.t 85),some (79,false)⟩,
 ⟨some 87,.pick (.t 79) (.c (.b true)) (.t 86),none⟩])
 (.cond (.t 87)
 (.seq (.reg [⟨some 2,.mv (.c (.b false)),none⟩])
 .ret)
 .skip))))
 (.reg [⟨some 88,.bin .add (.t 57) (.c (.i .i64 1)),none⟩,
 ⟨some 57,.mv (.t 88),none⟩])))))))
 (.seq (.reg [⟨some 2,.mv (.c (.b true)),none⟩])
 .ret)))
 .skip))))))
 (.seq (.reg [⟨some 2,.mv (.c (.b false)),none⟩])
 .ret))) }
def D2 : Fun := { cin := [(.agg [.id,.id,(.sl 1 .id),(.sl 4 (.agg [.id,.id,(.sl 1 .id),(.sl 4 (.agg [.id,.id,.sl 1 .id,.sl 4 .id]))]))])],cout := [(.agg [.id,.id,.id,.id,(.sl 1 .id),(.sl 6 (.agg [.id,.id,.id,.id,(.sl 1 .id),(.sl 6 (.agg [.id,.id,.id,.id,.sl 1 .id,.sl 6 .id]))]))])],ntmps := 30,keep := false,res := [(2,some (true,6))],body :=
 (.seq (.reg [⟨some 1,.box 30 4 (.t 0),none⟩,
 ⟨some 2,.alloc 34 [(.i .i64 0),(.i .u8 0),(.s []),(.i .i64 0),.nsl,.nsl],none⟩])
 (.seq (.regD [⟨some 6,.fa 0 (.t 1),none⟩,
 ⟨some 7,.ld false 1 (.t 6),none⟩,
 ⟨some 8,.fa 1 (.t 1),none⟩,
 ⟨some 9,.ld false 1 (.t 8),none⟩,
 ⟨some 10,.fa 2 (.t 1),none⟩,
 ⟨some 11,.ld false 1 (.t 10),none⟩,
 ⟨some 12,.callQ false Ad [.t 11],none⟩,
 ⟨some 13,.build [(.i .i64 0),(.i .u8 0),(.s []),(.i .i64 0),.nsl,.nsl] [(0,1,(.c (.i .i64 (-1)))),(1,1,(.t 7)),(2,1,(.t 9)),(3,1,(.c (.i .i64 (-1)))),(4,1,(.t 12))],none⟩,
 ⟨none,.mv (.c (.tup [])),none⟩,
 ⟨some 3,.adp 34 [(.i .i64 0),(.i .u8 0),(.s []),(.i .i64 0),.nsl,.nsl] 6 (.t 13),none⟩] [(1,(1,7)),(3,(3,7))])
 (.seq (.seq (.reg [⟨some 14,.fa 3 (.t 1),none⟩,
 ⟨some 15,.ld false 1 (.t 14),none⟩,
 ⟨some 16,.len 1 (.t 15),none⟩,
 ⟨some 17,.mv (.c (.i .i64 0)),none⟩])
 (.blk 0 (.loop (.seq (.reg [⟨some 18,.bin .lss (.t 17) (.t 16),none⟩])
 (.seq (.cond (.t 18)
 .skip
 (.exit 0))
 (.seq (.blk 1 (.seq (.reg [⟨some 19,.ia 4 (.t 15) (.t 17),none⟩,
 ⟨some 20,.ld true 4 (.t 19),none⟩,
 ⟨some 5,.alloc 30 [(.i .u8 0),(.s []),.nsl,.nsl],none⟩,
 ⟨none,.st 4 (.t 5) (.t 20),none⟩])
 (.regD [⟨some 21,.fa 5 (.t 3),none⟩,
 ⟨some 22,.ld false 1 (.t 21),none⟩,
 ⟨some 23,.ld true 4 (.t 5),none⟩,
 ⟨some 24,.callQ false Fa [.t 23],none⟩,
 ⟨some 25,.bsl 6 [.t 24],none⟩,
 ⟨some 26,.app 6 34 (.t 22) (.t 25),none⟩,
 ⟨some 27,.fa 5 (.t 3),none⟩,
 ⟨none,.st 1 (.t 27) (.t 26),none⟩] [(1,(1,4))])))
 (.reg [⟨some 28,.bin .add (.t 17) (.c (.i .i64 1)),none⟩,
 ⟨some 17,.mv (.t 28),none⟩])))))))
 (.seq (.reg [⟨some 29,.ld true 6 (.t 3),none⟩,
 ⟨none,.st 6 (.t 2) (.t 29),none⟩])
 .ret)))) }
def Cc : Fun := { cin := [(.sl 6 (.agg [.id,.id,.sl 1 .id,.sl 1 .id,.id,.id])),(.agg [.id,.id,(.sl 1 .id),(.sl 4 (.agg [.id,.id,(.sl 1 .id),(.sl 4 (.agg [.id,.id,.sl 1 .id,.sl 4 .id]))]))])],cout := [.id,.id],ntmps := 60,keep := false,res := [(4,none),(5,none)],body :=
 (.seq (.reg [⟨some 3,.box 30 4 (.t 1),none⟩,
 ⟨some 4,.mv (.c (.i .i64 0)),none⟩,
 ⟨some 5,.mv (.c (.i .i64 0)),none⟩])
 (.seq (.seq (.reg [⟨some 9,.mv (.t 0),none⟩,
 ⟨some 10,.call Gk [.t 9],none⟩,
 ⟨some 11,.un .not (.t 10),none⟩,
 ⟨some 12,.mv (.t 11),none⟩,
 ⟨some 13,.ld true 4 (.t 3),some (12,false)⟩,
 ⟨some 14,.call Fw [.t 13],some (12,false)⟩,
 ⟨some 15,.un .not (.t 14),some (12,false)⟩,
 ⟨some 16,.pick (.t 12) (.c (.b true)) (.t 15),none⟩])
 (.cond (.t 16)
 (.seq (.reg [⟨some 4,.mv (.c (.i .i64 0)),none⟩,
 ⟨some 5,.mv (.c (.i .i64 4)),none⟩])
 .ret)
 .skip))
 (.seq (.seq (.reg [⟨some 17,.mv (.t 0),none⟩,
 ⟨some 18,.len 1 (.t 17),none⟩,
 ⟨some 19,.mv (.c (.i .i64 0)),none⟩])
 (.blk 0 (.loop (.seq (.reg [⟨some 20,.bin .lss (.t 19) (.t 18),none⟩])
 (.seq (.cond (.t 20)
 .skip
 (.exit 0))
 (.seq (.blk 1 (.seq (.reg [⟨some 21,.mv (.t 19),none⟩,
 ⟨some 6,.mv (.t 21),none⟩])
 (.seq (.seq (.seq (.thw 0)
 (.reg [⟨some 22,.mv (.t 0),none⟩,
 ⟨some 23,.mv (.t 6),none⟩,
 ⟨some 24,.ia 6 (.t 22) (.t 23),none⟩,
 ⟨some 25,.fa 0 (.t 24),none⟩,
 ⟨some 26,.ld false 1 (.t 25),none⟩,
 ⟨some 27,.un .not (.t 26),none⟩]))
 (.cond (.t 27)
 (.exit 1)
 .skip))
 (.seq (.reg [⟨some 29,.mv (.t 0),none⟩,
 ⟨some 30,.ld true 4 (.t 3),none⟩,
 ⟨some 31,.mv (.t 6),none⟩,
 ⟨some 32,.call GI [.t 29,.t 30,.t 31],none⟩,
 ⟨some 28,.mv (.t 32),none⟩,
 ⟨some 33,.ext (.t 28) 0,none⟩,
 ⟨some 34,.ext (.t 28) 1,none⟩,
 ⟨some 7,.alloc 30 [(.i .u8 0),(.s []),.nsl,.nsl],none⟩,
 ⟨none,.st 4 (.t 7) (.t 33),none⟩,
 ⟨some 8,.mv (.t 34),none⟩])
 (.seq (.seq (.thw 0)
 (.regD [⟨some 35,.fa 0 (.t 7),none⟩,
 ⟨some 36,.ld false 1 (.t 35),none⟩,
 ⟨some 37,.mv (.t 0),none⟩,
 ⟨some 38,.mv (.t 6),none⟩,
 ⟨some 39,.ia 6 (.t 37) (.t 38),none⟩,
 ⟨some 40,.fa 1 (.t 39),none⟩,
 ⟨some 41,.ld false 1 (.t 40),none⟩,
 ⟨some 42,.bin .neq (.t 36) (.t 41),none⟩,
 ⟨some 43,.mv (.t 42),none⟩,
 ⟨some 44,.fa 0 (.t 7),some (43,false)⟩,
 ⟨some 45,.ld false 1 (.t 44),some (43,false)⟩,
 ⟨some 46,.bin .eql (.t 45) (.c (.i .u8 2)),some (43,false)⟩,
 ⟨some 47,.mv (.t 46),some (43,false)⟩,
 ⟨some 48,.mv (.t 0),some (47,true)⟩,
 ⟨some 49,.mv (.t 6),some (47,true)⟩,
 ⟨some 50,.ia 6 (.t 48) (.t 49),some (47,true)⟩,
 ⟨some 51,.ld true 6 (.t 50),some (47,true)⟩,
 ⟨some 52,.fa 2 (.t 7),some (47,true)⟩,
 ⟨some 53,.ld false 1 (.t 52),some (47,true)⟩,
 ⟨some 54,.call Fy [.t 51,.t 53],some (47,true)⟩,
 ⟨some 55,.un .not (.t 54),some (47,true)⟩,
 ⟨some 56,.pick (.t 47) (.t 55) (.c (.b false)),some (43,false)⟩,
 ⟨some 57,.pick (.t 43) (.c (.b true)) (.t 56),none⟩] []))
 (.cond (.t 57)
 (.seq (.reg [⟨some 58,.mv (.t 6),none⟩,
 ⟨some 4,.mv (.t 58),none⟩,
 ⟨some 5,.mv (.c (.i .i64 0)),none⟩])
 .ret)
 .skip))))))
 (.reg [⟨some 59,.bin .add (.t 19) (.c (.i .i64 1)),none⟩,
 ⟨some 19,.mv (.t 59),none⟩])))))))
 (.seq (.reg [⟨some 4,.mv (.c (.i .i64 (-1))),none⟩,
 ⟨some 5,.mv (.c (.i .i64 0)),none⟩])
 .ret)))) }
def Ef : Fun := { cin := [(.sl 6 (.agg [.id,.id,.sl 1 .id,.sl 1 .id,.id,.id]))],cout := [.id],ntmps := 59,keep := false,res := [(2,none)],body :=
 (.seq (.reg [⟨some 2,.mv (.c (.b false)),none⟩])
 (.seq (.seq (.reg [⟨some 8,.mv (.t 0),none⟩,
 ⟨some 9,.len 1 (.t 8),none⟩,
 ⟨some 10,.bin .eql (.t 9) (.c (.i .i64 0)),none⟩,
 ⟨some 11,.mv (.t 10),none⟩,
 ⟨some 12,.mv (.t 0),some (11,false)⟩,
 ⟨some 13,.ia 6 (.t 12) (.c (.i .i64 0)),some (11,false)⟩,
 ⟨some 14,.ld true 6 (.t 13),some (11,false)⟩,
 ⟨some 15,.call JV [.t 14],some (11,false)⟩,
 ⟨some 16,.un .not (.t 15),some (11,false)⟩,
 ⟨some 17,.pick (.t 11) (.c (.b true)) (.t 16),none⟩])
 (.cond (.t 17)
 (.seq (.reg [⟨some 2,.mv (.c (.b false)),none⟩])
 .ret)
 .skip))
 (.seq (.reg [⟨some 18,.mv (.t 0),none⟩,
 ⟨some 19,.len 1 (.t 18),none⟩,
 ⟨some 20,.mks 3 1 [.i .i64 0] (.t 19) (.t 19),none⟩,
 ⟨some 3,.mv (.t 20),none⟩])
 (.seq (.seq (.reg [⟨some 21,.mv (.t 0),none⟩,
 ⟨some 22,.len 1 (.t 21),none⟩,
 ⟨some 23,.mv (.c (.i .i64 0)),none⟩])
 (.blk 0 (.loop (.seq (.reg [⟨some 24,.bin .lss (.t 23) (.t 22),none⟩])
 (.seq (.cond (.t 24)
 .skip
 (.exit 0))
 (.seq (.blk 1 (.seq (.reg [⟨some 25,.mv (.t 23),none⟩,
 ⟨some 26,.ia 6 (.t 21) (.t 23),none⟩,
 ⟨some 27,.ld true 6 (.t 26),none⟩,
 ⟨some 5,.alloc 26 [.b false,.i .u8 0,.nsl,.nsl,.i .i64 0,.i .i64 0],none⟩,
 ⟨some 4,.mv (.t 25),none⟩,
 ⟨none,.st 6 (.t 5) (.t 27),none⟩])
 (.seq (.seq (.reg [⟨some 28,.ld true 6 (.t 5),none⟩,
 ⟨some 29,.call MD [.t 28],none⟩,
 ⟨some 30,.un .not (.t 29),none⟩])
 (.cond (.t 30)
 (.seq (.reg [⟨some 2,.mv (.c (.b false)),none⟩])
 .ret)
 .skip))
 (.seq (.reg [⟨some 31,.fa 3 (.t 5),none⟩,
 ⟨some 32,.ld false 1 (.t 31),none⟩,
 ⟨some 33,.len 1 (.t 32),none⟩,
 ⟨some 34,.mv (.c (.i .i64 0)),none⟩])
 (.blk 2 (.loop (.seq (.reg [⟨some 35,.bin .lss (.t 34) (.t 33),none⟩])
 (.seq (.cond (.t 35)
 .skip
 (.exit 2))
 (.seq (.blk 3 (.seq (.reg [⟨some 36,.ia 1 (.t 32) (.t 34),none⟩,
 ⟨some 37,.ld false 1 (.t 36),none⟩,
 ⟨some 7,.mv (.t 37),none⟩])
 (.seq (.seq (.reg [⟨some 38,.mv (.t 7),none⟩,
 ⟨some 39,.mv (.t 4),none⟩,
 ⟨some 40,.bin .leq (.t 38) (.t 39),none⟩,
 ⟨some 41,.mv (.t 40),none⟩,
 ⟨some 42,.mv (.t 7),some (41,false)⟩,
 ⟨some 43,.mv (.t 0),some (41,false)⟩,
 ⟨some 44,.len 1 (.t 43),some (41,false)⟩,
 ⟨some 45,.bin .geq (.t 42) (.t 44),some (41,false)⟩,
 ⟨some 46,.pick (.t 41) (.c (.b true)) (.t 45),none⟩])
 (.cond (.t 46)
 (.seq (.reg [⟨some 2,.mv (.c (.b false)),none⟩])
 .ret)
 .skip))
 (.seq (.thw 3)
 (.reg [⟨some 47,.mv (.t 3),none⟩,
 ⟨some 48,.mv (.t 7),none⟩,
 ⟨some 49,.ia 1 (.t 47) (.t 48),none⟩,
 ⟨some 50,.ld false 1 (.t 49),none⟩,
 ⟨some 51,.bin .add (.t 50) (.c (.i .i64 1)),none⟩,
 ⟨some 52,.ia 1 (.t 47) (.t 48),none⟩,
 ⟨none,.st 1 (.t 52) (.t 51),none⟩])))))
 (.reg [⟨some 53,.bin .add (.t 34) (.c (.i .i64 1)),none⟩,
 ⟨some 34,.mv (.t 53),none⟩]))))))))))
 (.reg [⟨some 54,.bin .add (.t 23) (.c (.i .i64 1)),none⟩,
 ⟨some 23,.mv (.t 54),none⟩])))))))
 (.seq (.reg [⟨some 55,.mv (.t 3),none⟩,
 ⟨some 56,.slc false 1 (.t 55) (some (.c (.i .i64 1))) none none,none⟩,
 ⟨some 57,.call CS [(.t 56),(.c (.fn HK []))],none⟩,
 ⟨some 58,.un .not (.t 57),none⟩,
 ⟨some 2,.mv (.t 58),none⟩])
 .ret))))) }
def Bn : Fun := { cin := [(.sl 6 (.agg [.id,.id,.sl 1 .id,.sl 1 .id,.id,.id])),(.agg [.id,.id,.id,.id,(.sl 1 .id),(.sl 6 (.agg [.id,.id,.id,.id,(.sl 1 .id),(.sl 6 (.agg [.id,.id,.id,.id,.sl 1 .id,.sl 6 .id]))]))]),.id],cout := [.id],ntmps := 130,keep := false,res := [(6,none)],body :=
 (.seq (.reg [⟨some 4,.box 34 6 (.t 1),none⟩,
 ⟨some 6,.mv (.c (.b false)),none⟩])
 (.seq (.seq (.reg [⟨some 10,.fa 0 (.t 4),none⟩,
 ⟨some 11,.ld false 1 (.t 10),none⟩,
 ⟨some 12,.bin .neq (.t 11) (.c (.i .i64 (-1))),none⟩])
 (.cond (.t 12)
 (.seq (.regD [⟨some 13,.fa 0 (.t 4),none⟩,
 ⟨some 14,.ld false 1 (.t 13),none⟩,
 ⟨some 15,.bin .geq (.t 14) (.c (.i .i64 0)),none⟩,
 ⟨some 16,.mv (.t 15),none⟩,
 ⟨some 17,.fa 0 (.t 4),some (16,true)⟩,
 ⟨some 18,.ld false 1 (.t 17),some (16,true)⟩,
 ⟨some 19,.mv (.t 0),some (16,true)⟩,
 ⟨some 20,.len 1 (.t 19),some (16,true)⟩,
 ⟨some 21,.bin .lss (.t 18) (.t 20),some (16,true)⟩,
 ⟨some 22,.pick (.t 16) (.t 21) (.c (.b false)),none⟩,
 ⟨some 23,.mv (.t 22),none⟩,
 ⟨some 24,.ld true 6 (.t 4),some (23,true)⟩,
 ⟨some 25,.fa 0 (.t 4),some (23,true)⟩,
 ⟨some 26,.ld false 1 (.t 25),some (23,true)⟩,
 ⟨some 27,.call ME [.t 26],some (23,true)⟩,
 ⟨some 28,.call ET [.t 24,.t 27],some (23,true)⟩,
 ⟨some 29,.pick (.t 23) (.t 28) (.c (.b false)),none⟩,
 ⟨some 6,.mv (.t 29),none⟩] [(11,(11,15))])
 .ret)
 .skip))
 (.seq (.reg [⟨some 30,.fa 1 (.t 4),none⟩,
 ⟨some 31,.ld false 1 (.t 30),none⟩,
 ⟨some 32,.fa 2 (.t 4),none⟩,
 ⟨some 33,.ld false 1 (.t 32),none⟩,
 ⟨some 34,.build [(.i .u8 0),(.s []),.nsl,.nsl] [(0,1,(.t 31)),(1,1,(.t 33))],none⟩,
 ⟨some 7,.alloc 30 [(.i .u8 0),(.s []),.nsl,.nsl],none⟩,
 ⟨none,.st 4 (.t 7) (.t 34),none⟩])
 (.seq (.blk 0 (.seq (.reg [⟨some 36,.fa 1 (.t 4),none⟩,
 ⟨some 37,.ld false 1 (.t 36),none⟩,
 ⟨some 38,.bin .eql (.t 37) (.c (.i .u8 0)),none⟩,
 ⟨some 35,.mv (.t 38),none⟩])
 (.cond (.t 35)
 (.seq (.regD [⟨some 39,.mv (.t 2),none⟩,
 ⟨some 40,.mv (.t 39),none⟩,
 ⟨some 41,.ld true 6 (.t 4),some (40,true)⟩,
 ⟨some 42,.call Kg [],some (40,true)⟩,
 ⟨some 43,.call ET [.t 41,.t 42],some (40,true)⟩,
 ⟨some 44,.pick (.t 40) (.t 43) (.c (.b false)),none⟩,
 ⟨some 6,.mv (.t 44),none⟩] [(2,(2,4))])
 .ret)
 (.seq (.reg [⟨some 46,.fa 1 (.t 4),none⟩,
 ⟨some 47,.ld false 1 (.t 46),none⟩,
 ⟨some 48,.bin .neq (.t 47) (.c (.i .u8 2)),none⟩,
 ⟨some 45,.mv (.t 48),none⟩])
 (.cond (.t 45)
 (.seq (.reg [⟨some 49,.ld true 4 (.t 7),none⟩,
 ⟨some 50,.call DH [.t 49],none⟩,
 ⟨some 51,.mv (.t 50),none⟩,
 ⟨some 52,.fa 3 (.t 4),some (51,true)⟩,
 ⟨some 53,.ld false 1 (.t 52),some (51,true)⟩,
 ⟨some 54,.bin .eql (.t 53) (.c (.i .i64 (-1))),some (51,true)⟩,
 ⟨some 55,.pick (.t 51) (.t 54) (.c (.b false)),none⟩,
 ⟨some 56,.mv (.t 55),none⟩,
 ⟨some 57,.fa 4 (.t 4),some (56,true)⟩,
 ⟨some 58,.ld false 1 (.t 57),some (56,true)⟩,
 ⟨some 59,.len 1 (.t 58),some (56,true)⟩,
 ⟨some 60,.fa 5 (.t 4),some (56,true)⟩,
 ⟨some 61,.ld false 1 (.t 60),some (56,true)⟩,
 ⟨some 62,.len 1 (.t 61),some (56,true)⟩,
 ⟨some 63,.bin .add (.t 59) (.t 62),some (56,true)⟩,
 ⟨some 64,.bin .eql (.t 63) (.c (.i .i64 0)),some (56,true)⟩,
 ⟨some 65,.pick (.t 56) (.t 64) (.c (.b false)),none⟩,
 ⟨some 6,.mv (.t 65),none⟩])
 .ret)
 (.seq (.reg [⟨some 67,.fa 2 (.t 4),none⟩,
 ⟨some 68,.ld false 1 (.t 67),none⟩,
 ⟨some 69,.bin .neq (.t 68) (.c (.s [])),none⟩,
 ⟨some 70,.mv (.t 69),none⟩,
 ⟨some 71,.fa 3 (.t 4),some (70,false)⟩,
 ⟨some 72,.ld false 1 (.t 71),some (70,false)⟩,
 ⟨some 73,.bin .neq (.t 72) (.c (.i .i64 (-1))),some (70,false)⟩,
 ⟨some 74,.mv (.t 73),some (70,false)⟩,
 ⟨some 75,.mv (.t 0),some (74,true)⟩,
 ⟨some 76,.fa 3 (.t 4),some (74,true)⟩,
 ⟨some 77,.ld false 1 (.t 76),some (74,true)⟩,
 ⟨some 78,.call JU [.t 75,.t 77],some (74,true)⟩,
 ⟨some 79,.un .not (.t 78),some (74,true)⟩,
 ⟨some 80,.pick (.t 74) (.t 79) (.c (.b false)),some (70,false)⟩,
 ⟨some 81,.pick (.t 70) (.c (.b true)) (.t 80),none⟩,
 ⟨some 82,.mv (.t 81),none⟩,
 ⟨some 83,.fa 4 (.t 4),some (82,false)⟩,
 ⟨some 84,.ld false 1 (.t 83),some (82,false)⟩,
 ⟨some 85,.len 1 (.t 84),some (82,false)⟩,
 ⟨some 86,.fa 5 (.t 4),some (82,false)⟩,
 ⟨some 87,.ld false 1 (.t 86),some (82,false)⟩,
 ⟨some 88,.len 1 (.t 87),some (82,false)⟩,
 ⟨some 89,.bin .neq (.t 85) (.t 88),some (82,false)⟩,
 ⟨some 90,.pick (.t 82) (.c (.b true)) (.t 89),none⟩,
 ⟨some 66,.mv (.t 90),none⟩])
 (.cond (.t 66)
 (.seq (.reg [⟨some 6,.mv (.c (.b false)),none⟩])
 .ret)
 .skip)))))))
 (.seq (.seq (.reg [⟨some 91,.fa 4 (.t 4),none⟩,
 ⟨some 92,.ld false 1 (.t 91),none⟩,
 ⟨some 93,.len 1 (.t 92),none⟩,
 ⟨some 94,.mv (.c (.i .i64 0)),none⟩])
 (.blk 1 (.loop (.seq (.reg [⟨some 95,.bin .lss (.t 94) (.t 93),none⟩])
 (.seq (.cond (.t 95)
 .skip
 (.exit 1))
 (.seq (.blk 2 (.seq (.reg [⟨some 96,.mv (.t 94),none⟩,
 ⟨some 97,.ia 1 (.t 92) (.t 94),none⟩,
 ⟨some 98,.ld false 1 (.t 97),none⟩,
 ⟨some 8,.mv (.t 96),none⟩,
 ⟨some 9,.mv (.t 98),none⟩])
 (.seq (.regD [⟨some 99,.mv (.t 9),none⟩,
 ⟨some 100,.call Fx [.t 99],none⟩,
 ⟨some 101,.un .not (.t 100),none⟩,
 ⟨some 102,.mv (.t 101),none⟩,
 ⟨some 103,.mv (.t 8),some (102,false)⟩,
 ⟨some 104,.bin .gtr (.t 103) (.c (.i .i64 0)),some (102,false)⟩,
 ⟨some 105,.mv (.t 104),some (102,false)⟩,
 ⟨some 106,.mv (.t 9),some (105,true)⟩,
 ⟨some 107,.fa 4 (.t 4),some (105,true)⟩,
 ⟨some 108,.ld false 1 (.t 107),some (105,true)⟩,
 ⟨some 109,.mv (.t 8),some (105,true)⟩,
 ⟨some 110,.bin .sub (.t 109) (.c (.i .i64 1)),some (105,true)⟩,
 ⟨some 111,.ia 1 (.t 108) (.t 110),some (105,true)⟩,
 ⟨some 112,.ld false 1 (.t 111),some (105,true)⟩,
 ⟨some 113,.bin .leq (.t 106) (.t 112),some (105,true)⟩,
 ⟨some 114,.pick (.t 105) (.t 113) (.c (.b false)),some (102,false)⟩,
 ⟨some 115,.pick (.t 102) (.c (.b true)) (.t 114),none⟩,
 ⟨some 116,.mv (.t 115),none⟩,
 ⟨some 117,.mv (.t 0),some (116,false)⟩,
 ⟨some 118,.fa 5 (.t 4),some (116,false)⟩,
 ⟨some 119,.ld false 1 (.t 118),some (116,false)⟩,
 ⟨some 120,.mv (.t 8),some (116,false)⟩,
 ⟨some 121,.ia 6 (.t 119) (.t 120),some (116,false)⟩,
 ⟨some 122,.ld true 6 (.t 121),some (116,false)⟩,
 ⟨some 123,.fa 3 (.t 4),some (116,false)⟩,
 ⟨some 124,.ld false 1 (.t 123),some (116,false)⟩,
 ⟨some 125,.bin .geq (.t 124) (.c (.i .i64 0)),some (116,false)⟩,
 ⟨some 126,.call Gl [.t 117,.t 122,.t 125],some (116,false)⟩,
 ⟨some 127,.un .not (.t 126),some (116,false)⟩,
 ⟨some 128,.pick (.t 116) (.c (.b true)) (.t 127),none⟩] [])
 (.cond (.t 128)
 (.seq (.reg [⟨some 6,.mv (.c (.b false)),none⟩])
 .ret)
 .skip))))
 (.reg [⟨some 129,.bin .add (.t 94) (.c (.i .i64 1)),none⟩,
 ⟨some 94,.mv (.t 129),none⟩])))))))
 (.seq (.reg [⟨some 6,.mv (.c (.b true)),none⟩])
 .ret)))))) }
def Fz : Fun := { cin := [(.sl 6 (.agg [.id,.id,.sl 1 .id,.sl 1 .id,.id,.id])),.id],cout := [.id],ntmps := 21,keep := false,res := [(4,none)],body :=
 (.seq (.reg [⟨some 4,.mv (.c (.b false)),none⟩])
 (.seq (.seq (.thw 0)
 (.reg [⟨some 5,.mv (.t 1),none⟩,
 ⟨some 6,.bin .geq (.t 5) (.c (.i .i64 0)),none⟩,
 ⟨some 7,.mv (.t 6),none⟩,
 ⟨some 8,.mv (.t 1),some (7,true)⟩,
 ⟨some 9,.mv (.t 0),some (7,true)⟩,
 ⟨some 10,.len 1 (.t 9),some (7,true)⟩,
 ⟨some 11,.bin .lss (.t 8) (.t 10),some (7,true)⟩,
 ⟨some 12,.pick (.t 7) (.t 11) (.c (.b false)),none⟩,
 ⟨some 13,.mv (.t 12),none⟩,
 ⟨some 14,.mv (.t 0),some (13,true)⟩,
 ⟨some 15,.mv (.t 1),some (13,true)⟩,
 ⟨some 16,.ia 6 (.t 14) (.t 15),some (13,true)⟩,
 ⟨some 17,.fa 1 (.t 16),some (13,true)⟩,
 ⟨some 18,.ld false 1 (.t 17),some (13,true)⟩,
 ⟨some 19,.bin .eql (.t 18) (.c (.i .u8 2)),some (13,true)⟩,
 ⟨some 20,.pick (.t 13) (.t 19) (.c (.b false)),none⟩,
 ⟨some 4,.mv (.t 20),none⟩]))
 .ret)) }
def DL : Fun := { cin := [(.agg [.id,.id,(.sl 1 .id),(.sl 4 (.agg [.id,.id,(.sl 1 .id),(.sl 4 (.agg [.id,.id,.sl 1 .id,.sl 4 .id]))]))])],cout := [.id],ntmps := 19,keep := false,res := [(2,none)],body :=
 (.seq (.reg [⟨some 1,.box 30 4 (.t 0),none⟩,
 ⟨some 2,.mv (.c (.i .i64 0)),none⟩])
 (.seq (.reg [⟨some 3,.mv (.c (.i .i64 1)),none⟩])
 (.seq (.seq (.reg [⟨some 6,.fa 3 (.t 1),none⟩,
 ⟨some 7,.ld false 1 (.t 6),none⟩,
 ⟨some 8,.len 1 (.t 7),none⟩,
 ⟨some 9,.mv (.c (.i .i64 0)),none⟩])
 (.blk 0 (.loop (.seq (.reg [⟨some 10,.bin .lss (.t 9) (.t 8),none⟩])
 (.seq (.cond (.t 10)
 .skip
 (.exit 0))
 (.seq (.blk 1 (.seq (.reg [⟨some 11,.ia 4 (.t 7) (.t 9),none⟩,
 ⟨some 12,.ld true 4 (.t 11),none⟩,
 ⟨some 5,.alloc 30 [(.i .u8 0),(.s []),.nsl,.nsl],none⟩,
 ⟨none,.st 4 (.t 5) (.t 12),none⟩])
 (.reg [⟨some 13,.mv (.t 3),none⟩,
 ⟨some 14,.ld true 4 (.t 5),none⟩,
 ⟨some 15,.call Fb [.t 14],none⟩,
 ⟨some 16,.bin .add (.t 13) (.t 15),none⟩,
 ⟨some 3,.mv (.t 16),none⟩])))
 (.reg [⟨some 17,.bin .add (.t 9) (.c (.i .i64 1)),none⟩,
 ⟨some 9,.mv (.t 17),none⟩])))))))
 (.seq (.reg [⟨some 18,.mv (.t 3),none⟩,
 ⟨some 2,.mv (.t 18),none⟩])
 .ret)))) }
def DM : Fun := { cin := [(.agg [.id,.id,(.sl 1 .id),(.sl 4 (.agg [.id,.id,(.sl 1 .id),(.sl 4 (.agg [.id,.id,.sl 1 .id,.sl 4 .id]))]))])],cout := [.id],ntmps := 20,keep := false,res := [(2,none)],body :=
 (.seq (.reg [⟨some 1,.box 30 4 (.t 0),none⟩,
 ⟨some 2,.mv (.c (.i .i64 0)),none⟩])
 (.seq (.reg [⟨some 3,.mv (.c (.i .i64 0)),none⟩])
 (.seq (.seq (.reg [⟨some 6,.fa 3 (.t 1),none⟩,
 ⟨some 7,.ld false 1 (.t 6),none⟩,
 ⟨some 8,.len 1 (.t 7),none⟩,
 ⟨some 9,.mv (.c (.i .i64 0)),none⟩])
 (.blk 0 (.loop (.seq (.reg [⟨some 10,.bin .lss (.t 9) (.t 8),none⟩])
 (.seq (.cond (.t 10)
 .skip
 (.exit 0))
 (.seq (.blk 1 (.seq (.reg [⟨some 11,.ia 4 (.t 7) (.t 9),none⟩,
 ⟨some 12,.ld true 4 (.t 11),none⟩,
 ⟨some 5,.alloc 30 [(.i .u8 0),(.s []),.nsl,.nsl],none⟩,
 ⟨none,.st 4 (.t 5) (.t 12),none⟩])
 (.reg [⟨some 13,.mv (.t 3),none⟩,
 ⟨some 14,.ld true 4 (.t 5),none⟩,
 ⟨some 15,.call Fc [.t 14],none⟩,
 ⟨some 16,.bin .add (.c (.i .i64 1)) (.t 15),none⟩,
 ⟨some 17,.mm true (.t 13) (.t 16),none⟩,
 ⟨some 3,.mv (.t 17),none⟩])))
 (.reg [⟨some 18,.bin .add (.t 9) (.c (.i .i64 1)),none⟩,
 ⟨some 9,.mv (.t 18),none⟩])))))))
 (.seq (.reg [⟨some 19,.mv (.t 3),none⟩,
 ⟨some 2,.mv (.t 19),none⟩])
 .ret)))) }
def Bt : Fun := { cin := [.id,.id],cout := [(.agg [.id,.id,(.sl 1 .id),(.sl 4 (.agg [.id,.id,(.sl 1 .id),(.sl 4 (.agg [.id,.id,.sl 1 .id,.sl 4 .id]))]))])],ntmps := 21,keep := false,res := [(4,some (true,4))],body :=
 (.seq (.reg [⟨some 4,.alloc 30 [(.i .u8 0),(.s []),.nsl,.nsl],none⟩])
 (.seq (.regD [⟨some 8,.mv (.t 0),none⟩,
 ⟨some 9,.nck (.t 8),none⟩,
 ⟨some 10,.fa 0 (.t 9),none⟩,
 ⟨some 11,.ld false 1 (.t 10),none⟩,
 ⟨some 12,.mv (.t 0),none⟩,
 ⟨some 13,.nck (.t 12),none⟩,
 ⟨some 14,.fa 1 (.t 13),none⟩,
 ⟨some 15,.ld true 4 (.t 14),none⟩,
 ⟨some 16,.mv (.t 1),none⟩,
 ⟨some 17,.call J7 [.t 11,.t 15,.t 16],none⟩,
 ⟨some 7,.mv (.t 17),none⟩,
 ⟨some 18,.ext (.t 7) 0,none⟩,
 ⟨some 19,.ext (.t 7) 1,none⟩,
 ⟨none,.mv (.c (.tup [])),none⟩,
 ⟨some 5,.adp 30 [(.i .u8 0),(.s []),.nsl,.nsl] 4 (.t 18),none⟩,
 ⟨some 6,.mv (.t 19),none⟩] [])
 (.seq (.reg [⟨some 20,.ld true 4 (.t 5),none⟩,
 ⟨none,.st 4 (.t 4) (.t 20),none⟩])
 .ret))) }
def Cf : Fun := { cin := [.sl 1 .id,.sl 1 .id],cout := [.id],ntmps := 27,keep := false,res := [(4,none)],body :=
 (.seq (.reg [⟨some 4,.mv (.c .nf),none⟩])
 (.seq (.reg [⟨some 8,.mkm,none⟩,
 ⟨some 5,.mv (.t 8),none⟩])
 (.seq (.seq (.reg [⟨some 9,.mv (.t 0),none⟩,
 ⟨some 10,.call Ad [.t 9],none⟩,
 ⟨some 11,.mv (.t 1),none⟩,
 ⟨some 12,.app 1 9 (.t 10) (.t 11),none⟩,
 ⟨some 13,.len 1 (.t 12),none⟩,
 ⟨some 14,.mv (.c (.i .i64 0)),none⟩])
 (.blk 0 (.loop (.seq (.reg [⟨some 15,.bin .lss (.t 14) (.t 13),none⟩])
 (.seq (.cond (.t 15)
 .skip
 (.exit 0))
 (.seq (.blk 1 (.seq (.reg [⟨some 16,.ia 1 (.t 12) (.t 14),none⟩,
 ⟨some 17,.ld false 1 (.t 16),none⟩,
 ⟨some 7,.mv (.t 17),none⟩])
 (.reg [⟨some 18,.mv (.t 5),none⟩,
 ⟨some 19,.mv (.t 7),none⟩,
 ⟨some 20,.look 1 (.i .i64 0) false (.t 18) (.t 19),none⟩,
 ⟨some 21,.bin .add (.t 20) (.c (.i .i64 1)),none⟩,
 ⟨none,.ins 1 (.t 18) (.t 19) (.t 21),none⟩])))
 (.reg [⟨some 22,.bin .add (.t 14) (.c (.i .i64 1)),none⟩,
 ⟨some 14,.mv (.t 22),none⟩])))))))
 (.seq (.reg [⟨some 23,.mv (.t 5),none⟩,
 ⟨some 24,.call Ao [.t 23],none⟩,
 ⟨some 25,.call B7 [.t 24],none⟩,
 ⟨some 26,.call A5 [.t 25],none⟩,
 ⟨some 4,.mv (.t 26),none⟩])
 .ret)))) }
def Aw : Fun := { cin := [.sl 1 .id,.id],cout := [.id,.id],ntmps := 54,keep := false,res := [(4,none),(5,none)],body :=
 (.seq (.reg [⟨some 4,.mv (.c (.i .i64 0)),none⟩,
 ⟨some 5,.mv (.c (.b false)),none⟩])
 (.seq (.reg [⟨some 10,.mv (.t 0),none⟩,
 ⟨some 11,.len 1 (.t 10),none⟩,
 ⟨some 6,.mv (.t 11),none⟩])
 (.seq (.reg [⟨some 12,.mv (.t 6),none⟩,
 ⟨some 7,.mv (.c (.i .i64 0)),none⟩,
 ⟨some 8,.mv (.t 12),none⟩])
 (.seq (.blk 0 (.loop (.seq (.seq (.reg [⟨some 13,.mv (.t 7),none⟩,
 ⟨some 14,.mv (.t 8),none⟩,
 ⟨some 15,.bin .lss (.t 13) (.t 14),none⟩])
 (.cond (.t 15)
 .skip
 (.exit 0)))
 (.blk 1 (.seq (.reg [⟨some 16,.mv (.t 7),none⟩,
 ⟨some 17,.mv (.t 8),none⟩,
 ⟨some 18,.bin .add (.t 16) (.t 17),none⟩,
 ⟨some 19,.cvI .u64 (.t 18),none⟩,
 ⟨some 20,.bin .shr (.t 19) (.c (.i .u64 1)),none⟩,
 ⟨some 21,.cvI .i64 (.t 20),none⟩,
 ⟨some 9,.mv (.t 21),none⟩])
 (.seq (.reg [⟨some 22,.mv (.t 0),none⟩,
 ⟨some 23,.mv (.t 9),none⟩,
 ⟨some 24,.ia 1 (.t 22) (.t 23),none⟩,
 ⟨some 25,.ld false 1 (.t 24),none⟩,
 ⟨some 26,.mv (.t 1),none⟩,
 ⟨some 27,.call E3 [.t 25,.t 26],none⟩])
 (.cond (.t 27)
 (.reg [⟨some 28,.mv (.t 9),none⟩,
 ⟨some 29,.bin .add (.t 28) (.c (.i .i64 1)),none⟩,
 ⟨some 7,.mv (.t 29),none⟩])
 (.reg [⟨some 30,.mv (.t 9),none⟩,
 ⟨some 8,.mv (.t 30),none⟩]))))))))
 (.seq (.reg [⟨some 31,.mv (.t 7),none⟩,
 ⟨some 32,.mv (.t 7),none⟩,
 ⟨some 33,.mv (.t 6),none⟩,
 ⟨some 34,.bin .lss (.t 32) (.t 33),none⟩,
 ⟨some 35,.mv (.t 34),none⟩,
 ⟨some 36,.mv (.t 0),some (35,true)⟩,
 ⟨some 37,.mv (.t 7),some (35,true)⟩,
 ⟨some 38,.ia 1 (.t 36) (.t 37),some (35,true)⟩,
 ⟨some 39,.ld false 1 (.t 38),some (35,true)⟩,
 ⟨some 40,.mv (.t 1),some (35,true)⟩,
 ⟨some 41,.bin .eql (.t 39) (.t 40),some (35,true)⟩,
 ⟨some 42,.mv (.t 41),some (35,true)⟩,
 ⟨some 43,.mv (.t 0),some (42,false)⟩,
 ⟨some 44,.mv (.t 7),some (42,false)⟩,
 ⟨some 45,.ia 1 (.t 43) (.t 44),some (42,false)⟩,
 ⟨some 46,.ld false 1 (.t 45),some (42,false)⟩,
 ⟨some 47,.call Cu [.t 46],some (42,false)⟩,
 ⟨some 48,.mv (.t 47),some (42,false)⟩,
 ⟨some 49,.mv (.t 1),some (48,true)⟩,
 ⟨some 50,.call Cu [.t 49],some (48,true)⟩,
 ⟨some 51,.pick (.t 48) (.t 50) (.c (.b false)),some (42,false)⟩,
 ⟨some 52,.pick (.t 42) (.c (.b true)) (.t 51),some (35,true)⟩,
 ⟨some 53,.pick (.t 35) (.t 52) (.c (.b false)),none⟩,
 ⟨some 4,.mv (.t 31),none⟩,
 ⟨some 5,.mv (.t 53),none⟩])
 .ret))))) }
def Ac : Fun := { cin := [(.sl 6 (.agg [.id,.id,.id,.id,(.sl 1 .id),(.sl 6 (.agg [.id,.id,.id,.id,(.sl 1 .id),(.sl 6 (.agg [.id,.id,.id,.id,.id,.id]))]))])),.id],cout := [.id],ntmps := 9,keep := false,res := [(4,none)],body :=
 (.seq (.reg [⟨some 4,.mv (.c (.b false)),none⟩])
 (.seq (.reg [⟨some 5,.mv (.t 0),none⟩,
 ⟨some 6,.mv (.t 1),none⟩,
 ⟨some 7,.call Be [.t 5,.t 6],none⟩,
 ⟨some 8,.bin .geq (.t 7) (.c (.i .i64 0)),none⟩,
 ⟨some 4,.mv (.t 8),none⟩])
 .ret)) }
def Cs : Fun := { cin := [(.agg [.id,.id,.id,.id,(.sl 1 .id),(.sl 6 (.agg [.id,.id,.id,.id,(.sl 1 .id),(.sl 6 (.agg [.id,.id,.id,.id,.sl 1 .id,.sl 6 .id]))]))])],cout := [.id],ntmps := 6,keep := false,res := [(2,none)],body :=
 (.seq (.reg [⟨some 1,.box 34 6 (.t 0),none⟩,
 ⟨some 2,.mv (.c (.b false)),none⟩])
 (.seq (.reg [⟨some 3,.ld true 6 (.t 1),none⟩,
 ⟨some 4,.call FA [.t 3],none⟩,
 ⟨some 5,.un .not (.t 4),none⟩,
 ⟨some 2,.mv (.t 5),none⟩])
 .ret)) }
def Ck : Fun := { cin := [.id,.id],cout := [.id],ntmps := 8,keep := false,res := [(4,none)],body :=
 (.seq (.reg [⟨some 4,.mv (.c (.i .i64 0)),none⟩])
 (.seq (.reg [⟨some 5,.mv (.t 0),none⟩,
 ⟨some 6,.mv (.t 1),none⟩,
 ⟨some 7,.call Bx [.t 5,.t 6],none⟩,
 ⟨some 4,.mv (.t 7),none⟩])
 .ret)) }
def DN : Fun := { cin := [.id],cout := [.id],ntmps := 23,keep := false,res := [(2,none)],body :=
 (.seq (.reg [⟨some 2,.mv (.c (.b false)),none⟩])
 (.seq (.reg [⟨some 3,.mv (.t 0),none⟩,
 ⟨some 4,.bin .neq (.t 3) (.c (.s [])),none⟩,
 ⟨some 5,.mv (.t 4),none⟩,
 ⟨some 6,.mv (.t 0),some (5,true)⟩,
 ⟨some 7,.len 0 (.t 6),some (5,true)⟩,
 ⟨some 8,.bin .leq (.t 7) (.c (.i .i64 64)),some (5,true)⟩,
 ⟨some 9,.pick (.t 5) (.t 8) (.c (.b false)),none⟩,
 ⟨some 10,.mv (.t 9),none⟩,
 ⟨some 11,.mv (.t 0),some (10,true)⟩,
 ⟨some 12,.bin .neq (.t 11) (.c (.s [46])),some (10,true)⟩,
 ⟨some 13,.pick (.t 10) (.t 12) (.c (.b false)),none⟩,
 ⟨some 14,.mv (.t 13),none⟩,
 ⟨some 15,.mv (.t 0),some (14,true)⟩,
 ⟨some 16,.bin .neq (.t 15) (.c (.s [46,46])),some (14,true)⟩,
 ⟨some 17,.pick (.t 14) (.t 16) (.c (.b false)),none⟩,
 ⟨some 18,.mv (.t 17),none⟩,
 ⟨some 19,.mv (.t 0),some (18,true)⟩,
 ⟨some 20,.call Dn [(.t 19),(.c (.s [47,0,10]))],some (18,true)⟩,
 ⟨some 21,.un .not (.t 20),some (18,true)⟩,
 ⟨some 22,.pick (.t 18) (.t 21) (.c (.b false)),none⟩,
 ⟨some 2,.mv (.t 22),none⟩])
 .ret)) }
def AP : Fun := { cin := [.sl 1 .id],cout := [],ntmps := 8,keep := true,res := [(2,none)],body :=
 (.seq (.reg [⟨some 2,.mv (.c .nsl),none⟩])
 (.seq (.seq (.reg [⟨some 3,.mv (.t 0),none⟩,
 ⟨some 4,.eq .sl false (.t 3) (.c .nsl),none⟩])
 (.cond (.t 4)
 (.seq (.reg [⟨some 2,.mv (.c .nsl),none⟩])
 .ret)
 .skip))
 (.seq (.reg [⟨some 5,.bsl 1 [],none⟩,
 ⟨some 6,.mv (.t 0),none⟩,
 ⟨some 7,.app 1 9 (.t 5) (.t 6),none⟩,
 ⟨some 2,.mv (.t 7),none⟩])
 .ret))) }
def DI : Fun := { cin := [(.sl 6 (.agg [.id,.id,.sl 1 .id,.sl 1 .id,.id,.id])),(.agg [.id,.id,(.sl 1 .id),(.sl 4 (.agg [.id,.id,(.sl 1 .id),(.sl 4 (.agg [.id,.id,.sl 1 .id,.sl 4 .id]))]))]),.id],cout := [(.agg [.id,.id,(.sl 1 .id),(.sl 4 (.agg [.id,.id,(.sl 1 .id),(.sl 4 (.agg [.id,.id,.sl 1 .id,.sl 4 .id]))]))]),.id],ntmps := 24,keep := false,res := [(6,some (true,4)),(7,none)],body :=
 (.seq (.reg [⟨some 4,.box 30 4 (.t 1),none⟩,
 ⟨some 6,.alloc 30 [(.i .u8 0),(.s []),.nsl,.nsl],none⟩,
 ⟨some 7,.mv (.c (.b false)),none⟩])
 (.seq (.reg [⟨some 11,.mv (.t 0),none⟩,
 ⟨some 12,.mv (.t 2),none⟩,
 ⟨some 13,.call Iq [.t 11,.t 12],none⟩,
 ⟨some 10,.mv (.t 13),none⟩,
 ⟨some 14,.ext (.t 10) 0,none⟩,
 ⟨some 15,.ext (.t 10) 1,none⟩,
 ⟨some 8,.mv (.t 14),none⟩,
 ⟨some 9,.mv (.t 15),none⟩])
 (.seq (.seq (.reg [⟨some 16,.mv (.t 9),none⟩,
 ⟨some 17,.bin .neq (.t 16) (.c (.i .i64 0)),none⟩])
 (.cond (.t 17)
 (.seq (.reg [⟨some 18,.build [(.i .u8 0),(.s []),.nsl,.nsl] [],none⟩,
 ⟨none,.st 4 (.t 6) (.t 18),none⟩,
 ⟨some 7,.mv (.c (.b false)),none⟩])
 .ret)
 .skip))
 (.seq (.reg [⟨some 19,.ld true 4 (.t 4),none⟩,
 ⟨some 20,.mv (.t 8),none⟩,
 ⟨some 21,.call J8 [.t 19,.t 20],none⟩,
 ⟨some 22,.ext (.t 21) 0,none⟩,
 ⟨some 23,.ext (.t 21) 1,none⟩,
 ⟨none,.st 4 (.t 6) (.t 22),none⟩,
 ⟨some 7,.mv (.t 23),none⟩])
 .ret)))) }
def Bu : Fun := { cin := [(.agg [.id,.id,.sl 1 .id,.sl 1 .id,.id,.id]),(.sl 1 .id)],cout := [.id],ntmps := 29,keep := false,res := [(4,none)],body :=
 (.seq (.reg [⟨some 2,.box 26 6 (.t 0),none⟩,
 ⟨some 4,.mv (.c (.b false)),none⟩])
 (.seq (.seq (.reg [⟨some 7,.fa 4 (.t 2),none⟩,
 ⟨some 8,.ld false 1 (.t 7),none⟩])
 (.blk 0 (.seq (.reg [⟨some 10,.bin .eql (.t 8) (.c (.i .i64 1)),none⟩,
 ⟨some 9,.mv (.t 10),none⟩])
 (.cond (.t 9)
 (.seq (.reg [⟨some 11,.ld true 6 (.t 2),none⟩,
 ⟨some 12,.fa 2 (.t 2),none⟩,
 ⟨some 13,.ld false 1 (.t 12),none⟩,
 ⟨some 14,.len 1 (.t 13),none⟩,
 ⟨some 15,.call D1 [.t 11,.t 14],none⟩,
 ⟨some 5,.alloc 72 [.nf],none⟩,
 ⟨none,.st 1 (.t 5) (.t 15),none⟩])
 (.seq (.reg [⟨some 16,.mv (.t 1),none⟩,
 ⟨some 17,.mkf DB [.t 5],none⟩,
 ⟨some 18,.call BF [.t 16,.t 17],none⟩,
 ⟨some 19,.un .not (.t 18),none⟩,
 ⟨some 4,.mv (.t 19),none⟩])
 .ret))
 (.seq (.reg [⟨some 21,.bin .eql (.t 8) (.c (.i .i64 2)),none⟩,
 ⟨some 20,.mv (.t 21),none⟩])
 (.cond (.t 20)
 (.seq (.reg [⟨some 22,.ld true 6 (.t 2),none⟩,
 ⟨some 23,.fa 5 (.t 2),none⟩,
 ⟨some 24,.ld false 1 (.t 23),none⟩,
 ⟨some 25,.call D1 [.t 22,.t 24],none⟩,
 ⟨some 6,.alloc 72 [.nf],none⟩,
 ⟨none,.st 1 (.t 6) (.t 25),none⟩])
 (.seq (.reg [⟨some 26,.mv (.t 1),none⟩,
 ⟨some 27,.mkf DC [.t 6],none⟩,
 ⟨some 28,.call BF [.t 26,.t 27],none⟩,
 ⟨some 4,.mv (.t 28),none⟩])
 .ret))
 .skip))))))
 (.seq (.reg [⟨some 4,.mv (.c (.b true)),none⟩])
 .ret))) }
def FG : Fun := { cin := [(.agg [.id,.id,.sl 1 .id,.sl 1 .id,.id,.id])],cout := [.id],ntmps := 10,keep := false,res := [(2,none)],body :=
 (.seq (.reg [⟨some 1,.box 26 6 (.t 0),none⟩,
 ⟨some 2,.mv (.c (.b false)),none⟩])
 (.seq (.reg [⟨some 3,.fa 0 (.t 1),none⟩,
 ⟨some 4,.ld false 1 (.t 3),none⟩,
 ⟨some 5,.mv (.t 4),none⟩,
 ⟨some 6,.fa 1 (.t 1),some (5,true)⟩,
 ⟨some 7,.ld false 1 (.t 6),some (5,true)⟩,
 ⟨some 8,.bin .eql (.t 7) (.c (.i .u8 2)),some (5,true)⟩,
 ⟨some 9,.pick (.t 5) (.t 8) (.c (.b false)),none⟩,
 ⟨some 2,.mv (.t 9),none⟩])
 .ret)) }
def Cx : Fun := { cin := [(.agg [.id,.id,.sl 1 .id,.sl 1 .id,.id,.id])],cout := [.id],ntmps := 99,keep := false,res := [(2,none)],body :=
 (.seq (.reg [⟨some 1,.box 26 6 (.t 0),none⟩,
 ⟨some 2,.mv (.c (.b false)),none⟩])
 (.seq (.blk 0 (.seq (.reg [⟨some 6,.fa 1 (.t 1),none⟩,
 ⟨some 7,.ld false 1 (.t 6),none⟩,
 ⟨some 8,.bin .gtr (.t 7) (.c (.i .u8 3)),none⟩,
 ⟨some 9,.mv (.t 8),none⟩,
 ⟨some 10,.fa 0 (.t 1),some (9,false)⟩,
 ⟨some 11,.ld false 1 (.t 10),some (9,false)⟩,
 ⟨some 12,.un .not (.t 11),some (9,false)⟩,
 ⟨some 13,.mv (.t 12),some (9,false)⟩,
 ⟨some 14,.fa 1 (.t 1),some (13,true)⟩,
 ⟨some 15,.ld false 1 (.t 14),some (13,true)⟩,
 ⟨some 16,.bin .neq (.t 15) (.c (.i .u8 0)),some (13,true)⟩,
 ⟨some 17,.pick (.t 13) (.t 16) (.c (.b false)),some (9,false)⟩,
 ⟨some 18,.pick (.t 9) (.c (.b true)) (.t 17),none⟩,
 ⟨some 19,.mv (.t 18),none⟩,
 ⟨some 20,.fa 2 (.t 1),some (19,false)⟩,
 ⟨some 21,.ld false 1 (.t 20),some (19,false)⟩,
 ⟨some 22,.len 1 (.t 21),some (19,false)⟩,
 ⟨some 23,.fa 3 (.t 1),some (19,false)⟩,
 ⟨some 24,.ld false 1 (.t 23),some (19,false)⟩,
 ⟨some 25,.len 1 (.t 24),some (19,false)⟩,
 ⟨some 26,.bin .neq (.t 22) (.t 25),some (19,false)⟩,
 ⟨some 27,.pick (.t 19) (.c (.b true)) (.t 26),none⟩,
 ⟨some 5,.mv (.t 27),none⟩])
 (.cond (.t 5)
 (.seq (.reg [⟨some 2,.mv (.c (.b false)),none⟩])
 .ret)
 (.seq (.reg [⟨some 29,.ld true 6 (.t 1),none⟩,
 ⟨some 30,.call JV [.t 29],none⟩,
 ⟨some 31,.un .not (.t 30),none⟩,
 ⟨some 28,.mv (.t 31),none⟩])
 (.cond (.t 28)
 (.seq (.reg [⟨some 32,.fa 2 (.t 1),none⟩,
 ⟨some 33,.ld false 1 (.t 32),none⟩,
 ⟨some 34,.len 1 (.t 33),none⟩,
 ⟨some 35,.bin .eql (.t 34) (.c (.i .i64 0)),none⟩,
 ⟨some 36,.mv (.t 35),none⟩,
 ⟨some 37,.fa 4 (.t 1),some (36,true)⟩,
 ⟨some 38,.ld false 1 (.t 37),some (36,true)⟩,
 ⟨some 39,.bin .eql (.t 38) (.c (.i .i64 0)),some (36,true)⟩,
 ⟨some 40,.pick (.t 36) (.t 39) (.c (.b false)),none⟩,
 ⟨some 41,.mv (.t 40),none⟩,
 ⟨some 42,.fa 5 (.t 1),some (41,true)⟩,
 ⟨some 43,.ld false 1 (.t 42),some (41,true)⟩,
 ⟨some 44,.bin .eql (.t 43) (.c (.i .i64 0)),some (41,true)⟩,
 ⟨some 45,.pick (.t 41) (.t 44) (.c (.b false)),none⟩,
 ⟨some 2,.mv (.t 45),none⟩])
 .ret)
 .skip)))))
 (.seq (.seq (.reg [⟨some 46,.fa 2 (.t 1),none⟩,
 ⟨some 47,.ld false 1 (.t 46),none⟩,
 ⟨some 48,.len 1 (.t 47),none⟩,
 ⟨some 49,.mv (.c (.i .i64 0)),none⟩])
 (.blk 1 (.loop (.seq (.reg [⟨some 50,.bin .lss (.t 49) (.t 48),none⟩])
 (.seq (.cond (.t 50)
 .skip
 (.exit 1))
 (.seq (.blk 2 (.seq (.reg [⟨some 51,.mv (.t 49),none⟩,
 ⟨some 52,.ia 1 (.t 47) (.t 49),none⟩,
 ⟨some 53,.ld false 1 (.t 52),none⟩,
 ⟨some 3,.mv (.t 51),none⟩,
 ⟨some 4,.mv (.t 53),none⟩])
 (.seq (.reg [⟨some 54,.mv (.t 4),none⟩,
 ⟨some 55,.call Fx [.t 54],none⟩,
 ⟨some 56,.un .not (.t 55),none⟩,
 ⟨some 57,.mv (.t 56),none⟩,
 ⟨some 58,.mv (.t 3),some (57,false)⟩,
 ⟨some 59,.bin .gtr (.t 58) (.c (.i .i64 0)),some (57,false)⟩,
 ⟨some 60,.mv (.t 59),some (57,false)⟩,
 ⟨some 61,.mv (.t 4),some (60,true)⟩,
 ⟨some 62,.fa 2 (.t 1),some (60,true)⟩,
 ⟨some 63,.ld false 1 (.t 62),some (60,true)⟩,
 ⟨some 64,.mv (.t 3),some (60,true)⟩,
 ⟨some 65,.bin .sub (.t 64) (.c (.i .i64 1)),some (60,true)⟩,
 ⟨some 66,.ia 1 (.t 63) (.t 65),some (60,true)⟩,
 ⟨some 67,.ld false 1 (.t 66),some (60,true)⟩,
 ⟨some 68,.bin .leq (.t 61) (.t 67),some (60,true)⟩,
 ⟨some 69,.pick (.t 60) (.t 68) (.c (.b false)),some (57,false)⟩,
 ⟨some 70,.pick (.t 57) (.c (.b true)) (.t 69),none⟩])
 (.cond (.t 70)
 (.seq (.reg [⟨some 2,.mv (.c (.b false)),none⟩])
 .ret)
 .skip))))
 (.reg [⟨some 71,.bin .add (.t 49) (.c (.i .i64 1)),none⟩,
 ⟨some 49,.mv (.t 71),none⟩])))))))
 (.seq (.seq (.reg [⟨some 72,.fa 4 (.t 1),none⟩,
 ⟨some 73,.ld false 1 (.t 72),none⟩,
 ⟨some 74,.bin .eql (.t 73) (.c (.i .i64 2)),none⟩])
 (.cond (.t 74)
 (.seq (.reg [⟨some 75,.fa 5 (.t 1),none⟩,
 ⟨some 76,.ld false 1 (.t 75),none⟩,
 ⟨some 77,.bin .geq (.t 76) (.c (.i .i64 0)),none⟩,
 ⟨some 78,.mv (.t 77),none⟩,
 ⟨some 79,.fa 5 (.t 1),some (78,true)⟩,
 ⟨some 80,.ld false 1 (.t 79),some (78,true)⟩,
 ⟨some 81,.fa 2 (.t 1),some (78,true)⟩,
 ⟨some 82,.ld false 1 (.t 81),some (78,true)⟩,
 ⟨some 83,.len 1 (.t 82),some (78,true)⟩,
 ⟨some 84,.bin .leq (.t 80) (.t 83),some (78,true)⟩,
 ⟨some 85,.pick (.t 78) (.t 84) (.c (.b false)),none⟩,
 ⟨some 2,.mv (.t 85),none⟩])
 .ret)
 .skip))
 (.seq (.reg [⟨some 86,.fa 4 (.t 1),none⟩,
 ⟨some 87,.ld false 1 (.t 86),none⟩,
 ⟨some 88,.bin .eql (.t 87) (.c (.i .i64 0)),none⟩,
 ⟨some 89,.mv (.t 88),none⟩,
 ⟨some 90,.fa 4 (.t 1),some (89,false)⟩,
 ⟨some 91,.ld false 1 (.t 90),some (89,false)⟩,
 ⟨some 92,.bin .eql (.t 91) (.c (.i .i64 1)),some (89,false)⟩,
 ⟨some 93,.pick (.t 89) (.c (.b true)) (.t 92),none⟩,
 ⟨some 94,.mv (.t 93),none⟩,
 ⟨some 95,.fa 5 (.t 1),some (94,true)⟩,
 ⟨some 96,.ld false 1 (.t 95),some (94,true)⟩,
 ⟨some 97,.bin .eql (.t 96) (.c (.i .i64 0)),some (94,true)⟩,
 ⟨some 98,.pick (.t 94) (.t 97) (.c (.b false)),none⟩,
 ⟨some 2,.mv (.t 98),none⟩])
 .ret))))) }
def Al : Fun := { cin := [.sl 1 .id,.id],cout := [.id],ntmps := 9,keep := false,res := [(4,none)],body :=
 (.seq (.reg [⟨some 4,.mv (.c (.b false)),none⟩])
 (.seq (.reg [⟨some 5,.mv (.t 0),none⟩,
 ⟨some 6,.mv (.t 1),none⟩,
 ⟨some 7,.call Cq [.t 5,.t 6],none⟩,
 ⟨some 8,.bin .geq (.t 7) (.c (.i .i64 0)),none⟩,
 ⟨some 4,.mv (.t 8),none⟩])
 .ret)) }
def F0 : Fun := { cin := [.id],cout := [.id],ntmps := 5,keep := false,res := [(2,none)],body :=
 (.seq (.reg [⟨some 2,.mv (.c (.b false)),none⟩])
 (.seq (.reg [⟨some 3,.mv (.t 0),none⟩,
 ⟨some 4,.bin .neq (.t 3) (.c (.i .i64 1)),none⟩,
 ⟨some 2,.mv (.t 4),none⟩])
 .ret)) }
def E5 : Fun := { cin := [(.agg [.id,.id,.id,.id,(.sl 1 .id),(.sl 6 (.agg [.id,.id,.id,.id,(.sl 1 .id),(.sl 6 (.agg [.id,.id,.id,.id,.sl 1 .id,.sl 6 .id]))]))]),(.agg [.id,.id,.id,.id,(.sl 1 .id),(.sl 6 (.agg [.id,.id,.id,.id,(.sl 1 .id),(.sl 6 (.agg [.id,.id,.id,.id,.sl 1 .id,.sl 6 .id]))]))])],cout := [.id],ntmps := 45,keep := false,res := [(4,none)],body :=
 (.seq (.reg [⟨some 2,.box 34 6 (.t 0),none⟩,
 ⟨some 3,.box 34 6 (.t 1),none⟩,
 ⟨some 4,.mv (.c (.b false)),none⟩])
 (.seq (.reg [⟨some 5,.fa 0 (.t 2),none⟩,
 ⟨some 6,.ld false 1 (.t 5),none⟩,
 ⟨some 7,.fa 0 (.t 3),none⟩,
 ⟨some 8,.ld false 1 (.t 7),none⟩,
 ⟨some 9,.bin .eql (.t 6) (.t 8),none⟩,
 ⟨some 10,.mv (.t 9),none⟩,
 ⟨some 11,.fa 1 (.t 2),some (10,true)⟩,
 ⟨some 12,.ld false 1 (.t 11),some (10,true)⟩,
 ⟨some 13,.fa 1 (.t 3),some (10,true)⟩,
 ⟨some 14,.ld false 1 (.t 13),some (10,true)⟩,
 ⟨some 15,.bin .eql (.t 12) (.t 14),some (10,true)⟩,
 ⟨some 16,.pick (.t 10) (.t 15) (.c (.b false)),none⟩,
 ⟨some 17,.mv (.t 16),none⟩,
 ⟨some 18,.fa 2 (.t 2),some (17,true)⟩,
 ⟨some 19,.ld false 1 (.t 18),some (17,true)⟩,
 ⟨some 20,.fa 2 (.t 3),some (17,true)⟩,
 ⟨some 21,.ld false 1 (.t 20),some (17,true)⟩,
 ⟨some 22,.bin .eql (.t 19) (.t 21),some (17,true)⟩,
 ⟨some 23,.pick (.t 17) (.t 22) (.c (.b false)),none⟩,
 ⟨some 24,.mv (.t 23),none⟩,
 ⟨some 25,.fa 3 (.t 2),some (24,true)⟩,
 ⟨some 26,.ld false 1 (.t 25),some (24,true)⟩,
 ⟨some 27,.fa 3 (.t 3),some (24,true)⟩,
 ⟨some 28,.ld false 1 (.t 27),some (24,true)⟩,
 ⟨some 29,.bin .eql (.t 26) (.t 28),some (24,true)⟩,
 ⟨some 30,.pick (.t 24) (.t 29) (.c (.b false)),none⟩,
 ⟨some 31,.mv (.t 30),none⟩,
 ⟨some 32,.fa 4 (.t 2),some (31,true)⟩,
 ⟨some 33,.ld false 1 (.t 32),some (31,true)⟩,
 ⟨some 34,.fa 4 (.t 3),some (31,true)⟩,
 ⟨some 35,.ld false 1 (.t 34),some (31,true)⟩,
 ⟨some 36,.call Ca [.t 33,.t 35],some (31,true)⟩,
 ⟨some 37,.pick (.t 31) (.t 36) (.c (.b false)),none⟩,
 ⟨some 38,.mv (.t 37),none⟩,
 ⟨some 39,.fa 5 (.t 2),some (38,true)⟩,
 ⟨some 40,.ld false 1 (.t 39),some (38,true)⟩,
 ⟨some 41,.fa 5 (.t 3),some (38,true)⟩,
 ⟨some 42,.ld false 1 (.t 41),some (38,true)⟩,
 ⟨some 43,.call Ap [(.t 40),(.t 42),(.c (.fn ET []))],some (38,true)⟩,
 ⟨some 44,.pick (.t 38) (.t 43) (.c (.b false)),none⟩,
 ⟨some 4,.mv (.t 44),none⟩])
 .ret)) }
def F1 : Fun := { cin := [.id],cout := [(.agg [.id,.id,.id,.id,(.sl 1 .id),(.sl 6 (.agg [.id,.id,.id,.id,(.sl 1 .id),(.sl 6 (.agg [.id,.id,.id,.id,.sl 1 .id,.sl 6 .id]))]))])],ntmps := 5,keep := false,res := [(2,some (true,6))],body :=
 (.seq (.reg [⟨some 2,.alloc 34 [(.i .i64 0),(.i .u8 0),(.s []),(.i .i64 0),.nsl,.nsl],none⟩])
 (.seq (.reg [⟨some 3,.mv (.t 0),none⟩,
 ⟨some 4,.build [(.i .i64 0),(.i .u8 0),(.s []),(.i .i64 0),.nsl,.nsl] [(0,1,(.t 3)),(3,1,(.c (.i .i64 (-1))))],none⟩,
 ⟨none,.st 6 (.t 2) (.t 4),none⟩])
 .ret)) }
def GJ : Fun := { cin := [],cout := [(.agg [.id,.id,.id,.id,(.sl 1 .id),(.sl 6 (.agg [.id,.id,.id,.id,(.sl 1 .id),(.sl 6 (.agg [.id,.id,.id,.id,.sl 1 .id,.sl 6 .id]))]))])],ntmps := 2,keep := false,res := [(0,some (true,6))],body :=
 (.seq (.reg [⟨some 0,.alloc 34 [(.i .i64 0),(.i .u8 0),(.s []),(.i .i64 0),.nsl,.nsl],none⟩])
 (.seq (.reg [⟨some 1,.build [(.i .i64 0),(.i .u8 0),(.s []),(.i .i64 0),.nsl,.nsl] [(0,1,(.c (.i .i64 (-1)))),(3,1,(.c (.i .i64 (-1))))],none⟩,
 ⟨none,.st 6 (.t 0) (.t 1),none⟩])
 .ret)) }
def Ct : Fun := { cin := [(.sl 6 (.agg [.id,.id,.sl 1 .id,.sl 1 .id,.id,.id])),(.agg [.id,.id,(.sl 1 .id),(.sl 4 (.agg [.id,.id,(.sl 1 .id),(.sl 4 (.agg [.id,.id,.sl 1 .id,.sl 4 .id]))]))]),.id],cout := [(.agg [.id,.id,(.sl 1 .id),(.sl 4 (.agg [.id,.id,(.sl 1 .id),(.sl 4 (.agg [.id,.id,.sl 1 .id,.sl 4 .id]))]))]),.id],ntmps := 41,keep := false,res := [(6,some (true,4)),(7,none)],body :=
 (.seq (.reg [⟨some 4,.box 30 4 (.t 1),none⟩,
 ⟨some 6,.alloc 30 [(.i .u8 0),(.s []),.nsl,.nsl],none⟩,
 ⟨some 7,.mv (.c (.i .i64 0)),none⟩])
 (.seq (.blk 0 (.seq (.reg [⟨some 11,.mv (.t 0),none⟩,
 ⟨some 12,.call Gk [.t 11],none⟩,
 ⟨some 13,.un .not (.t 12),none⟩,
 ⟨some 14,.mv (.t 13),none⟩,
 ⟨some 15,.ld true 4 (.t 4),some (14,false)⟩,
 ⟨some 16,.call Fw [.t 15],some (14,false)⟩,
 ⟨some 17,.un .not (.t 16),some (14,false)⟩,
 ⟨some 18,.pick (.t 14) (.c (.b true)) (.t 17),none⟩,
 ⟨some 10,.mv (.t 18),none⟩])
 (.cond (.t 10)
 (.seq (.reg [⟨some 19,.build [(.i .u8 0),(.s []),.nsl,.nsl] [],none⟩,
 ⟨none,.st 4 (.t 6) (.t 19),none⟩,
 ⟨some 7,.mv (.c (.i .i64 4)),none⟩])
 .ret)
 (.seq (.reg [⟨some 21,.mv (.t 2),none⟩,
 ⟨some 22,.bin .lss (.t 21) (.c (.i .i64 0)),none⟩,
 ⟨some 23,.mv (.t 22),none⟩,
 ⟨some 24,.mv (.t 2),some (23,false)⟩,
 ⟨some 25,.mv (.t 0),some (23,false)⟩,
 ⟨some 26,.len 1 (.t 25),some (23,false)⟩,
 ⟨some 27,.bin .geq (.t 24) (.t 26),some (23,false)⟩,
 ⟨some 28,.pick (.t 23) (.c (.b true)) (.t 27),none⟩,
 ⟨some 20,.mv (.t 28),none⟩])
 (.cond (.t 20)
 (.seq (.reg [⟨some 29,.build [(.i .u8 0),(.s []),.nsl,.nsl] [],none⟩,
 ⟨none,.st 4 (.t 6) (.t 29),none⟩,
 ⟨some 7,.mv (.c (.i .i64 1)),none⟩])
 .ret)
 .skip)))))
 (.seq (.reg [⟨some 31,.mv (.t 0),none⟩,
 ⟨some 32,.ld true 4 (.t 4),none⟩,
 ⟨some 33,.mv (.t 2),none⟩,
 ⟨some 34,.call GI [.t 31,.t 32,.t 33],none⟩,
 ⟨some 30,.mv (.t 34),none⟩,
 ⟨some 35,.ext (.t 30) 0,none⟩,
 ⟨some 36,.ext (.t 30) 1,none⟩,
 ⟨some 8,.alloc 30 [(.i .u8 0),(.s []),.nsl,.nsl],none⟩,
 ⟨none,.st 4 (.t 8) (.t 35),none⟩,
 ⟨some 9,.mv (.t 36),none⟩])
 (.seq (.seq (.reg [⟨some 37,.mv (.t 9),none⟩,
 ⟨some 38,.un .not (.t 37),none⟩])
 (.cond (.t 38)
 (.seq (.reg [⟨some 39,.build [(.i .u8 0),(.s []),.nsl,.nsl] [],none⟩,
 ⟨none,.st 4 (.t 6) (.t 39),none⟩,
 ⟨some 7,.mv (.c (.i .i64 5)),none⟩])
 .ret)
 .skip))
 (.seq (.reg [⟨some 40,.ld true 4 (.t 8),none⟩,
 ⟨none,.st 4 (.t 6) (.t 40),none⟩,
 ⟨some 7,.mv (.c (.i .i64 0)),none⟩])
 .ret))))) }
def AW : Fun := { cin := [.sl 1 .id],cout := [.id],ntmps := 4,keep := false,res := [(2,none)],body :=
 (.seq (.reg [⟨some 1,.box 23 1 (.t 0),none⟩,
 ⟨some 2,.mv (.c .nf),none⟩])
 (.seq (.reg [⟨some 3,.mkf AH [.t 1],none⟩,
 ⟨some 2,.mv (.t 3),none⟩])
 .ret)) }
def Dc : Fun := { cin := [],cout := [],ntmps := 0,keep := false,res := [],body := .bad,prim := some (IH 87) }
def Aq : Fun := { cin := [.id],cout := [.id],ntmps := 4,keep := false,res := [(2,none)],body :=
 (.seq (.reg [⟨some 1,.box 83 1 (.t 0),none⟩,
 ⟨some 2,.mv (.c .nf),none⟩])
 (.seq (.reg [⟨some 3,.mkf AQ [.t 1],none⟩,
 ⟨some 2,.mv (.t 3),none⟩])
 .ret)) }
def DE : Fun := { cin := [.id,.id],cout := [.id],ntmps := 17,keep := false,res := [(4,none)],body :=
 (.seq (.reg [⟨some 4,.mv (.c (.b false)),none⟩])
 (.seq (.reg [⟨some 5,.mv (.t 0),none⟩,
 ⟨some 6,.call De [.t 5],none⟩,
 ⟨some 7,.mv (.t 6),none⟩,
 ⟨some 8,.mv (.t 1),some (7,true)⟩,
 ⟨some 9,.call De [.t 8],some (7,true)⟩,
 ⟨some 10,.un .not (.t 9),some (7,true)⟩,
 ⟨some 11,.pick (.t 7) (.t 10) (.c (.b false)),none⟩,
 ⟨some 12,.mv (.t 11),none⟩,
 ⟨some 13,.mv (.t 0),some (12,false)⟩,
 ⟨some 14,.mv (.t 1),some (12,false)⟩,
 ⟨some 15,.bin .lss (.t 13) (.t 14),some (12,false)⟩,
 ⟨some 16,.pick (.t 12) (.c (.b true)) (.t 15),none⟩,
 ⟨some 4,.mv (.t 16),none⟩])
 .ret)) }
def CJ : Fun := { cin := [.id],cout := [.id],ntmps := 6,keep := false,res := [(2,none)],body :=
 (.seq (.reg [⟨some 2,.mv (.c (.b false)),none⟩])
 (.seq (.reg [⟨some 3,.mv (.t 0),none⟩,
 ⟨some 4,.mv (.t 0),none⟩,
 ⟨some 5,.bin .neq (.t 3) (.t 4),none⟩,
 ⟨some 2,.mv (.t 5),none⟩])
 .ret)) }
def Ah : Fun := { cin := [(.sl 6 (.agg [.id,.id,.id,.id,(.sl 1 .id),(.sl 6 (.agg [.id,.id,.id,.id,(.sl 1 .id),(.sl 6 (.agg [.id,.id,.id,.id,.id,.id]))]))])),.id],cout := [.id],ntmps := 19,keep := false,res := [(4,none)],body :=
 (.seq (.reg [⟨some 4,.mv (.c (.i .i64 0)),none⟩])
 (.seq (.seq (.reg [⟨some 6,.mv (.t 0),none⟩,
 ⟨some 7,.len 1 (.t 6),none⟩,
 ⟨some 8,.mv (.c (.i .i64 0)),none⟩])
 (.blk 0 (.loop (.seq (.reg [⟨some 9,.bin .lss (.t 8) (.t 7),none⟩])
 (.seq (.cond (.t 9)
 .skip
 (.exit 0))
 (.seq (.blk 1 (.seq (.reg [⟨some 10,.mv (.t 8),none⟩,
 ⟨some 5,.mv (.t 10),none⟩])
 (.seq (.reg [⟨some 11,.mv (.t 1),none⟩,
 ⟨some 12,.mv (.t 0),none⟩,
 ⟨some 13,.mv (.t 5),none⟩,
 ⟨some 14,.ia 6 (.t 12) (.t 13),none⟩,
 ⟨some 15,.ld true 6 (.t 14),none⟩,
 ⟨some 16,.callX (.t 11) [.t 15],none⟩])
 (.cond (.t 16)
 (.seq (.reg [⟨some 17,.mv (.t 5),none⟩,
 ⟨some 4,.mv (.t 17),none⟩])
 .ret)
 .skip))))
 (.reg [⟨some 18,.bin .add (.t 8) (.c (.i .i64 1)),none⟩,
 ⟨some 8,.mv (.t 18),none⟩])))))))
 (.seq (.reg [⟨some 4,.mv (.c (.i .i64 (-1))),none⟩])
 .ret))) }
def BA : Fun := { cin := [.id,.id],cout := [.id],ntmps := 8,keep := false,res := [(4,none)],body :=
 (.seq (.reg [⟨some 4,.mv (.c (.i .i64 0)),none⟩])
 (.seq (.reg [⟨some 5,.mv (.t 0),none⟩,
 ⟨some 6,.mv (.t 1),none⟩,
 ⟨some 7,.xtn 0 [.t 5,.t 6],none⟩,
 ⟨some 4,.mv (.t 7),none⟩])
 .ret)) }
def CK : Fun := { cin := [.id,.id],cout := [.id],ntmps := 9,keep := false,res := [(4,none)],body :=
 (.seq (.reg [⟨some 4,.mv (.c (.b false)),none⟩])
 (.seq (.reg [⟨some 5,.mv (.t 0),none⟩,
 ⟨some 6,.mv (.t 1),none⟩,
 ⟨some 7,.call Ed [.t 5,.t 6],none⟩,
 ⟨some 8,.bin .geq (.t 7) (.c (.i .i64 0)),none⟩,
 ⟨some 4,.mv (.t 8),none⟩])
 .ret)) }
def Bh : Fun := { cin := [(.sl 6 (.agg [.id,.id,.sl 1 .id,.sl 1 .id,.id,.id])),.id],cout := [.sl 1 .id,.id],ntmps := 31,keep := false,res := [(4,some (false,1)),(5,some (false,1))],body :=
 (.seq (.reg [⟨some 3,.box 3 1 (.t 1),none⟩,
 ⟨some 4,.alloc 23 [.nsl],none⟩,
 ⟨some 5,.alloc 37 [.i .i64 0],none⟩])
 (.seq (.blk 0 (.seq (.reg [⟨some 8,.mv (.t 0),none⟩,
 ⟨some 9,.call Gk [.t 8],none⟩,
 ⟨some 10,.un .not (.t 9),none⟩,
 ⟨some 7,.mv (.t 10),none⟩])
 (.cond (.t 7)
 (.seq (.reg [⟨none,.st 1 (.t 4) (.c .nsl),none⟩,
 ⟨none,.st 1 (.t 5) (.c (.i .i64 4)),none⟩])
 .ret)
 (.seq (.reg [⟨some 12,.ld false 1 (.t 3),none⟩,
 ⟨some 13,.bin .lss (.t 12) (.c (.i .i64 0)),none⟩,
 ⟨some 14,.mv (.t 13),none⟩,
 ⟨some 15,.ld false 1 (.t 3),some (14,false)⟩,
 ⟨some 16,.mv (.t 0),some (14,false)⟩,
 ⟨some 17,.len 1 (.t 16),some (14,false)⟩,
 ⟨some 18,.bin .geq (.t 15) (.t 17),some (14,false)⟩,
 ⟨some 19,.pick (.t 14) (.c (.b true)) (.t 18),none⟩,
 ⟨some 11,.mv (.t 19),none⟩])
 (.cond (.t 11)
 (.seq (.reg [⟨none,.st 1 (.t 4) (.c .nsl),none⟩,
 ⟨none,.st 1 (.t 5) (.c (.i .i64 1)),none⟩])
 .ret)
 .skip)))))
 (.seq (.seq (.reg [⟨some 20,.mv (.t 0),none⟩,
 ⟨some 21,.build [.i .i64 0,.nsl] [],none⟩,
 ⟨some 22,.call E4 [.t 20,.t 21],none⟩])
 (.blk 1 (.rf (.t 22) [23] (.reg [⟨some 6,.alloc 105 [.i .i64 0,.nsl],none⟩,
 ⟨none,.st 2 (.t 6) (.t 23),none⟩])
 (.blk 2 (.seq (.reg [⟨some 24,.fa 0 (.t 6),none⟩,
 ⟨some 25,.ld false 1 (.t 24),none⟩,
 ⟨some 26,.ld false 1 (.t 3),none⟩,
 ⟨some 27,.bin .eql (.t 25) (.t 26),none⟩])
 (.cond (.t 27)
 (.seq (.reg [⟨some 28,.fa 1 (.t 6),none⟩,
 ⟨some 29,.ld false 1 (.t 28),none⟩,
 ⟨some 30,.call Ad [.t 29],none⟩,
 ⟨none,.st 1 (.t 4) (.t 30),none⟩,
 ⟨none,.st 1 (.t 5) (.c (.i .i64 0)),none⟩])
 .ret)
 .skip))))))
 (.seq (.reg [⟨none,.st 1 (.t 4) (.c .nsl),none⟩,
 ⟨none,.st 1 (.t 5) (.c (.i .i64 1)),none⟩])
 .ret)))) }
def E6 : Fun := { cin := [(.agg [.id,.id,(.sl 1 .id),(.sl 4 (.agg [.id,.id,(.sl 1 .id),(.sl 4 (.agg [.id,.id,.sl 1 .id,.sl 4 .id]))]))]),(.sl 1 .id)],cout := [(.agg [.id,.id,(.sl 1 .id),(.sl 4 (.agg [.id,.id,(.sl 1 .id),(.sl 4 (.agg [.id,.id,.sl 1 .id,.sl 4 .id]))]))]),.id],ntmps := 21,keep := false,res := [(4,some (true,4)),(5,none)],body :=
 (.seq (.reg [⟨some 2,.box 30 4 (.t 0),none⟩,
 ⟨some 4,.alloc 30 [(.i .u8 0),(.s []),.nsl,.nsl],none⟩,
 ⟨some 5,.mv (.c (.b false)),none⟩])
 (.seq (.seq (.reg [⟨some 8,.ld true 4 (.t 2),none⟩,
 ⟨some 9,.call DH [.t 8],none⟩,
 ⟨some 10,.un .not (.t 9),none⟩])
 (.cond (.t 10)
 (.seq (.reg [⟨some 11,.build [(.i .u8 0),(.s []),.nsl,.nsl] [],none⟩,
 ⟨none,.st 4 (.t 4) (.t 11),none⟩,
 ⟨some 5,.mv (.c (.b false)),none⟩])
 .ret)
 .skip))
 (.seq (.reg [⟨some 13,.ld true 4 (.t 2),none⟩,
 ⟨some 14,.mv (.t 1),none⟩,
 ⟨some 15,.call Hr [.t 13,.t 14],none⟩,
 ⟨some 12,.mv (.t 15),none⟩,
 ⟨some 16,.ext (.t 12) 0,none⟩,
 ⟨some 17,.ext (.t 12) 1,none⟩,
 ⟨some 6,.alloc 30 [(.i .u8 0),(.s []),.nsl,.nsl],none⟩,
 ⟨none,.st 4 (.t 6) (.t 16),none⟩,
 ⟨some 7,.mv (.t 17),none⟩])
 (.seq (.reg [⟨some 18,.ld true 4 (.t 6),none⟩,
 ⟨some 19,.call HL [.t 18],none⟩,
 ⟨some 20,.mv (.t 7),none⟩,
 ⟨none,.st 4 (.t 4) (.t 19),none⟩,
 ⟨some 5,.mv (.t 20),none⟩])
 .ret)))) }
def DP : Fun := { cin := [(.agg [.id,.id,.sl 1 .id,.sl 1 .id,.id,.id]),.id],cout := [.id],ntmps := 13,keep := false,res := [(4,none)],body :=
 (.seq (.reg [⟨some 2,.box 26 6 (.t 0),none⟩,
 ⟨some 4,.mv (.c .nf),none⟩])
 (.seq (.reg [⟨some 6,.fa 3 (.t 2),none⟩,
 ⟨some 7,.ld false 1 (.t 6),none⟩,
 ⟨some 8,.call Cb [.t 7],none⟩,
 ⟨some 9,.call EM [.t 8],none⟩,
 ⟨some 10,.mv (.t 1),none⟩,
 ⟨some 11,.slc false 1 (.t 9) none (some (.t 10)) none,none⟩,
 ⟨some 5,.alloc 24 [.nsl],none⟩,
 ⟨none,.st 1 (.t 5) (.t 11),none⟩])
 (.seq (.reg [⟨some 12,.mkf Av [.t 2,.t 5],none⟩,
 ⟨some 4,.mv (.t 12),none⟩])
 .ret))) }
def AY : Fun := { cin := [.sl 1 .id,.id],cout := [.id],ntmps := 9,keep := false,res := [(4,none)],body :=
 (.seq (.reg [⟨some 4,.mv (.c (.b false)),none⟩])
 (.seq (.reg [⟨some 5,.mv (.t 0),none⟩,
 ⟨some 6,.mv (.t 1),none⟩,
 ⟨some 7,.call Bz [.t 5,.t 6],none⟩,
 ⟨some 8,.bin .geq (.t 7) (.c (.i .i64 0)),none⟩,
 ⟨some 4,.mv (.t 8),none⟩])
 .ret)) }
def CD : Fun := { cin := [.id],cout := [.id],ntmps := 8,keep := false,res := [(3,none)],body :=
 (.seq (.reg [⟨some 3,.mv (.c (.b false)),none⟩])
 (.seq (.reg [⟨some 4,.ld false 1 (.t 1),none⟩,
 ⟨some 5,.mv (.t 0),none⟩,
 ⟨some 6,.callX (.t 4) [.t 5],none⟩,
 ⟨some 7,.un .not (.t 6),none⟩,
 ⟨some 3,.mv (.t 7),none⟩])
 .ret)) }
def CH : Fun := { cin := [.id],cout := [.id],ntmps := 8,keep := false,res := [(3,none)],body :=
 (.seq (.reg [⟨some 3,.mv (.c (.b false)),none⟩])
 (.seq (.reg [⟨some 4,.ld false 1 (.t 1),none⟩,
 ⟨some 5,.mv (.t 0),none⟩,
 ⟨some 6,.callX (.t 4) [.t 5],none⟩,
 ⟨some 7,.un .not (.t 6),none⟩,
 ⟨some 3,.mv (.t 7),none⟩])
 .ret)) }
def A4 : Fun := { cin := [.sl 1 .id,.id],cout := [.id],ntmps := 19,keep := false,res := [(4,none)],body :=
 (.seq (.reg [⟨some 4,.mv (.c (.i .i64 0)),none⟩])
 (.seq (.seq (.reg [⟨some 6,.mv (.t 0),none⟩,
 ⟨some 7,.len 1 (.t 6),none⟩,
 ⟨some 8,.mv (.c (.i .i64 0)),none⟩])
 (.blk 0 (.loop (.seq (.reg [⟨some 9,.bin .lss (.t 8) (.t 7),none⟩])
 (.seq (.cond (.t 9)
 .skip
 (.exit 0))
 (.seq (.blk 1 (.seq (.reg [⟨some 10,.mv (.t 8),none⟩,
 ⟨some 5,.mv (.t 10),none⟩])
 (.seq (.reg [⟨some 11,.mv (.t 1),none⟩,
 ⟨some 12,.mv (.t 0),none⟩,
 ⟨some 13,.mv (.t 5),none⟩,
 ⟨some 14,.ia 1 (.t 12) (.t 13),none⟩,
 ⟨some 15,.ld false 1 (.t 14),none⟩,
 ⟨some 16,.callX (.t 11) [.t 15],none⟩])
 (.cond (.t 16)
 (.seq (.reg [⟨some 17,.mv (.t 5),none⟩,
 ⟨some 4,.mv (.t 17),none⟩])
 .ret)
 .skip))))
 (.reg [⟨some 18,.bin .add (.t 8) (.c (.i .i64 1)),none⟩,
 ⟨some 8,.mv (.t 18),none⟩])))))))
 (.seq (.reg [⟨some 4,.mv (.c (.i .i64 (-1))),none⟩])
 .ret))) }
def BN : Fun := { cin := [.sl 1 .id,.sl 1 .id],cout := [.id],ntmps := 26,keep := false,res := [(4,none)],body :=
 (.seq (.reg [⟨some 4,.mv (.c (.b false)),none⟩])
 (.seq (.seq (.reg [⟨some 6,.mv (.t 0),none⟩,
 ⟨some 7,.len 1 (.t 6),none⟩,
 ⟨some 8,.mv (.t 1),none⟩,
 ⟨some 9,.len 1 (.t 8),none⟩,
 ⟨some 10,.bin .neq (.t 7) (.t 9),none⟩])
 (.cond (.t 10)
 (.seq (.reg [⟨some 4,.mv (.c (.b false)),none⟩])
 .ret)
 .skip))
 (.seq (.seq (.reg [⟨some 11,.mv (.t 0),none⟩,
 ⟨some 12,.len 1 (.t 11),none⟩,
 ⟨some 13,.mv (.c (.i .i64 0)),none⟩])
 (.blk 0 (.loop (.seq (.reg [⟨some 14,.bin .lss (.t 13) (.t 12),none⟩])
 (.seq (.cond (.t 14)
 .skip
 (.exit 0))
 (.seq (.blk 1 (.seq (.reg [⟨some 15,.mv (.t 13),none⟩,
 ⟨some 5,.mv (.t 15),none⟩])
 (.seq (.regD [⟨some 16,.mv (.t 0),none⟩,
 ⟨some 17,.mv (.t 5),none⟩,
 ⟨some 18,.ia 1 (.t 16) (.t 17),none⟩,
 ⟨some 19,.ld false 1 (.t 18),none⟩,
 ⟨some 20,.mv (.t 1),none⟩,
 ⟨some 21,.mv (.t 5),none⟩,
 ⟨some 22,.ia 1 (.t 20) (.t 21),none⟩,
 ⟨some 23,.ld false 1 (.t 22),none⟩,
 ⟨some 24,.bin .neq (.t 19) (.t 23),none⟩] [])
 (.cond (.t 24)
 (.seq (.reg [⟨some 4,.mv (.c (.b false)),none⟩])
 .ret)
 .skip))))
 (.reg [⟨some 25,.bin .add (.t 13) (.c (.i .i64 1)),none⟩,
 ⟨some 13,.mv (.t 25),none⟩])))))))
 (.seq (.reg [⟨some 4,.mv (.c (.b true)),none⟩])
 .ret)))) }
def AJ : Fun := { cin := [(.sl 6 (.agg [.id,.id,.id,.id,(.sl 1 .id),(.sl 6 (.agg [.id,.id,.id,.id,(.sl 1 .id),(.sl 6 (.agg [.id,.id,.id,.id,.id,.id]))]))])),(.sl 6 (.agg [.id,.id,.id,.id,(.sl 1 .id),(.sl 6 (.agg [.id,.id,.id,.id,(.sl 1 .id),(.sl 6 (.agg [.id,.id,.id,.id,.id,.id]))]))])),.id],cout := [.id],ntmps := 32,keep := false,res := [(6,none)],body :=
 (.seq (.reg [⟨some 6,.mv (.c (.b false)),none⟩])
 (.seq (.seq (.reg [⟨some 10,.mv (.t 0),none⟩,
 ⟨some 11,.len 1 (.t 10),none⟩,
 ⟨some 12,.mv (.t 1),none⟩,
 ⟨some 13,.len 1 (.t 12),none⟩,
 ⟨some 14,.bin .neq (.t 11) (.t 13),none⟩])
 (.cond (.t 14)
 (.seq (.reg [⟨some 6,.mv (.c (.b false)),none⟩])
 .ret)
 .skip))
 (.seq (.seq (.reg [⟨some 15,.mv (.t 0),none⟩,
 ⟨some 16,.len 1 (.t 15),none⟩,
 ⟨some 17,.mv (.c (.i .i64 0)),none⟩])
 (.blk 0 (.loop (.seq (.reg [⟨some 18,.bin .lss (.t 17) (.t 16),none⟩])
 (.seq (.cond (.t 18)
 .skip
 (.exit 0))
 (.seq (.blk 1 (.seq (.reg [⟨some 19,.mv (.t 17),none⟩,
 ⟨some 20,.ia 6 (.t 15) (.t 17),none⟩,
 ⟨some 21,.ld true 6 (.t 20),none⟩,
 ⟨some 8,.alloc 34 [(.i .i64 0),(.i .u8 0),(.s []),(.i .i64 0),.nsl,.nsl],none⟩,
 ⟨some 7,.mv (.t 19),none⟩,
 ⟨none,.st 6 (.t 8) (.t 21),none⟩])
 (.seq (.reg [⟨some 22,.mv (.t 1),none⟩,
 ⟨some 23,.mv (.t 7),none⟩,
 ⟨some 24,.ia 6 (.t 22) (.t 23),none⟩,
 ⟨some 25,.ld true 6 (.t 24),none⟩,
 ⟨some 9,.alloc 34 [(.i .i64 0),(.i .u8 0),(.s []),(.i .i64 0),.nsl,.nsl],none⟩,
 ⟨none,.st 6 (.t 9) (.t 25),none⟩])
 (.seq (.reg [⟨some 26,.mv (.t 2),none⟩,
 ⟨some 27,.ld true 6 (.t 8),none⟩,
 ⟨some 28,.ld true 6 (.t 9),none⟩,
 ⟨some 29,.callX (.t 26) [.t 27,.t 28],none⟩,
 ⟨some 30,.un .not (.t 29),none⟩])
 (.cond (.t 30)
 (.seq (.reg [⟨some 6,.mv (.c (.b false)),none⟩])
 .ret)
 .skip)))))
 (.reg [⟨some 31,.bin .add (.t 17) (.c (.i .i64 1)),none⟩,
 ⟨some 17,.mv (.t 31),none⟩])))))))
 (.seq (.reg [⟨some 6,.mv (.c (.b true)),none⟩])
 .ret)))) }
def Aj : Fun := { cin := [.id],cout := [],ntmps := 16,keep := false,res := [],body :=
 (.seq (.reg [⟨some 5,.ld false 1 (.t 1),none⟩,
 ⟨some 6,.len 1 (.t 5),none⟩,
 ⟨some 7,.mv (.c (.i .i64 0)),none⟩])
 (.blk 0 (.loop (.seq (.reg [⟨some 8,.bin .lss (.t 7) (.t 6),none⟩])
 (.seq (.cond (.t 8)
 .skip
 (.exit 0))
 (.seq (.blk 1 (.seq (.reg [⟨some 9,.ia 1 (.t 5) (.t 7),none⟩,
 ⟨some 10,.ld false 1 (.t 9),none⟩,
 ⟨some 4,.mv (.t 10),none⟩])
 (.seq (.reg [⟨some 11,.mv (.t 0),none⟩,
 ⟨some 12,.mv (.t 4),none⟩,
 ⟨some 13,.callX (.t 11) [.t 12],none⟩,
 ⟨some 14,.un .not (.t 13),none⟩])
 (.cond (.t 14)
 .ret
 .skip))))
 (.reg [⟨some 15,.bin .add (.t 7) (.c (.i .i64 1)),none⟩,
 ⟨some 7,.mv (.t 15),none⟩]))))))) }
def A6 : Fun := { cin := [.id],cout := [],ntmps := 14,keep := false,res := [],body :=
 (.seq (.reg [⟨some 4,.ld false 1 (.t 1),none⟩,
 ⟨some 5,.bad,none⟩])
 (.blk 0 (.loop (.seq (.reg [⟨some 6,.bad,none⟩,
 ⟨some 7,.ext (.t 6) 0,none⟩])
 (.seq (.cond (.t 7)
 .skip
 (.exit 0))
 (.blk 1 (.seq (.reg [⟨some 8,.bad,none⟩,
 ⟨some 9,.ext (.t 8) 0,none⟩,
 ⟨some 3,.mv (.t 9),none⟩])
 (.seq (.reg [⟨some 10,.mv (.t 0),none⟩,
 ⟨some 11,.mv (.t 3),none⟩,
 ⟨some 12,.callX (.t 10) [.t 11],none⟩,
 ⟨some 13,.un .not (.t 12),none⟩])
 (.cond (.t 13)
 .ret
 .skip))))))))) }
def Cy : Fun := { cin := [.id],cout := [.id],ntmps := 6,keep := false,res := [(2,none)],body :=
 (.seq (.reg [⟨some 2,.mv (.c (.b false)),none⟩])
 (.seq (.reg [⟨some 3,.mv (.t 0),none⟩,
 ⟨some 4,.mv (.t 0),none⟩,
 ⟨some 5,.bin .neq (.t 3) (.t 4),none⟩,
 ⟨some 2,.mv (.t 5),none⟩])
 .ret)) }
def BZ : Fun := { cin := [.id,.id],cout := [.id],ntmps := 55,keep := false,res := [(4,none)],body :=
 (.seq (.reg [⟨some 4,.mv (.c (.i .i64 0)),none⟩])
 (.seq (.seq (.reg [⟨some 11,.mv (.t 1),none⟩,
 ⟨some 12,.bin .eql (.t 11) (.c (.s [])),none⟩])
 (.cond (.t 12)
 (.seq (.reg [⟨some 4,.mv (.c (.i .i64 (-1))),none⟩])
 .ret)
 .skip))
 (.seq (.seq (.reg [⟨some 13,.mv (.t 1),none⟩,
 ⟨some 14,.len 0 (.t 13),none⟩,
 ⟨some 15,.bin .eql (.t 14) (.c (.i .i64 1)),none⟩])
 (.cond (.t 15)
 (.seq (.reg [⟨some 16,.mv (.t 1),none⟩,
 ⟨some 17,.ixS (.t 16) (.c (.i .i64 0)),none⟩,
 ⟨some 18,.cvI .i32 (.t 17),none⟩,
 ⟨some 5,.mv (.t 18),none⟩])
 (.seq (.seq (.reg [⟨some 19,.mv (.t 5),none⟩,
 ⟨some 20,.bin .geq (.t 19) (.c (.i .i32 128)),none⟩])
 (.cond (.t 20)
 (.reg [⟨some 5,.mv (.c (.i .i32 65533)),none⟩])
 .skip))
 (.seq (.reg [⟨some 21,.mv (.t 0),none⟩,
 ⟨some 22,.mv (.t 5),none⟩,
 ⟨some 23,.call CB [.t 21,.t 22],none⟩,
 ⟨some 4,.mv (.t 23),none⟩])
 .ret)))
 .skip))
 (.seq (.seq (.reg [⟨some 24,.mv (.t 0),none⟩,
 ⟨some 25,.len 0 (.t 24),none⟩,
 ⟨some 26,.call Bq [.t 25],none⟩])
 (.cond (.t 26)
 (.seq (.reg [⟨some 28,.mv (.t 1),none⟩,
 ⟨some 29,.call Co [.t 28],none⟩,
 ⟨some 27,.mv (.t 29),none⟩,
 ⟨some 30,.ext (.t 27) 0,none⟩,
 ⟨some 31,.ext (.t 27) 1,none⟩,
 ⟨some 6,.alloc 118 [.b false,.b false,.b false,.b false,.b false,.b false,.b false,.b false,.b false,.b false,.b false,.b false,.b false,.b false,.b false,.b false,.b false,.b false,.b false,.b false,.b false,.b false,.b false,.b false,.b false,.b false,.b false,.b false,.b false,.b false,.b false,.b false,.b false,.b false,.b false,.b false,.b false,.b false,.b false,.b false,.b false,.b false,.b false,.b false,.b false,.b false,.b false,.b false,.b false,.b false,.b false,.b false,.b false,.b false,.b false,.b false,.b false,.b false,.b false,.b false,.b false,.b false,.b false,.b false,.b false,.b false,.b false,.b false,.b false,.b false,.b false,.b false,.b false,.b false,.b false,.b false,.b false,.b false,.b false,.b false,.b false,.b false,.b false,.b false,.b false,.b false,.b false,.b false,.b false,.b false,.b false,.b false,.b false,.b false,.b false,.b false,.b false,.b false,.b false,.b false,.b false,.b false,.b false,.b false,.b false,.b false,.b false,.b false,.b false,.b false,.b false,.b false,.b false,.b false,.b false,.b false,.b false,.b false,.b false,.b false,.b false,.b false,.b false,.b false,.b false,.b false,.b false,.b false,.b false,.b false,.b false,.b false,.b false,.b false,.b false,.b false,.b false,.b false,.b false,.b false,.b false,.b false,.b false,.b false,.b false,.b false,.b false,.b false,.b false,.b false,.b false,.b false,.b false,.b false,.b false,.b false,.b false,.b false,.b false,.b false,.b false,.b false,.b false,.b false,.b false,.b false,.b false,.b false,.b false,.b false,.b false,.b false,.b false,.b false,.b false,.b false,.b false,.b false,.b false,.b false,.b false,.b false,.b false,.b false,.b false,.b false,.b false,.b false,.b false,.b false,.b false,.b false,.b false,.b false,.b false,.b false,.b false,.b false,.b false,.b false,.b false,.b false,.b false,.b false,.b false,.b false,.b false,.b false,.b false,.b false,.b false,.b false,.b false,.b false,.b false,.b false,.b false,.b false,.b false,.b false,.b false,.b false,.b false,.b false,.b false,.b false,.b false,.b false,.b false,.b false,.b false,.b false,.b false,.b false,.b false,.b false,.b false,.b false,.b false,.b false,.b false,.b false,.b false,.b false,.b false,.b false,.b false,.b false,.b false,.b false,.b false,.b false,.b false,.b false,.b false,.b false],none⟩,
 ⟨none,.st 256 (.t 6) (.t 30),none⟩,
 ⟨some 7,.mv (.t 31),none⟩])
 (.seq (.reg [⟨some 32,.mv (.t 7),none⟩])
 (.cond (.t 32)
 (.seq (.seq (.reg [⟨some 8,.mv (.c (.i .i64 0)),none⟩])
 (.blk 0 (.loop (.seq (.seq (.reg [⟨some 33,.mv (.t 8),none⟩,
 ⟨some 34,.mv (.t 0),none⟩,
 ⟨some 35,.len 0 (.t 34),none⟩,
 ⟨some 36,.bin .lss (.t 33) (.t 35),none⟩])
 (.cond (.t 36)
 .skip
 (.exit 0)))
 (.seq (.blk 1 (.seq (.reg [⟨some 39,.mv (.t 0),none⟩,
 ⟨some 40,.mv (.t 8),none⟩,
 ⟨some 41,.ixS (.t 39) (.t 40),none⟩,
 ⟨some 42,.call Br [.t 6,.t 41],none⟩])
 (.cond (.t 42)
 (.seq (.reg [⟨some 43,.mv (.t 8),none⟩,
 ⟨some 4,.mv (.t 43),none⟩])
 .ret)
 .skip)))
 (.reg [⟨some 37,.mv (.t 8),none⟩,
 ⟨some 38,.bin .add (.t 37) (.c (.i .i64 1)),none⟩,
 ⟨some 8,.mv (.t 38),none⟩]))))))
 (.seq (.reg [⟨some 4,.mv (.c (.i .i64 (-1))),none⟩])
 .ret))
 .skip)))
 .skip))
 (.seq (.seq (.reg [⟨some 44,.mv (.t 0),none⟩,
 ⟨some 45,.siter (.t 44),none⟩])
 (.blk 2 (.loop (.seq (.reg [⟨some 46,.snext (.t 45),none⟩,
 ⟨some 47,.ext (.t 46) 0,none⟩])
 (.seq (.cond (.t 47)
 .skip
 (.exit 2))
 (.blk 3 (.seq (.reg [⟨some 48,.ext (.t 46) 1,none⟩,
 ⟨some 49,.ext (.t 46) 2,none⟩,
 ⟨some 9,.mv (.t 48),none⟩,
 ⟨some 10,.mv (.t 49),none⟩])
 (.seq (.reg [⟨some 50,.mv (.t 1),none⟩,
 ⟨some 51,.mv (.t 10),none⟩,
 ⟨some 52,.call CB [.t 50,.t 51],none⟩,
 ⟨some 53,.bin .geq (.t 52) (.c (.i .i64 0)),none⟩])
 (.cond (.t 53)
 (.seq (.reg [⟨some 54,.mv (.t 9),none⟩,
 ⟨some 4,.mv (.t 54),none⟩])
 .ret)
 .skip)))))))))
 (.seq (.reg [⟨some 4,.mv (.c (.i .i64 (-1))),none⟩])
 .ret)))))) }
def EN : Fun := { cin := [(.sl 6 (.agg [.id,.id,.sl 1 .id,.sl 1 .id,.id,.id])),(.agg [.id,.sl 1 .id])],cout := [.id],ntmps := 6,keep := false,res := [(4,none)],body :=
 (.seq (.reg [⟨some 2,.box 27 1 (.t 0),none⟩,
 ⟨some 3,.box 105 2 (.t 1),none⟩,
 ⟨some 4,.mv (.c .nf),none⟩])
 (.seq (.reg [⟨some 5,.mkf Bs [.t 3,.t 2],none⟩,
 ⟨some 4,.mv (.t 5),none⟩])
 .ret)) }
def Dq : Fun := { cin := [(.agg [.id,.id,(.sl 1 .id),(.sl 4 (.agg [.id,.id,(.sl 1 .id),(.sl 4 (.agg [.id,.id,.sl 1 .id,.sl 4 .id]))]))]),(.sl 1 .id)],cout := [(.agg [.id,.id,(.sl 1 .id),(.sl 4 (.agg [.id,.id,(.sl 1 .id),(.sl 4 (.agg [.id,.id,.sl 1 .id,.sl 4 .id]))]))]),.id],ntmps := 38,keep := false,res := [(4,some (true,4)),(5,none)],body :=
 (.seq (.reg [⟨some 2,.box 30 4 (.t 0),none⟩,
 ⟨some 4,.alloc 30 [(.i .u8 0),(.s []),.nsl,.nsl],none⟩,
 ⟨some 5,.mv (.c (.b false)),none⟩])
 (.seq (.seq (.reg [⟨some 10,.mv (.t 1),none⟩,
 ⟨some 11,.len 1 (.t 10),none⟩,
 ⟨some 12,.mv (.c (.i .i64 0)),none⟩])
 (.blk 0 (.loop (.seq (.reg [⟨some 13,.bin .lss (.t 12) (.t 11),none⟩])
 (.seq (.cond (.t 13)
 .skip
 (.exit 0))
 (.seq (.blk 1 (.seq (.reg [⟨some 14,.ia 1 (.t 10) (.t 12),none⟩,
 ⟨some 15,.ld false 1 (.t 14),none⟩,
 ⟨some 7,.mv (.t 15),none⟩])
 (.seq (.reg [⟨some 17,.fa 2 (.t 2),none⟩,
 ⟨some 18,.ld false 1 (.t 17),none⟩,
 ⟨some 19,.mv (.t 7),none⟩,
 ⟨some 20,.call AX [.t 18,.t 19],none⟩,
 ⟨some 16,.mv (.t 20),none⟩,
 ⟨some 21,.ext (.t 16) 0,none⟩,
 ⟨some 22,.ext (.t 16) 1,none⟩,
 ⟨some 8,.mv (.t 21),none⟩,
 ⟨some 9,.mv (.t 22),none⟩])
 (.seq (.seq (.reg [⟨some 23,.fa 0 (.t 2),none⟩,
 ⟨some 24,.ld false 1 (.t 23),none⟩,
 ⟨some 25,.bin .neq (.t 24) (.c (.i .u8 2)),none⟩,
 ⟨some 26,.mv (.t 25),none⟩,
 ⟨some 27,.mv (.t 9),some (26,false)⟩,
 ⟨some 28,.un .not (.t 27),some (26,false)⟩,
 ⟨some 29,.pick (.t 26) (.c (.b true)) (.t 28),none⟩])
 (.cond (.t 29)
 (.seq (.reg [⟨some 30,.build [(.i .u8 0),(.s []),.nsl,.nsl] [],none⟩,
 ⟨none,.st 4 (.t 4) (.t 30),none⟩,
 ⟨some 5,.mv (.c (.b false)),none⟩])
 .ret)
 .skip))
 (.reg [⟨some 31,.fa 3 (.t 2),none⟩,
 ⟨some 32,.ld false 1 (.t 31),none⟩,
 ⟨some 33,.mv (.t 8),none⟩,
 ⟨some 34,.ia 4 (.t 32) (.t 33),none⟩,
 ⟨some 35,.ld true 4 (.t 34),none⟩,
 ⟨none,.st 4 (.t 2) (.t 35),none⟩])))))
 (.reg [⟨some 36,.bin .add (.t 12) (.c (.i .i64 1)),none⟩,
 ⟨some 12,.mv (.t 36),none⟩])))))))
 (.seq (.reg [⟨some 37,.ld true 4 (.t 2),none⟩,
 ⟨none,.st 4 (.t 4) (.t 37),none⟩,
 ⟨some 5,.mv (.c (.b true)),none⟩])
 .ret))) }
def EO : Fun := { cin := [(.agg [.id,.id,(.sl 1 .id),(.sl 4 (.agg [.id,.id,(.sl 1 .id),(.sl 4 (.agg [.id,.id,.sl 1 .id,.sl 4 .id]))]))])],cout := [(.agg [.id,.id,(.sl 1 .id),(.sl 4 (.agg [.id,.id,(.sl 1 .id),(.sl 4 (.agg [.id,.id,.sl 1 .id,.sl 4 .id]))]))])],ntmps := 26,keep := false,res := [(2,some (true,4))],body :=
 (.seq (.reg [⟨some 1,.box 30 4 (.t 0),none⟩,
 ⟨some 2,.alloc 30 [(.i .u8 0),(.s []),.nsl,.nsl],none⟩])
 (.seq (.reg [⟨some 6,.fa 2 (.t 1),none⟩,
 ⟨some 7,.ld false 1 (.t 6),none⟩,
 ⟨some 8,.call Ad [.t 7],none⟩,
 ⟨some 9,.fa 2 (.t 1),none⟩,
 ⟨none,.st 1 (.t 9) (.t 8),none⟩])
 (.seq (.reg [⟨some 3,.mv (.c .nsl),none⟩])
 (.seq (.seq (.reg [⟨some 10,.fa 3 (.t 1),none⟩,
 ⟨some 11,.ld false 1 (.t 10),none⟩,
 ⟨some 12,.len 1 (.t 11),none⟩,
 ⟨some 13,.mv (.c (.i .i64 0)),none⟩])
 (.blk 0 (.loop (.seq (.reg [⟨some 14,.bin .lss (.t 13) (.t 12),none⟩])
 (.seq (.cond (.t 14)
 .skip
 (.exit 0))
 (.seq (.blk 1 (.seq (.reg [⟨some 15,.ia 4 (.t 11) (.t 13),none⟩,
 ⟨some 16,.ld true 4 (.t 15),none⟩,
 ⟨some 5,.alloc 30 [(.i .u8 0),(.s []),.nsl,.nsl],none⟩,
 ⟨none,.st 4 (.t 5) (.t 16),none⟩])
 (.reg [⟨some 17,.mv (.t 3),none⟩,
 ⟨some 18,.ld true 4 (.t 5),none⟩,
 ⟨some 19,.call HL [.t 18],none⟩,
 ⟨some 20,.bsl 4 [.t 19],none⟩,
 ⟨some 21,.app 4 30 (.t 17) (.t 20),none⟩,
 ⟨some 3,.mv (.t 21),none⟩])))
 (.reg [⟨some 22,.bin .add (.t 13) (.c (.i .i64 1)),none⟩,
 ⟨some 13,.mv (.t 22),none⟩])))))))
 (.seq (.reg [⟨some 23,.mv (.t 3),none⟩,
 ⟨some 24,.fa 3 (.t 1),none⟩,
 ⟨none,.st 1 (.t 24) (.t 23),none⟩])
 (.seq (.reg [⟨some 25,.ld true 4 (.t 1),none⟩,
 ⟨none,.st 4 (.t 2) (.t 25),none⟩])
 .ret)))))) }
def BQ : Fun := { cin := [.id],cout := [.sl 1 .id],ntmps := 9,keep := false,res := [(2,none)],body :=
 (.seq (.reg [⟨some 2,.mv (.c .nsl),none⟩])
 (.seq (.reg [⟨some 4,.mv (.t 0),none⟩,
 ⟨some 5,.call EA [.t 4],none⟩,
 ⟨some 3,.mv (.t 5),none⟩])
 (.seq (.seq (.thw 3)
 (.reg [⟨some 6,.mv (.t 3),none⟩,
 ⟨some 7,.call Cv [.t 6],none⟩]))
 (.seq (.reg [⟨some 8,.mv (.t 3),none⟩,
 ⟨some 2,.mv (.t 8),none⟩])
 .ret)))) }
def BG : Fun := { cin := [.sl 1 .id],cout := [.id],ntmps := 4,keep := false,res := [(2,none)],body :=
 (.seq (.reg [⟨some 1,.box 24 1 (.t 0),none⟩,
 ⟨some 2,.mv (.c .nf),none⟩])
 (.seq (.reg [⟨some 3,.mkf Ae [.t 1],none⟩,
 ⟨some 2,.mv (.t 3),none⟩])
 .ret)) }
def CL : Fun := { cin := [.id],cout := [.id],ntmps := 24,keep := false,res := [(4,none)],body :=
 (.seq (.reg [⟨some 4,.mv (.c (.b false)),none⟩])
 (.seq (.reg [⟨some 8,.fa 2 (.t 1),none⟩,
 ⟨some 9,.ld false 1 (.t 8),none⟩,
 ⟨some 10,.mv (.t 0),none⟩,
 ⟨some 11,.call AX [.t 9,.t 10],none⟩,
 ⟨some 7,.mv (.t 11),none⟩,
 ⟨some 12,.ext (.t 7) 0,none⟩,
 ⟨some 13,.ext (.t 7) 1,none⟩,
 ⟨some 5,.mv (.t 12),none⟩,
 ⟨some 6,.mv (.t 13),none⟩])
 (.seq (.regD [⟨some 14,.mv (.t 6),none⟩,
 ⟨some 15,.mv (.t 14),none⟩,
 ⟨some 16,.ld false 1 (.t 2),some (15,true)⟩,
 ⟨some 17,.fa 3 (.t 1),some (15,true)⟩,
 ⟨some 18,.ld false 1 (.t 17),some (15,true)⟩,
 ⟨some 19,.mv (.t 5),some (15,true)⟩,
 ⟨some 20,.ia 1 (.t 18) (.t 19),some (15,true)⟩,
 ⟨some 21,.ld false 1 (.t 20),some (15,true)⟩,
 ⟨some 22,.call C5 [.t 16,.t 21],some (15,true)⟩,
 ⟨some 23,.pick (.t 15) (.t 22) (.c (.b false)),none⟩,
 ⟨some 4,.mv (.t 23),none⟩] [])
 .ret))) }
def A7 : Fun := { cin := [.sl 1 .id,.id],cout := [.id],ntmps := 9,keep := false,res := [(4,none)],body :=
 (.seq (.reg [⟨some 4,.mv (.c (.b false)),none⟩])
 (.seq (.reg [⟨some 5,.mv (.t 0),none⟩,
 ⟨some 6,.mv (.t 1),none⟩,
 ⟨some 7,.call Db [.t 5,.t 6],none⟩,
 ⟨some 8,.bin .geq (.t 7) (.c (.i .i64 0)),none⟩,
 ⟨some 4,.mv (.t 8),none⟩])
 .ret)) }
def Ag : Fun := { cin := [.sl 1 .id,.id],cout := [.id],ntmps := 19,keep := false,res := [(4,none)],body :=
 (.seq (.reg [⟨some 4,.mv (.c (.i .i64 0)),none⟩])
 (.seq (.seq (.reg [⟨some 6,.mv (.t 0),none⟩,
 ⟨some 7,.len 1 (.t 6),none⟩,
 ⟨some 8,.mv (.c (.i .i64 0)),none⟩])
 (.blk 0 (.loop (.seq (.reg [⟨some 9,.bin .lss (.t 8) (.t 7),none⟩])
 (.seq (.cond (.t 9)
 .skip
 (.exit 0))
 (.seq (.blk 1 (.seq (.reg [⟨some 10,.mv (.t 8),none⟩,
 ⟨some 5,.mv (.t 10),none⟩])
 (.seq (.reg [⟨some 11,.mv (.t 1),none⟩,
 ⟨some 12,.mv (.t 0),none⟩,
 ⟨some 13,.mv (.t 5),none⟩,
 ⟨some 14,.ia 1 (.t 12) (.t 13),none⟩,
 ⟨some 15,.ld false 1 (.t 14),none⟩,
 ⟨some 16,.callX (.t 11) [.t 15],none⟩])
 (.cond (.t 16)
 (.seq (.reg [⟨some 17,.mv (.t 5),none⟩,
 ⟨some 4,.mv (.t 17),none⟩])
 .ret)
 .skip))))
 (.reg [⟨some 18,.bin .add (.t 8) (.c (.i .i64 1)),none⟩,
 ⟨some 8,.mv (.t 18),none⟩])))))))
 (.seq (.reg [⟨some 4,.mv (.c (.i .i64 (-1))),none⟩])
 .ret))) }
def A8 : Fun := { cin := [.id,.id],cout := [.id],ntmps := 187,keep := false,res := [(4,none)],body :=
 (.seq (.reg [⟨some 4,.mv (.c (.i .i64 0)),none⟩])
 (.blk 0 (.seq (.reg [⟨some 161,.mv (.t 1),none⟩,
 ⟨some 162,.bin .leq (.c (.i .i32 0)) (.t 161),none⟩,
 ⟨some 163,.mv (.t 162),none⟩,
 ⟨some 164,.mv (.t 1),some (163,true)⟩,
 ⟨some 165,.bin .lss (.t 164) (.c (.i .i32 128)),some (163,true)⟩,
 ⟨some 166,.pick (.t 163) (.t 165) (.c (.b false)),none⟩,
 ⟨some 160,.mv (.t 166),none⟩])
 (.cond (.t 160)
 (.seq (.reg [⟨some 167,.mv (.t 0),none⟩,
 ⟨some 168,.mv (.t 1),none⟩,
 ⟨some 169,.cvI .u8 (.t 168),none⟩,
 ⟨some 170,.call CA [.t 167,.t 169],none⟩,
 ⟨some 4,.mv (.t 170),none⟩])
 .ret)
 (.seq (.reg [⟨some 172,.mv (.t 1),none⟩,
 ⟨some 173,.bin .eql (.t 172) (.c (.i .i32 65533)),none⟩,
 ⟨some 171,.mv (.t 173),none⟩])
 (.cond (.t 171)
 (.seq (.seq (.reg [⟨some 174,.mv (.t 0),none⟩,
 ⟨some 175,.siter (.t 174),none⟩])
 (.blk 9 (.loop (.seq (.reg [⟨some 176,.snext (.t 175),none⟩,
 ⟨some 177,.ext (.t 176) 0,none⟩])
 (.seq (.cond (.t 177)
 .skip
 (.exit 9))
 (.blk 10 (.seq (.reg [⟨some 178,.ext (.t 176) 1,none⟩,
 ⟨some 179,.ext (.t 176) 2,none⟩,
 ⟨some 5,.mv (.t 178),none⟩,
 ⟨some 6,.mv (.t 179),none⟩])
 (.seq (.reg [⟨some 180,.mv (.t 6),none⟩,
 ⟨some 181,.bin .eql (.t 180) (.c (.i .i32 65533)),none⟩])
 (.cond (.t 181)
 (.seq (.reg [⟨some 182,.mv (.t 5),none⟩,
 ⟨some 4,.mv (.t 182),none⟩])
 .ret)
 .skip)))))))))
 (.seq (.reg [⟨some 4,.mv (.c (.i .i64 (-1))),none⟩])
 .ret))
 (.seq (.reg [⟨some 184,.mv (.t 1),none⟩,
 ⟨some 185,.call DD [.t 184],none⟩,
 ⟨some 186,.un .not (.t 185),none⟩,
 ⟨some 183,.mv (.t 186),none⟩])
 (.cond (.t 183)
 (.seq (.reg [⟨some 4,.mv (.c (.i .i64 (-1))),none⟩])
 .ret)
 (.seq (.reg [⟨some 17,.mv (.t 1),none⟩,
 ⟨some 18,.cvRS (.t 17),none⟩,
 ⟨some 7,.mv (.t 18),none⟩])
 (.seq (.reg [⟨some 19,.mv (.t 7),none⟩,
 ⟨some 20,.len 0 (.t 19),none⟩,
 ⟨some 21,.bin .sub (.t 20) (.c (.i .i64 1)),none⟩,
 ⟨some 8,.mv (.t 21),none⟩])
 (.seq (.reg [⟨some 22,.mv (.t 8),none⟩,
 ⟨some 9,.mv (.t 22),none⟩])
 (.seq (.reg [⟨some 10,.mv (.c (.i .i64 0)),none⟩])
 (.seq (.blk 1 (.loop (.seq (.seq (.reg [⟨some 23,.mv (.t 9),none⟩,
 ⟨some 24,.mv (.t 0),none⟩,
 ⟨some 25,.len 0 (.t 24),none⟩,
 ⟨some 26,.bin .lss (.t 23) (.t 25),none⟩])
 (.cond (.t 26)
 .skip
 (.exit 1)))
 (.blk 2 (.seq (.seq (.regD [⟨some 27,.mv (.t 0),none⟩,
 ⟨some 28,.mv (.t 9),none⟩,
 ⟨some 29,.ixS (.t 27) (.t 28),none⟩,
 ⟨some 30,.mv (.t 7),none⟩,
 ⟨some 31,.mv (.t 8),none⟩,
 ⟨some 32,.ixS (.t 30) (.t 31),none⟩,
 ⟨some 33,.bin .neq (.t 29) (.t 32),none⟩] [])
 (.cond (.t 33)
 (.seq (.regD [⟨some 34,.mv (.t 0),none⟩,
 ⟨some 35,.mv (.t 9),none⟩,
 ⟨some 36,.bin .add (.t 35) (.c (.i .i64 1)),none⟩,
 ⟨some 37,.slS (.t 34) (some (.t 36)) none,none⟩,
 ⟨some 38,.mv (.t 7),none⟩,
 ⟨some 39,.mv (.t 8),none⟩,
 ⟨some 40,.ixS (.t 38) (.t 39),none⟩,
 ⟨some 41,.call CA [.t 37,.t 40],none⟩,
 ⟨some 11,.mv (.t 41),none⟩] [])
 (.seq (.seq (.reg [⟨some 42,.mv (.t 11),none⟩,
 ⟨some 43,.bin .lss (.t 42) (.c (.i .i64 0)),none⟩])
 (.cond (.t 43)
 (.seq (.reg [⟨some 4,.mv (.c (.i .i64 (-1))),none⟩])
 .ret)
 .skip))
 (.reg [⟨some 44,.mv (.t 9),none⟩,
 ⟨some 45,.mv (.t 11),none⟩,
 ⟨some 46,.bin .add (.t 45) (.c (.i .i64 1)),none⟩,
 ⟨some 47,.bin .add (.t 44) (.t 46),none⟩,
 ⟨some 9,.mv (.t 47),none⟩])))
 .skip))
 (.seq (.seq (.reg [⟨some 12,.mv (.c (.i .i64 1)),none⟩])
 (.blk 3 (.loop (.seq (.seq (.reg [⟨some 48,.mv (.t 12),none⟩,
 ⟨some 49,.mv (.t 7),none⟩,
 ⟨some 50,.len 0 (.t 49),none⟩,
 ⟨some 51,.bin .lss (.t 48) (.t 50),none⟩])
 (.cond (.t 51)
 .skip
 (.exit 3)))
 (.seq (.blk 4 (.seq (.regD [⟨some 54,.mv (.t 0),none⟩,
 ⟨some 55,.mv (.t 9),none⟩,
 ⟨some 56,.mv (.t 12),none⟩,
 ⟨some 57,.bin .sub (.t 55) (.t 56),none⟩,
 ⟨some 58,.ixS (.t 54) (.t 57),none⟩,
 ⟨some 59,.mv (.t 7),none⟩,
 ⟨some 60,.mv (.t 8),none⟩,
 ⟨some 61,.mv (.t 12),none⟩,
 ⟨some 62,.bin .sub (.t 60) (.t 61),none⟩,
 ⟨some 63,.ixS (.t 59) (.t 62),none⟩,
 ⟨some 64,.bin .neq (.t 58) (.t 63),none⟩] [])
 (.cond (.t 64)
 .bad
 .skip)))
 (.reg [⟨some 52,.mv (.t 12),none⟩,
 ⟨some 53,.bin .add (.t 52) (.c (.i .i64 1)),none⟩,
 ⟨some 12,.mv (.t 53),none⟩]))))))
 (.seq (.seq (.reg [⟨some 65,.mv (.t 9),none⟩,
 ⟨some 66,.mv (.t 8),none⟩,
 ⟨some 67,.bin .sub (.t 65) (.t 66),none⟩,
 ⟨some 4,.mv (.t 67),none⟩])
 .ret)
 (.seq .skip
 (.seq (.reg [⟨some 68,.mv (.t 10),none⟩,
 ⟨some 69,.bin .add (.t 68) (.c (.i .i64 1)),none⟩,
 ⟨some 10,.mv (.t 69),none⟩])
 (.seq (.reg [⟨some 70,.mv (.t 9),none⟩,
 ⟨some 71,.bin .add (.t 70) (.c (.i .i64 1)),none⟩,
 ⟨some 9,.mv (.t 71),none⟩])
 (.seq (.reg [⟨some 72,.mv (.c (.b true)),none⟩,
 ⟨some 73,.mv (.t 10),some (72,true)⟩,
 ⟨some 74,.mv (.t 9),some (72,true)⟩,
 ⟨some 75,.call D5 [.t 74],some (72,true)⟩,
 ⟨some 76,.bin .gtr (.t 73) (.t 75),some (72,true)⟩,
 ⟨some 77,.pick (.t 72) (.t 76) (.c (.b false)),none⟩,
 ⟨some 78,.mv (.t 77),none⟩,
 ⟨some 79,.mv (.t 9),some (78,true)⟩,
 ⟨some 80,.mv (.t 0),some (78,true)⟩,
 ⟨some 81,.len 0 (.t 80),some (78,true)⟩,
 ⟨some 82,.bin .lss (.t 79) (.t 81),some (78,true)⟩,
 ⟨some 83,.pick (.t 78) (.t 82) (.c (.b false)),none⟩,
 ⟨some 84,.mv (.t 83),none⟩,
 ⟨some 85,.mv (.c (.b false)),some (84,false)⟩,
 ⟨some 86,.mv (.t 10),some (85,true)⟩,
 ⟨some 87,.mv (.t 9),some (85,true)⟩,
 ⟨some 88,.bin .shr (.t 87) (.c (.i .u64 4)),some (85,true)⟩,
 ⟨some 89,.bin .add (.c (.i .i64 4)) (.t 88),some (85,true)⟩,
 ⟨some 90,.bin .geq (.t 86) (.t 89),some (85,true)⟩,
 ⟨some 91,.pick (.t 85) (.t 90) (.c (.b false)),some (84,false)⟩,
 ⟨some 92,.mv (.t 91),some (84,false)⟩,
 ⟨some 93,.mv (.t 9),some (92,true)⟩,
 ⟨some 94,.mv (.t 0),some (92,true)⟩,
 ⟨some 95,.len 0 (.t 94),some (92,true)⟩,
 ⟨some 96,.bin .lss (.t 93) (.t 95),some (92,true)⟩,
 ⟨some 97,.pick (.t 92) (.t 96) (.c (.b false)),some (84,false)⟩,
 ⟨some 98,.pick (.t 84) (.c (.b true)) (.t 97),none⟩])
 (.cond (.t 98)
 .bad
 .skip))))))))))))
 (.seq (.seq (.reg [⟨some 4,.mv (.c (.i .i64 (-1))),none⟩])
 .ret)
 (.seq .skip
 (.seq (.cond (.c (.b true))
 (.seq (.reg [⟨some 99,.mv (.t 0),none⟩,
 ⟨some 100,.mv (.t 9),none⟩,
 ⟨some 101,.mv (.t 8),none⟩,
 ⟨some 102,.bin .sub (.t 100) (.t 101),none⟩,
 ⟨some 103,.slS (.t 99) (some (.t 102)) none,none⟩,
 ⟨some 104,.mv (.t 1),none⟩,
 ⟨some 105,.cvRS (.t 104),none⟩,
 ⟨some 106,.bad,none⟩,
 ⟨some 13,.mv (.t 106),none⟩])
 (.seq (.reg [⟨some 107,.mv (.t 13),none⟩,
 ⟨some 108,.bin .geq (.t 107) (.c (.i .i64 0)),none⟩])
 (.cond (.t 108)
 (.seq (.reg [⟨some 109,.mv (.t 9),none⟩,
 ⟨some 110,.mv (.t 13),none⟩,
 ⟨some 111,.bin .add (.t 109) (.t 110),none⟩,
 ⟨some 112,.mv (.t 8),none⟩,
 ⟨some 113,.bin .sub (.t 111) (.t 112),none⟩,
 ⟨some 4,.mv (.t 113),none⟩])
 .ret)
 .skip)))
 (.seq (.reg [⟨some 114,.mv (.t 7),none⟩,
 ⟨some 115,.mv (.t 8),none⟩,
 ⟨some 116,.ixS (.t 114) (.t 115),none⟩,
 ⟨some 14,.mv (.t 116),none⟩])
 (.seq (.reg [⟨some 117,.mv (.t 7),none⟩,
 ⟨some 118,.mv (.t 8),none⟩,
 ⟨some 119,.bin .sub (.t 118) (.c (.i .i64 1)),none⟩,
 ⟨some 120,.ixS (.t 117) (.t 119),none⟩,
 ⟨some 15,.mv (.t 120),none⟩])
 (.seq .skip
 (.blk 5 (.loop (.seq (.seq (.reg [⟨some 121,.mv (.t 9),none⟩,
 ⟨some 122,.mv (.t 0),none⟩,
 ⟨some 123,.len 0 (.t 122),none⟩,
 ⟨some 124,.bin .lss (.t 121) (.t 123),none⟩])
 (.cond (.t 124)
 .skip
 (.exit 5)))
 (.seq (.blk 6 (.seq (.reg [⟨some 127,.mv (.t 0),none⟩,
 ⟨some 128,.mv (.t 9),none⟩,
 ⟨some 129,.ixS (.t 127) (.t 128),none⟩,
 ⟨some 130,.mv (.t 14),none⟩,
 ⟨some 131,.bin .eql (.t 129) (.t 130),none⟩,
 ⟨some 132,.mv (.t 131),none⟩,
 ⟨some 133,.mv (.t 0),some (132,true)⟩,
 ⟨some 134,.mv (.t 9),some (132,true)⟩,
 ⟨some 135,.bin .sub (.t 134) (.c (.i .i64 1)),some (132,true)⟩,
 ⟨some 136,.ixS (.t 133) (.t 135),some (132,true)⟩,
 ⟨some 137,.mv (.t 15),some (132,true)⟩,
 ⟨some 138,.bin .eql (.t 136) (.t 137),some (132,true)⟩,
 ⟨some 139,.pick (.t 132) (.t 138) (.c (.b false)),none⟩])
 (.cond (.t 139)
 (.seq (.seq (.reg [⟨some 16,.mv (.c (.i .i64 2)),none⟩])
 (.blk 7 (.loop (.seq (.seq (.reg [⟨some 140,.mv (.t 16),none⟩,
 ⟨some 141,.mv (.t 7),none⟩,
 ⟨some 142,.len 0 (.t 141),none⟩,
 ⟨some 143,.bin .lss (.t 140) (.t 142),none⟩])
 (.cond (.t 143)
 .skip
 (.exit 7)))
 (.seq (.blk 8 (.seq (.regD [⟨some 146,.mv (.t 0),none⟩,
 ⟨some 147,.mv (.t 9),none⟩,
 ⟨some 148,.mv (.t 16),none⟩,
 ⟨some 149,.bin .sub (.t 147) (.t 148),none⟩,
 ⟨some 150,.ixS (.t 146) (.t 149),none⟩,
 ⟨some 151,.mv (.t 7),none⟩,
 ⟨some 152,.mv (.t 8),none⟩,
 ⟨some 153,.mv (.t 16),none⟩,
 ⟨some 154,.bin .sub (.t 152) (.t 153),none⟩,
 ⟨some 155,.ixS (.t 151) (.t 154),none⟩,
 ⟨some 156,.bin .neq (.t 150) (.t 155),none⟩] [])
 (.cond (.t 156)
 (.exit 6)
 .skip)))
 (.reg [⟨some 144,.mv (.t 16),none⟩,
 ⟨some 145,.bin .add (.t 144) (.c (.i .i64 1)),none⟩,
 ⟨some 16,.mv (.t 145),none⟩]))))))
 (.seq (.reg [⟨some 157,.mv (.t 9),none⟩,
 ⟨some 158,.mv (.t 8),none⟩,
 ⟨some 159,.bin .sub (.t 157) (.t 158),none⟩,
 ⟨some 4,.mv (.t 159),none⟩])
 .ret))
 .skip)))
 (.reg [⟨some 125,.mv (.t 9),none⟩,
 ⟨some 126,.bin .add (.t 125) (.c (.i .i64 1)),none⟩,
 ⟨some 9,.mv (.t 126),none⟩])))))))))
 (.seq (.reg [⟨some 4,.mv (.c (.i .i64 (-1))),none⟩])
 .ret))))))))))))))))) }
def BR : Fun := { cin := [.id],cout := [.id],ntmps := 5,keep := false,res := [(2,none)],body :=
 (.seq (.reg [⟨some 2,.mv (.c (.b false)),none⟩])
 (.seq (.reg [⟨some 3,.mv (.t 0),none⟩,
 ⟨some 4,.bin .gtr (.t 3) (.c (.i .i64 8)),none⟩,
 ⟨some 2,.mv (.t 4),none⟩])
 .ret)) }
def BL : Fun := { cin := [.id],cout := [(.agg [.id,.id,.id,.id,.id,.id,.id,.id,.id,.id,.id,.id,.id,.id,.id,.id,.id,.id,.id,.id,.id,.id,.id,.id,.id,.id,.id,.id,.id,.id,.id,.id,.id,.id,.id,.id,.id,.id,.id,.id,.id,.id,.id,.id,.id,.id,.id,.id,.id,.id,.id,.id,.id,.id,.id,.id,.id,.id,.id,.id,.id,.id,.id,.id,.id,.id,.id,.id,.id,.id,.id,.id,.id,.id,.id,.id,.id,.id,.id,.id,.id,.id,.id,.id,.id,.id,.id,.id,.id,.id,.id,.id,.id,.id,.id,.id,.id,.id,.id,.id,.id,.id,.id,.id,.id,.id,.id,.id,.id,.id,.id,.id,.id,.id,.id,.id,.id,.id,.id,.id,.id,.id,.id,.id,.id,.id,.id,.id,.id,.id,.id,.id,.id,.id,.id,.id,.id,.id,.id,.id,.id,.id,.id,.id,.id,.id,.id,.id,.id,.id,.id,.id,.id,.id,.id,.id,.id,.id,.id,.id,.id,.id,.id,.id,.id,.id,.id,.id,.id,.id,.id,.id,.id,.id,.id,.id,.id,.id,.id,.id,.id,.id,.id,.id,.id,.id,.id,.id,.id,.id,.id,.id,.id,.id,.id,.id,.id,.id,.id,.id,.id,.id,.id,.id,.id,.id,.id,.id,.id,.id,.id,.id,.id,.id,.id,.id,.id,.id,.id,.id,.id,.id,.id,.id,.id,.id,.id,.id,.id,.id,.id,.id,.id,.id,.id,.id,.id,.id,.id,.id,.id,.id,.id,.id,.id,.id,.id,.id,.id,.id,.id,.id,.id,.id,.id,.id]),.id],ntmps := 21,keep := false,res := [(2,some (true,256)),(3,none)],body :=
 (.seq (.reg [⟨some 2,.alloc 118 [.b false,.b false,.b false,.b false,.b false,.b false,.b false,.b false,.b false,.b false,.b false,.b false,.b false,.b false,.b false,.b false,.b false,.b false,.b false,.b false,.b false,.b false,.b false,.b false,.b false,.b false,.b false,.b false,.b false,.b false,.b false,.b false,.b false,.b false,.b false,.b false,.b false,.b false,.b false,.b false,.b false,.b false,.b false,.b false,.b false,.b false,.b false,.b false,.b false,.b false,.b false,.b false,.b false,.b false,.b false,.b false,.b false,.b false,.b false,.b false,.b false,.b false,.b false,.b false,.b false,.b false,.b false,.b false,.b false,.b false,.b false,.b false,.b false,.b false,.b false,.b false,.b false,.b false,.b false,.b false,.b false,.b false,.b false,.b false,.b false,.b false,.b false,.b false,.b false,.b false,.b false,.b false,.b false,.b false,.b false,.b false,.b false,.b false,.b false,.b false,.b false,.b false,.b false,.b false,.b false,.b false,.b false,.b false,.b false,.b false,.b false,.b false,.b false,.b false,.b false,.b false,.b false,.b false,.b false,.b false,.b false,.b false,.b false,.b false,.b false,.b false,.b false,.b false,.b false,.b false,.b false,.b false,.b false,.b false,.b false,.b false,.b false,.b false,.b false,.b false,.b false,.b false,.b false,.b false,.b false,.b false,.b false,.b false,.b false,.b false,.b false,.b false,.b false,.b false,.b false,.b false,.b false,.b false,.b false,.b false,.b false,.b false,.b false,.b false,.b false,.b false,.b false,.b false,.b false,.b false,.b false,.b false,.b false,.b false,.b false,.b false,.b false,.b false,.b false,.b false,.b false,.b false,.b false,.b false,.b false,.b false,.b false,.b false,.b false,.b false,.b false,.b false,.b false,.b false,.b false,.b false,.b false,.b false,.b false,.b false,.b false,.b false,.b false,.b false,.b false,.b false,.b false,.b false,.b false,.b false,.b false,.b false,.b false,.b false,.b false,.b false,.b false,.b false,.b false,.b false,.b false,.b false,.b false,.b false,.b false,.b false,.b false,.b false,.b false,.b false,.b false,.b false,.b false,.b false,.b false,.b false,.b false,.b false,.b false,.b false,.b false,.b false,.b false,.b false,.b false,.b false,.b false,.b false,.b false,.b false,.b false,.b false,.b false,.b false,.b false,.b false],none⟩,
 ⟨some 3,.mv (.c (.b false)),none⟩])
 (.seq (.seq (.reg [⟨some 4,.mv (.c (.i .i64 0)),none⟩])
 (.blk 0 (.loop (.seq (.seq (.reg [⟨some 6,.mv (.t 4),none⟩,
 ⟨some 7,.mv (.t 0),none⟩,
 ⟨some 8,.len 0 (.t 7),none⟩,
 ⟨some 9,.bin .lss (.t 6) (.t 8),none⟩])
 (.cond (.t 9)
 .skip
 (.exit 0)))
 (.seq (.blk 1 (.seq (.reg [⟨some 12,.mv (.t 0),none⟩,
 ⟨some 13,.mv (.t 4),none⟩,
 ⟨some 14,.ixS (.t 12) (.t 13),none⟩,
 ⟨some 5,.mv (.t 14),none⟩])
 (.seq (.seq (.reg [⟨some 15,.mv (.t 5),none⟩,
 ⟨some 16,.bin .geq (.t 15) (.c (.i .u8 128)),none⟩])
 (.cond (.t 16)
 (.seq (.reg [⟨some 17,.ld true 256 (.t 2),none⟩,
 ⟨none,.st 256 (.t 2) (.t 17),none⟩,
 ⟨some 3,.mv (.c (.b false)),none⟩])
 .ret)
 .skip))
 (.reg [⟨some 18,.mv (.t 5),none⟩,
 ⟨some 19,.iaA 256 1 (.t 2) (.t 18),none⟩,
 ⟨none,.st 1 (.t 19) (.c (.b true)),none⟩]))))
 (.reg [⟨some 10,.mv (.t 4),none⟩,
 ⟨some 11,.bin .add (.t 10) (.c (.i .i64 1)),none⟩,
 ⟨some 4,.mv (.t 11),none⟩]))))))
 (.seq (.reg [⟨some 20,.ld true 256 (.t 2),none⟩,
 ⟨none,.st 256 (.t 2) (.t 20),none⟩,
 ⟨some 3,.mv (.c (.b true)),none⟩])
 .ret))) }
def BS : Fun := { cin := [.id,.id],cout := [.id],ntmps := 10,keep := false,res := [(4,none)],body :=
 (.seq (.reg [⟨some 4,.mv (.c (.b false)),none⟩])
 (.seq (.reg [⟨some 5,.mv (.t 0),none⟩,
 ⟨some 6,.mv (.t 1),none⟩,
 ⟨some 7,.nck (.t 5),none⟩,
 ⟨some 8,.iaA 256 1 (.t 7) (.t 6),none⟩,
 ⟨some 9,.ld false 1 (.t 8),none⟩,
 ⟨some 4,.mv (.t 9),none⟩])
 .ret)) }
def BV : Fun := { cin := [.id],cout := [],ntmps := 51,keep := false,res := [],body :=
 (.seq (.reg [⟨some 3,.box 122 1 (.t 0),none⟩])
 (.seq (.seq (.reg [⟨some 8,.ld false 1 (.t 3),none⟩,
 ⟨some 9,.ld true 2 (.t 1),none⟩,
 ⟨some 10,.callX (.t 8) [.t 9],none⟩,
 ⟨some 11,.un .not (.t 10),none⟩])
 (.cond (.t 11)
 .ret
 .skip))
 (.seq (.reg [⟨some 12,.ld false 1 (.t 2),none⟩,
 ⟨some 13,.fa 0 (.t 1),none⟩,
 ⟨some 14,.ld false 1 (.t 13),none⟩,
 ⟨some 15,.ia 6 (.t 12) (.t 14),none⟩,
 ⟨some 16,.ld true 6 (.t 15),none⟩,
 ⟨some 4,.alloc 26 [.b false,.i .u8 0,.nsl,.nsl,.i .i64 0,.i .i64 0],none⟩,
 ⟨none,.st 6 (.t 4) (.t 16),none⟩])
 (.seq (.reg [⟨some 17,.fa 3 (.t 4),none⟩,
 ⟨some 18,.ld false 1 (.t 17),none⟩,
 ⟨some 19,.len 1 (.t 18),none⟩,
 ⟨some 20,.mv (.c (.i .i64 0)),none⟩])
 (.blk 0 (.loop (.seq (.reg [⟨some 21,.bin .lss (.t 20) (.t 19),none⟩])
 (.seq (.cond (.t 21)
 .skip
 (.exit 0))
 (.seq (.blk 1 (.seq (.reg [⟨some 22,.mv (.t 20),none⟩,
 ⟨some 23,.ia 1 (.t 18) (.t 20),none⟩,
 ⟨some 24,.ld false 1 (.t 23),none⟩,
 ⟨some 5,.mv (.t 22),none⟩,
 ⟨some 6,.mv (.t 24),none⟩])
 (.seq (.regD [⟨some 25,.ld false 1 (.t 2),none⟩,
 ⟨some 26,.mv (.t 6),none⟩,
 ⟨some 27,.fa 1 (.t 1),none⟩,
 ⟨some 28,.ld false 1 (.t 27),none⟩,
 ⟨some 29,.fa 1 (.t 1),none⟩,
 ⟨some 30,.ld false 1 (.t 29),none⟩,
 ⟨some 31,.len 1 (.t 30),none⟩,
 ⟨some 32,.fa 1 (.t 1),none⟩,
 ⟨some 33,.ld false 1 (.t 32),none⟩,
 ⟨some 34,.len 1 (.t 33),none⟩,
 ⟨some 35,.slc false 1 (.t 28) none (some (.t 31)) (some (.t 34)),none⟩,
 ⟨some 36,.fa 2 (.t 4),none⟩,
 ⟨some 37,.ld false 1 (.t 36),none⟩,
 ⟨some 38,.mv (.t 5),none⟩,
 ⟨some 39,.ia 1 (.t 37) (.t 38),none⟩,
 ⟨some 40,.ld false 1 (.t 39),none⟩,
 ⟨some 41,.bsl 1 [.t 40],none⟩,
 ⟨some 42,.appQ 1 9 (.t 35) (.t 41),none⟩,
 ⟨some 43,.build [.i .i64 0,.nsl] [(0,1,(.t 26)),(1,1,(.t 42))],none⟩,
 ⟨some 44,.callQ false E4 [.t 25,.t 43],none⟩] [(0,(0,18))])
 (.blk 2 (.rf (.t 44) [45] (.reg [⟨some 7,.alloc 105 [.i .i64 0,.nsl],none⟩,
 ⟨none,.st 2 (.t 7) (.t 45),none⟩])
 (.blk 3 (.seq (.reg [⟨some 46,.ld false 1 (.t 3),none⟩,
 ⟨some 47,.ld true 2 (.t 7),none⟩,
 ⟨some 48,.callX (.t 46) [.t 47],none⟩,
 ⟨some 49,.un .not (.t 48),none⟩])
 (.cond (.t 49)
 .ret
 .skip))))))))
 (.reg [⟨some 50,.bin .add (.t 20) (.c (.i .i64 1)),none⟩,
 ⟨some 20,.mv (.t 50),none⟩])))))))))) }
def CU : Fun := { cin := [.id],cout := [],ntmps := 5,keep := true,res := [(2,none)],body :=
 (.seq (.reg [⟨some 2,.mv (.c .nsl),none⟩])
 (.seq (.reg [⟨some 3,.mv (.t 0),none⟩,
 ⟨some 4,.call Cr [.c .nsl,.t 3],none⟩,
 ⟨some 2,.mv (.t 4),none⟩])
 .ret)) }
def Dr : Fun := { cin := [],cout := [],ntmps := 0,keep := false,res := [],body := .bad,prim := some Gi }
def A9 : Fun := { cin := [.id],cout := [],ntmps := 16,keep := false,res := [],body :=
 (.seq (.reg [⟨some 5,.ld false 1 (.t 1),none⟩,
 ⟨some 6,.len 1 (.t 5),none⟩,
 ⟨some 7,.mv (.c (.i .i64 0)),none⟩])
 (.blk 0 (.loop (.seq (.reg [⟨some 8,.bin .lss (.t 7) (.t 6),none⟩])
 (.seq (.cond (.t 8)
 .skip
 (.exit 0))
 (.seq (.blk 1 (.seq (.reg [⟨some 9,.ia 1 (.t 5) (.t 7),none⟩,
 ⟨some 10,.ld false 1 (.t 9),none⟩,
 ⟨some 4,.mv (.t 10),none⟩])
 (.seq (.reg [⟨some 11,.mv (.t 0),none⟩,
 ⟨some 12,.mv (.t 4),none⟩,
 ⟨some 13,.callX (.t 11) [.t 12],none⟩,
 ⟨some 14,.un .not (.t 13),none⟩])
 (.cond (.t 14)
 .ret
 .skip))))
 (.reg [⟨some 15,.bin .add (.t 7) (.c (.i .i64 1)),none⟩,
 ⟨some 7,.mv (.t 15),none⟩]))))))) }
def BM : Fun := { cin := [.sl 1 .id,.id],cout := [.id],ntmps := 19,keep := false,res := [(4,none)],body :=
 (.seq (.reg [⟨some 4,.mv (.c (.i .i64 0)),none⟩])
 (.seq (.seq (.reg [⟨some 6,.mv (.t 0),none⟩,
 ⟨some 7,.len 1 (.t 6),none⟩,
 ⟨some 8,.mv (.c (.i .i64 0)),none⟩])
 (.blk 0 (.loop (.seq (.reg [⟨some 9,.bin .lss (.t 8) (.t 7),none⟩])
 (.seq (.cond (.t 9)
 .skip
 (.exit 0))
 (.seq (.blk 1 (.seq (.reg [⟨some 10,.mv (.t 8),none⟩,
 ⟨some 5,.mv (.t 10),none⟩])
 (.seq (.reg [⟨some 11,.mv (.t 1),none⟩,
 ⟨some 12,.mv (.t 0),none⟩,
 ⟨some 13,.mv (.t 5),none⟩,
 ⟨some 14,.ia 1 (.t 12) (.t 13),none⟩,
 ⟨some 15,.ld false 1 (.t 14),none⟩,
 ⟨some 16,.bin .eql (.t 11) (.t 15),none⟩])
 (.cond (.t 16)
 (.seq (.reg [⟨some 17,.mv (.t 5),none⟩,
 ⟨some 4,.mv (.t 17),none⟩])
 .ret)
 .skip))))
 (.reg [⟨some 18,.bin .add (.t 8) (.c (.i .i64 1)),none⟩,
 ⟨some 8,.mv (.t 18),none⟩])))))))
 (.seq (.reg [⟨some 4,.mv (.c (.i .i64 (-1))),none⟩])
 .ret))) }
def Bo : Fun := { cin := [.id],cout := [.id],ntmps := 17,keep := false,res := [(2,none)],body :=
 (.seq (.reg [⟨some 2,.mv (.c (.b false)),none⟩])
 (.seq (.blk 0 (.seq (.reg [⟨some 4,.mv (.t 0),none⟩,
 ⟨some 5,.bin .leq (.c (.i .i32 0)) (.t 4),none⟩,
 ⟨some 6,.mv (.t 5),none⟩,
 ⟨some 7,.mv (.t 0),some (6,true)⟩,
 ⟨some 8,.bin .lss (.t 7) (.c (.i .i32 55296)),some (6,true)⟩,
 ⟨some 9,.pick (.t 6) (.t 8) (.c (.b false)),none⟩,
 ⟨some 3,.mv (.t 9),none⟩])
 (.cond (.t 3)
 (.seq (.reg [⟨some 2,.mv (.c (.b true)),none⟩])
 .ret)
 (.seq (.reg [⟨some 11,.mv (.t 0),none⟩,
 ⟨some 12,.bin .lss (.c (.i .i32 57343)) (.t 11),none⟩,
 ⟨some 13,.mv (.t 12),none⟩,
 ⟨some 14,.mv (.t 0),some (13,true)⟩,
 ⟨some 15,.bin .leq (.t 14) (.c (.i .i32 1114111)),some (13,true)⟩,
 ⟨some 16,.pick (.t 13) (.t 15) (.c (.b false)),none⟩,
 ⟨some 10,.mv (.t 16),none⟩])
 (.cond (.t 10)
 (.seq (.reg [⟨some 2,.mv (.c (.b true)),none⟩])
 .ret)
 .skip)))))
 (.seq (.reg [⟨some 2,.mv (.c (.b false)),none⟩])
 .ret))) }
def B2 : Fun := { cin := [.id],cout := [.id],ntmps := 6,keep := false,res := [(2,none)],body :=
 (.seq (.reg [⟨some 2,.mv (.c (.i .i64 0)),none⟩])
 (.seq (.reg [⟨some 3,.mv (.t 0),none⟩,
 ⟨some 4,.bin .add (.t 3) (.c (.i .i64 16)),none⟩,
 ⟨some 5,.bin .quo (.t 4) (.c (.i .i64 8)),none⟩,
 ⟨some 2,.mv (.t 5),none⟩])
 .ret)) }
def Ai : Fun := { cin := [],cout := [],ntmps := 13,keep := true,res := [(4,none)],body :=
 (.seq (.reg [⟨some 2,.box 24 1 (.t 0),none⟩,
 ⟨some 4,.mv (.c .nsl),none⟩])
 (.seq (.seq (.reg [⟨some 6,.mv (.t 1),none⟩])
 (.blk 0 (.rf (.t 6) [7] (.reg [⟨some 5,.mv (.t 7),none⟩])
 (.blk 1 (.reg [⟨some 8,.ld false 1 (.t 2),none⟩,
 ⟨some 9,.mv (.t 5),none⟩,
 ⟨some 10,.bsl 1 [.t 9],none⟩,
 ⟨some 11,.app 1 3 (.t 8) (.t 10),none⟩,
 ⟨none,.st 1 (.t 2) (.t 11),none⟩])))))
 (.seq (.reg [⟨some 12,.ld false 1 (.t 2),none⟩,
 ⟨some 4,.mv (.t 12),none⟩])
 .ret))) }
def tab : PT := (.n 63 AW (.n 37 Fz (.n 21 Gm (.n 12 Cw (.n 9 BX (.n 6 Ee (.n 5 AO .e .e) .e) (.n 11 Cd (.n 10 Dp .e .e) .e)) (.n 19 Bb (.n 15 Ab (.n 14 BK .e .e) .e) (.n 20 DK .e .e))) (.n 26 A1 (.n 24 AZ (.n 23 Cj (.n 22 Ci .e .e) .e) (.n 25 Ce .e .e)) (.n 35 Ef (.n 34 Cc (.n 27 D2 .e .e) .e) (.n 36 Bn .e .e)))) (.n 53 DI (.n 43 Ac (.n 40 Bt (.n 39 DM (.n 38 DL .e .e) .e) (.n 42 Aw (.n 41 Cf .e .e) .e)) (.n 46 DN (.n 45 Ck (.n 44 Cs .e .e) .e) (.n 47 AP .e .e))) (.n 58 F0 (.n 56 Cx (.n 55 FG (.n 54 Bu .e .e) .e) (.n 57 Al .e .e)) (.n 61 GJ (.n 60 F1 (.n 59 E5 .e .e) .e) (.n 62 Ct .e .e))))) (.n 91 EN (.n 78 AY (.n 69 BA (.n 66 DE (.n 65 Aq (.n 64 Dc .e .e) .e) (.n 68 Ah (.n 67 CJ .e .e) .e)) (.n 76 E6 (.n 75 Bh (.n 70 CK .e .e) .e) (.n 77 DP .e .e))) (.n 83 AJ (.n 81 A4 (.n 80 CH (.n 79 CD .e .e) .e) (.n 82 BN .e .e)) (.n 88 Cy (.n 87 A6 (.n 84 Aj .e .e) .e) (.n 90 BZ .e .e)))) (.n 104 BL (.n 96 CL (.n 94 BQ (.n 93 EO (.n 92 Dq .e .e) .e) (.n 95 BG .e .e)) (.n 102 A8 (.n 98 Ag (.n 97 A7 .e .e) .e) (.n 103 BR .e .e))) (.n 109 A9 (.n 107 CU (.n 106 BV (.n 105 BS .e .e) .e) (.n 108 Dr .e .e)) (.n 122 B2 (.n 121 Bo (.n 110 BM .e .e) .e) (.n 124 Ai .e .e))))))
def prog (n : Nat) : Option Fun := tab.get n
def tabC : PT := (.n 66 DE (.n 40 Bt (.n 23 Cj (.n 10 Dp (.n 8 Eo (.n 7 FF (.n 6 EU .e .e) .e) (.n 9 BX .e .e)) (.n 21 Gm (.n 20 DK (.n 14 BK .e .e) .e) (.n 22 Ci .e .e))) (.n 36 Bn (.n 34 Cc (.n 26 A1 (.n 24 AZ .e .e) .e) (.n 35 Ef .e .e)) (.n 38 DL (.n 37 Fz .e .e) (.n 39 DM .e .e)))) (.n 57 Al (.n 47 AP (.n 45 Ck (.n 42 Aw (.n 41 Cf .e .e) .e) (.n 46 DN .e .e)) (.n 55 FG (.n 54 Bu (.n 53 DI .e .e) .e) (.n 56 Cx .e .e))) (.n 62 Ct (.n 60 F1 (.n 59 E5 (.n 58 F0 .e .e) .e) (.n 61 GJ .e .e)) (.n 64 Dc (.n 63 AW .e .e) (.n 65 Aq .e .e))))) (.n 93 EO (.n 81 A4 (.n 76 E6 (.n 70 CK (.n 69 BA (.n 67 CJ .e .e) .e) (.n 75 Bh .e .e)) (.n 79 CD (.n 78 AY (.n 77 DP .e .e) .e) (.n 80 CH .e .e))) (.n 88 Cy (.n 84 Aj (.n 83 AJ (.n 82 BN .e .e) .e) (.n 87 A6 .e .e)) (.n 91 EN (.n 90 BZ .e .e) (.n 92 Dq .e .e)))) (.n 105 BS (.n 98 Ag (.n 96 CL (.n 95 BG (.n 94 BQ .e .e) .e) (.n 97 A7 .e .e)) (.n 103 BR (.n 102 A8 .e .e) (.n 104 BL .e .e))) (.n 110 BM (.n 108 Dr (.n 107 CU (.n 106 BV .e .e) .e) (.n 109 A9 .e .e)) (.n 122 B2 (.n 121 Bo .e .e) (.n 124 Ai .e .e))))))
def progC (n : Nat) : Option Fun := tabC.get n
theorem FM : prog DT = some AO := rfl
theorem HM : prog CZ = some Ee := rfl
theorem FP : prog A3 = some BX := rfl
theorem Pc : prog Hq = some Dp := rfl
theorem Mk : prog GQ = some Cd := rfl
theorem N8 : prog HI = some Cw := rfl
theorem HY : prog B5 = some BK := rfl
theorem Gn : prog Bl = some Ab := rfl
theorem HZ : prog Cn = some Bb := rfl
theorem N9 : prog FZ = some DK := rfl
theorem SS : prog IP = some Gm := rfl
theorem MF : prog Fv = some Ci := rfl
theorem Qg : prog Fw = some Cj := rfl
theorem FQ : prog BI = some AZ := rfl
theorem Ml : prog FA = some Ce := rfl
theorem Ki : prog DH = some A1 := rfl
theorem OA : prog Fa = some D2 := rfl
theorem OB : prog HJ = some Cc := rfl
theorem Ui : prog Gk = some Ef := rfl
theorem NB : prog Gl = some Bn := rfl
theorem Uj : prog JU = some Fz := rfl
theorem OC : prog Fb = some DL := rfl
theorem OD : prog Fc = some DM := rfl
theorem JW : prog Dd = some Bt := rfl
theorem Mm : prog FB = some Cf := rfl
theorem EP : prog AX = some Aw := rfl
theorem Ds : prog BP = some Ac := rfl
theorem K0 : prog DU = some Cs := rfl
theorem Ir : prog CA = some Ck := rfl
theorem Qh : prog Fx = some DN := rfl
theorem Df : prog Ad = some AP := rfl
theorem Pd : prog GI = some DI := rfl
theorem MG : prog Fy = some Bu := rfl
theorem Uk : prog JV = some FG := rfl
theorem Ul : prog MD = some Cx := rfl
theorem FN : prog CS = some Al := rfl
theorem Qi : prog HK = some F0 := rfl
theorem ST : prog ET = some E5 := rfl
theorem Um : prog ME = some F1 := rfl
theorem Xa : prog Kg = some GJ := rfl
theorem SU : prog J7 = some Ct := rfl
theorem DV : prog A5 = some AW := rfl
theorem Ha : prog B7 = some Dc := rfl
theorem EB : prog Ao = some Aq := rfl
theorem J9 : prog E3 = some DE := rfl
theorem Hs : prog Cu = some CJ := rfl
theorem ED : prog Be = some Ah := rfl
theorem Ek : prog Bx = some BA := rfl
theorem Ht : prog Dn = some CK := rfl
theorem Qj : prog Iq = some Bh := rfl
theorem SV : prog J8 = some E6 := rfl
theorem OE : prog D1 = some DP := rfl
theorem EQ : prog BF = some AY := rfl
theorem KA : prog DB = some CD := rfl
theorem KI : prog DC = some CH := rfl
theorem GC : prog Cq = some A4 := rfl
theorem Fd : prog Ca = some BN := rfl
theorem CV : prog Ap = some AJ := rfl
theorem E7 : prog AH = some Aj := rfl
theorem Hu : prog AQ = some A6 := rfl
theorem JX : prog De = some Cy := rfl
theorem JY : prog Ed = some BZ := rfl
theorem Qk : prog E4 = some EN := rfl
theorem Pe : prog Hr = some Dq := rfl
theorem Ql : prog HL = some EO := rfl
theorem Is : prog EM = some BQ := rfl
theorem HN : prog Cb = some BG := rfl
theorem MH : prog Av = some CL := rfl
theorem GR : prog C5 = some A7 := rfl
theorem El : prog Bz = some Ag := rfl
theorem It : prog CB = some A8 := rfl
theorem F2 : prog Bq = some BR := rfl
theorem Hb : prog Co = some BL := rfl
theorem F3 : prog Br = some BS := rfl
theorem OF : prog Bs = some BV := rfl
theorem IW : prog EA = some CU := rfl
theorem FH : prog Cv = some Dr := rfl
theorem GS : prog Ae = some A9 := rfl
theorem Hc : prog Db = some BM := rfl
theorem Gp : prog DD = some Bo := rfl
theorem Mb : prog D5 = some B2 := rfl
theorem GD : prog Cr = some Ai := rfl
end Go.Proofs.YtbfgoopcnkeblaaGreat
