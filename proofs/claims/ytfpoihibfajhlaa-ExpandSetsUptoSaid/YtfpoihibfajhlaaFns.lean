/-
  The functions, as the abstract machine's: numbers and texts. By program.
-/
import Derived.Test.YtfpoihibfajhlaaAmKeep
import Derived.Test.YtfpoihibfajhlaaAmRg
set_option linter.all false
set_option linter.unusedVariables false
set_option linter.unusedSimpArgs false
set_option linter.unusedSectionVars false
set_option maxRecDepth 100000
namespace Go.Proofs.Ytfpoihibfajhlaa
open Go.Proofs.Ytfpoihibfajhlaa.Am
def CN:Nat:=3
def BV:Nat:=4
def Bv:Nat:=5
def EM:Nat:=6
def CZ:Nat:=7
def CJ:Nat:=8
def CK:Nat:=9
def A7:Nat:=10
def EE:Nat:=11
def AN:Nat:=12
def Bg:Nat:=13
def BK:Nat:=14
def Az:Nat:=15
def CL:Nat:=16
def Ay:Nat:=17
def A8:Nat:=18
def Fw:Nat:=19
def Bw:Nat:=22
def CO:Nat:=23
def GO:Nat:=24
def CM:Nat:=36
def EF:Nat:=37
def Dr:Nat:=38
def Fx:Nat:=39
def BN:Nat:=46
def Bx:Nat:=47
def BW:Nat:=48
def Al:Nat:=50
def HX:Nat:=51
def Ci:Nat:=52
def BJ:Nat:=53
def GP:Nat:=54
def Bp:Nat:=55
abbrev zo(d:Nat)(p:AOp):Am.Op:=⟨some d,p,none⟩
def AE:Fun:={ cin:=[(.agg [.sl 1 .id,.sl 1 .id,.sl 1 .id,.id]),.id,.id],cout:=[.id],ntmps:=73,keep:=false,res:=[(6,none)],body :=
 (.seq (.reg [zo 3 (.box 24 4 (.t 0)),
 zo 6 (.mv (.c (.b false)))])
 (.seq (.seq (.reg [zo 14 (.ld true 4 (.t 3)),
 zo 15 (.call BV [.t 14,.c .nsl]),
 zo 16 (.mv (.t 15)),
 ⟨some 17,.mv (.t 1),some (16,false)⟩,
 ⟨some 18,.len 0 (.t 17),some (16,false)⟩,
 ⟨some 19,.bin .gtr (.t 18) (.c (.i .i64 1000)),some (16,false)⟩,
 zo 20 (.pick (.t 16) (.c (.b true)) (.t 19)),
 zo 21 (.mv (.t 20)),
 ⟨some 22,.mv (.t 2),some (21,false)⟩,
 ⟨some 23,.len 0 (.t 22),some (21,false)⟩,
 ⟨some 24,.bin .gtr (.t 23) (.c (.i .i64 5000)),some (21,false)⟩,
 zo 25 (.pick (.t 21) (.c (.b true)) (.t 24))])
 (.cond (.t 25)
 (.seq (.reg [zo 6 (.mv (.c (.b true)))])
 .ret)
 .skip))
 (.seq (.reg [zo 26 (.ld true 4 (.t 3)),
 zo 27 (.call Bv [.t 26]),
 zo 7 (.alloc 26 [.nsl,.nsl,.nsl,.i .i64 0]),
 ⟨none,.st 4 (.t 7) (.t 27),none⟩])
 (.seq (.reg [zo 29 (.ld true 4 (.t 7)),
 zo 30 (.mv (.t 1)),
 zo 31 (.mv (.t 2)),
 zo 32 (.call EM [.t 29,.t 30,.t 31]),
 zo 28 (.mv (.t 32)),
 zo 33 (.ext (.t 28) 0),
 zo 34 (.ext (.t 28) 1),
 zo 8 (.alloc 26 [.nsl,.nsl,.nsl,.i .i64 0]),
 ⟨none,.st 4 (.t 8) (.t 33),none⟩,
 zo 9 (.mv (.t 34))])
 (.seq (.reg [zo 36 (.ld true 4 (.t 3)),
 zo 37 (.mv (.t 1)),
 zo 38 (.mv (.t 2)),
 zo 39 (.call CZ [.t 36,.t 37,.t 38]),
 zo 35 (.mv (.t 39)),
 zo 40 (.ext (.t 35) 0),
 zo 41 (.ext (.t 35) 1),
 zo 10 (.alloc 24 [.nsl,.nsl,.nsl,.i .i64 0]),
 ⟨none,.st 4 (.t 10) (.t 40),none⟩,
 zo 11 (.mv (.t 41))])
 (.seq (.seq (.reg [zo 12 (.mv (.c (.i .i64 0)))])
 (.blk 0 (.loop (.seq (.seq (.reg [zo 42 (.mv (.t 12)),
 zo 43 (.fa 2 (.t 7)),
 zo 44 (.ld false 1 (.t 43)),
 zo 45 (.len 1 (.t 44)),
 zo 46 (.bin .lss (.t 42) (.t 45))])
 (.cond (.t 46)
 .skip
 (.exit 0)))
 (.seq (.blk 1 (.reg [zo 49 (.fa 2 (.t 7)),
 zo 50 (.ld false 1 (.t 49)),
 zo 51 (.mv (.t 12)),
 zo 52 (.ia 1 (.t 50) (.t 51)),
 ⟨none,.st 1 (.t 52) (.c (.s [63])),none⟩]))
 (.reg [zo 47 (.mv (.t 12)),
 zo 48 (.bin .add (.t 47) (.c (.i .i64 1))),
 zo 12 (.mv (.t 48))]))))))
 (.seq (.seq (.reg [zo 13 (.mv (.c (.i .i64 0)))])
 (.blk 2 (.loop (.seq (.seq (.reg [zo 53 (.mv (.t 13)),
 zo 54 (.fa 1 (.t 7)),
 zo 55 (.ld false 1 (.t 54)),
 zo 56 (.len 1 (.t 55)),
 zo 57 (.bin .lss (.t 53) (.t 56))])
 (.cond (.t 57)
 .skip
 (.exit 2)))
 (.seq (.blk 3 (.reg [zo 60 (.fa 1 (.t 7)),
 zo 61 (.ld false 1 (.t 60)),
 zo 62 (.mv (.t 13)),
 zo 63 (.ia 1 (.t 61) (.t 62)),
 ⟨none,.st 1 (.t 63) (.c (.s [63])),none⟩]))
 (.reg [zo 58 (.mv (.t 13)),
 zo 59 (.bin .add (.t 58) (.c (.i .i64 1))),
 zo 13 (.mv (.t 59))]))))))
 (.seq (.regD [zo 64 (.mv (.t 9)),
 zo 65 (.mv (.t 11)),
 zo 66 (.bin .eql (.t 64) (.t 65)),
 zo 67 (.mv (.t 66)),
 ⟨some 68,.ld true 4 (.t 8),some (67,true)⟩,
 ⟨some 69,.call CK [.t 68],some (67,true)⟩,
 ⟨some 70,.ld true 4 (.t 10),some (67,true)⟩,
 ⟨some 71,.call CJ [.t 69,.t 70],some (67,true)⟩,
 zo 72 (.pick (.t 67) (.t 71) (.c (.b false))),
 zo 6 (.mv (.t 72))] [(6,(5,6))])
 .ret)))))))) }
def A9:Fun:={ cin:=[(.agg [.sl 1 .id,.sl 1 .id,.sl 1 .id,.id]),(.sl 3 (.agg [.id,.id,.id]))],cout:=[.id],ntmps:=47,keep:=false,res:=[(4,none)],body :=
 (.seq (.reg [zo 2 (.box 24 4 (.t 0)),
 zo 4 (.mv (.c (.b false)))])
 (.seq (.reg [zo 7 (.fa 0 (.t 2)),
 zo 8 (.ld false 1 (.t 7)),
 zo 9 (.call A7 [.t 8]),
 zo 5 (.mv (.t 9))])
 (.seq (.reg [zo 10 (.mv (.t 5)),
 zo 11 (.fa 1 (.t 2)),
 zo 12 (.ld false 1 (.t 11)),
 zo 13 (.call A7 [.t 12]),
 zo 14 (.bin .add (.t 10) (.t 13)),
 zo 5 (.mv (.t 14))])
 (.seq (.reg [zo 15 (.mv (.t 5)),
 zo 16 (.fa 2 (.t 2)),
 zo 17 (.ld false 1 (.t 16)),
 zo 18 (.call A7 [.t 17]),
 zo 19 (.bin .add (.t 15) (.t 18)),
 zo 5 (.mv (.t 19))])
 (.seq (.seq (.reg [zo 6 (.mv (.c (.i .i64 0)))])
 (.blk 0 (.loop (.seq (.seq (.reg [zo 20 (.mv (.t 6)),
 zo 21 (.mv (.t 1)),
 zo 22 (.len 1 (.t 21)),
 zo 23 (.bin .lss (.t 20) (.t 22)),
 zo 24 (.mv (.t 23)),
 ⟨some 25,.mv (.t 5),some (24,true)⟩,
 ⟨some 26,.bin .lss (.t 25) (.c (.i .i64 20000)),some (24,true)⟩,
 zo 27 (.pick (.t 24) (.t 26) (.c (.b false)))])
 (.cond (.t 27)
 .skip
 (.exit 0)))
 (.seq (.blk 1 (.seq (.thw 1)
 (.reg [zo 30 (.mv (.t 5)),
 zo 31 (.bin .add (.t 30) (.c (.i .i64 1))),
 zo 32 (.mv (.t 1)),
 zo 33 (.mv (.t 6)),
 zo 34 (.ia 3 (.t 32) (.t 33)),
 zo 35 (.fa 1 (.t 34)),
 zo 36 (.ld false 1 (.t 35)),
 zo 37 (.len 0 (.t 36)),
 zo 38 (.mm false (.t 37) (.c (.i .i64 20000))),
 zo 39 (.bin .add (.t 31) (.t 38)),
 zo 5 (.mv (.t 39))])))
 (.reg [zo 28 (.mv (.t 6)),
 zo 29 (.bin .add (.t 28) (.c (.i .i64 1))),
 zo 6 (.mv (.t 29))]))))))
 (.seq (.reg [zo 40 (.mv (.t 5)),
 zo 41 (.bin .geq (.t 40) (.c (.i .i64 20000))),
 zo 42 (.mv (.t 41)),
 ⟨some 43,.mv (.t 1),some (42,false)⟩,
 ⟨some 44,.len 1 (.t 43),some (42,false)⟩,
 ⟨some 45,.bin .gtr (.t 44) (.c (.i .i64 200)),some (42,false)⟩,
 zo 46 (.pick (.t 42) (.c (.b true)) (.t 45)),
 zo 4 (.mv (.t 46))])
 .ret)))))) }
def Au:Fun:={ cin:=[(.agg [.sl 1 .id,.sl 1 .id,.sl 1 .id,.id])],cout:=[],ntmps:=18,keep:=true,res:=[(2,some (true,4))],body :=
 (.seq (.reg [zo 1 (.box 24 4 (.t 0)),
 zo 2 (.alloc 26 [.nsl,.nsl,.nsl,.i .i64 0])])
 (.seq (.regD [zo 3 (.bsl 1 []),
 zo 4 (.fa 0 (.t 1)),
 zo 5 (.ld false 1 (.t 4)),
 zo 6 (.appB 1 9 (.t 3) (.t 5)),
 zo 7 (.bsl 1 []),
 zo 8 (.fa 1 (.t 1)),
 zo 9 (.ld false 1 (.t 8)),
 zo 10 (.appB 1 9 (.t 7) (.t 9)),
 zo 11 (.bsl 1 []),
 zo 12 (.fa 2 (.t 1)),
 zo 13 (.ld false 1 (.t 12)),
 zo 14 (.appB 1 9 (.t 11) (.t 13)),
 zo 15 (.fa 3 (.t 1)),
 zo 16 (.ld false 1 (.t 15)),
 zo 17 (.build [.nsl,.nsl,.nsl,.i .i64 0] [(0,1,(.t 6)),(1,1,(.t 10)),(2,1,(.t 14)),(3,1,(.t 16))]),
 ⟨none,.st 4 (.t 2) (.t 17),none⟩] [(6,(3,6)),(10,(3,10)),(13,(3,13))])
 .ret)) }
def BL:Fun:={ cin:=[(.agg [.sl 1 .id,.sl 1 .id,.sl 1 .id,.id]),.id,.id],cout:=[(.agg [.sl 1 .id,.sl 1 .id,.sl 1 .id,.id]),.id],ntmps:=77,keep:=false,res:=[(6,some (true,4)),(7,none)],body :=
 (.seq (.reg [zo 3 (.box 26 4 (.t 0)),
 zo 6 (.alloc 26 [.nsl,.nsl,.nsl,.i .i64 0]),
 zo 7 (.mv (.c (.i .i64 0)))])
 (.seq (.blk 0 (.seq (.reg [zo 15 (.mv (.t 1)),
 zo 16 (.call EE [.t 15]),
 zo 17 (.un .not (.t 16)),
 zo 14 (.mv (.t 17))])
 (.cond (.t 14)
 (.seq (.reg [zo 18 (.build [.nsl,.nsl,.nsl,.i .i64 0] []),
 ⟨none,.st 4 (.t 6) (.t 18),none⟩,
 zo 7 (.mv (.c (.i .i64 1)))])
 .ret)
 (.seq (.reg [zo 20 (.mv (.t 2)),
 zo 21 (.len 0 (.t 20)),
 zo 22 (.bin .gtr (.t 21) (.c (.i .i64 1024))),
 zo 19 (.mv (.t 22))])
 (.cond (.t 19)
 (.seq (.reg [zo 23 (.build [.nsl,.nsl,.nsl,.i .i64 0] []),
 ⟨none,.st 4 (.t 6) (.t 23),none⟩,
 zo 7 (.mv (.c (.i .i64 40)))])
 .ret)
 .skip)))))
 (.seq (.regD [zo 24 (.fa 2 (.t 3)),
 zo 25 (.ld false 1 (.t 24)),
 zo 26 (.callQ false AN [.t 25]),
 zo 27 (.fa 3 (.t 3)),
 zo 28 (.ld false 1 (.t 27)),
 zo 29 (.build [.nsl,.nsl,.nsl,.i .i64 0] [(2,1,(.t 26)),(3,1,(.t 28))]),
 ⟨none,.mv (.c (.tup [])),none⟩,
 zo 8 (.adp 26 [.nsl,.nsl,.nsl,.i .i64 0] 4 (.t 29))] [(4,(2,4))])
 (.seq (.reg [zo 30 (.fa 0 (.t 3)),
 zo 31 (.ld false 1 (.t 30)),
 zo 32 (.call AN [.t 31]),
 zo 33 (.mv (.t 1)),
 zo 34 (.bsl 1 [.t 33]),
 zo 35 (.app 1 9 (.t 32) (.t 34)),
 zo 9 (.mv (.t 35))])
 (.seq (.seq (.thw 9)
 (.reg [zo 36 (.mv (.t 9)),
 zo 37 (.call Bg [.t 36])]))
 (.seq (.seq (.seq (.thw 9)
 (.reg [zo 38 (.mv (.t 9)),
 zo 39 (.call BK [.t 38]),
 zo 40 (.len 1 (.t 39)),
 zo 41 (.mv (.c (.i .i64 0)))]))
 (.blk 1 (.loop (.seq (.reg [zo 42 (.bin .lss (.t 41) (.t 40))])
 (.seq (.cond (.t 42)
 .skip
 (.exit 1))
 (.seq (.blk 2 (.seq (.reg [zo 43 (.ia 1 (.t 39) (.t 41)),
 zo 44 (.ld false 1 (.t 43)),
 zo 11 (.mv (.t 44))])
 (.seq (.reg [zo 45 (.mv (.t 2)),
 zo 12 (.mv (.t 45))])
 (.seq (.seq (.reg [zo 46 (.mv (.t 11)),
 zo 47 (.mv (.t 1)),
 zo 48 (.bin .neq (.t 46) (.t 47))])
 (.cond (.t 48)
 (.seq (.reg [zo 12 (.mv (.c (.s [])))])
 (.seq (.reg [zo 49 (.fa 0 (.t 3)),
 zo 50 (.ld false 1 (.t 49)),
 zo 51 (.mv (.t 11)),
 zo 52 (.call Az [.t 50,.t 51]),
 zo 13 (.mv (.t 52))])
 (.seq (.reg [zo 53 (.mv (.t 13)),
 zo 54 (.fa 1 (.t 3)),
 zo 55 (.ld false 1 (.t 54)),
 zo 56 (.len 1 (.t 55)),
 zo 57 (.bin .lss (.t 53) (.t 56))])
 (.cond (.t 57)
 (.reg [zo 58 (.fa 1 (.t 3)),
 zo 59 (.ld false 1 (.t 58)),
 zo 60 (.mv (.t 13)),
 zo 61 (.ia 1 (.t 59) (.t 60)),
 zo 62 (.ld false 1 (.t 61)),
 zo 12 (.mv (.t 62))])
 .skip))))
 .skip))
 (.regD [zo 63 (.fa 0 (.t 8)),
 zo 64 (.ld false 1 (.t 63)),
 zo 65 (.mv (.t 11)),
 zo 66 (.bsl 1 [.t 65]),
 zo 67 (.app 1 9 (.t 64) (.t 66)),
 zo 68 (.fa 1 (.t 8)),
 zo 69 (.ld false 1 (.t 68)),
 zo 70 (.mv (.t 12)),
 zo 71 (.bsl 1 [.t 70]),
 zo 72 (.app 1 9 (.t 69) (.t 71)),
 zo 73 (.fa 0 (.t 8)),
 ⟨none,.st 1 (.t 73) (.t 67),none⟩,
 zo 74 (.fa 1 (.t 8)),
 ⟨none,.st 1 (.t 74) (.t 72),none⟩] [(6,(4,6))])))))
 (.reg [zo 75 (.bin .add (.t 41) (.c (.i .i64 1))),
 zo 41 (.mv (.t 75))])))))))
 (.seq (.reg [zo 76 (.ld true 4 (.t 8)),
 ⟨none,.st 4 (.t 6) (.t 76),none⟩,
 zo 7 (.mv (.c (.i .i64 0)))])
 .ret))))))) }
def AR:Fun:={ cin:=[(.agg [.sl 1 .id,.sl 1 .id,.sl 1 .id,.id]),.id,.id],cout:=[(.agg [.sl 1 .id,.sl 1 .id,.sl 1 .id,.id]),.id],ntmps:=55,keep:=false,res:=[(6,some (true,4)),(7,none)],body :=
 (.seq (.reg [zo 3 (.box 24 4 (.t 0)),
 zo 6 (.alloc 24 [.nsl,.nsl,.nsl,.i .i64 0]),
 zo 7 (.mv (.c (.i .i64 0)))])
 (.seq (.seq (.reg [zo 11 (.mv (.t 1)),
 zo 12 (.call CL [.t 11]),
 zo 13 (.un .not (.t 12))])
 (.cond (.t 13)
 (.seq (.reg [zo 14 (.build [.nsl,.nsl,.nsl,.i .i64 0] []),
 ⟨none,.st 4 (.t 6) (.t 14),none⟩,
 zo 7 (.mv (.c (.i .i64 1)))])
 .ret)
 .skip))
 (.seq (.seq (.reg [zo 15 (.mv (.t 2)),
 zo 16 (.len 0 (.t 15)),
 zo 17 (.bin .gtr (.t 16) (.c (.i .i64 1024)))])
 (.cond (.t 17)
 (.seq (.reg [zo 18 (.build [.nsl,.nsl,.nsl,.i .i64 0] []),
 ⟨none,.st 4 (.t 6) (.t 18),none⟩,
 zo 7 (.mv (.c (.i .i64 40)))])
 .ret)
 .skip))
 (.seq (.regD [zo 19 (.bsl 1 []),
 zo 20 (.fa 2 (.t 3)),
 zo 21 (.ld false 1 (.t 20)),
 zo 22 (.appQ 1 9 (.t 19) (.t 21)),
 zo 23 (.fa 3 (.t 3)),
 zo 24 (.ld false 1 (.t 23)),
 zo 25 (.build [.nsl,.nsl,.nsl,.i .i64 0] [(2,1,(.t 22)),(3,1,(.t 24))]),
 zo 26 (.mv (.t 1)),
 zo 27 (.mv (.t 2)),
 zo 28 (.callQ false Ay [.t 25,.t 26,.t 27]),
 ⟨none,.mv (.c (.tup [])),none⟩,
 zo 8 (.adp 24 [.nsl,.nsl,.nsl,.i .i64 0] 4 (.t 28))] [(5,(3,5))])
 (.seq (.seq (.reg [zo 9 (.mv (.c (.i .i64 0)))])
 (.blk 0 (.loop (.seq (.seq (.reg [zo 29 (.mv (.t 9)),
 zo 30 (.fa 0 (.t 3)),
 zo 31 (.ld false 1 (.t 30)),
 zo 32 (.len 1 (.t 31)),
 zo 33 (.bin .lss (.t 29) (.t 32))])
 (.cond (.t 33)
 .skip
 (.exit 0)))
 (.seq (.blk 1 (.seq (.reg [zo 10 (.mv (.c (.s [])))])
 (.seq (.seq (.reg [zo 36 (.mv (.t 9)),
 zo 37 (.fa 1 (.t 3)),
 zo 38 (.ld false 1 (.t 37)),
 zo 39 (.len 1 (.t 38)),
 zo 40 (.bin .lss (.t 36) (.t 39))])
 (.cond (.t 40)
 (.reg [zo 41 (.fa 1 (.t 3)),
 zo 42 (.ld false 1 (.t 41)),
 zo 43 (.mv (.t 9)),
 zo 44 (.ia 1 (.t 42) (.t 43)),
 zo 45 (.ld false 1 (.t 44)),
 zo 10 (.mv (.t 45))])
 .skip))
 (.regD [zo 46 (.ld true 4 (.t 8)),
 zo 47 (.fa 0 (.t 3)),
 zo 48 (.ld false 1 (.t 47)),
 zo 49 (.mv (.t 9)),
 zo 50 (.ia 1 (.t 48) (.t 49)),
 zo 51 (.ld false 1 (.t 50)),
 zo 52 (.mv (.t 10)),
 zo 53 (.call Ay [.t 46,.t 51,.t 52]),
 ⟨none,.st 4 (.t 8) (.t 53),none⟩] []))))
 (.reg [zo 34 (.mv (.t 9)),
 zo 35 (.bin .add (.t 34) (.c (.i .i64 1))),
 zo 9 (.mv (.t 35))]))))))
 (.seq (.reg [zo 54 (.ld true 4 (.t 8)),
 ⟨none,.st 4 (.t 6) (.t 54),none⟩,
 zo 7 (.mv (.c (.i .i64 0)))])
 .ret)))))) }
def Bl:Fun:={ cin:=[(.agg [.sl 1 .id,.sl 1 .id,.sl 1 .id,.id]),(.agg [.sl 1 .id,.sl 1 .id,.sl 1 .id,.id])],cout:=[.id],ntmps:=31,keep:=false,res:=[(4,none)],body :=
 (.seq (.reg [zo 2 (.box 24 4 (.t 0)),
 zo 3 (.box 24 4 (.t 1)),
 zo 4 (.mv (.c (.b false)))])
 (.seq (.reg [zo 5 (.fa 0 (.t 2)),
 zo 6 (.ld false 1 (.t 5)),
 zo 7 (.fa 0 (.t 3)),
 zo 8 (.ld false 1 (.t 7)),
 zo 9 (.call A8 [.t 6,.t 8]),
 zo 10 (.mv (.t 9)),
 ⟨some 11,.fa 1 (.t 2),some (10,true)⟩,
 ⟨some 12,.ld false 1 (.t 11),some (10,true)⟩,
 ⟨some 13,.fa 1 (.t 3),some (10,true)⟩,
 ⟨some 14,.ld false 1 (.t 13),some (10,true)⟩,
 ⟨some 15,.call A8 [.t 12,.t 14],some (10,true)⟩,
 zo 16 (.pick (.t 10) (.t 15) (.c (.b false))),
 zo 17 (.mv (.t 16)),
 ⟨some 18,.fa 2 (.t 2),some (17,true)⟩,
 ⟨some 19,.ld false 1 (.t 18),some (17,true)⟩,
 ⟨some 20,.fa 2 (.t 3),some (17,true)⟩,
 ⟨some 21,.ld false 1 (.t 20),some (17,true)⟩,
 ⟨some 22,.call A8 [.t 19,.t 21],some (17,true)⟩,
 zo 23 (.pick (.t 17) (.t 22) (.c (.b false))),
 zo 24 (.mv (.t 23)),
 ⟨some 25,.fa 3 (.t 2),some (24,true)⟩,
 ⟨some 26,.ld false 1 (.t 25),some (24,true)⟩,
 ⟨some 27,.fa 3 (.t 3),some (24,true)⟩,
 ⟨some 28,.ld false 1 (.t 27),some (24,true)⟩,
 ⟨some 29,.bin .eql (.t 26) (.t 28),some (24,true)⟩,
 zo 30 (.pick (.t 24) (.t 29) (.c (.b false))),
 zo 4 (.mv (.t 30))])
 .ret)) }
def Bm:Fun:={ cin:=[(.agg [.sl 1 .id,.sl 1 .id,.sl 1 .id,.id])],cout:=[(.agg [.sl 1 .id,.sl 1 .id,.sl 1 .id,.id])],ntmps:=12,keep:=false,res:=[(2,some (true,4))],body :=
 (.seq (.reg [zo 1 (.box 26 4 (.t 0)),
 zo 2 (.alloc 24 [.nsl,.nsl,.nsl,.i .i64 0])])
 (.seq (.reg [zo 3 (.fa 0 (.t 1)),
 zo 4 (.ld false 1 (.t 3)),
 zo 5 (.fa 1 (.t 1)),
 zo 6 (.ld false 1 (.t 5)),
 zo 7 (.fa 2 (.t 1)),
 zo 8 (.ld false 1 (.t 7)),
 zo 9 (.fa 3 (.t 1)),
 zo 10 (.ld false 1 (.t 9)),
 zo 11 (.build [.nsl,.nsl,.nsl,.i .i64 0] [(0,1,(.t 4)),(1,1,(.t 6)),(2,1,(.t 8)),(3,1,(.t 10))]),
 ⟨none,.st 4 (.t 2) (.t 11),none⟩])
 .ret)) }
def BX:Fun:={ cin:=[.sl 1 .id],cout:=[.id],ntmps:=25,keep:=false,res:=[(2,none)],body :=
 (.seq (.reg [zo 2 (.mv (.c (.i .i64 0)))])
 (.seq (.reg [zo 3 (.mv (.c (.i .i64 0)))])
 (.seq (.seq (.reg [zo 4 (.mv (.c (.i .i64 0)))])
 (.blk 0 (.loop (.seq (.seq (.reg [zo 5 (.mv (.t 4)),
 zo 6 (.mv (.t 0)),
 zo 7 (.len 1 (.t 6)),
 zo 8 (.bin .lss (.t 5) (.t 7)),
 zo 9 (.mv (.t 8)),
 ⟨some 10,.mv (.t 3),some (9,true)⟩,
 ⟨some 11,.bin .lss (.t 10) (.c (.i .i64 20000)),some (9,true)⟩,
 zo 12 (.pick (.t 9) (.t 11) (.c (.b false)))])
 (.cond (.t 12)
 .skip
 (.exit 0)))
 (.seq (.blk 1 (.reg [zo 15 (.mv (.t 3)),
 zo 16 (.bin .add (.t 15) (.c (.i .i64 1))),
 zo 17 (.mv (.t 0)),
 zo 18 (.mv (.t 4)),
 zo 19 (.ia 1 (.t 17) (.t 18)),
 zo 20 (.ld false 1 (.t 19)),
 zo 21 (.len 0 (.t 20)),
 zo 22 (.mm false (.t 21) (.c (.i .i64 20000))),
 zo 23 (.bin .add (.t 16) (.t 22)),
 zo 3 (.mv (.t 23))]))
 (.reg [zo 13 (.mv (.t 4)),
 zo 14 (.bin .add (.t 13) (.c (.i .i64 1))),
 zo 4 (.mv (.t 14))]))))))
 (.seq (.reg [zo 24 (.mv (.t 3)),
 zo 2 (.mv (.t 24))])
 .ret)))) }
def BM:Fun:={ cin:=[.id],cout:=[.id],ntmps:=23,keep:=false,res:=[(2,none)],body :=
 (.seq (.reg [zo 2 (.mv (.c (.b false)))])
 (.seq (.reg [zo 3 (.mv (.t 0)),
 zo 4 (.call Fw [.t 3]),
 zo 5 (.mv (.t 4)),
 ⟨some 6,.mv (.t 0),some (5,true)⟩,
 ⟨some 7,.bin .neq (.t 6) (.c (.s [35])),some (5,true)⟩,
 zo 8 (.pick (.t 5) (.t 7) (.c (.b false))),
 zo 9 (.mv (.t 8)),
 ⟨some 10,.mv (.t 0),some (9,true)⟩,
 ⟨some 11,.bin .neq (.t 10) (.c (.s [63])),some (9,true)⟩,
 zo 12 (.pick (.t 9) (.t 11) (.c (.b false))),
 zo 13 (.mv (.t 12)),
 ⟨some 14,.mv (.t 0),some (13,true)⟩,
 ⟨some 15,.ixS (.t 14) (.c (.i .i64 0)),some (13,true)⟩,
 ⟨some 16,.bin .lss (.t 15) (.c (.i .u8 48)),some (13,true)⟩,
 ⟨some 17,.mv (.t 16),some (13,true)⟩,
 ⟨some 18,.mv (.t 0),some (17,false)⟩,
 ⟨some 19,.ixS (.t 18) (.c (.i .i64 0)),some (17,false)⟩,
 ⟨some 20,.bin .gtr (.t 19) (.c (.i .u8 57)),some (17,false)⟩,
 ⟨some 21,.pick (.t 17) (.c (.b true)) (.t 20),some (13,true)⟩,
 zo 22 (.pick (.t 13) (.t 21) (.c (.b false))),
 zo 2 (.mv (.t 22))])
 .ret)) }
def AJ:Fun:={ cin:=[.sl 1 .id],cout:=[],ntmps:=8,keep:=true,res:=[(2,none)],body :=
 (.seq (.reg [zo 2 (.mv (.c .nsl))])
 (.seq (.seq (.reg [zo 3 (.mv (.t 0)),
 zo 4 (.eq .sl false (.t 3) (.c .nsl))])
 (.cond (.t 4)
 (.seq (.reg [zo 2 (.mv (.c .nsl))])
 .ret)
 .skip))
 (.seq (.reg [zo 5 (.bsl 1 []),
 zo 6 (.mv (.t 0)),
 zo 7 (.app 1 9 (.t 5) (.t 6)),
 zo 2 (.mv (.t 7))])
 .ret))) }
def Ca:Fun:={ cin:=[],cout:=[],ntmps:=0,keep:=false,res:=[],body:=.bad,prim:=some E6 }
def Bt:Fun:={ cin:=[],cout:=[],ntmps:=0,keep:=false,res:=[],body:=.bad,prim:=some Cn }
def AX:Fun:={ cin:=[.sl 1 .id,.id],cout:=[.id],ntmps:=19,keep:=false,res:=[(4,none)],body :=
 (.seq (.reg [zo 4 (.mv (.c (.i .i64 0)))])
 (.seq (.seq (.reg [zo 6 (.mv (.t 0)),
 zo 7 (.len 1 (.t 6)),
 zo 8 (.mv (.c (.i .i64 0)))])
 (.blk 0 (.loop (.seq (.reg [zo 9 (.bin .lss (.t 8) (.t 7))])
 (.seq (.cond (.t 9)
 .skip
 (.exit 0))
 (.seq (.blk 1 (.seq (.reg [zo 10 (.mv (.t 8)),
 zo 5 (.mv (.t 10))])
 (.seq (.reg [zo 11 (.mv (.t 1)),
 zo 12 (.mv (.t 0)),
 zo 13 (.mv (.t 5)),
 zo 14 (.ia 1 (.t 12) (.t 13)),
 zo 15 (.ld false 1 (.t 14)),
 zo 16 (.bin .eql (.t 11) (.t 15))])
 (.cond (.t 16)
 (.seq (.reg [zo 17 (.mv (.t 5)),
 zo 4 (.mv (.t 17))])
 .ret)
 .skip))))
 (.reg [zo 18 (.bin .add (.t 8) (.c (.i .i64 1))),
 zo 8 (.mv (.t 18))])))))))
 (.seq (.reg [zo 4 (.mv (.c (.i .i64 (-1))))])
 .ret))) }
def Ac:Fun:={ cin:=[.id],cout:=[.id],ntmps:=30,keep:=false,res:=[(2,none)],body :=
 (.seq (.reg [zo 2 (.mv (.c (.b false)))])
 (.seq (.reg [zo 3 (.mv (.t 0)),
 zo 4 (.call Bw [.t 3]),
 zo 5 (.mv (.t 4)),
 ⟨some 6,.mv (.t 0),some (5,true)⟩,
 ⟨some 7,.ixS (.t 6) (.c (.i .i64 0)),some (5,true)⟩,
 ⟨some 8,.bin .eql (.t 7) (.c (.i .u8 95)),some (5,true)⟩,
 ⟨some 9,.mv (.t 8),some (5,true)⟩,
 ⟨some 10,.mv (.t 0),some (9,false)⟩,
 ⟨some 11,.ixS (.t 10) (.c (.i .i64 0)),some (9,false)⟩,
 ⟨some 12,.bin .geq (.t 11) (.c (.i .u8 97)),some (9,false)⟩,
 ⟨some 13,.mv (.t 12),some (9,false)⟩,
 ⟨some 14,.mv (.t 0),some (13,true)⟩,
 ⟨some 15,.ixS (.t 14) (.c (.i .i64 0)),some (13,true)⟩,
 ⟨some 16,.bin .leq (.t 15) (.c (.i .u8 122)),some (13,true)⟩,
 ⟨some 17,.pick (.t 13) (.t 16) (.c (.b false)),some (9,false)⟩,
 ⟨some 18,.pick (.t 9) (.c (.b true)) (.t 17),some (5,true)⟩,
 ⟨some 19,.mv (.t 18),some (5,true)⟩,
 ⟨some 20,.mv (.t 0),some (19,false)⟩,
 ⟨some 21,.ixS (.t 20) (.c (.i .i64 0)),some (19,false)⟩,
 ⟨some 22,.bin .geq (.t 21) (.c (.i .u8 65)),some (19,false)⟩,
 ⟨some 23,.mv (.t 22),some (19,false)⟩,
 ⟨some 24,.mv (.t 0),some (23,true)⟩,
 ⟨some 25,.ixS (.t 24) (.c (.i .i64 0)),some (23,true)⟩,
 ⟨some 26,.bin .leq (.t 25) (.c (.i .u8 90)),some (23,true)⟩,
 ⟨some 27,.pick (.t 23) (.t 26) (.c (.b false)),some (19,false)⟩,
 ⟨some 28,.pick (.t 19) (.c (.b true)) (.t 27),some (5,true)⟩,
 zo 29 (.pick (.t 5) (.t 28) (.c (.b false))),
 zo 2 (.mv (.t 29))])
 .ret)) }
def AF:Fun:={ cin:=[(.agg [.sl 1 .id,.sl 1 .id,.sl 1 .id,.id]),.id,.id],cout:=[(.agg [.sl 1 .id,.sl 1 .id,.sl 1 .id,.id])],ntmps:=70,keep:=false,res:=[(6,some (true,4))],body :=
 (.seq (.reg [zo 3 (.box 24 4 (.t 0)),
 zo 6 (.alloc 24 [.nsl,.nsl,.nsl,.i .i64 0])])
 (.seq (.reg [zo 7 (.mv (.c (.i .i64 0)))])
 (.seq (.blk 0 (.loop (.seq (.seq (.reg [zo 8 (.mv (.t 7)),
 zo 9 (.fa 0 (.t 3)),
 zo 10 (.ld false 1 (.t 9)),
 zo 11 (.len 1 (.t 10)),
 zo 12 (.bin .lss (.t 8) (.t 11)),
 zo 13 (.mv (.t 12)),
 ⟨some 14,.fa 0 (.t 3),some (13,true)⟩,
 ⟨some 15,.ld false 1 (.t 14),some (13,true)⟩,
 ⟨some 16,.mv (.t 7),some (13,true)⟩,
 ⟨some 17,.ia 1 (.t 15) (.t 16),some (13,true)⟩,
 ⟨some 18,.ld false 1 (.t 17),some (13,true)⟩,
 ⟨some 19,.mv (.t 1),some (13,true)⟩,
 ⟨some 20,.bin .lss (.t 18) (.t 19),some (13,true)⟩,
 zo 21 (.pick (.t 13) (.t 20) (.c (.b false)))])
 (.cond (.t 21)
 .skip
 (.exit 0)))
 (.blk 1 (.reg [zo 22 (.mv (.t 7)),
 zo 23 (.bin .add (.t 22) (.c (.i .i64 1))),
 zo 7 (.mv (.t 23))])))))
 (.seq (.seq (.reg [zo 24 (.mv (.t 7)),
 zo 25 (.fa 0 (.t 3)),
 zo 26 (.ld false 1 (.t 25)),
 zo 27 (.len 1 (.t 26)),
 zo 28 (.bin .lss (.t 24) (.t 27)),
 zo 29 (.mv (.t 28)),
 ⟨some 30,.fa 0 (.t 3),some (29,true)⟩,
 ⟨some 31,.ld false 1 (.t 30),some (29,true)⟩,
 ⟨some 32,.mv (.t 7),some (29,true)⟩,
 ⟨some 33,.ia 1 (.t 31) (.t 32),some (29,true)⟩,
 ⟨some 34,.ld false 1 (.t 33),some (29,true)⟩,
 ⟨some 35,.mv (.t 1),some (29,true)⟩,
 ⟨some 36,.bin .eql (.t 34) (.t 35),some (29,true)⟩,
 zo 37 (.pick (.t 29) (.t 36) (.c (.b false)))])
 (.cond (.t 37)
 (.seq (.reg [zo 38 (.ld true 4 (.t 3)),
 ⟨none,.st 4 (.t 6) (.t 38),none⟩])
 .ret)
 .skip))
 (.seq (.regD [zo 39 (.bsl 1 []),
 zo 40 (.fa 0 (.t 3)),
 zo 41 (.ld false 1 (.t 40)),
 zo 42 (.mv (.t 7)),
 zo 43 (.slc false 1 (.t 41) none (some (.t 42)) none),
 zo 44 (.app 1 9 (.t 39) (.t 43)),
 zo 45 (.mv (.t 1)),
 zo 46 (.bsl 1 [.t 45]),
 zo 47 (.app 1 9 (.t 44) (.t 46)),
 zo 48 (.fa 0 (.t 3)),
 zo 49 (.ld false 1 (.t 48)),
 zo 50 (.mv (.t 7)),
 zo 51 (.slc false 1 (.t 49) (some (.t 50)) none none),
 zo 52 (.app 1 9 (.t 47) (.t 51)),
 zo 53 (.fa 0 (.t 3)),
 ⟨none,.st 1 (.t 53) (.t 52),none⟩] [(10,(5,10))])
 (.seq (.regD [zo 54 (.bsl 1 []),
 zo 55 (.fa 1 (.t 3)),
 zo 56 (.ld false 1 (.t 55)),
 zo 57 (.mv (.t 7)),
 zo 58 (.slc false 1 (.t 56) none (some (.t 57)) none),
 zo 59 (.app 1 9 (.t 54) (.t 58)),
 zo 60 (.mv (.t 2)),
 zo 61 (.bsl 1 [.t 60]),
 zo 62 (.app 1 9 (.t 59) (.t 61)),
 zo 63 (.fa 1 (.t 3)),
 zo 64 (.ld false 1 (.t 63)),
 zo 65 (.mv (.t 7)),
 zo 66 (.slc false 1 (.t 64) (some (.t 65)) none none),
 zo 67 (.app 1 9 (.t 62) (.t 66)),
 zo 68 (.fa 1 (.t 3)),
 ⟨none,.st 1 (.t 68) (.t 67),none⟩] [(10,(5,10))])
 (.seq (.reg [zo 69 (.ld true 4 (.t 3)),
 ⟨none,.st 4 (.t 6) (.t 69),none⟩])
 .ret))))))) }
def BZ:Fun:={ cin:=[.sl 1 .id,.sl 1 .id],cout:=[.id],ntmps:=26,keep:=false,res:=[(4,none)],body :=
 (.seq (.reg [zo 4 (.mv (.c (.b false)))])
 (.seq (.seq (.reg [zo 6 (.mv (.t 0)),
 zo 7 (.len 1 (.t 6)),
 zo 8 (.mv (.t 1)),
 zo 9 (.len 1 (.t 8)),
 zo 10 (.bin .neq (.t 7) (.t 9))])
 (.cond (.t 10)
 (.seq (.reg [zo 4 (.mv (.c (.b false)))])
 .ret)
 .skip))
 (.seq (.seq (.reg [zo 5 (.mv (.c (.i .i64 0)))])
 (.blk 0 (.loop (.seq (.seq (.reg [zo 11 (.mv (.t 5)),
 zo 12 (.mv (.t 0)),
 zo 13 (.len 1 (.t 12)),
 zo 14 (.bin .lss (.t 11) (.t 13))])
 (.cond (.t 14)
 .skip
 (.exit 0)))
 (.seq (.blk 1 (.seq (.regD [zo 17 (.mv (.t 0)),
 zo 18 (.mv (.t 5)),
 zo 19 (.ia 1 (.t 17) (.t 18)),
 zo 20 (.ld false 1 (.t 19)),
 zo 21 (.mv (.t 1)),
 zo 22 (.mv (.t 5)),
 zo 23 (.ia 1 (.t 21) (.t 22)),
 zo 24 (.ld false 1 (.t 23)),
 zo 25 (.bin .neq (.t 20) (.t 24))] [])
 (.cond (.t 25)
 (.seq (.reg [zo 4 (.mv (.c (.b false)))])
 .ret)
 .skip)))
 (.reg [zo 15 (.mv (.t 5)),
 zo 16 (.bin .add (.t 15) (.c (.i .i64 1))),
 zo 5 (.mv (.t 16))]))))))
 (.seq (.reg [zo 4 (.mv (.c (.b true)))])
 .ret)))) }
def Cb:Fun:={ cin:=[.id],cout:=[.id],ntmps:=19,keep:=false,res:=[(2,none)],body :=
 (.seq (.reg [zo 2 (.mv (.c (.b false)))])
 (.seq (.seq (.reg [zo 3 (.mv (.t 0)),
 zo 4 (.len 0 (.t 3)),
 zo 5 (.bin .eql (.t 4) (.c (.i .i64 1))),
 zo 6 (.mv (.t 5)),
 ⟨some 7,.mv (.t 0),some (6,true)⟩,
 ⟨some 8,.call CO [(.c (.s [49,50,51,52,53,54,55,56,57,35,63])),(.t 7)],some (6,true)⟩,
 zo 9 (.pick (.t 6) (.t 8) (.c (.b false)))])
 (.cond (.t 9)
 (.seq (.reg [zo 2 (.mv (.c (.b true)))])
 .ret)
 .skip))
 (.seq (.reg [zo 10 (.mv (.t 0)),
 zo 11 (.bin .neq (.t 10) (.c (.s []))),
 zo 12 (.mv (.t 11)),
 ⟨some 13,.mv (.t 0),some (12,true)⟩,
 ⟨some 14,.call GO [.t 13],some (12,true)⟩,
 ⟨some 15,.mv (.t 0),some (12,true)⟩,
 ⟨some 16,.len 0 (.t 15),some (12,true)⟩,
 ⟨some 17,.bin .eql (.t 14) (.t 16),some (12,true)⟩,
 zo 18 (.pick (.t 12) (.t 17) (.c (.b false))),
 zo 2 (.mv (.t 18))])
 .ret))) }
def Ai:Fun:={ cin:=[.id],cout:=[.id],ntmps:=28,keep:=false,res:=[(2,none)],body :=
 (.seq (.reg [zo 2 (.mv (.c (.b false)))])
 (.seq (.seq (.reg [zo 3 (.mv (.t 0)),
 zo 4 (.len 0 (.t 3)),
 zo 5 (.bin .eql (.t 4) (.c (.i .i64 1))),
 zo 6 (.mv (.t 5)),
 ⟨some 7,.mv (.t 0),some (6,true)⟩,
 ⟨some 8,.ixS (.t 7) (.c (.i .i64 0)),some (6,true)⟩,
 ⟨some 9,.bin .geq (.t 8) (.c (.i .u8 49)),some (6,true)⟩,
 ⟨some 10,.mv (.t 9),some (6,true)⟩,
 ⟨some 11,.mv (.t 0),some (10,true)⟩,
 ⟨some 12,.ixS (.t 11) (.c (.i .i64 0)),some (10,true)⟩,
 ⟨some 13,.bin .leq (.t 12) (.c (.i .u8 57)),some (10,true)⟩,
 ⟨some 14,.pick (.t 10) (.t 13) (.c (.b false)),some (6,true)⟩,
 ⟨some 15,.mv (.t 14),some (6,true)⟩,
 ⟨some 16,.mv (.t 0),some (15,false)⟩,
 ⟨some 17,.ixS (.t 16) (.c (.i .i64 0)),some (15,false)⟩,
 ⟨some 18,.bin .eql (.t 17) (.c (.i .u8 35)),some (15,false)⟩,
 ⟨some 19,.pick (.t 15) (.c (.b true)) (.t 18),some (6,true)⟩,
 ⟨some 20,.mv (.t 19),some (6,true)⟩,
 ⟨some 21,.mv (.t 0),some (20,false)⟩,
 ⟨some 22,.ixS (.t 21) (.c (.i .i64 0)),some (20,false)⟩,
 ⟨some 23,.bin .eql (.t 22) (.c (.i .u8 63)),some (20,false)⟩,
 ⟨some 24,.pick (.t 20) (.c (.b true)) (.t 23),some (6,true)⟩,
 zo 25 (.pick (.t 6) (.t 24) (.c (.b false)))])
 (.cond (.t 25)
 (.seq (.reg [zo 2 (.mv (.c (.b true)))])
 .ret)
 .skip))
 (.seq (.reg [zo 26 (.mv (.t 0)),
 zo 27 (.call CM [.t 26]),
 zo 2 (.mv (.t 27))])
 .ret))) }
def CS:Fun:={ cin:=[.id,.id],cout:=[.id],ntmps:=9,keep:=false,res:=[(4,none)],body :=
 (.seq (.reg [zo 4 (.mv (.c (.b false)))])
 (.seq (.reg [zo 5 (.mv (.t 0)),
 zo 6 (.mv (.t 1)),
 zo 7 (.call EF [.t 5,.t 6]),
 zo 8 (.bin .geq (.t 7) (.c (.i .i64 0))),
 zo 4 (.mv (.t 8))])
 .ret)) }
def Da:Fun:={ cin:=[.id],cout:=[.id],ntmps:=35,keep:=false,res:=[(2,none)],body :=
 (.seq (.reg [zo 2 (.mv (.c (.i .i64 0)))])
 (.seq (.seq (.reg [zo 4 (.mv (.t 0)),
 zo 5 (.bin .eql (.t 4) (.c (.s []))),
 zo 6 (.mv (.t 5)),
 ⟨some 7,.mv (.t 0),some (6,false)⟩,
 ⟨some 8,.ixS (.t 7) (.c (.i .i64 0)),some (6,false)⟩,
 ⟨some 9,.call Dr [.t 8],some (6,false)⟩,
 ⟨some 10,.un .not (.t 9),some (6,false)⟩,
 zo 11 (.pick (.t 6) (.c (.b true)) (.t 10))])
 (.cond (.t 11)
 (.seq (.reg [zo 2 (.mv (.c (.i .i64 0)))])
 .ret)
 .skip))
 (.seq (.reg [zo 3 (.mv (.c (.i .i64 1)))])
 (.seq (.blk 0 (.loop (.seq (.seq (.reg [zo 12 (.mv (.t 3)),
 zo 13 (.mv (.t 0)),
 zo 14 (.len 0 (.t 13)),
 zo 15 (.bin .lss (.t 12) (.t 14)),
 zo 16 (.mv (.t 15)),
 ⟨some 17,.mv (.t 3),some (16,true)⟩,
 ⟨some 18,.bin .lss (.t 17) (.c (.i .i64 64)),some (16,true)⟩,
 zo 19 (.pick (.t 16) (.t 18) (.c (.b false))),
 zo 20 (.mv (.t 19)),
 ⟨some 21,.mv (.t 0),some (20,true)⟩,
 ⟨some 22,.mv (.t 3),some (20,true)⟩,
 ⟨some 23,.ixS (.t 21) (.t 22),some (20,true)⟩,
 ⟨some 24,.call Dr [.t 23],some (20,true)⟩,
 ⟨some 25,.mv (.t 24),some (20,true)⟩,
 ⟨some 26,.mv (.t 0),some (25,false)⟩,
 ⟨some 27,.mv (.t 3),some (25,false)⟩,
 ⟨some 28,.ixS (.t 26) (.t 27),some (25,false)⟩,
 ⟨some 29,.call Fx [.t 28],some (25,false)⟩,
 ⟨some 30,.pick (.t 25) (.c (.b true)) (.t 29),some (20,true)⟩,
 zo 31 (.pick (.t 20) (.t 30) (.c (.b false)))])
 (.cond (.t 31)
 .skip
 (.exit 0)))
 (.blk 1 (.reg [zo 32 (.mv (.t 3)),
 zo 33 (.bin .add (.t 32) (.c (.i .i64 1))),
 zo 3 (.mv (.t 33))])))))
 (.seq (.reg [zo 34 (.mv (.t 3)),
 zo 2 (.mv (.t 34))])
 .ret))))) }
def AZ:Fun:={ cin:=[.id],cout:=[.id],ntmps:=35,keep:=false,res:=[(2,none)],body :=
 (.seq (.reg [zo 2 (.mv (.c (.b false)))])
 (.seq (.seq (.reg [zo 4 (.mv (.t 0)),
 zo 5 (.bin .eql (.t 4) (.c (.s []))),
 zo 6 (.mv (.t 5)),
 ⟨some 7,.mv (.t 0),some (6,false)⟩,
 ⟨some 8,.len 0 (.t 7),some (6,false)⟩,
 ⟨some 9,.bin .gtr (.t 8) (.c (.i .i64 64)),some (6,false)⟩,
 zo 10 (.pick (.t 6) (.c (.b true)) (.t 9)),
 zo 11 (.mv (.t 10)),
 ⟨some 12,.mv (.t 0),some (11,false)⟩,
 ⟨some 13,.ixS (.t 12) (.c (.i .i64 0)),some (11,false)⟩,
 ⟨some 14,.call BN [.t 13],some (11,false)⟩,
 ⟨some 15,.un .not (.t 14),some (11,false)⟩,
 zo 16 (.pick (.t 11) (.c (.b true)) (.t 15))])
 (.cond (.t 16)
 (.seq (.reg [zo 2 (.mv (.c (.b false)))])
 .ret)
 .skip))
 (.seq (.seq (.reg [zo 3 (.mv (.c (.i .i64 0)))])
 (.blk 0 (.loop (.seq (.seq (.reg [zo 17 (.mv (.t 3)),
 zo 18 (.mv (.t 0)),
 zo 19 (.len 0 (.t 18)),
 zo 20 (.bin .lss (.t 17) (.t 19))])
 (.cond (.t 20)
 .skip
 (.exit 0)))
 (.seq (.blk 1 (.seq (.reg [zo 23 (.mv (.t 0)),
 zo 24 (.mv (.t 3)),
 zo 25 (.ixS (.t 23) (.t 24)),
 zo 26 (.call BN [.t 25]),
 zo 27 (.un .not (.t 26)),
 zo 28 (.mv (.t 27)),
 ⟨some 29,.mv (.t 0),some (28,true)⟩,
 ⟨some 30,.mv (.t 3),some (28,true)⟩,
 ⟨some 31,.ixS (.t 29) (.t 30),some (28,true)⟩,
 ⟨some 32,.call Bx [.t 31],some (28,true)⟩,
 ⟨some 33,.un .not (.t 32),some (28,true)⟩,
 zo 34 (.pick (.t 28) (.t 33) (.c (.b false)))])
 (.cond (.t 34)
 (.seq (.reg [zo 2 (.mv (.c (.b false)))])
 .ret)
 .skip)))
 (.reg [zo 21 (.mv (.t 3)),
 zo 22 (.bin .add (.t 21) (.c (.i .i64 1))),
 zo 3 (.mv (.t 22))]))))))
 (.seq (.reg [zo 2 (.mv (.c (.b true)))])
 .ret)))) }
def Cy:Fun:={ cin:=[.id,.id],cout:=[.id],ntmps:=8,keep:=false,res:=[(4,none)],body :=
 (.seq (.reg [zo 4 (.mv (.c (.i .i64 0)))])
 (.seq (.reg [zo 5 (.mv (.t 0)),
 zo 6 (.mv (.t 1)),
 zo 7 (.call BW [.t 5,.t 6]),
 zo 4 (.mv (.t 7))])
 .ret)) }
def Cf:Fun:={ cin:=[.id],cout:=[.id],ntmps:=15,keep:=false,res:=[(2,none)],body :=
 (.seq (.reg [zo 2 (.mv (.c (.b false)))])
 (.seq (.reg [zo 3 (.mv (.t 0)),
 zo 4 (.bin .eql (.t 3) (.c (.i .u8 95))),
 zo 5 (.mv (.t 4)),
 ⟨some 6,.mv (.t 0),some (5,false)⟩,
 ⟨some 7,.bin .or (.t 6) (.c (.i .u8 32)),some (5,false)⟩,
 ⟨some 8,.bin .geq (.t 7) (.c (.i .u8 97)),some (5,false)⟩,
 ⟨some 9,.mv (.t 8),some (5,false)⟩,
 ⟨some 10,.mv (.t 0),some (9,true)⟩,
 ⟨some 11,.bin .or (.t 10) (.c (.i .u8 32)),some (9,true)⟩,
 ⟨some 12,.bin .leq (.t 11) (.c (.i .u8 122)),some (9,true)⟩,
 ⟨some 13,.pick (.t 9) (.t 12) (.c (.b false)),some (5,false)⟩,
 zo 14 (.pick (.t 5) (.c (.b true)) (.t 13)),
 zo 2 (.mv (.t 14))])
 .ret)) }
def Df:Fun:={ cin:=[.id],cout:=[.id],ntmps:=9,keep:=false,res:=[(2,none)],body :=
 (.seq (.reg [zo 2 (.mv (.c (.b false)))])
 (.seq (.reg [zo 3 (.mv (.t 0)),
 zo 4 (.bin .geq (.t 3) (.c (.i .u8 48))),
 zo 5 (.mv (.t 4)),
 ⟨some 6,.mv (.t 0),some (5,true)⟩,
 ⟨some 7,.bin .leq (.t 6) (.c (.i .u8 57)),some (5,true)⟩,
 zo 8 (.pick (.t 5) (.t 7) (.c (.b false))),
 zo 2 (.mv (.t 8))])
 .ret)) }
def BO:Fun:={ cin:=[.id],cout:=[.id],ntmps:=21,keep:=false,res:=[(2,none)],body :=
 (.seq (.reg [zo 2 (.mv (.c (.b false)))])
 (.seq (.reg [zo 3 (.mv (.t 0)),
 zo 4 (.bin .geq (.t 3) (.c (.i .u8 97))),
 zo 5 (.mv (.t 4)),
 ⟨some 6,.mv (.t 0),some (5,true)⟩,
 ⟨some 7,.bin .leq (.t 6) (.c (.i .u8 122)),some (5,true)⟩,
 zo 8 (.pick (.t 5) (.t 7) (.c (.b false))),
 zo 9 (.mv (.t 8)),
 ⟨some 10,.mv (.t 0),some (9,false)⟩,
 ⟨some 11,.bin .geq (.t 10) (.c (.i .u8 65)),some (9,false)⟩,
 ⟨some 12,.mv (.t 11),some (9,false)⟩,
 ⟨some 13,.mv (.t 0),some (12,true)⟩,
 ⟨some 14,.bin .leq (.t 13) (.c (.i .u8 90)),some (12,true)⟩,
 ⟨some 15,.pick (.t 12) (.t 14) (.c (.b false)),some (9,false)⟩,
 zo 16 (.pick (.t 9) (.c (.b true)) (.t 15)),
 zo 17 (.mv (.t 16)),
 ⟨some 18,.mv (.t 0),some (17,false)⟩,
 ⟨some 19,.bin .eql (.t 18) (.c (.i .u8 95)),some (17,false)⟩,
 zo 20 (.pick (.t 17) (.c (.b true)) (.t 19)),
 zo 2 (.mv (.t 20))])
 .ret)) }
def Ba:Fun:={ cin:=[.id],cout:=[.id],ntmps:=9,keep:=false,res:=[(2,none)],body :=
 (.seq (.reg [zo 2 (.mv (.c (.b false)))])
 (.seq (.reg [zo 3 (.mv (.t 0)),
 zo 4 (.bin .geq (.t 3) (.c (.i .u8 48))),
 zo 5 (.mv (.t 4)),
 ⟨some 6,.mv (.t 0),some (5,true)⟩,
 ⟨some 7,.bin .leq (.t 6) (.c (.i .u8 57)),some (5,true)⟩,
 zo 8 (.pick (.t 5) (.t 7) (.c (.b false))),
 zo 2 (.mv (.t 8))])
 .ret)) }
def A4:Fun:={ cin:=[.id,.id],cout:=[.id],ntmps:=143,keep:=false,res:=[(4,none)],body :=
 (.seq (.reg [zo 4 (.mv (.c (.i .i64 0)))])
 (.seq (.reg [zo 14 (.mv (.t 1)),
 zo 15 (.len 0 (.t 14)),
 zo 5 (.mv (.t 15))])
 (.seq (.blk 0 (.seq (.reg [zo 17 (.mv (.t 5)),
 zo 18 (.bin .eql (.t 17) (.c (.i .i64 0))),
 zo 19 (.mv (.t 18)),
 ⟨some 20,.mv (.t 1),some (19,false)⟩,
 ⟨some 21,.mv (.t 0),some (19,false)⟩,
 ⟨some 22,.bin .eql (.t 20) (.t 21),some (19,false)⟩,
 zo 23 (.pick (.t 19) (.c (.b true)) (.t 22)),
 zo 16 (.mv (.t 23))])
 (.cond (.t 16)
 (.seq (.reg [zo 4 (.mv (.c (.i .i64 0)))])
 .ret)
 (.seq (.reg [zo 25 (.mv (.t 5)),
 zo 26 (.bin .eql (.t 25) (.c (.i .i64 1))),
 zo 24 (.mv (.t 26))])
 (.cond (.t 24)
 (.seq (.reg [zo 27 (.mv (.t 0)),
 zo 28 (.mv (.t 1)),
 zo 29 (.ixS (.t 28) (.c (.i .i64 0))),
 zo 30 (.call Al [.t 27,.t 29]),
 zo 4 (.mv (.t 30))])
 .ret)
 (.seq (.reg [zo 32 (.mv (.t 5)),
 zo 33 (.mv (.t 0)),
 zo 34 (.len 0 (.t 33)),
 zo 35 (.bin .geq (.t 32) (.t 34)),
 zo 31 (.mv (.t 35))])
 (.cond (.t 31)
 (.seq (.reg [zo 4 (.mv (.c (.i .i64 (-1))))])
 .ret)
 (.seq (.reg [zo 37 (.mv (.t 5)),
 zo 38 (.bad),
 zo 39 (.bin .leq (.t 37) (.t 38)),
 zo 40 (.mv (.t 39)),
 ⟨some 41,.mv (.t 0),some (40,true)⟩,
 ⟨some 42,.len 0 (.t 41),some (40,true)⟩,
 ⟨some 43,.bin .leq (.t 42) (.c (.i .i64 64)),some (40,true)⟩,
 zo 44 (.pick (.t 40) (.t 43) (.c (.b false))),
 zo 36 (.mv (.t 44))])
 (.cond (.t 36)
 (.seq (.reg [zo 45 (.mv (.t 0)),
 zo 46 (.mv (.t 1)),
 zo 47 (.bad),
 zo 4 (.mv (.t 47))])
 .ret)
 .skip)))))))))
 (.seq (.reg [zo 48 (.mv (.t 1)),
 zo 49 (.ixS (.t 48) (.c (.i .i64 0))),
 zo 6 (.mv (.t 49))])
 (.seq (.reg [zo 50 (.mv (.t 1)),
 zo 51 (.ixS (.t 50) (.c (.i .i64 1))),
 zo 7 (.mv (.t 51))])
 (.seq (.reg [zo 8 (.mv (.c (.i .i64 0)))])
 (.seq (.reg [zo 52 (.mv (.t 0)),
 zo 53 (.len 0 (.t 52)),
 zo 54 (.mv (.t 5)),
 zo 55 (.bin .sub (.t 53) (.t 54)),
 zo 56 (.bin .add (.t 55) (.c (.i .i64 1))),
 zo 9 (.mv (.t 56))])
 (.seq (.reg [zo 10 (.mv (.c (.i .i64 0)))])
 (.seq (.blk 1 (.loop (.seq (.seq (.reg [zo 57 (.mv (.t 8)),
 zo 58 (.mv (.t 9)),
 zo 59 (.bin .lss (.t 57) (.t 58))])
 (.cond (.t 59)
 .skip
 (.exit 1)))
 (.blk 2 (.seq (.seq (.reg [zo 60 (.mv (.t 0)),
 zo 61 (.mv (.t 8)),
 zo 62 (.ixS (.t 60) (.t 61)),
 zo 63 (.mv (.t 6)),
 zo 64 (.bin .neq (.t 62) (.t 63))])
 (.cond (.t 64)
 (.seq (.reg [zo 65 (.mv (.t 0)),
 zo 66 (.mv (.t 8)),
 zo 67 (.bin .add (.t 66) (.c (.i .i64 1))),
 zo 68 (.mv (.t 9)),
 zo 69 (.slS (.t 65) (some (.t 67)) (some (.t 68))),
 zo 70 (.mv (.t 6)),
 zo 71 (.call Al [.t 69,.t 70]),
 zo 11 (.mv (.t 71))])
 (.seq (.seq (.reg [zo 72 (.mv (.t 11)),
 zo 73 (.bin .lss (.t 72) (.c (.i .i64 0)))])
 (.cond (.t 73)
 (.seq (.reg [zo 4 (.mv (.c (.i .i64 (-1))))])
 .ret)
 .skip))
 (.reg [zo 74 (.mv (.t 8)),
 zo 75 (.mv (.t 11)),
 zo 76 (.bin .add (.t 75) (.c (.i .i64 1))),
 zo 77 (.bin .add (.t 74) (.t 76)),
 zo 8 (.mv (.t 77))])))
 .skip))
 (.seq (.seq (.reg [zo 78 (.mv (.t 0)),
 zo 79 (.mv (.t 8)),
 zo 80 (.bin .add (.t 79) (.c (.i .i64 1))),
 zo 81 (.ixS (.t 78) (.t 80)),
 zo 82 (.mv (.t 7)),
 zo 83 (.bin .eql (.t 81) (.t 82)),
 zo 84 (.mv (.t 83)),
 ⟨some 85,.mv (.t 0),some (84,true)⟩,
 ⟨some 86,.mv (.t 8),some (84,true)⟩,
 ⟨some 87,.mv (.t 8),some (84,true)⟩,
 ⟨some 88,.mv (.t 5),some (84,true)⟩,
 ⟨some 89,.bin .add (.t 87) (.t 88),some (84,true)⟩,
 ⟨some 90,.slS (.t 85) (some (.t 86)) (some (.t 89)),some (84,true)⟩,
 ⟨some 91,.mv (.t 1),some (84,true)⟩,
 ⟨some 92,.bin .eql (.t 90) (.t 91),some (84,true)⟩,
 zo 93 (.pick (.t 84) (.t 92) (.c (.b false)))])
 (.cond (.t 93)
 (.seq (.reg [zo 94 (.mv (.t 8)),
 zo 4 (.mv (.t 94))])
 .ret)
 .skip))
 (.seq (.reg [zo 95 (.mv (.t 8)),
 zo 96 (.bin .add (.t 95) (.c (.i .i64 1))),
 zo 8 (.mv (.t 96))])
 (.seq (.reg [zo 97 (.mv (.t 10)),
 zo 98 (.bin .add (.t 97) (.c (.i .i64 1))),
 zo 10 (.mv (.t 98))])
 (.seq (.reg [zo 99 (.mv (.t 5)),
 zo 100 (.bad),
 zo 101 (.bin .leq (.t 99) (.t 100)),
 zo 102 (.mv (.t 101)),
 ⟨some 103,.mv (.t 10),some (102,true)⟩,
 ⟨some 104,.mv (.t 8),some (102,true)⟩,
 ⟨some 105,.call Ci [.t 104],some (102,true)⟩,
 ⟨some 106,.bin .gtr (.t 103) (.t 105),some (102,true)⟩,
 zo 107 (.pick (.t 102) (.t 106) (.c (.b false)))])
 (.cond (.t 107)
 (.seq (.reg [zo 108 (.mv (.t 0)),
 zo 109 (.mv (.t 8)),
 zo 110 (.slS (.t 108) (some (.t 109)) none),
 zo 111 (.mv (.t 1)),
 zo 112 (.bad),
 zo 12 (.mv (.t 112))])
 (.seq (.seq (.reg [zo 113 (.mv (.t 12)),
 zo 114 (.bin .geq (.t 113) (.c (.i .i64 0)))])
 (.cond (.t 114)
 (.seq (.reg [zo 115 (.mv (.t 12)),
 zo 116 (.mv (.t 8)),
 zo 117 (.bin .add (.t 115) (.t 116)),
 zo 4 (.mv (.t 117))])
 .ret)
 .skip))
 (.seq (.reg [zo 4 (.mv (.c (.i .i64 (-1))))])
 .ret)))
 (.seq (.reg [zo 118 (.mv (.t 5)),
 zo 119 (.bad),
 zo 120 (.bin .gtr (.t 118) (.t 119)),
 zo 121 (.mv (.t 120)),
 ⟨some 122,.mv (.t 10),some (121,true)⟩,
 ⟨some 123,.mv (.t 8),some (121,true)⟩,
 ⟨some 124,.bin .shr (.t 123) (.c (.i .u64 4)),some (121,true)⟩,
 ⟨some 125,.bin .add (.c (.i .i64 4)) (.t 124),some (121,true)⟩,
 ⟨some 126,.bin .geq (.t 122) (.t 125),some (121,true)⟩,
 zo 127 (.pick (.t 121) (.t 126) (.c (.b false))),
 zo 128 (.mv (.t 127)),
 ⟨some 129,.mv (.t 8),some (128,true)⟩,
 ⟨some 130,.mv (.t 9),some (128,true)⟩,
 ⟨some 131,.bin .lss (.t 129) (.t 130),some (128,true)⟩,
 zo 132 (.pick (.t 128) (.t 131) (.c (.b false)))])
 (.cond (.t 132)
 (.seq (.reg [zo 133 (.mv (.t 0)),
 zo 134 (.mv (.t 8)),
 zo 135 (.slS (.t 133) (some (.t 134)) none),
 zo 136 (.mv (.t 1)),
 zo 137 (.call BJ [.t 135,.t 136]),
 zo 13 (.mv (.t 137))])
 (.seq (.seq (.reg [zo 138 (.mv (.t 13)),
 zo 139 (.bin .lss (.t 138) (.c (.i .i64 0)))])
 (.cond (.t 139)
 (.seq (.reg [zo 4 (.mv (.c (.i .i64 (-1))))])
 .ret)
 .skip))
 (.seq (.reg [zo 140 (.mv (.t 8)),
 zo 141 (.mv (.t 13)),
 zo 142 (.bin .add (.t 140) (.t 141)),
 zo 4 (.mv (.t 142))])
 .ret)))
 .skip))))))))))))
 (.seq (.reg [zo 4 (.mv (.c (.i .i64 (-1))))])
 .ret)))))))))) }
def Ao:Fun:={ cin:=[.id,.id],cout:=[.id],ntmps:=8,keep:=false,res:=[(4,none)],body :=
 (.seq (.reg [zo 4 (.mv (.c (.i .i64 0)))])
 (.seq (.reg [zo 5 (.mv (.t 0)),
 zo 6 (.mv (.t 1)),
 zo 7 (.xtn 0 [.t 5,.t 6]),
 zo 4 (.mv (.t 7))])
 .ret)) }
def Bn:Fun:={ cin:=[.id],cout:=[.id],ntmps:=6,keep:=false,res:=[(2,none)],body :=
 (.seq (.reg [zo 2 (.mv (.c (.i .i64 0)))])
 (.seq (.reg [zo 3 (.mv (.t 0)),
 zo 4 (.bin .add (.t 3) (.c (.i .i64 16))),
 zo 5 (.bin .quo (.t 4) (.c (.i .i64 8))),
 zo 2 (.mv (.t 5))])
 .ret)) }
def Ak:Fun:={ cin:=[.id,.id],cout:=[.id],ntmps:=81,keep:=false,res:=[(4,none)],body :=
 (.seq (.reg [zo 4 (.mv (.c (.i .i64 0)))])
 (.seq (.reg [zo 12 (.mv (.t 1)),
 zo 13 (.call Bp [.t 12]),
 zo 11 (.mv (.t 13)),
 zo 14 (.ext (.t 11) 0),
 zo 15 (.ext (.t 11) 1),
 zo 5 (.mv (.t 14)),
 zo 6 (.mv (.t 15))])
 (.seq (.reg [zo 16 (.mv (.t 1)),
 zo 17 (.len 0 (.t 16)),
 zo 7 (.mv (.t 17))])
 (.seq (.reg [zo 8 (.mv (.c (.i .u32 0)))])
 (.seq (.seq (.reg [zo 9 (.mv (.c (.i .i64 0)))])
 (.blk 0 (.loop (.seq (.seq (.reg [zo 18 (.mv (.t 9)),
 zo 19 (.mv (.t 7)),
 zo 20 (.bin .lss (.t 18) (.t 19))])
 (.cond (.t 20)
 .skip
 (.exit 0)))
 (.seq (.blk 1 (.reg [zo 23 (.mv (.t 8)),
 zo 24 (.bin .mul (.t 23) (.c (.i .u32 16777619))),
 zo 25 (.mv (.t 0)),
 zo 26 (.mv (.t 9)),
 zo 27 (.ixS (.t 25) (.t 26)),
 zo 28 (.cvI .u32 (.t 27)),
 zo 29 (.bin .add (.t 24) (.t 28)),
 zo 8 (.mv (.t 29))]))
 (.reg [zo 21 (.mv (.t 9)),
 zo 22 (.bin .add (.t 21) (.c (.i .i64 1))),
 zo 9 (.mv (.t 22))]))))))
 (.seq (.seq (.reg [zo 30 (.mv (.t 8)),
 zo 31 (.mv (.t 5)),
 zo 32 (.bin .eql (.t 30) (.t 31)),
 zo 33 (.mv (.t 32)),
 ⟨some 34,.mv (.t 0),some (33,true)⟩,
 ⟨some 35,.mv (.t 7),some (33,true)⟩,
 ⟨some 36,.slS (.t 34) none (some (.t 35)),some (33,true)⟩,
 ⟨some 37,.mv (.t 1),some (33,true)⟩,
 ⟨some 38,.bin .eql (.t 36) (.t 37),some (33,true)⟩,
 zo 39 (.pick (.t 33) (.t 38) (.c (.b false)))])
 (.cond (.t 39)
 (.seq (.reg [zo 4 (.mv (.c (.i .i64 0)))])
 .ret)
 .skip))
 (.seq (.seq (.reg [zo 40 (.mv (.t 7)),
 zo 10 (.mv (.t 40))])
 (.blk 2 (.loop (.seq (.seq (.reg [zo 41 (.mv (.t 10)),
 zo 42 (.mv (.t 0)),
 zo 43 (.len 0 (.t 42)),
 zo 44 (.bin .lss (.t 41) (.t 43))])
 (.cond (.t 44)
 .skip
 (.exit 2)))
 (.blk 3 (.seq (.reg [zo 45 (.mv (.t 8)),
 zo 46 (.bin .mul (.t 45) (.c (.i .u32 16777619))),
 zo 8 (.mv (.t 46))])
 (.seq (.reg [zo 47 (.mv (.t 8)),
 zo 48 (.mv (.t 0)),
 zo 49 (.mv (.t 10)),
 zo 50 (.ixS (.t 48) (.t 49)),
 zo 51 (.cvI .u32 (.t 50)),
 zo 52 (.bin .add (.t 47) (.t 51)),
 zo 8 (.mv (.t 52))])
 (.seq (.reg [zo 53 (.mv (.t 8)),
 zo 54 (.mv (.t 6)),
 zo 55 (.mv (.t 0)),
 zo 56 (.mv (.t 10)),
 zo 57 (.mv (.t 7)),
 zo 58 (.bin .sub (.t 56) (.t 57)),
 zo 59 (.ixS (.t 55) (.t 58)),
 zo 60 (.cvI .u32 (.t 59)),
 zo 61 (.bin .mul (.t 54) (.t 60)),
 zo 62 (.bin .sub (.t 53) (.t 61)),
 zo 8 (.mv (.t 62))])
 (.seq (.reg [zo 63 (.mv (.t 10)),
 zo 64 (.bin .add (.t 63) (.c (.i .i64 1))),
 zo 10 (.mv (.t 64))])
 (.seq (.reg [zo 65 (.mv (.t 8)),
 zo 66 (.mv (.t 5)),
 zo 67 (.bin .eql (.t 65) (.t 66)),
 zo 68 (.mv (.t 67)),
 ⟨some 69,.mv (.t 0),some (68,true)⟩,
 ⟨some 70,.mv (.t 10),some (68,true)⟩,
 ⟨some 71,.mv (.t 7),some (68,true)⟩,
 ⟨some 72,.bin .sub (.t 70) (.t 71),some (68,true)⟩,
 ⟨some 73,.mv (.t 10),some (68,true)⟩,
 ⟨some 74,.slS (.t 69) (some (.t 72)) (some (.t 73)),some (68,true)⟩,
 ⟨some 75,.mv (.t 1),some (68,true)⟩,
 ⟨some 76,.bin .eql (.t 74) (.t 75),some (68,true)⟩,
 zo 77 (.pick (.t 68) (.t 76) (.c (.b false)))])
 (.cond (.t 77)
 (.seq (.reg [zo 78 (.mv (.t 10)),
 zo 79 (.mv (.t 7)),
 zo 80 (.bin .sub (.t 78) (.t 79)),
 zo 4 (.mv (.t 80))])
 .ret)
 .skip)))))))))))
 (.seq (.reg [zo 4 (.mv (.c (.i .i64 (-1))))])
 .ret)))))))) }
def BA:Fun:={ cin:=[.id],cout:=[.id,.id],ntmps:=39,keep:=false,res:=[(2,none),(3,none)],body :=
 (.seq (.reg [zo 2 (.mv (.c (.i .u32 0))),
 zo 3 (.mv (.c (.i .u32 0)))])
 (.seq (.reg [zo 4 (.mv (.c (.i .u32 0)))])
 (.seq (.seq (.reg [zo 5 (.mv (.c (.i .i64 0)))])
 (.blk 0 (.loop (.seq (.seq (.reg [zo 9 (.mv (.t 5)),
 zo 10 (.mv (.t 0)),
 zo 11 (.len 0 (.t 10)),
 zo 12 (.bin .lss (.t 9) (.t 11))])
 (.cond (.t 12)
 .skip
 (.exit 0)))
 (.seq (.blk 1 (.reg [zo 15 (.mv (.t 4)),
 zo 16 (.bin .mul (.t 15) (.c (.i .u32 16777619))),
 zo 17 (.mv (.t 0)),
 zo 18 (.mv (.t 5)),
 zo 19 (.ixS (.t 17) (.t 18)),
 zo 20 (.cvI .u32 (.t 19)),
 zo 21 (.bin .add (.t 16) (.t 20)),
 zo 4 (.mv (.t 21))]))
 (.reg [zo 13 (.mv (.t 5)),
 zo 14 (.bin .add (.t 13) (.c (.i .i64 1))),
 zo 5 (.mv (.t 14))]))))))
 (.seq (.reg [zo 6 (.mv (.c (.i .u32 1))),
 zo 7 (.mv (.c (.i .u32 16777619)))])
 (.seq (.seq (.reg [zo 22 (.mv (.t 0)),
 zo 23 (.len 0 (.t 22)),
 zo 8 (.mv (.t 23))])
 (.blk 2 (.loop (.seq (.seq (.reg [zo 24 (.mv (.t 8)),
 zo 25 (.bin .gtr (.t 24) (.c (.i .i64 0)))])
 (.cond (.t 25)
 .skip
 (.exit 2)))
 (.seq (.blk 3 (.seq (.seq (.reg [zo 28 (.mv (.t 8)),
 zo 29 (.bin .and (.t 28) (.c (.i .i64 1))),
 zo 30 (.bin .neq (.t 29) (.c (.i .i64 0)))])
 (.cond (.t 30)
 (.reg [zo 31 (.mv (.t 6)),
 zo 32 (.mv (.t 7)),
 zo 33 (.bin .mul (.t 31) (.t 32)),
 zo 6 (.mv (.t 33))])
 .skip))
 (.reg [zo 34 (.mv (.t 7)),
 zo 35 (.mv (.t 7)),
 zo 36 (.bin .mul (.t 34) (.t 35)),
 zo 7 (.mv (.t 36))])))
 (.reg [zo 26 (.mv (.t 8)),
 zo 27 (.bin .shr (.t 26) (.c (.i .u64 1))),
 zo 8 (.mv (.t 27))]))))))
 (.seq (.reg [zo 37 (.mv (.t 4)),
 zo 38 (.mv (.t 6)),
 zo 2 (.mv (.t 37)),
 zo 3 (.mv (.t 38))])
 .ret)))))) }
def tab:PT:=(.n 18 BZ (.n 10 BX (.n 6 BL (.n 4 A9 (.n 3 AE .e .e) (.n 5 Au .e .e)) (.n 8 Bl (.n 7 AR .e .e) (.n 9 Bm .e .e))) (.n 14 Bt (.n 12 AJ (.n 11 BM .e .e) (.n 13 Ca .e .e)) (.n 16 Ac (.n 15 AX .e .e) (.n 17 AF .e .e)))) (.n 39 Df (.n 24 Da (.n 22 Ai (.n 19 Cb .e .e) (.n 23 CS .e .e)) (.n 37 Cy (.n 36 AZ .e .e) (.n 38 Cf .e .e))) (.n 50 Ao (.n 47 Ba (.n 46 BO .e .e) (.n 48 A4 .e .e)) (.n 53 Ak (.n 52 Bn .e .e) (.n 55 BA .e .e)))))
def prog (n:Nat):Option Fun:=tab.get n
theorem Ds:prog CN=some AE:=rfl
theorem Cz:prog BV=some A9:=rfl
theorem E9:prog Bv=some Au:=rfl
theorem HY:prog EM=some BL:=rfl
theorem Fy:prog CZ=some AR:=rfl
theorem Fe:prog CJ=some Bl:=rfl
theorem Ff:prog CK=some Bm:=rfl
theorem FA:prog A7=some BX:=rfl
theorem Il:prog EE=some BM:=rfl
theorem Bb:prog AN=some AJ:=rfl
theorem EG:prog Bg=some Ca:=rfl
theorem Dg:prog BK=some Bt:=rfl
theorem CU:prog Az=some AX:=rfl
theorem Fg:prog CL=some Ac:=rfl
theorem Dh:prog Ay=some AF:=rfl
theorem FB:prog A8=some BZ:=rfl
theorem K1:prog Fw=some Cb:=rfl
theorem FC:prog Bw=some Ai:=rfl
theorem Gv:prog CO=some CS:=rfl
theorem Lk:prog GO=some Da:=rfl
theorem Fh:prog CM=some AZ:=rfl
theorem Im:prog EF=some Cy:=rfl
theorem Ju:prog Dr=some Cf:=rfl
theorem K2:prog Fx=some Df:=rfl
theorem Ei:prog BN=some BO:=rfl
theorem FD:prog Bx=some Ba:=rfl
theorem Dt:prog BW=some A4:=rfl
theorem C5:prog Al=some Ao:=rfl
theorem Iv:prog Ci=some Bn:=rfl
theorem Fm:prog BJ=some Ak:=rfl
theorem Gw:prog Bp=some BA:=rfl
end Go.Proofs.Ytfpoihibfajhlaa
