/-
  The law's call on the abstract machine, cut into pieces. By program.
-/
import Derived.Test.YtmnbfgfgjmmhfaaGreatDoorFns
import Derived.Test.YtmnbfgfgjmmhfaaGreatDoorAmSorted
import Derived.KernelRfl
set_option linter.all false
set_option linter.unusedVariables false
set_option linter.unusedSimpArgs false
set_option linter.unusedSectionVars false
set_option maxRecDepth 100000
namespace Go.Proofs.YtmnbfgfgjmmhfaaGreatDoor
open Go.Proofs.YtmnbfgfgjmmhfaaGreatDoor.Am
def v0:AV:=(.sl 2 [(.agg [(.sl 3 [(.agg [(.b false),(.s [101,99,104,111]),(.b false)])] .full),(.b false)]),(.agg [(.sl 3 [(.agg [(.b true),(.s [120]),(.b false)])] .full),(.b true)])] .full)
def v1:Box:=(.cells 25 [(.i .u8 3),(.s []),v0,.nsl])
def v2:AV:=(.sl 1 [(.s [99,97,108,108,32,61,56,58,98,112,52,58,101,99,104,111,32,42,53,58,118,112,49,58,120])] (.tok 1 0))
def v3:Box:=(.cells 78 [(.ws false 3 [(.agg [(.b true),(.s [120]),(.b false)])]),(.b true)])
def v4:Box:=(.cells 78 [(.ws false 3 [(.agg [(.b false),(.s [101,99,104,111]),(.b false)])]),(.b false)])
def v5:AV:=(.ws false 2 [(.agg [(.ws false 3 [(.agg [(.b false),(.s [101,99,104,111]),(.b false)])]),(.b false)]),(.agg [(.ws false 3 [(.agg [(.b true),(.s [120]),(.b false)])]),(.b true)])])
def v6:Box:=(.cells 25 [(.i .u8 3),(.s []),v5,(.ws false 4 [])])
def v7:Box:=(.map [((.i .u8 1),(.agg [(.s [115,107,105,112]),(.b false),(.i .i64 0),(.i .i64 0),(.fn 85 [(.p 3 0)])])),((.i .u8 4),(.agg [(.s [99,104,101,99,107]),(.b false),(.i .i64 0),(.i .i64 0),(.fn 85 [(.p 4 0)])])),((.i .u8 6),(.agg [(.s [110,111,116]),(.b false),(.i .i64 0),(.i .i64 0),(.fn 85 [(.p 5 0)])])),((.i .u8 2),(.agg [(.s [97,115,115,105,103,110]),(.b true),(.i .i64 1),(.i .i64 1),(.fn 85 [(.p 6 0)])])),((.i .u8 3),(.agg [(.s [99,97,108,108]),(.b false),(.i .i64 1),(.i .i64 64),(.fn 85 [(.p 7 0)])])),((.i .u8 5),(.agg [(.s [115,101,113]),(.b false),(.i .i64 0),(.i .i64 0),(.fn 86 [])])),((.i .u8 7),(.agg [(.s [105,102]),(.b false),(.i .i64 0),(.i .i64 0),(.fn 85 [(.p 8 0)])])),((.i .u8 8),(.agg [(.s [108,111,111,112]),(.b false),(.i .i64 0),(.i .i64 0),(.fn 85 [(.p 9 0)])])),((.i .u8 9),(.agg [(.s [101,97,99,104]),(.b true),(.i .i64 0),(.i .i64 64),(.fn 85 [(.p 10 0)])]))])
def m0:Ent:=⟨[(.agg [(.i .u8 3),(.s []),v0,.nsl])],⟨1,[v1],0,[],0⟩,(.tup [v2,(.i .i64 0)]),⟨20,[v3,v4,v6,(.cells 118 [(.yld 15)]),.used,(.cells 3 [(.i .i64 0)]),v6,(.cells 26 [v2]),(.cells 73 [(.m 2)]),(.cells 3 [(.i .i64 1)]),(.cells 3 [(.i .i64 2)]),(.cells 3 [(.i .i64 3)]),(.cells 3 [(.i .i64 0)]),(.cells 3 [(.i .i64 0)]),(.cells 3 [(.i .i64 0)]),(.cells 3 [(.i .i64 0)]),(.cells 3 [(.i .i64 0)]),v7,v6,v1],2,[some ⟨1,0,0,some 9⟩,some ⟨3,0,3,some 9⟩],0⟩⟩
theorem k0:m0.ok progC 29:=Wj [] 5000 trivial (by kernel_rfl)
def m1:Ent:=⟨[],⟨0,[],0,[],0⟩,(.b true),⟨0,[],0,[],0⟩⟩
theorem k1:m1.ok progC 26:=Wj [(29,[m0])] 5000 ⟨⟨k0,trivial⟩,trivial⟩ (by kernel_rfl)
theorem HO:∃ n s',(run progC n).call 26 [] s0=some (.b true,s'):=law_ev k1
end Go.Proofs.YtmnbfgfgjmmhfaaGreatDoor
