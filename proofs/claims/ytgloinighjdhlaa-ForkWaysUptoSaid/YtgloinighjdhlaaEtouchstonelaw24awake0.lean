/-
  The law's call on the abstract machine, cut into pieces. By program.
-/
import Derived.Test.YtgloinighjdhlaaFns
import Derived.Test.YtgloinighjdhlaaAmRg
import Derived.KernelRfl
set_option linter.all false
set_option linter.unusedVariables false
set_option linter.unusedSimpArgs false
set_option linter.unusedSectionVars false
set_option maxRecDepth 100000
namespace Go.Proofs.Ytgloinighjdhlaa
open Go.Proofs.Ytgloinighjdhlaa.Am
def v0:AV:=(.sl 6 [(.agg [(.b true),(.i .u8 2),(.sl 1 [(.s [97])] .full),(.sl 1 [(.i .i64 1)] .full),(.i .i64 0),(.i .i64 0)]),(.agg [(.b false),(.i .u8 0),.nsl,.nsl,(.i .i64 0),(.i .i64 0)])] .full)
def v1:AV:=(.tup [(.sl 1 [(.bl 10 6 0 2 (12,false)),(.bl 16 6 0 2 (12,false)),(.bl 22 6 0 2 (12,false))] (.tok 4 0)),(.i .i64 0)])
def v2:Box:=(.cells 60 [(.b false),(.i .u8 0),(.ws false 1 []),(.ws false 1 []),(.i .i64 0),(.i .i64 0)])
def v3:Box:=(.row 3 [(.i .i64 1)] false 0)
def v4:Box:=(.row 60 [(.b true),(.i .u8 2),(.bl 23 1 0 1 (1,false)),(.bl 24 1 0 1 (1,false)),(.i .i64 0),(.i .i64 0),(.b true),(.i .u8 2),(.ws true 1 []),(.ws true 1 []),(.i .i64 0),(.i .i64 0)] false 0)
def v5:Box:=(.cells 60 [(.b true),(.i .u8 2),(.ws false 1 [(.s [97])]),(.ws false 1 [(.i .i64 1)]),(.i .i64 0),(.i .i64 0)])
def v6:Box:=(.row 60 [(.b true),(.i .u8 2),(.bl 17 1 0 1 (1,false)),(.bl 18 1 0 1 (1,false)),(.i .i64 0),(.i .i64 0),(.b true),(.i .u8 1),(.ws true 1 []),(.ws true 1 []),(.i .i64 0),(.i .i64 0)] false 0)
def v7:Box:=(.row 60 [(.b true),(.i .u8 2),(.bl 11 1 0 1 (1,false)),(.bl 12 1 0 1 (1,false)),(.i .i64 0),(.i .i64 0),(.b true),(.i .u8 0),(.ws true 1 []),(.ws true 1 []),(.i .i64 0),(.i .i64 0)] false 0)
def v8:Box:=(.cells 62 [(.sl 1 [(.fn 59 [(.p 1 0),(.p 5 0)]),(.fn 59 [(.p 1 0),(.p 6 0)]),(.fn 59 [(.p 1 0),(.p 7 0)])] (.tok 0 0))])
def v9:Box:=(.cells 30 [(.i .i64 1),(.b false)])
def m0:Ent:=⟨[v0,(.agg [(.i .i64 1),(.b false)]),(.b false)],⟨0,[],0,[],0⟩,v1,⟨26,[v2,v3,(.row 9 [(.s [97])] false 0),v4,v5,(.cells 5 [(.i .u8 2)]),v2,v3,(.row 9 [(.s [97])] false 0),v6,v5,(.cells 5 [(.i .u8 1)]),v2,v3,(.row 9 [(.s [97])] false 0),v7,v5,(.cells 5 [(.i .u8 0)]),(.cells 5 [(.i .u8 2)]),(.cells 5 [(.i .u8 1)]),(.cells 5 [(.i .u8 0)]),.used,(.cells 4 [(.b false)]),v8,v9,v9],11,[none,none,none,none,none,none,some ⟨3,0,0,some 22⟩,none,none,none,some ⟨3,0,3,some 64⟩],0⟩⟩
theorem k0:m0.ok progC 9:=S0 [] 5000 trivial (by kernel_rfl)
def v10:AV:=(.sl 6 [(.agg [(.b true),(.i .u8 2),(.ws false 1 [(.s [97])]),(.ws false 1 [(.i .i64 1)]),(.i .i64 0),(.i .i64 0)]),(.agg [(.b false),(.i .u8 0),(.ws false 1 []),(.ws false 1 []),(.i .i64 0),(.i .i64 0)])] .shut)
def v11:Box:=(.row 60 [(.b true),(.i .u8 2),(.bl 36 1 0 1 (1,false)),(.bl 37 1 0 1 (1,false)),(.i .i64 2),(.i .i64 1),(.b false),(.i .u8 0),(.ws true 1 []),(.ws true 1 []),(.i .i64 0),(.i .i64 0)] false 0)
def v12:Box:=(.row 60 [(.b true),(.i .u8 2),(.bl 31 1 0 1 (1,false)),(.bl 32 1 0 1 (1,false)),(.i .i64 1),(.i .i64 0),(.b false),(.i .u8 0),(.ws true 1 []),(.ws true 1 []),(.i .i64 0),(.i .i64 0)] false 0)
def v13:AV:=(.ws false 6 [(.agg [(.b true),(.i .u8 2),(.ws false 1 [(.s [97])]),(.ws false 1 [(.i .i64 1)]),(.i .i64 0),(.i .i64 0)]),(.agg [(.b false),(.i .u8 0),(.ws false 1 []),(.ws false 1 []),(.i .i64 0),(.i .i64 0)])])
def v14:Box:=(.cells 30 [(.i .i64 0),(.b true)])
def v15:AV:=(.tup [(.sl 1 [(.bl 50 6 0 2 (12,false)),(.bl 56 6 0 2 (12,false)),(.bl 62 6 0 2 (12,false))] (.tok 23 0)),(.i .i64 0)])
def v16:Box:=(.row 60 [(.b true),(.i .u8 2),(.bl 63 1 0 1 (1,false)),(.bl 64 1 0 1 (1,false)),(.i .i64 0),(.i .i64 0),(.b true),(.i .u8 2),(.ws true 1 []),(.ws true 1 []),(.i .i64 0),(.i .i64 0)] false 0)
def v17:Box:=(.row 60 [(.b true),(.i .u8 2),(.bl 57 1 0 1 (1,false)),(.bl 58 1 0 1 (1,false)),(.i .i64 0),(.i .i64 0),(.b true),(.i .u8 1),(.ws true 1 []),(.ws true 1 []),(.i .i64 0),(.i .i64 0)] false 0)
def v18:Box:=(.row 60 [(.b true),(.i .u8 2),(.bl 51 1 0 1 (1,false)),(.bl 52 1 0 1 (1,false)),(.i .i64 0),(.i .i64 0),(.b true),(.i .u8 0),(.ws true 1 []),(.ws true 1 []),(.i .i64 0),(.i .i64 0)] false 0)
def v19:Box:=(.cells 62 [(.sl 1 [(.fn 59 [(.p 41 0),(.p 45 0)]),(.fn 59 [(.p 41 0),(.p 46 0)]),(.fn 59 [(.p 41 0),(.p 47 0)])] (.tok 19 0))])
def m1:Ent:=⟨[v10,(.agg [(.i .i64 1),(.b false)]),(.b false)],⟨40,[v9,v2,v3,(.row 9 [(.s [97])] false 0),v11,v5,v2,v3,(.row 9 [(.s [97])] false 0),v12,v5,(.cells 22 [v13]),v14,v14,v2,v3,(.row 9 [(.s [97])] false 0),v4,v5,(.cells 5 [(.i .u8 2)]),v2,v3,(.row 9 [(.s [97])] false 0),v6,v5,(.cells 5 [(.i .u8 1)]),v2,v3,(.row 9 [(.s [97])] false 0),v7,v5,(.cells 5 [(.i .u8 0)]),(.cells 5 [(.i .u8 2)]),(.cells 5 [(.i .u8 1)]),(.cells 5 [(.i .u8 0)]),.used,(.cells 4 [(.b false)]),v8,v9,v9],19,[some ⟨2,0,2,some 60⟩,none,none,none,some ⟨2,0,0,some 22⟩,none,none,none,none,none,none,none,none,none,some ⟨3,0,0,some 22⟩,none,none,none,some ⟨3,0,3,some 64⟩],39⟩,v15,⟨66,[v2,v3,(.row 9 [(.s [97])] false 0),v16,v5,(.cells 5 [(.i .u8 2)]),v2,v3,(.row 9 [(.s [97])] false 0),v17,v5,(.cells 5 [(.i .u8 1)]),v2,v3,(.row 9 [(.s [97])] false 0),v18,v5,(.cells 5 [(.i .u8 0)]),(.cells 5 [(.i .u8 2)]),(.cells 5 [(.i .u8 1)]),(.cells 5 [(.i .u8 0)]),.used,(.cells 4 [(.b false)]),v19,v9,v9,v9,v2,v3,(.row 9 [(.s [97])] false 0),v11,v5,v2,v3,(.row 9 [(.s [97])] false 0),v12,v5,(.cells 22 [v13]),v14,v14,v2,v3,(.row 9 [(.s [97])] false 0),v4,v5,(.cells 5 [(.i .u8 2)]),v2,v3,(.row 9 [(.s [97])] false 0),v6,v5,(.cells 5 [(.i .u8 1)]),v2,v3,(.row 9 [(.s [97])] false 0),v7,v5,(.cells 5 [(.i .u8 0)]),(.cells 5 [(.i .u8 2)]),(.cells 5 [(.i .u8 1)]),(.cells 5 [(.i .u8 0)]),.used,(.cells 4 [(.b false)]),v8,v9,v9],30,[none,none,none,none,none,none,some ⟨3,0,0,some 22⟩,none,none,none,some ⟨3,0,3,some 64⟩,some ⟨2,0,2,some 60⟩,none,none,none,some ⟨2,0,0,some 22⟩,none,none,none,none,none,none,none,none,none,some ⟨3,0,0,some 22⟩,none,none,none,some ⟨3,0,3,some 64⟩],39⟩⟩
theorem k1:m1.ok progC 9:=S0 [] 5000 trivial (by kernel_rfl)
def m2:Ent:=⟨[],⟨0,[],0,[],0⟩,(.b true),⟨0,[],0,[],0⟩⟩
theorem k2:m2.ok progC 8:=S0 [(9,[m1,m0])] 5000 ⟨⟨k1,⟨k0,trivial⟩⟩,trivial⟩ (by kernel_rfl)
theorem Gj:∃ n s',(run progC n).call 8 [] s0=some (.b true,s'):=law_ev k2
end Go.Proofs.Ytgloinighjdhlaa
