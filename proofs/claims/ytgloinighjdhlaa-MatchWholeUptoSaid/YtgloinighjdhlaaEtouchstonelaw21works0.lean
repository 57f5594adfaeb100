/-
  The law's call on the abstract machine, cut into pieces. By program.
-/
import Derived.Test.YtgloinighjdhlaaFns
import Derived.Test.YtgloinighjdhlaaAmMemo
import Derived.KernelRfl
set_option linter.all false
set_option linter.unusedVariables false
set_option linter.unusedSimpArgs false
set_option linter.unusedSectionVars false
set_option maxRecDepth 100000
namespace Go.Proofs.Ytgloinighjdhlaa
open Go.Proofs.Ytgloinighjdhlaa.Am
def v0:AV:=(.ws false 4 [(.agg [(.i .u8 1),(.s []),(.ws false 1 []),(.ws false 4 [])]),(.agg [(.i .u8 1),(.s []),(.ws false 1 []),(.ws false 4 [])])])
def v1:Box:=(.cells 47 [(.i .u8 2),(.s []),(.ws false 1 [(.s [97]),(.s [98])]),v0])
def v2:Box:=(.cells 47 [(.i .u8 2),(.s []),(.ws false 1 [(.s [97])]),(.ws false 4 [(.agg [(.i .u8 1),(.s []),(.ws false 1 []),(.ws false 4 [])])])])
def m0:Ent:=⟨[(.ws false 6 [(.agg [(.b true),(.i .u8 2),(.ws false 1 []),(.ws false 1 []),(.i .i64 0),(.i .i64 0)])]),(.agg [(.i .u8 2),(.s []),(.ws false 1 [(.s [97]),(.s [98])]),v0]),(.i .i64 (-1))],⟨2,[v1,v2],0,[],0⟩,(.b true),⟨2,[v1,v2],0,[],0⟩⟩
theorem k0:m0.ok prog 43:=Fa [] 5000 trivial (by kernel_rfl)
def v3:AV:=(.ws false 6 [(.agg [(.b true),(.i .u8 2),(.ws false 1 [(.s [97])]),(.ws false 1 [(.i .i64 1)]),(.i .i64 1),(.i .i64 0)]),(.agg [(.b true),(.i .u8 1),(.ws false 1 []),(.ws false 1 []),(.i .i64 0),(.i .i64 0)])])
def v4:AV:=(.agg [(.i .u8 2),(.s []),(.ws false 1 [(.s [97])]),(.ws false 4 [(.agg [(.i .u8 1),(.s []),(.ws false 1 []),(.ws false 4 [])])])])
def m1:Ent:=⟨[v3,v4],⟨3,[v2,v1,v2],0,[],2⟩,(.tup [(.i .i64 (-1)),(.i .i64 0)]),⟨3,[v2,v1,v2],0,[],2⟩⟩
theorem k1:m1.ok prog 18:=Fa [] 5000 trivial (by kernel_rfl)
def m2:Ent:=⟨[v3,v4],⟨4,[v2,v2,v1,v2],0,[],3⟩,(.tup [(.i .i64 (-1)),(.i .i64 0)]),⟨4,[v2,v2,v1,v2],0,[],3⟩⟩
theorem k2:m2.ok prog 18:=Fa [] 5000 trivial (by kernel_rfl)
def v5:AV:=(.agg [(.i .u8 2),(.s []),(.ws false 1 [(.s [97])]),(.ws false 4 [(.agg [(.i .u8 2),(.s []),(.ws false 1 []),(.ws false 4 [])])])])
def v6:Box:=(.cells 47 [(.i .u8 2),(.s []),(.ws false 1 [(.s [97])]),(.ws false 4 [(.agg [(.i .u8 2),(.s []),(.ws false 1 []),(.ws false 4 [])])])])
def m3:Ent:=⟨[v3,v5],⟨3,[v6,v1,v2],0,[],2⟩,(.tup [(.i .i64 1),(.i .i64 0)]),⟨3,[v6,v1,v2],0,[],2⟩⟩
theorem k3:m3.ok prog 18:=Fa [] 5000 trivial (by kernel_rfl)
def m4:Ent:=⟨[v3,v5],⟨4,[v6,v6,v1,v2],0,[],3⟩,(.tup [(.i .i64 1),(.i .i64 0)]),⟨4,[v6,v6,v1,v2],0,[],3⟩⟩
theorem k4:m4.ok prog 18:=Fa [] 5000 trivial (by kernel_rfl)
def m5:Ent:=⟨[v3,(.agg [(.i .u8 2),(.s []),(.ws false 1 [(.s [97]),(.s [98])]),v0])],⟨3,[v1,v1,v2],0,[],2⟩,(.tup [(.i .i64 0),(.i .i64 0)]),⟨3,[v1,v1,v2],0,[],2⟩⟩
theorem k5:m5.ok prog 18:=Fa [] 5000 trivial (by kernel_rfl)
def m6:Ent:=⟨[v3,(.agg [(.i .u8 2),(.s []),(.ws false 1 [(.s [97]),(.s [98])]),v0])],⟨4,[v1,v1,v1,v2],0,[],3⟩,(.tup [(.i .i64 0),(.i .i64 0)]),⟨4,[v1,v1,v1,v2],0,[],3⟩⟩
theorem k6:m6.ok prog 18:=Fa [] 5000 trivial (by kernel_rfl)
def v7:AV:=(.ws false 6 [(.agg [(.b true),(.i .u8 2),(.ws false 1 [(.s [97])]),(.ws false 1 [(.i .i64 1)]),(.i .i64 2),(.i .i64 1)]),(.agg [(.b true),(.i .u8 1),(.ws false 1 []),(.ws false 1 []),(.i .i64 0),(.i .i64 0)])])
def m7:Ent:=⟨[v7,(.agg [(.i .u8 2),(.s []),(.ws false 1 [(.s [97]),(.s [98])]),v0])],⟨3,[v1,v1,v2],0,[],2⟩,(.tup [(.i .i64 (-1)),(.i .i64 0)]),⟨3,[v1,v1,v2],0,[],2⟩⟩
theorem k7:m7.ok prog 18:=Fa [] 5000 trivial (by kernel_rfl)
def m8:Ent:=⟨[v7,(.agg [(.i .u8 2),(.s []),(.ws false 1 [(.s [97]),(.s [98])]),v0])],⟨4,[v1,v1,v1,v2],0,[],3⟩,(.tup [(.i .i64 (-1)),(.i .i64 0)]),⟨4,[v1,v1,v1,v2],0,[],3⟩⟩
theorem k8:m8.ok prog 18:=Fa [] 5000 trivial (by kernel_rfl)
def m9:Ent:=⟨[v7,v4],⟨3,[v2,v1,v2],0,[],2⟩,(.tup [(.i .i64 0),(.i .i64 0)]),⟨3,[v2,v1,v2],0,[],2⟩⟩
theorem k9:m9.ok prog 18:=Fa [] 5000 trivial (by kernel_rfl)
def m10:Ent:=⟨[v7,v4],⟨4,[v2,v2,v1,v2],0,[],3⟩,(.tup [(.i .i64 0),(.i .i64 0)]),⟨4,[v2,v2,v1,v2],0,[],3⟩⟩
theorem k10:m10.ok prog 18:=Fa [] 5000 trivial (by kernel_rfl)
def v8:AV:=(.ws false 6 [(.agg [(.b true),(.i .u8 2),(.ws false 1 [(.s [97])]),(.ws false 1 [(.i .i64 1)]),(.i .i64 2),(.i .i64 0)]),(.agg [(.b true),(.i .u8 1),(.ws false 1 []),(.ws false 1 []),(.i .i64 0),(.i .i64 0)])])
def m11:Ent:=⟨[v8,v4],⟨3,[v2,v1,v2],0,[],2⟩,(.tup [(.i .i64 (-1)),(.i .i64 0)]),⟨3,[v2,v1,v2],0,[],2⟩⟩
theorem k11:m11.ok prog 18:=Fa [] 5000 trivial (by kernel_rfl)
def m12:Ent:=⟨[v8,v4],⟨4,[v2,v2,v1,v2],0,[],3⟩,(.tup [(.i .i64 (-1)),(.i .i64 0)]),⟨4,[v2,v2,v1,v2],0,[],3⟩⟩
theorem k12:m12.ok prog 18:=Fa [] 5000 trivial (by kernel_rfl)
def m13:Ent:=⟨[],⟨0,[],0,[],0⟩,(.b true),⟨0,[],0,[],0⟩⟩
theorem k13:m13.ok prog 25:=Fa [(18,[m11,m12,m9,m10,m7,m8,m5,m6,m3,m4,m1,m2]),(43,[m0])] 5000 ⟨⟨k11,⟨k12,⟨k9,⟨k10,⟨k7,⟨k8,⟨k5,⟨k6,⟨k3,⟨k4,⟨k1,⟨k2,trivial⟩⟩⟩⟩⟩⟩⟩⟩⟩⟩⟩⟩,⟨⟨k0,trivial⟩,trivial⟩⟩ (by kernel_rfl)
theorem GS:∃ n s',(run prog n).call 25 [] s0=some (.b true,s'):=law_ev k13
end Go.Proofs.Ytgloinighjdhlaa
