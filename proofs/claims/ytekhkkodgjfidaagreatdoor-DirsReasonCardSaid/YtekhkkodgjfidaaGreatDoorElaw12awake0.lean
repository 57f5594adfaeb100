/-
  The law's call on the abstract machine, cut into pieces. By program.
-/
import Derived.Test.YtekhkkodgjfidaaGreatDoorFns
import Derived.Test.YtekhkkodgjfidaaGreatDoorAmMemo
import Derived.KernelRfl
set_option linter.all false
set_option linter.unusedVariables false
set_option linter.unusedSimpArgs false
set_option linter.unusedSectionVars false
set_option maxRecDepth 100000
namespace Go.Proofs.YtekhkkodgjfidaaGreatDoor
open Go.Proofs.YtekhkkodgjfidaaGreatDoor.Am
def v0 : Box := (.cells 151 [(.s [112]), (.fn 151 []), (.fn 152 [])])
def v1 : Box := (.map [((.s [109, 107, 100, 105, 114]), (.agg [(.s [112]), (.fn 151 []), (.fn 152 [])])), ((.s [114, 109, 100, 105, 114]), (.agg [(.s []), (.fn 151 []), (.fn 153 [])])), ((.s [116, 111, 117, 99, 104]), (.agg [(.s []), (.fn 151 []), (.fn 154 [])])), ((.s [114, 109]), (.agg [(.s [102, 114]), (.fn 155 []), (.fn 157 [])]))])
def v2 : AV := (.agg [(.i .u8 2), (.s []), (.ws false 1 [(.s [101])]), (.ws false 4 [(.agg [(.i .u8 1), (.s []), (.ws false 1 []), (.ws false 4 [])])])])
def v3 : Box := (.cells 181 [(.i .u8 2), (.s []), (.ws false 1 [(.s [97]), (.s [100])]), (.ws false 4 [(.agg [(.i .u8 1), (.s [120]), (.ws false 1 []), (.ws false 4 [])]), v2])])
def v4 : Box := (.cells 49 [(.i .u8 2), (.s []), (.ws false 1 [(.s [97]), (.s [100])]), (.ws false 4 [(.agg [(.i .u8 1), (.s [120]), (.ws false 1 []), (.ws false 4 [])]), v2])])
def m0 : Ent := ⟨[(.s [112]), (.ws false 1 [(.s [97]), (.s [100, 47, 120])]), (.i .i64 0), (.i .i64 3)], ⟨4, [v0, v1, v3, v4], 0, [], 2⟩, (.tup [(.agg [(.s []), (.ws false 1 [(.s [97]), (.s [100, 47, 120])])]), (.i .i64 0)]), ⟨4, [v0, v1, v3, v4], 0, [], 2⟩⟩
theorem k0 : m0.ok prog 114 := ent_ok [] 5000 trivial (by kernel_rfl)
def v5 : Box := (.cells 160 [(.ifc 108 (.p 1 0)), (.s []), (.ws false 1 [(.s [97]), (.s [100, 47, 120])])])
def v6 : Box := (.cells 156 [(.s []), (.ws false 1 [(.s [97]), (.s [100, 47, 120])])])
def v7 : AV := (.ws false 4 [(.agg [(.i .u8 1), (.s []), (.ws false 1 []), (.ws false 4 [])]), (.agg [(.i .u8 2), (.s []), (.ws false 1 []), (.ws false 4 [])])])
def v8 : AV := (.ws false 4 [(.agg [(.i .u8 1), (.s [120]), (.ws false 1 []), (.ws false 4 [])]), (.agg [(.i .u8 2), (.s []), (.ws false 1 [(.s [101]), (.s [120])]), v7])])
def v9 : Box := (.cells 181 [(.i .u8 2), (.s []), (.ws false 1 [(.s [97]), (.s [100])]), v8])
def m1 : Ent := ⟨[(.agg [(.ifc 108 (.p 1 0)), (.s []), (.ws false 1 [(.s [97]), (.s [100, 47, 120])])]), (.s [100, 47, 120]), (.fn 192 [])], ⟨7, [v5, v5, v6, v0, v1, v3, v4], 0, [], 6⟩, (.i .i64 0), ⟨7, [v5, v5, v6, v0, v1, v9, v4], 0, [], 6⟩⟩
theorem k1 : m1.ok prog 191 := ent_ok [] 5000 trivial (by kernel_rfl)
def v10 : AV := (.tup [(.i .i64 1), (.s []), (.s [109, 107, 100, 105, 114, 58, 32, 97, 58, 32, 116, 104, 101, 114, 101, 32, 97, 108, 114, 101, 97, 100, 121, 10]), (.b true)])
def m2 : Ent := ⟨[(.ifc 108 (.p 1 0)), (.sl 1 [(.s [109, 107, 100, 105, 114]), (.s [97]), (.s [100, 47, 120])] .full)], ⟨2, [v3, v4], 0, [], 0⟩, v10, ⟨2, [v9, v4], 0, [], 0⟩⟩
theorem k2 : m2.ok prog 67 := ent_ok [(191, [m1]), (114, [m0])] 5000 ⟨⟨k1, trivial⟩, ⟨⟨k0, trivial⟩, trivial⟩⟩ (by kernel_rfl)
def v11 : Box := (.cells 151 [(.s [102, 114]), (.fn 155 []), (.fn 157 [])])
def m3 : Ent := ⟨[(.s [102, 114]), (.ws false 1 [(.s [45, 114, 102]), (.s [100, 47, 101]), (.s [122])]), (.i .i64 0), (.i .i64 4)], ⟨4, [v11, v1, v9, v4], 0, [], 2⟩, (.tup [(.agg [(.s [102, 114]), (.ws false 1 [(.s [100, 47, 101]), (.s [122])])]), (.i .i64 0)]), ⟨4, [v11, v1, v9, v4], 0, [], 2⟩⟩
theorem k3 : m3.ok prog 114 := ent_ok [] 5000 trivial (by kernel_rfl)
def v12 : Box := (.cells 160 [(.ifc 108 (.p 1 0)), (.s [102, 114]), (.ws false 1 [(.s [100, 47, 101]), (.s [122])])])
def v13 : Box := (.cells 156 [(.s [102, 114]), (.ws false 1 [(.s [100, 47, 101]), (.s [122])])])
def v14 : AV := (.agg [(.i .u8 2), (.s []), (.ws false 1 [(.s [120])]), (.ws false 4 [(.agg [(.i .u8 2), (.s []), (.ws false 1 []), (.ws false 4 [])])])])
def v15 : Box := (.cells 181 [(.i .u8 2), (.s []), (.ws false 1 [(.s [97]), (.s [100])]), (.ws false 4 [(.agg [(.i .u8 1), (.s [120]), (.ws false 1 []), (.ws false 4 [])]), v14])])
def m4 : Ent := ⟨[(.agg [(.ifc 108 (.p 1 0)), (.s [102, 114]), (.ws false 1 [(.s [100, 47, 101]), (.s [122])])]), (.s [100, 47, 101])], ⟨6, [v12, v13, v11, v1, v9, v4], 0, [], 2⟩, (.i .i64 0), ⟨6, [v12, v13, v11, v1, v15, v4], 0, [], 2⟩⟩
theorem k4 : m4.ok prog 157 := ent_ok [] 5000 trivial (by kernel_rfl)
def m5 : Ent := ⟨[], ⟨0, [], 0, [], 0⟩, (.b true), ⟨0, [], 0, [], 0⟩⟩
theorem k5 : m5.ok prog 30 := ent_ok [(114, [m3]), (157, [m4]), (67, [m2])] 5000 ⟨⟨k3, trivial⟩, ⟨⟨k4, trivial⟩, ⟨⟨k2, trivial⟩, trivial⟩⟩⟩ (by kernel_rfl)
theorem ev_law12awake : ∃ n s', (run prog n).call 30 [] s0 = some (.b true, s') := law_ev k5
end Go.Proofs.YtekhkkodgjfidaaGreatDoor
