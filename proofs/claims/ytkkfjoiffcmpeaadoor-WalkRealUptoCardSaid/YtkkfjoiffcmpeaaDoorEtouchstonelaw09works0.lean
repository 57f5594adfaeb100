/-
  The law's call on the abstract machine, cut into pieces. By program.
-/
import Derived.Test.YtkkfjoiffcmpeaaDoorFns
import Derived.Test.YtkkfjoiffcmpeaaDoorAmTyped
import Derived.KernelRfl
set_option linter.all false
set_option linter.unusedVariables false
set_option linter.unusedSimpArgs false
set_option linter.unusedSectionVars false
set_option maxRecDepth 100000
namespace Go.Proofs.YtkkfjoiffcmpeaaDoor
open Go.Proofs.YtkkfjoiffcmpeaaDoor.Am
def v0 : AV := (.agg [(.i .u8 2), (.s []), (.ws false 1 [(.s [102])]), (.ws false 4 [(.agg [(.i .u8 1), (.s []), (.ws false 1 []), (.ws false 4 [])])])])
def v1 : AV := (.ws false 4 [v0, (.agg [(.i .u8 3), (.s [100]), (.ws false 1 []), (.ws false 4 [])]), (.agg [(.i .u8 3), (.s [47, 108, 47, 102]), (.ws false 1 []), (.ws false 4 [])]), (.agg [(.i .u8 3), (.s [100, 47, 120]), (.ws false 1 []), (.ws false 4 [])]), (.agg [(.i .u8 3), (.s [111]), (.ws false 1 []), (.ws false 4 [])])])
def v2 : Box := (.cells 55 [(.i .u8 2), (.s []), (.ws false 1 [(.s [100]), (.s [108]), (.s [109]), (.s [110]), (.s [111])]), v1])
def v3 : Box := (.cells 25 [(.i .u8 2), (.s []), (.ws false 1 [(.s [100]), (.s [108]), (.s [109]), (.s [110]), (.s [111])]), v1])
def m0 : Ent := ⟨[(.ifc 28 (.p 1 0)), (.s [108, 47, 102]), (.b true)], ⟨2, [v2, v3], 0, [], 2⟩, (.tup [(.ws false 1 [(.s [100]), (.s [102])]), (.i .u8 1), (.i .i64 0)]), ⟨2, [v2, v3], 0, [], 2⟩⟩
theorem k0 : m0.ok progC 31 := ent_ok [] 5000 trivial (by kernel_rfl)
def v4 : Box := (.cells 72 [(.ifc 28 (.p 1 0)), .nsl, (.ws false 1 [(.s [109])]), (.b false), (.b true), (.i .i64 0)])
def v5 : Box := (.cells 72 [(.ifc 28 (.p 1 0)), (.ws false 1 [(.s [100]), (.s [102])]), (.sl 1 [] .shut), (.b false), (.b true), (.i .i64 2)])
def m1 : Ent := ⟨[(.p 2 0)], ⟨3, [v4, v2, v3], 0, [], 2⟩, (.tup [(.ws false 1 [(.s [100]), (.s [102])]), (.i .u8 1), (.i .i64 0)]), ⟨3, [v5, v2, v3], 1, [some ⟨2, 0, 2, some 9⟩], 2⟩⟩
theorem k1 : m1.ok progC 47 := ent_ok [] 5000 trivial (by kernel_rfl)
def v6 : Box := (.cells 72 [(.ifc 28 (.p 1 0)), .nsl, (.ws false 1 [(.s [109])]), (.b true), (.b true), (.i .i64 0)])
def v7 : Box := (.cells 72 [(.ifc 28 (.p 1 0)), (.ws false 1 [(.s [100])]), (.sl 1 [] .shut), (.b true), (.b true), (.i .i64 2)])
def m2 : Ent := ⟨[(.p 2 0)], ⟨3, [v6, v2, v3], 0, [], 2⟩, (.tup [(.ws false 1 []), (.i .u8 0), (.i .i64 55)]), ⟨3, [v7, v2, v3], 1, [some ⟨2, 0, 2, some 9⟩], 2⟩⟩
theorem k2 : m2.ok progC 47 := ent_ok [] 5000 trivial (by kernel_rfl)
def v8 : Box := (.cells 72 [(.ifc 28 (.p 1 0)), .nsl, (.ws false 1 [(.s [109])]), (.b true), (.b false), (.i .i64 0)])
def v9 : Box := (.cells 72 [(.ifc 28 (.p 1 0)), (.ws false 1 [(.s [100])]), (.sl 1 [] .shut), (.b true), (.b false), (.i .i64 2)])
def m3 : Ent := ⟨[(.p 2 0)], ⟨3, [v8, v2, v3], 0, [], 2⟩, (.tup [(.ws false 1 []), (.i .u8 0), (.i .i64 55)]), ⟨3, [v9, v2, v3], 1, [some ⟨2, 0, 2, some 9⟩], 2⟩⟩
theorem k3 : m3.ok progC 47 := ent_ok [] 5000 trivial (by kernel_rfl)
def v10 : Box := (.cells 72 [(.ifc 28 (.p 1 0)), .nsl, (.ws false 1 [(.s [111])]), (.b false), (.b true), (.i .i64 0)])
def v11 : Box := (.cells 72 [(.ifc 28 (.p 1 0)), .nsl, (.ws false 1 []), (.b false), (.b true), (.i .i64 9)])
def m4 : Ent := ⟨[(.p 2 0)], ⟨3, [v10, v2, v3], 0, [], 2⟩, (.tup [(.ws false 1 []), (.i .u8 0), (.i .i64 61)]), ⟨3, [v11, v2, v3], 0, [], 2⟩⟩
theorem k4 : m4.ok progC 47 := ent_ok [] 5000 trivial (by kernel_rfl)
def m5 : Ent := ⟨[(.ifc 28 (.p 1 0)), (.s [110]), (.b true)], ⟨2, [v2, v3], 0, [], 2⟩, (.tup [(.ws false 1 [(.s [100]), (.s [120])]), (.i .u8 0), (.i .i64 0)]), ⟨2, [v2, v3], 0, [], 2⟩⟩
theorem k5 : m5.ok progC 31 := ent_ok [] 5000 trivial (by kernel_rfl)
def m6 : Ent := ⟨[(.ifc 28 (.p 1 0)), (.s [110, 47, 121]), (.b true)], ⟨2, [v2, v3], 0, [], 2⟩, (.tup [(.ws false 1 []), (.i .u8 0), (.i .i64 5)]), ⟨2, [v2, v3], 0, [], 2⟩⟩
theorem k6 : m6.ok progC 31 := ent_ok [] 5000 trivial (by kernel_rfl)
def m7 : Ent := ⟨[(.ifc 28 (.p 1 0)), (.s [110, 47, 121]), (.b false)], ⟨2, [v2, v3], 0, [], 2⟩, (.tup [(.ws false 1 []), (.i .u8 0), (.i .i64 5)]), ⟨2, [v2, v3], 0, [], 2⟩⟩
theorem k7 : m7.ok progC 31 := ent_ok [] 5000 trivial (by kernel_rfl)
def m8 : Ent := ⟨[(.p 1 0), (.s [100, 47, 102, 47, 46, 46]), (.i .i64 55)], ⟨2, [v2, v3], 0, [], 0⟩, (.b true), ⟨2, [v2, v3], 0, [], 0⟩⟩
theorem k8 : m8.ok progC 28 := ent_ok [] 5000 trivial (by kernel_rfl)
def m9 : Ent := ⟨[], ⟨0, [], 0, [], 0⟩, (.b true), ⟨0, [], 0, [], 0⟩⟩
theorem k9 : m9.ok progC 6 := ent_ok [(28, [m8]), (31, [m6, m7, m5, m0]), (47, [m4, m2, m3, m1])] 5000 ⟨⟨k8, trivial⟩, ⟨⟨k6, ⟨k7, ⟨k5, ⟨k0, trivial⟩⟩⟩⟩, ⟨⟨k4, ⟨k2, ⟨k3, ⟨k1, trivial⟩⟩⟩⟩, trivial⟩⟩⟩ (by kernel_rfl)
theorem ev_touchstonelaw09works : ∃ n s', (run progC n).call 6 [] s0 = some (.b true, s') := law_ev k9
end Go.Proofs.YtkkfjoiffcmpeaaDoor
