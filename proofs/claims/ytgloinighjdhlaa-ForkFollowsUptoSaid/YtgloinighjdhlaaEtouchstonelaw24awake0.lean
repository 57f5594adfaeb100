/-
  The law's call on the abstract machine, cut into pieces. By program.
-/
import Derived.Test.YtgloinighjdhlaaFns
import Derived.Test.YtgloinighjdhlaaAmHpI
import Derived.KernelRfl
set_option linter.all false
set_option linter.unusedVariables false
set_option linter.unusedSimpArgs false
set_option linter.unusedSectionVars false
set_option maxRecDepth 100000
namespace Go.Proofs.Ytgloinighjdhlaa
open Go.Proofs.Ytgloinighjdhlaa.Am
def v0 : AV := (.sl 6 [(.agg [(.b true), (.i .u8 2), (.sl 1 [(.s [97])] .full), (.sl 1 [(.i .i64 1)] .full), (.i .i64 0), (.i .i64 0)]), (.agg [(.b false), (.i .u8 0), .nsl, .nsl, (.i .i64 0), (.i .i64 0)])] .full)
def v1 : AV := (.ws false 6 [(.agg [(.b true), (.i .u8 2), (.ws false 1 [(.s [97])]), (.ws false 1 [(.i .i64 1)]), (.i .i64 0), (.i .i64 0)]), (.agg [(.b true), (.i .u8 0), (.ws false 1 []), (.ws false 1 []), (.i .i64 0), (.i .i64 0)])])
def v2 : AV := (.ws false 6 [(.agg [(.b true), (.i .u8 2), (.ws false 1 [(.s [97])]), (.ws false 1 [(.i .i64 1)]), (.i .i64 0), (.i .i64 0)]), (.agg [(.b true), (.i .u8 1), (.ws false 1 []), (.ws false 1 []), (.i .i64 0), (.i .i64 0)])])
def v3 : AV := (.ws false 6 [(.agg [(.b true), (.i .u8 2), (.ws false 1 [(.s [97])]), (.ws false 1 [(.i .i64 1)]), (.i .i64 0), (.i .i64 0)]), (.agg [(.b true), (.i .u8 2), (.ws false 1 []), (.ws false 1 []), (.i .i64 0), (.i .i64 0)])])
def m0 : Ent := ⟨[v0, (.agg [(.i .i64 1), (.b false)]), (.b false)], ⟨0, [], 0, [], 0⟩, (.tup [(.ws false 1 [v1, v2, v3]), (.i .i64 0)]), ⟨0, [], 0, [], 0⟩⟩
theorem k0 : m0.ok progC 9 := ent_ok [] 5000 trivial (by kernel_rfl)
def v4 : AV := (.sl 6 [(.agg [(.b true), (.i .u8 2), (.ws false 1 [(.s [97])]), (.ws false 1 [(.i .i64 1)]), (.i .i64 0), (.i .i64 0)]), (.agg [(.b false), (.i .u8 0), (.ws false 1 []), (.ws false 1 []), (.i .i64 0), (.i .i64 0)])] .shut)
def v5 : Box := (.cells 30 [(.i .i64 1), (.b false)])
def m1 : Ent := ⟨[v4, (.agg [(.i .i64 1), (.b false)]), (.b false)], ⟨1, [v5], 1, [some ⟨2, 0, 2, some 60⟩], 0⟩, (.tup [(.ws false 1 [v1, v2, v3]), (.i .i64 0)]), ⟨1, [v5], 1, [some ⟨2, 0, 2, some 60⟩], 0⟩⟩
theorem k1 : m1.ok progC 9 := ent_ok [] 5000 trivial (by kernel_rfl)
def m2 : Ent := ⟨[], ⟨0, [], 0, [], 0⟩, (.b true), ⟨0, [], 0, [], 0⟩⟩
theorem k2 : m2.ok progC 8 := ent_ok [(9, [m1, m0])] 5000 ⟨⟨k1, ⟨k0, trivial⟩⟩, trivial⟩ (by kernel_rfl)
theorem ev_touchstonelaw24awake : ∃ n s', (run progC n).call 8 [] s0 = some (.b true, s') := law_ev k2
end Go.Proofs.Ytgloinighjdhlaa
