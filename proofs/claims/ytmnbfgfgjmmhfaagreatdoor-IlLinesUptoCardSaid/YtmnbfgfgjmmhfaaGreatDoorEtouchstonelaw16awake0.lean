/-
  The law's call on the abstract machine, cut into pieces. By program.
-/
import Derived.Test.YtmnbfgfgjmmhfaaGreatDoorFns
import Derived.Test.YtmnbfgfgjmmhfaaGreatDoorAmRg
import Derived.KernelRfl
set_option linter.all false
set_option linter.unusedVariables false
set_option linter.unusedSimpArgs false
set_option linter.unusedSectionVars false
set_option maxRecDepth 100000
namespace Go.Proofs.YtmnbfgfgjmmhfaaGreatDoor
open Go.Proofs.YtmnbfgfgjmmhfaaGreatDoor.Am
def v0 : AV := (.sl 2 [(.agg [(.sl 3 [(.agg [(.b false), (.s [101, 99, 104, 111]), (.b false)])] .full), (.b false)]), (.agg [(.sl 3 [(.agg [(.b true), (.s [120]), (.b false)])] .full), (.b true)])] .full)
def v1 : Box := (.cells 25 [(.i .u8 3), (.s []), v0, .nsl])
def v2 : AV := (.ws false 1 [(.s [99, 97, 108, 108, 32, 61, 56, 58, 98, 112, 52, 58, 101, 99, 104, 111, 32, 42, 53, 58, 118, 112, 49, 58, 120])])
def m0 : Ent := ⟨[(.agg [(.i .u8 3), (.s []), v0, .nsl])], ⟨1, [v1], 0, [], 0⟩, (.tup [v2, (.i .i64 0)]), ⟨1, [v1], 0, [], 0⟩⟩
theorem k0 : m0.ok progC 29 := S4 [] 5000 trivial (by kernel_rfl)
def m1 : Ent := ⟨[], ⟨0, [], 0, [], 0⟩, (.b true), ⟨0, [], 0, [], 0⟩⟩
theorem k1 : m1.ok progC 26 := S4 [(29, [m0])] 5000 ⟨⟨k0, trivial⟩, trivial⟩ (by kernel_rfl)
theorem Fg : ∃ n s', (run progC n).call 26 [] s0 = some (.b true, s') := VC k1
end Go.Proofs.YtmnbfgfgjmmhfaaGreatDoor
