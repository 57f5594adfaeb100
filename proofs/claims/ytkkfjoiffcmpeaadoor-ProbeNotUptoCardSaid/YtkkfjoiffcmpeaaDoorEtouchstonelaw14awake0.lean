/-
  The law's call on the abstract machine, cut into pieces. By program.
-/
import Derived.Test.YtkkfjoiffcmpeaaDoorFns
import Derived.Test.YtkkfjoiffcmpeaaDoorAmTyped
import Derived.KernelRfl
set_option linter.all false
set_option linter.unusedVariables false
set_option linter.unusedSimpArgs false
set_option linter.unusedSectionVars false
set_option maxRecDepth 100000
namespace Go.Proofs.YtkkfjoiffcmpeaaDoor
open Go.Proofs.YtkkfjoiffcmpeaaDoor.Am
def vp0 : AV := (.ws false 4 [(.agg [(.i .u8 1), (.s [120]), (.ws false 1 []), (.ws false 4 [])]), (.agg [(.i .u8 2), (.s []), (.ws false 1 []), (.ws false 4 [])]), (.agg [(.i .u8 3), (.s [100]), (.ws false 1 []), (.ws false 4 [])])])
def vp1 : Box := (.cells 55 [(.i .u8 2), (.s []), (.ws false 1 [(.s [97]), (.s [100]), (.s [108])]), vp0])
def vp2 : Box := (.cells 25 [(.i .u8 2), (.s []), (.ws false 1 [(.s [97]), (.s [100]), (.s [108])]), vp0])
def mp0 : Ent := ⟨[(.ifc 28 (.p 1 0)), (.ws false 1 [(.s [45, 100]), (.s [108])])], ⟨2, [vp1, vp2], 0, [], 2⟩, (.tup [(.b true), (.b true)]), ⟨2, [vp1, vp2], 0, [], 2⟩⟩
theorem kp0 : mp0.ok progC 19 := ent_ok [] 5000 trivial (by kernel_rfl)
def mp1 : Ent := ⟨[], ⟨0, [], 0, [], 0⟩, (.b true), ⟨0, [], 0, [], 0⟩⟩
theorem kp1 : mp1.ok progC 18 := ent_ok [(19, [mp0])] 5000 ⟨⟨kp0, trivial⟩, trivial⟩ (by kernel_rfl)
theorem ev_touchstonelaw14awake : ∃ n s', (run progC n).call 18 [] s0 = some (.b true, s') := law_ev kp1
end Go.Proofs.YtkkfjoiffcmpeaaDoor
