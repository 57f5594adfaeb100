/-
  The law's call on the abstract machine.
-/
import Derived.Test.YtmeahkccilkofaaDoorFns
import Derived.Test.YtmeahkccilkofaaDoorAmLaw
import Derived.KernelRfl
set_option linter.all false
set_option linter.unusedVariables false
set_option linter.unusedSimpArgs false
set_option linter.unusedSectionVars false
set_option maxRecDepth 100000
namespace Go.Proofs.YtmeahkccilkofaaDoor
open Go.Proofs.YtmeahkccilkofaaDoor.Am
def isT : Option (AV × St) → Bool
  | some (.b true, _) => true
  | _ => false
theorem isT_some {o : Option (AV × St)} (h : isT o = true) : ∃ s', o = some (.b true, s') := by
  unfold isT at h
  split at h
  · exact ⟨_, rfl⟩
  · cases h
theorem ev_PathNames : ∃ n s', (run prog n).call f_touchstonelaw06_PathNames [] s0 = some (.b true, s') :=
  ⟨100, isT_some (by kernel_rfl)⟩
end Go.Proofs.YtmeahkccilkofaaDoor
