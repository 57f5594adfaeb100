/-
  Closed functions that are told by their own runs. By program.
-/
import Derived.Test.YtmnbfgfgjmmhfaaGreatDoorLRowN
import Derived.Test.YtmnbfgfgjmmhfaaGreatDoorAmPrim
import Derived.Test.YtmnbfgfgjmmhfaaGreatDoorEtouchstonelaw16awake
set_option linter.all false
set_option linter.unusedVariables false
set_option linter.unusedSimpArgs false
set_option linter.unusedSectionVars false
set_option maxRecDepth 100000
namespace Go.Proofs.YtmnbfgfgjmmhfaaGreatDoor
open Go.Proofs.YtmnbfgfgjmmhfaaGreatDoor.Am Go.Proofs
theorem Ky : Iw Tryz.prog = true := by kernel_rfl
theorem mixedC : Tryz.prog.follows .mixedOrders = true := by kernel_rfl
theorem ctxC : Ctx Tryz.prog gt progC := S3 Ky mixedC Uz
theorem EE : D8 Tryz.prog gt 26 (Ho K3) := PU (Nm Ky) ctxC ⟨_, _, Tryz.func26, rfl⟩ Fg
end Go.Proofs.YtmnbfgfgjmmhfaaGreatDoor
