/-
  Closed functions that are told by their own runs. By program.
-/
import Derived.Test.YtmnbfgfgjmmhfaaGreatDoorLIlP1
import Derived.Test.YtmnbfgfgjmmhfaaGreatDoorAmKeep
import Derived.Test.YtmnbfgfgjmmhfaaGreatDoorEtouchstonelaw16awake
set_option linter.all false
set_option linter.unusedVariables false
set_option linter.unusedSimpArgs false
set_option linter.unusedSectionVars false
set_option maxRecDepth 100000
namespace Go.Proofs.YtmnbfgfgjmmhfaaGreatDoor
open Go.Proofs.YtmnbfgfgjmmhfaaGreatDoor.Am Go.Proofs
theorem L9 : Jz Tryz.prog = true := by kernel_rfl
theorem mixedC : Tryz.prog.follows .mixedOrders = true := by kernel_rfl
theorem ctxC : Ctx Tryz.prog gt progC := T1 L9 mixedC Vs
theorem E7 : F3 Tryz.prog gt 26 (OB MD) := QT (Ot L9) ctxC ⟨_, _, Tryz.func26, rfl⟩ (fun _ => rfl) GW
end Go.Proofs.YtmnbfgfgjmmhfaaGreatDoor
