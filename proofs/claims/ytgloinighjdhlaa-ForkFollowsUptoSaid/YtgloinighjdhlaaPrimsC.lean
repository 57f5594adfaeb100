/-
  Closed functions that are told by their own runs. By program.
-/
import Derived.Test.YtgloinighjdhlaaLFactD
import Derived.Test.YtgloinighjdhlaaAmKeep
import Derived.Test.YtgloinighjdhlaaEtouchstonelaw24awake
set_option linter.all false
set_option linter.unusedVariables false
set_option linter.unusedSimpArgs false
set_option linter.unusedSectionVars false
set_option maxRecDepth 100000
namespace Go.Proofs.Ytgloinighjdhlaa
open Go.Proofs.Ytgloinighjdhlaa.Am Go.Proofs
theorem namesC_chk : namesChk Try.prog = true := by kernel_rfl
theorem mixedC : Try.prog.follows .mixedOrders = true := by kernel_rfl
theorem ctxC : Ctx Try.prog gt progC := ctx_of namesC_chk mixedC fnsC_ok
theorem primOk_touchstonelaw24_awake : PrimOk Try.prog gt 8 (pureP primTrue) := closed_ok (names_of namesC_chk) ctxC ⟨_, _, Try.func8, rfl⟩ (fun _ => rfl) ev_touchstonelaw24awake
end Go.Proofs.Ytgloinighjdhlaa
