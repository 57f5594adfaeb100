/-
  Closed functions that are told by their own runs. By program.
-/
import Derived.Test.YtkkfjoiffcmpeaaDoorLWalk2
import Derived.Test.YtkkfjoiffcmpeaaDoorAmRf
import Derived.Test.YtkkfjoiffcmpeaaDoorEtouchstonelaw14awake
set_option linter.all false
set_option linter.unusedVariables false
set_option linter.unusedSimpArgs false
set_option linter.unusedSectionVars false
set_option maxRecDepth 100000
namespace Go.Proofs.YtkkfjoiffcmpeaaDoor
open Go.Proofs.YtkkfjoiffcmpeaaDoor.Am Go.Proofs
theorem namesC_chk : namesChk Tryd.prog = true := by kernel_rfl
theorem mixedC : Tryd.prog.follows .mixedOrders = true := by kernel_rfl
theorem ctxC : Ctx Tryd.prog gt progC := ctx_of namesC_chk mixedC fnsC_ok
theorem primOk_touchstonelaw14_awake : PrimOk Tryd.prog gt 18 (pureP primTrue) := closed_ok (names_of namesC_chk) ctxC ⟨_, _, Tryd.func18, rfl⟩ (fun _ => rfl) ev_touchstonelaw14awake
end Go.Proofs.YtkkfjoiffcmpeaaDoor
