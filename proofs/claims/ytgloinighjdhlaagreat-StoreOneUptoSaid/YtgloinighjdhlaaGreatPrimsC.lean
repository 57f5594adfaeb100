/-
  Closed functions that are told by their own runs. By program.
-/
import Derived.Test.YtgloinighjdhlaaGreatLPlace2
import Derived.Test.YtgloinighjdhlaaGreatAmKeep
import Derived.Test.YtgloinighjdhlaaGreatEtouchstonelaw22awake
set_option linter.all false
set_option linter.unusedVariables false
set_option linter.unusedSimpArgs false
set_option linter.unusedSectionVars false
set_option maxRecDepth 100000
namespace Go.Proofs.YtgloinighjdhlaaGreat
open Go.Proofs.YtgloinighjdhlaaGreat.Am Go.Proofs
theorem OB:Li Tryz.prog=true:=by kernel_rfl
theorem mixedC:Tryz.prog.follows .mixedOrders=true:=by kernel_rfl
theorem ctxC:Ctx Tryz.prog gt progC:=Ye OB mixedC bH
theorem F4:MT Tryz.prog gt 7 (Qt OD):=UD (SA OB) ctxC ⟨_,_,Tryz.func7,rfl⟩ Hc
end Go.Proofs.YtgloinighjdhlaaGreat
