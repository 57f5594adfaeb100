/-
  Closed functions that are told by their own runs. By program.
-/
import Derived.Test.YtgloinighjdhlaaGreatLOrder
import Derived.Test.YtgloinighjdhlaaGreatAmKeep
import Derived.Test.YtgloinighjdhlaaGreatEtouchstonelaw24awake
set_option linter.all false
set_option linter.unusedVariables false
set_option linter.unusedSimpArgs false
set_option linter.unusedSectionVars false
set_option maxRecDepth 100000
namespace Go.Proofs.YtgloinighjdhlaaGreat
open Go.Proofs.YtgloinighjdhlaaGreat.Am Go.Proofs
theorem Oj:L6 Tryz.prog=true:=by kernel_rfl
theorem mixedC:Tryz.prog.follows .mixedOrders=true:=by kernel_rfl
theorem ctxC:Ctx Tryz.prog gt progC:=VA Oj mixedC cX
theorem GB:PrimOk Tryz.prog gt 22 (Rh On):=Uo (O4 Oj) ctxC ⟨_,_,Tryz.func22,rfl⟩ Hj
end Go.Proofs.YtgloinighjdhlaaGreat
