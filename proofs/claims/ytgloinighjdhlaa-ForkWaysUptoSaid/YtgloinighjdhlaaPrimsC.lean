/-
  Closed functions that are told by their own runs. By program.
-/
import Derived.Test.YtgloinighjdhlaaLFo1
import Derived.Test.YtgloinighjdhlaaAmKeep
import Derived.Test.YtgloinighjdhlaaEtouchstonelaw24awake
set_option linter.all false
set_option linter.unusedVariables false
set_option linter.unusedSimpArgs false
set_option linter.unusedSectionVars false
set_option maxRecDepth 100000
namespace Go.Proofs.Ytgloinighjdhlaa
open Go.Proofs.Ytgloinighjdhlaa.Am Go.Proofs
theorem NL:Ko Try.prog=true:=by kernel_rfl
theorem mixedC:Try.prog.follows .mixedOrders=true:=by kernel_rfl
theorem ctxC:Ctx Try.prog gt progC:=Sp NL mixedC Ys
theorem FE:PrimOk Try.prog gt 8 (Pe NO):=SR (Nb NL) ctxC ⟨_,_,Try.func8,rfl⟩ Gj
end Go.Proofs.Ytgloinighjdhlaa
