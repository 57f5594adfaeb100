/-
  Closed functions that are told by their own runs. By program.
-/
import Derived.Test.YtbfgoopcnkeblaaGreatLTerm9
import Derived.Test.YtbfgoopcnkeblaaGreatAmKeep
import Derived.Test.YtbfgoopcnkeblaaGreatEtouchstonelaw25works
set_option linter.all false
set_option linter.unusedVariables false
set_option linter.unusedSimpArgs false
set_option linter.unusedSectionVars false
set_option maxRecDepth 100000
namespace Go.Proofs.YtbfgoopcnkeblaaGreat
open Go.Proofs.YtbfgoopcnkeblaaGreat.Am Go.Proofs
theorem NY : LF Tryz.prog = true := by kernel_rfl
theorem mixedC : Tryz.prog.follows .mixedOrders = true := by kernel_rfl
theorem ctxC : Ctx Tryz.prog gt progC := XN NY mixedC ZO
theorem Fh : JK Tryz.prog gt 6 (QP Nd) := S4 (RC NY) ctxC ⟨_, _, Tryz.func6, rfl⟩ (fun _ => rfl) HH
end Go.Proofs.YtbfgoopcnkeblaaGreat
