/-
  Closed functions that are told by their own runs. By program.
-/
import Derived.Test.YtmnbfgfgjmmhfaaGreatDoorLAll4
import Derived.Test.YtmnbfgfgjmmhfaaGreatDoorAmKeep
import Derived.Test.YtmnbfgfgjmmhfaaGreatDoorEtouchstonelaw16awake
set_option linter.all false
set_option linter.unusedVariables false
set_option linter.unusedSimpArgs false
set_option linter.unusedSectionVars false
set_option maxRecDepth 100000
namespace Go.Proofs.YtmnbfgfgjmmhfaaGreatDoor
open Go.Proofs.YtmnbfgfgjmmhfaaGreatDoor.Am Go.Proofs
theorem Nb:Lo Tryz.prog=true:=by kernel_rfl
theorem mixedC:Tryz.prog.follows .mixedOrders=true:=by kernel_rfl
theorem ctxC:Ctx Tryz.prog gt progC:=Wi Nb mixedC Yr
theorem Fg:FX Tryz.prog gt 26 (Ks Nf):=Sr (Qo Nb) ctxC ⟨_,_,Tryz.func26,rfl⟩ HO
end Go.Proofs.YtmnbfgfgjmmhfaaGreatDoor
