/-
  The abstract machine's functions are the dump's. By program.
-/
import Derived.Test.YtmeahkccilkofaaRows
import Derived.Test.YtmeahkccilkofaaAmSound
import Derived.Test.YtmeahkccilkofaaFns
set_option linter.all false
set_option linter.unusedVariables false
set_option linter.unusedSimpArgs false
set_option linter.unusedSectionVars false
set_option maxRecDepth 100000
namespace Go.Proofs.Ytmeahkccilkofaa
open Go.Proofs.Ytmeahkccilkofaa.Am Go.Proofs
def gt : Nat → Option (List AV) := fun _ => none
theorem l_touchstonelaw13_MovesWhy : compF Try.prog gt false false [] Try.f3 = some c_touchstonelaw13_MovesWhy := by kernel_rfl
theorem l_moves_Why : compF Try.prog gt false false [] Try.f5 = some c_moves_Why := by kernel_rfl
theorem l_touchstoneref13_Why : compF Try.prog gt false false [] Try.f6 = some c_touchstoneref13_Why := by kernel_rfl
theorem tab_ok : tab.All fun f fn => ∃ F pops raw, Try.prog.funcs[f]? = some F ∧ compF Try.prog gt fn.keep raw pops F = some fn :=
  ⟨⟨Try.f5, [], false, Try.func5, l_moves_Why⟩, ⟨⟨Try.f3, [], false, Try.func3, l_touchstonelaw13_MovesWhy⟩, trivial, trivial⟩, ⟨⟨Try.f6, [], false, Try.func6, l_touchstoneref13_Why⟩, trivial, trivial⟩⟩
theorem fns_ok : ∀ (f : Nat) (fn : Fun), prog f = some fn → ∃ F pops raw, Try.prog.funcs[f]? = some F ∧ compF Try.prog gt fn.keep raw pops F = some fn := fun f fn h => PT.all_get tab_ok h
end Go.Proofs.Ytmeahkccilkofaa
