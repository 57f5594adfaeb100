/-
  What bytes that are handed in read as. (Types' numbers: the seat of r7.)
-/
import Derived.Test.YtfaodjpibdhdjaaDoorAmTyped
import Derived.Test.YtfaodjpibdhdjaaDoorLCleans2
import Derived.Test.YtfaodjpibdhdjaaDoorProg
import Derived.KernelRfl
set_option linter.all false
set_option linter.unusedVariables false
set_option linter.unusedSimpArgs false
set_option linter.unusedSectionVars false
set_option maxRecDepth 100000
namespace Go.Proofs.YtfaodjpibdhdjaaDoor
open Go.Proofs.YtfaodjpibdhdjaaDoor.Am Go.Proofs

theorem readable : readAll Tryd.prog [5, 9, 22, 23] = true := by kernel_rfl
theorem rc5 : Tryd.prog.cellsOf 5 = 1 := by kernel_rfl
theorem read_byte {l : List AV} (h : Typed Tryd.prog 5 l) : ∃ n : Nat, mkV Tryd.prog 5 l = .i .u8 (n : Int) ∧ n < 256 := by
  obtain ⟨n, rfl, hn⟩ := typed_int Tryd.underlying5 h
  simp only [Lit.wf, Bool.and_eq_true, decide_eq_true_eq] at hn
  have e1 : IntKind.u8.min = 0 := rfl
  have e2 : IntKind.u8.max = 255 := rfl
  have h0 : 0 ≤ n := by have := hn.1; omega
  have h1 : n ≤ 255 := by have := hn.2; omega
  refine ⟨n.toNat, ?_, by omega⟩
  rw [mkV_one (fun fs hh => by rw [Tryd.underlying5] at hh; cases hh), show ((n.toNat : Nat) : Int) = n by omega]
theorem read_bytes {l : List AV} (h : Typed Tryd.prog 23 l) : ∃ T : List Nat, mkV Tryd.prog 23 l = byA T ∧ (∀ n ∈ T, n < 256) ∧ T.length < 2 ^ 63 := by
  obtain ⟨ls, rfl, h1, h2⟩ := typed_slice Tryd.underlying23 h
  obtain ⟨L, k1, k2, k3⟩ := typed_map (f := fun n : Nat => AV.i .u8 (n : Int)) (Q := fun n => n < 256) (fun l h => read_byte h) ls h2
  refine ⟨L, ?_, k3, by omega⟩
  rw [mkV_one (fun fs hh => by rw [Tryd.underlying23] at hh; cases hh), k1, rc5]
end Go.Proofs.YtfaodjpibdhdjaaDoor
