/-
  What variables and parts that are handed in read as. (Types' numbers: the seat of r6.)
-/
import Derived.Test.YtfpoihibfajhlaaDoorAmTyped
import Derived.Test.YtfpoihibfajhlaaDoorLExpand5
import Derived.Test.YtfpoihibfajhlaaDoorProg
import Derived.KernelRfl
set_option linter.all false
set_option linter.unusedVariables false
set_option linter.unusedSimpArgs false
set_option linter.unusedSectionVars false
set_option maxRecDepth 100000
namespace Go.Proofs.YtfpoihibfajhlaaDoor
open Go.Proofs.YtfpoihibfajhlaaDoor.Am Go.Proofs

theorem readable : readAll Tryd.prog [3, 4, 9, 22, 24, 25, 31, 37, 39] = true := by kernel_rfl
theorem rc9 : Tryd.prog.cellsOf 9 = 1 := by kernel_rfl
theorem rc31 : Tryd.prog.cellsOf 31 = 3 := by kernel_rfl

theorem read_vars {l : List AV} (h : Typed Tryd.prog 24 l) : ∃ x : VV, mkV Tryd.prog 24 l = x.av ∧ x.Ok ∧ (∀ l ∈ x.names, Txt l) ∧ (∀ l ∈ x.values, Txt l) ∧ ∀ l ∈ x.args, Txt l := by
  have hF := typed_struct Tryd.underlying24 h
  rw [mkV_struct Tryd.underlying24]
  obtain ⟨a, r, rfl, h1, hF⟩ := typedF_cons hF
  obtain ⟨b, r, rfl, h2, hF⟩ := typedF_cons hF
  obtain ⟨c, r, rfl, h3, hF⟩ := typedF_cons hF
  obtain ⟨d, r, rfl, h4, hF⟩ := typedF_cons hF
  obtain rfl := typedF_nil hF
  obtain ⟨A, rfl, a1, a2⟩ := typed_strs Tryd.underlying22 Tryd.underlying9 rc9 h1
  obtain ⟨B, rfl, b1, b2⟩ := typed_strs Tryd.underlying22 Tryd.underlying9 rc9 h2
  obtain ⟨C, rfl, c1, c2⟩ := typed_strs Tryd.underlying22 Tryd.underlying9 rc9 h3
  obtain ⟨n, rfl, hn⟩ := typed_int Tryd.underlying3 h4
  simp only [Lit.wf, Bool.and_eq_true, decide_eq_true_eq] at hn
  have e1 : IntKind.i64.min = -9223372036854775808 := rfl
  have e2 : IntKind.i64.max = 9223372036854775807 := rfl
  exact ⟨⟨A, B, C, n⟩, rfl, ⟨a1, b1, c1, by have := hn.1; simp only; omega, by have := hn.2; simp only; omega⟩, a2, b2, c2⟩
theorem read_part {l : List AV} (h : Typed Tryd.prog 31 l) : ∃ p : PP, mkV Tryd.prog 31 l = .agg p.cells ∧ Txt p.text := by
  have hF := typed_struct Tryd.underlying31 h
  rw [mkV_struct Tryd.underlying31]
  obtain ⟨a, r, rfl, h1, hF⟩ := typedF_cons hF
  obtain ⟨b, r, rfl, h2, hF⟩ := typedF_cons hF
  obtain ⟨c, r, rfl, h3, hF⟩ := typedF_cons hF
  obtain rfl := typedF_nil hF
  obtain ⟨x, rfl⟩ := typed_bool Tryd.underlying4 h1
  obtain ⟨y, rfl, hy⟩ := typed_str Tryd.underlying9 h2
  obtain ⟨z, rfl⟩ := typed_bool Tryd.underlying4 h3
  exact ⟨⟨x, y, z⟩, rfl, hy⟩
theorem read_parts {l : List AV} (h : Typed Tryd.prog 25 l) : ∃ ps : List PP, mkV Tryd.prog 25 l = .ws false 3 (ps.map fun p => .agg p.cells) ∧ ps.length < 2 ^ 63 ∧ ∀ p ∈ ps, Txt p.text := by
  obtain ⟨ls, rfl, h1, h2⟩ := typed_slice Tryd.underlying25 h
  obtain ⟨L, k1, k2, k3⟩ := typed_map (f := fun p : PP => AV.agg p.cells) (Q := fun p => Txt p.text) (fun l h => read_part h) ls h2
  refine ⟨L, ?_, by omega, k3⟩
  rw [mkV_one (fun fs hh => by rw [Tryd.underlying25] at hh; cases hh), k1, rc31]
theorem typed_parts {l : List AV} (h : Typed Tryd.prog 25 l) : ∃ ps : List PP, l = [partsA ps] ∧ ps.length < 2 ^ 63 ∧ ∀ p ∈ ps, Txt p.text := by
  obtain ⟨ps, h1, h2⟩ := read_parts h
  obtain ⟨ls, rfl, _, _⟩ := typed_slice Tryd.underlying25 h
  rw [mkV_one (fun fs hh => by rw [Tryd.underlying25] at hh; cases hh)] at h1
  exact ⟨ps, by rw [h1], h2⟩
theorem rc39 : Tryd.prog.cellsOf 39 = 2 := by kernel_rfl
theorem read_item {l : List AV} (h : Typed Tryd.prog 39 l) : ∃ x : II, mkV Tryd.prog 39 l = .agg x.cells ∧ (∀ p ∈ x.parts, Txt p.text) ∧ x.parts.length < 2 ^ 63 := by
  have hF := typed_struct Tryd.underlying39 h
  rw [mkV_struct Tryd.underlying39]
  obtain ⟨a, r, rfl, h1, hF⟩ := typedF_cons hF
  obtain ⟨b, r, rfl, h2, hF⟩ := typedF_cons hF
  obtain rfl := typedF_nil hF
  obtain ⟨ps, rfl, h4, h5⟩ := typed_parts h1
  obtain ⟨x, rfl⟩ := typed_bool Tryd.underlying4 h2
  exact ⟨⟨ps, x⟩, rfl, h5, h4⟩
theorem read_items {l : List AV} (h : Typed Tryd.prog 37 l) : ∃ its : List II, mkV Tryd.prog 37 l = itemsA its ∧ its.length < 2 ^ 63 ∧ ∀ y ∈ its, (∀ p ∈ y.parts, Txt p.text) ∧ y.parts.length < 2 ^ 63 := by
  obtain ⟨ls, rfl, h1, h2⟩ := typed_slice Tryd.underlying37 h
  obtain ⟨L, k1, k2, k3⟩ := typed_map (f := fun x : II => AV.agg x.cells) (Q := fun x => (∀ p ∈ x.parts, Txt p.text) ∧ x.parts.length < 2 ^ 63) (fun l h => read_item h) ls h2
  refine ⟨L, ?_, by omega, k3⟩
  rw [mkV_one (fun fs hh => by rw [Tryd.underlying37] at hh; cases hh), k1, rc39]
end Go.Proofs.YtfpoihibfajhlaaDoor
