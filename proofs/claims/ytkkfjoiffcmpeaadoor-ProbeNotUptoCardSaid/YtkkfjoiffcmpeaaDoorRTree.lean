/-
  What a node that is handed in reads as. (Types' numbers: the seat of r8.)
-/
import Derived.Test.YtkkfjoiffcmpeaaDoorAmTyped
import Derived.Test.YtkkfjoiffcmpeaaDoorLNot
import Derived.Test.YtkkfjoiffcmpeaaDoorProg
import Derived.KernelRfl
set_option linter.all false
set_option linter.unusedVariables false
set_option linter.unusedSimpArgs false
set_option linter.unusedSectionVars false
set_option maxRecDepth 100000
namespace Go.Proofs.YtkkfjoiffcmpeaaDoor
open Go.Proofs.YtkkfjoiffcmpeaaDoor.Am Go.Proofs
theorem readable : readAll Tryd.prog [3, 5, 9, 22, 23, 25] = true := by kernel_rfl
theorem rc9 : Tryd.prog.cellsOf 9 = 1 := by kernel_rfl
theorem rc25 : Tryd.prog.cellsOf 25 = 4 := by kernel_rfl
theorem ru23 : Tryd.prog.underlying 23 = some (.slice 25) := by kernel_rfl
theorem ru22 : Tryd.prog.underlying 22 = some (.slice 9) := by kernel_rfl
theorem ru9 : Tryd.prog.underlying 9 = some .string := by kernel_rfl
theorem ru5 : Tryd.prog.underlying 5 = some (.int .u8) := by kernel_rfl
theorem szL_strs : ∀ L : List (List Nat), szL (L.map AV.s) = (L.map fun l => 1 + l.length).sum
  | [] => rfl
  | a :: L => by simp only [List.map_cons, szL, szV, List.sum_cons, szL_strs L]; omega
theorem len_szL : ∀ L : List AV, L.length ≤ szL L
  | [] => Nat.le_refl _
  | a :: L => by
    have h1 : 1 ≤ szV a := by cases a <;> simp [szV]
    have := len_szL L
    simp only [List.length_cons, szL]; omega
theorem read_node : ∀ (m : Nat) {l : List AV}, szV (mkV Tryd.prog 25 l) ≤ m → m < 2 ^ 30 → Typed Tryd.prog 25 l → ∃ n : ND, mkV Tryd.prog 25 l = n.av ∧ n.Ok ∧ bulkN n ≤ szV (mkV Tryd.prog 25 l) := by
  intro m
  induction m with
  | zero =>
    intro l h _ ht
    rw [mkV_struct Tryd.underlying25] at h
    simp only [szV] at h; omega
  | succ m ih =>
    intro l h hm ht
    have hF := typed_struct Tryd.underlying25 ht
    rw [mkV_struct Tryd.underlying25] at h ⊢
    obtain ⟨a, r, rfl, h1, hF⟩ := typedF_cons hF
    obtain ⟨b, r, rfl, h2, hF⟩ := typedF_cons hF
    obtain ⟨c, r, rfl, h3, hF⟩ := typedF_cons hF
    obtain ⟨d, r, rfl, h4, hF⟩ := typedF_cons hF
    obtain rfl := typedF_nil hF
    obtain ⟨k, rfl, hk⟩ := typed_int ru5 h1
    obtain ⟨t, rfl, htx⟩ := typed_str ru9 h2
    obtain ⟨ns, rfl, hn1, hn2⟩ := typed_strs ru22 ru9 rc9 h3
    obtain ⟨ls, rfl, hl1, hl2⟩ := typed_slice ru23 h4
    simp only [Lit.wf, Bool.and_eq_true, decide_eq_true_eq] at hk
    have e1 : IntKind.u8.min = 0 := rfl
    have e2 : IntKind.u8.max = 255 := rfl
    rw [e1, e2] at hk
    rw [rc25] at h ⊢
    simp only [List.cons_append, List.nil_append, szV, szL, szL_strs] at h
    have key : ∀ ls : List (List AV), (∀ l ∈ ls, Typed Tryd.prog 25 l) → szL (ls.map (mkV Tryd.prog 25)) ≤ m → ∃ L : List ND, ls.map (mkV Tryd.prog 25) = L.map ND.av ∧ L.length = ls.length ∧ (∀ x ∈ L, x.Ok) ∧ (L.map bulkN).sum ≤ szL (ls.map (mkV Tryd.prog 25)) := by
      intro ls
      induction ls with
      | nil => intro _ _; exact ⟨[], rfl, rfl, by simp, by simp [szL]⟩
      | cons x ls il =>
        intro hx hs
        simp only [List.map_cons, szL] at hs
        obtain ⟨n, n1, n2, n3⟩ := ih (l := x) (by omega) (by omega) (hx x (by simp))
        obtain ⟨L, k1, k2, k3, k4⟩ := il (fun l hl => hx l (by simp [hl])) (by omega)
        refine ⟨n :: L, by simp [n1, k1], by simp [k2], fun y hy => ?_, by simp only [List.map_cons, List.sum_cons, szL]; omega⟩
        rcases List.mem_cons.1 hy with rfl | hy
        · exact n2
        · exact k3 y hy
    obtain ⟨L, k1, k2, k3, k4⟩ := key ls hl2 (by omega)
    have hnl := len_szL (ns.map AV.s)
    rw [szL_strs, List.length_map] at hnl
    have hll := len_szL (ls.map (mkV Tryd.prog 25))
    rw [List.length_map] at hll
    refine ⟨.mk k.toNat t ns L, ?_, .mk (by omega) htx (by omega) hn2 (by omega) (by omega) k3, ?_⟩
    · rw [ND.av_eq, k1]
      simp only [ND.cells, ND.kind, ND.text, ND.names, ND.kids, List.cons_append, List.nil_append]
      rw [show ((k.toNat : Nat) : Int) = k by omega]
    · rw [bulkN_eq]
      simp only [ND.text, ND.names, ND.kids, List.cons_append, List.nil_append, szV, szL, szL_strs]
      omega
theorem read_nodeC {l : List AV} {B : Nat} (hB : B < 2 ^ 30) (h : szV (mkV Tryd.prog 25 l) ≤ B) (ht : Typed Tryd.prog 25 l) : ∃ n : ND, mkV Tryd.prog 25 l = .agg n.cells ∧ n.Ok ∧ bulkN n ≤ B := by
  obtain ⟨n, h1, h2, h3⟩ := read_node _ (Nat.le_refl _) (by omega) ht
  exact ⟨n, by rw [h1, ND.av_eq], h2, by omega⟩
theorem read_nodeU {l : List AV} (h : szV (mkV Tryd.prog 25 l) ≤ 1048576) (ht : Typed Tryd.prog 25 l) : ∃ n : ND, mkV Tryd.prog 25 l = .agg n.cells ∧ n.Ok ∧ bulkN n ≤ 1048576 := read_nodeC (by decide) h ht
end Go.Proofs.YtkkfjoiffcmpeaaDoor
