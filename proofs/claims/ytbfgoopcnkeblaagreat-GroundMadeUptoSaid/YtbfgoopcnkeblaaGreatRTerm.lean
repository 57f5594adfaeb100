/-
  What a node and a term that are handed in read as. (Types' numbers: the seat of r10, .Z.)
-/
import Derived.Test.YtbfgoopcnkeblaaGreatAmRg
import Derived.Test.YtbfgoopcnkeblaaGreatLTermE
import Derived.Test.YtbfgoopcnkeblaaGreatProg
import Derived.KernelRfl
set_option linter.all false
set_option linter.unusedVariables false
set_option linter.unusedSimpArgs false
set_option linter.unusedSectionVars false
set_option maxRecDepth 100000
namespace Go.Proofs.YtbfgoopcnkeblaaGreat
open Go.Proofs.YtbfgoopcnkeblaaGreat.Am Go.Proofs
theorem PW : N0 Tryz.prog [3, 4, 5, 9, 23, 28, 30, 32, 34] = true := by kernel_rfl
theorem rc9 : Tryz.prog.cellsOf 9 = 1 := by kernel_rfl
theorem rc34 : Tryz.prog.cellsOf 34 = 6 := by kernel_rfl
theorem ru32 : Tryz.prog.underlying 32 = some (.slice 34) := by kernel_rfl
theorem ru23 : Tryz.prog.underlying 23 = some (.slice 9) := by kernel_rfl
theorem ru9 : Tryz.prog.underlying 9 = some .string := by kernel_rfl
theorem ru5 : Tryz.prog.underlying 5 = some (.int .u8) := by kernel_rfl
theorem ru3 : Tryz.prog.underlying 3 = some (.int .i64) := by kernel_rfl
theorem Vm (a : AV) : 1 ≤ szV a := by cases a <;> simp [szV]
theorem GF : ∀ L : List (List Nat), szL (L.map AV.s) = (L.map fun l => 1 + l.length).sum
 | [] => rfl
 | a :: L => by simp only [List.map_cons, szL, szV, List.sum_cons, GF L]; omega
theorem Kv : ∀ L : List AV, L.length ≤ szL L
 | [] => Nat.le_refl _
 | a :: L => by
   have h1 := Vm a
   have := Kv L
   simp only [List.length_cons, szL]; omega
theorem rc30 : Tryz.prog.cellsOf 30 = 4 := by kernel_rfl
theorem ru28 : Tryz.prog.underlying 28 = some (.slice 30) := by kernel_rfl
theorem R8 : ∀ (m : Nat) {l : List AV}, szV (mkV Tryz.prog 30 l) ≤ m → m < 2 ^ 30 → Typed Tryz.prog 30 l → ∃ n : ND, mkV Tryz.prog 30 l = n.av ∧ n.Ok ∧ Fe n ≤ szV (mkV Tryz.prog 30 l) := by
 intro m
 induction m with
 | zero =>
   intro l h _ ht
   rw [Dm Tryz.underlying30] at h
   simp only [szV] at h; omega
 | succ m ih =>
   intro l h hm ht
   have hF := JR Tryz.underlying30 ht
   rw [Dm Tryz.underlying30] at h ⊢
   obtain ⟨a, r, rfl, h1, hF⟩ := Cd hF
   obtain ⟨b, r, rfl, h2, hF⟩ := Cd hF
   obtain ⟨c, r, rfl, h3, hF⟩ := Cd hF
   obtain ⟨d, r, rfl, h4, hF⟩ := Cd hF
   obtain rfl := Lb hF
   obtain ⟨k, rfl, hk⟩ := Ib ru5 h1
   obtain ⟨t, rfl, htx⟩ := Ke ru9 h2
   obtain ⟨ns, rfl, hn1, hn2⟩ := Lc ru23 ru9 rc9 h3
   obtain ⟨ls, rfl, hl1, hl2⟩ := Hn ru28 h4
   simp only [Lit.wf, Bool.and_eq_true, decide_eq_true_eq] at hk
   have e1 : IntKind.u8.min = 0 := rfl
   have e2 : IntKind.u8.max = 255 := rfl
   rw [e1, e2] at hk
   rw [rc30] at h ⊢
   simp only [List.cons_append, List.nil_append, szV, szL, GF] at h
   have key : ∀ ls : List (List AV), (∀ l ∈ ls, Typed Tryz.prog 30 l) → szL (ls.map (mkV Tryz.prog 30)) ≤ m → ∃ L : List ND, ls.map (mkV Tryz.prog 30) = L.map ND.av ∧ L.length = ls.length ∧ (∀ x ∈ L, x.Ok) ∧ (L.map Fe).sum ≤ szL (ls.map (mkV Tryz.prog 30)) := by
    intro ls
    induction ls with
    | nil => intro _ _; exact ⟨[], rfl, rfl, by simp, by simp [szL]⟩
    | cons x ls il =>
      intro hx hs
      simp only [List.map_cons, szL] at hs
      obtain ⟨n, n1, n2, n3⟩ := ih (l := x) (by omega) (by omega) (hx x (by simp))
      obtain ⟨L, k1, k2, k3, k4⟩ := il (fun l hl => hx l (by simp [hl])) (by omega)
      refine ⟨n :: L, by simp [n1, k1], by simp [k2], fun y hy => ?_, by simp only [List.map_cons, List.sum_cons, szL]; omega⟩
      rcases List.mem_cons.1 hy with rfl | hy
      · exact n2
      · exact k3 y hy
   obtain ⟨L, k1, k2, k3, k4⟩ := key ls hl2 (by omega)
   have hnl := Kv (ns.map AV.s)
   rw [GF, List.length_map] at hnl
   have hll := Kv (ls.map (mkV Tryz.prog 30))
   rw [List.length_map] at hll
   refine ⟨.mk k.toNat t ns L, ?_, .mk (by omega) htx (by omega) hn2 (by omega) (by omega) k3, ?_⟩
   · rw [ND.av_eq, k1]
     simp only [ND.cells, ND.kind, ND.text, ND.names, ND.kids, List.cons_append, List.nil_append]
     rw [show ((k.toNat : Nat) : Int) = k by omega]
   · rw [PV]
     simp only [ND.text, ND.names, ND.kids, List.cons_append, List.nil_append, szV, szL, GF]
     omega
theorem QC {l : List AV} {B : Nat} (hB : B < 2 ^ 30) (h : szV (mkV Tryz.prog 30 l) ≤ B) (ht : Typed Tryz.prog 30 l) : ∃ n : ND, mkV Tryz.prog 30 l = .agg n.cells ∧ n.Ok ∧ Fe n ≤ B := by
 obtain ⟨n, h1, h2, h3⟩ := R8 _ (Nat.le_refl _) (by omega) ht
 exact ⟨n, by rw [h1, ND.av_eq], h2, by omega⟩
theorem QD {l : List AV} (h : szV (mkV Tryz.prog 30 l) ≤ 1048576) (ht : Typed Tryz.prog 30 l) : ∃ n : ND, mkV Tryz.prog 30 l = .agg n.cells ∧ n.Ok ∧ Fe n ≤ 1048576 := QC (by decide) h ht
theorem R9 : ∀ (m : Nat) {l : List AV}, szV (mkV Tryz.prog 34 l) ≤ m → m < 2 ^ 30 → Typed Tryz.prog 34 l → ∃ n : TD, mkV Tryz.prog 34 l = n.av ∧ n.Ok ∧ Fc n ≤ szV (mkV Tryz.prog 34 l) := by
 intro m
 induction m with
 | zero =>
   intro l h _ ht
   rw [Dm Tryz.underlying34] at h
   simp only [szV] at h; omega
 | succ m ih =>
   intro l h hm ht
   have hF := JR Tryz.underlying34 ht
   rw [Dm Tryz.underlying34] at h ⊢
   obtain ⟨a0, r, rfl, h01, hF⟩ := Cd hF
   obtain ⟨a, r, rfl, h1, hF⟩ := Cd hF
   obtain ⟨b, r, rfl, h2, hF⟩ := Cd hF
   obtain ⟨c0, r, rfl, h03, hF⟩ := Cd hF
   obtain ⟨c, r, rfl, h3, hF⟩ := Cd hF
   obtain ⟨d, r, rfl, h4, hF⟩ := Cd hF
   obtain rfl := Lb hF
   obtain ⟨rr, rfl, _⟩ := Ib ru3 h01
   obtain ⟨k, rfl, hk⟩ := Ib ru5 h1
   obtain ⟨t, rfl, htx⟩ := Ke ru9 h2
   obtain ⟨bb, rfl, _⟩ := Ib ru3 h03
   obtain ⟨ns, rfl, hn1, hn2⟩ := Lc ru23 ru9 rc9 h3
   obtain ⟨ls, rfl, hl1, hl2⟩ := Hn ru32 h4
   simp only [Lit.wf, Bool.and_eq_true, decide_eq_true_eq] at hk
   have e1 : IntKind.u8.min = 0 := rfl
   have e2 : IntKind.u8.max = 255 := rfl
   rw [e1, e2] at hk
   rw [rc34] at h ⊢
   simp only [List.cons_append, List.nil_append, szV, szL, GF] at h
   have key : ∀ ls : List (List AV), (∀ l ∈ ls, Typed Tryz.prog 34 l) → szL (ls.map (mkV Tryz.prog 34)) ≤ m → ∃ L : List TD, ls.map (mkV Tryz.prog 34) = L.map TD.av ∧ L.length = ls.length ∧ (∀ x ∈ L, x.Ok) ∧ (L.map Fc).sum ≤ szL (ls.map (mkV Tryz.prog 34)) := by
    intro ls
    induction ls with
    | nil => intro _ _; exact ⟨[], rfl, rfl, by simp, by simp [szL]⟩
    | cons x ls il =>
      intro hx hs
      simp only [List.map_cons, szL] at hs
      obtain ⟨n, n1, n2, n3⟩ := ih (l := x) (by omega) (by omega) (hx x (by simp))
      obtain ⟨L, k1, k2, k3, k4⟩ := il (fun l hl => hx l (by simp [hl])) (by omega)
      refine ⟨n :: L, by simp [n1, k1], by simp [k2], fun y hy => ?_, by simp only [List.map_cons, List.sum_cons, szL]; omega⟩
      rcases List.mem_cons.1 hy with rfl | hy
      · exact n2
      · exact k3 y hy
   obtain ⟨L, k1, k2, k3, k4⟩ := key ls hl2 (by omega)
   have hnl := Kv (ns.map AV.s)
   rw [GF, List.length_map] at hnl
   have hll := Kv (ls.map (mkV Tryz.prog 34))
   rw [List.length_map] at hll
   refine ⟨.mk rr k.toNat t bb ns L, ?_, .mk (by omega) htx (by omega) hn2 (by omega) (by omega) k3, ?_⟩
   · rw [TD.av_eq, k1]
     simp only [TD.cells, TD.ref, TD.base, TD.kind, TD.text, TD.names, TD.kids, List.cons_append, List.nil_append]
     rw [show ((k.toNat : Nat) : Int) = k by omega]
   · rw [PM]
     simp only [TD.text, TD.names, TD.kids, List.cons_append, List.nil_append, szV, szL, GF]
     omega
theorem QE {l : List AV} {B : Nat} (hB : B < 2 ^ 30) (h : szV (mkV Tryz.prog 34 l) ≤ B) (ht : Typed Tryz.prog 34 l) : ∃ n : TD, mkV Tryz.prog 34 l = .agg n.cells ∧ n.Ok ∧ Fc n ≤ B := by
 obtain ⟨n, h1, h2, h3⟩ := R9 _ (Nat.le_refl _) (by omega) ht
 exact ⟨n, by rw [h1, TD.av_eq], h2, by omega⟩
theorem QF {l : List AV} (h : szV (mkV Tryz.prog 34 l) ≤ 1048576) (ht : Typed Tryz.prog 34 l) : ∃ n : TD, mkV Tryz.prog 34 l = .agg n.cells ∧ n.Ok ∧ Fc n ≤ 1048576 := QE (by decide) h ht
end Go.Proofs.YtbfgoopcnkeblaaGreat
