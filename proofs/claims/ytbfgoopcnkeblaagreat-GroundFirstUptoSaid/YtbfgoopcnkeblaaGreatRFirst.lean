/-
  What facts, splits and numbers that are handed in read as. (Types' numbers: the seat r10 .Z.)
-/
import Derived.Test.YtbfgoopcnkeblaaGreatAmRg
import Derived.Test.YtbfgoopcnkeblaaGreatLTerm9
import Derived.Test.YtbfgoopcnkeblaaGreatProg
import Derived.KernelRfl
set_option linter.all false
set_option linter.unusedVariables false
set_option linter.unusedSimpArgs false
set_option linter.unusedSectionVars false
set_option maxRecDepth 100000
namespace Go.Proofs.YtbfgoopcnkeblaaGreat
open Go.Proofs.YtbfgoopcnkeblaaGreat.Am Go.Proofs
theorem OX : Qd Tryz.prog [3, 4, 5, 9, 23, 24, 26, 27, 28, 30] = true := by kernel_rfl
theorem rc9 : Tryz.prog.cellsOf 9 = 1 := by kernel_rfl
theorem rc3 : Tryz.prog.cellsOf 3 = 1 := by kernel_rfl
theorem rc26 : Tryz.prog.cellsOf 26 = 6 := by kernel_rfl
theorem ru27 : Tryz.prog.underlying 27 = some (.slice 26) := by kernel_rfl
theorem ru24 : Tryz.prog.underlying 24 = some (.slice 3) := by kernel_rfl
theorem ru23 : Tryz.prog.underlying 23 = some (.slice 9) := by kernel_rfl
theorem ru9 : Tryz.prog.underlying 9 = some .string := by kernel_rfl
theorem ru5 : Tryz.prog.underlying 5 = some (.int .u8) := by kernel_rfl
theorem ru3 : Tryz.prog.underlying 3 = some (.int .i64) := by kernel_rfl
theorem ru4 : Tryz.prog.underlying 4 = some .bool := by kernel_rfl
theorem ZQ (a : AV) : 1 ≤ szV a := by cases a <;> simp [szV]
theorem LQ : ∀ L : List (List Nat), szL (L.map AV.s) = (L.map fun l => 1 + l.length).sum
 | [] => rfl
 | a :: L => by simp only [List.map_cons, szL, szV, List.sum_cons, LQ L]; omega
theorem KY : ∀ L : List AV, L.length ≤ szL L
 | [] => Nat.le_refl _
 | a :: L => by
   have h1 := ZQ a
   have := KY L
   simp only [List.length_cons, szL]; omega
theorem Vg {a : AV} : ∀ {L : List AV}, a ∈ L → szV a ≤ szL L
 | [], h => by simp at h
 | b :: L, h => by
   simp only [szL]
   rcases List.mem_cons.1 h with rfl | h
   · omega
   · have := Vg h; omega
theorem Sx {P : Program} {t e : Nat} {l : List AV} (hu : P.underlying t = some (.slice e)) (he : P.underlying e = some (.int .i64)) (hc : P.cellsOf e = 1) (h : Typed P t l) : ∃ L : List Int, l = [zx L] := by
 obtain ⟨ls, rfl, h1, h2⟩ := HG hu h
 obtain ⟨L, k1, k2, k3⟩ := L6 (f := iv) (Q := fun _ => True) (fun l h => by
  obtain ⟨x, rfl, hx⟩ := Hn he h
  exact ⟨x, J4 (fun fs hh => by rw [he] at hh; cases hh) _, trivial⟩) ls h2
 exact ⟨L, by rw [hc, k1]; rfl⟩
theorem Vh {l : List AV} (h : szV (mkV Tryz.prog 26 l) < 2 ^ 30) (ht : Typed Tryz.prog 26 l) : ∃ f : FT, mkV Tryz.prog 26 l = f.av ∧ f.Ok ∧ f.kids.length ≤ szV (mkV Tryz.prog 26 l) := by
 have hF := Kf Tryz.underlying26 ht
 rw [E2 Tryz.underlying26] at h ⊢
 obtain ⟨a, r, rfl, h1, hF⟩ := C4 hF
 obtain ⟨b, r, rfl, h2, hF⟩ := C4 hF
 obtain ⟨c, r, rfl, h3, hF⟩ := C4 hF
 obtain ⟨d, r, rfl, h4, hF⟩ := C4 hF
 obtain ⟨e, r, rfl, h5, hF⟩ := C4 hF
 obtain ⟨f, r, rfl, h6, hF⟩ := C4 hF
 obtain rfl := M6 hF
 obtain ⟨kn, rfl⟩ := SQ ru4 h1
 obtain ⟨k, rfl, hk⟩ := Hn ru5 h2
 obtain ⟨ns, rfl, hn1, hn2⟩ := M7 ru23 ru9 rc9 h3
 obtain ⟨ks, rfl⟩ := Sx ru24 ru3 rc3 h4
 obtain ⟨re, rfl, _⟩ := Hn ru3 h5
 obtain ⟨be, rfl, _⟩ := Hn ru3 h6
 simp only [Lit.wf, Bool.and_eq_true, decide_eq_true_eq] at hk
 have e1 : IntKind.u8.min = 0 := rfl
 have e2 : IntKind.u8.max = 255 := rfl
 rw [e1, e2] at hk
 simp only [List.cons_append, List.nil_append, szV, szL, zx] at h
 have hnl := KY (ns.map AV.s)
 have hkl := KY (ks.map iv)
 rw [List.length_map] at hnl hkl
 refine ⟨⟨kn, k.toNat, ns, ks, re, be⟩, ?_, ⟨?_, ?_, ?_, ?_⟩, ?_⟩
 · simp only [FT.av, FT.cells, List.cons_append, List.nil_append]
   rw [show ((k.toNat : Nat) : Int) = k by omega]
 · simp only; omega
 · intro x hx
   have := Vg (List.mem_map.2 ⟨x, hx, rfl⟩ : AV.s x ∈ ns.map AV.s)
   simp only [szV] at this
   exact ⟨hn2 x hx, by omega⟩
 · simp only; omega
 · simp only; omega
 · simp only [List.cons_append, List.nil_append, szV, szL, zx]; omega
theorem NZ {P : Program} {e : Nat} {α : Type} {f : α → AV} {Q : α → Prop} {w : α → Nat} {N : Nat} (h : ∀ l, Typed P e l → szV (mkV P e l) < N → ∃ a, mkV P e l = f a ∧ Q a ∧ w a ≤ szV (mkV P e l)) : ∀ ls : List (List AV), (∀ l ∈ ls, Typed P e l) → szL (ls.map (mkV P e)) < N → ∃ L : List α, ls.map (mkV P e) = L.map f ∧ L.length = ls.length ∧ (∀ a ∈ L, Q a) ∧ (L.map w).sum ≤ szL (ls.map (mkV P e))
 | [], _, _ => ⟨[], rfl, rfl, by simp, by simp [szL]⟩
 | x :: ls, hl, hs => by
   simp only [List.map_cons, szL] at hs
   obtain ⟨a, h1, h2, h3⟩ := h x (hl x (by simp)) (by omega)
   obtain ⟨L, k1, k2, k3, k4⟩ := NZ h ls (fun l hm => hl l (by simp [hm])) (by omega)
   refine ⟨a :: L, by simp [h1, k1], by simp [k2], fun b hb => ?_, by simp only [List.map_cons, List.sum_cons, szL]; omega⟩
   rcases List.mem_cons.1 hb with rfl | hb
   · exact h2
   · exact k3 b hb
theorem QJ : ∀ L : List FT, (flatK L).length = (L.map fun f => f.kids.length).sum
 | [] => rfl
 | f :: L => by
   have : flatK (f :: L) = f.kids ++ flatK L := by simp [flatK]
   rw [this, List.length_append, QJ L]; rfl
theorem Sy {l : List AV} (h : szV (mkV Tryz.prog 27 l) < 2 ^ 30) (ht : Typed Tryz.prog 27 l) : ∃ L : List FT, mkV Tryz.prog 27 l = fx L ∧ (∀ f ∈ L, f.Ok) ∧ L.length < 2 ^ 30 ∧ (flatK L).length < 2 ^ 30 := by
 obtain ⟨ls, rfl, h1, h2⟩ := HG ru27 ht
 rw [J4 (fun fs hh => by rw [ru27] at hh; cases hh)] at h ⊢
 simp only [szV] at h
 obtain ⟨L, k1, k2, k3, k4⟩ := NZ (N := 2 ^ 30) (w := fun f : FT => f.kids.length) (fun l ht hs => Vh hs ht) ls h2 (by omega)
 have := KY (ls.map (mkV Tryz.prog 26))
 rw [List.length_map] at this
 exact ⟨L, by rw [rc26, k1]; rfl, k3, by omega, by rw [QJ]; omega⟩
theorem Q4 {l : List AV} (h : szV (mkV Tryz.prog 27 l) ≤ 1048576) (ht : Typed Tryz.prog 27 l) : ∃ L : List FT, mkV Tryz.prog 27 l = fx L ∧ (∀ f ∈ L, f.Ok) ∧ L.length < 2 ^ 30 ∧ (flatK L).length < 2 ^ 30 := Sy (by omega) ht
theorem rc30 : Tryz.prog.cellsOf 30 = 4 := by kernel_rfl
theorem ru28 : Tryz.prog.underlying 28 = some (.slice 30) := by kernel_rfl
theorem Vi : ∀ (m : Nat) {l : List AV}, szV (mkV Tryz.prog 30 l) ≤ m → m < 2 ^ 30 → Typed Tryz.prog 30 l → ∃ n : ND, mkV Tryz.prog 30 l = n.av ∧ n.Ok ∧ Ff n ≤ szV (mkV Tryz.prog 30 l) := by
 intro m
 induction m with
 | zero =>
   intro l h _ ht
   rw [E2 Tryz.underlying30] at h
   simp only [szV] at h; omega
 | succ m ih =>
   intro l h hm ht
   have hF := Kf Tryz.underlying30 ht
   rw [E2 Tryz.underlying30] at h ⊢
   obtain ⟨a, r, rfl, h1, hF⟩ := C4 hF
   obtain ⟨b, r, rfl, h2, hF⟩ := C4 hF
   obtain ⟨c, r, rfl, h3, hF⟩ := C4 hF
   obtain ⟨d, r, rfl, h4, hF⟩ := C4 hF
   obtain rfl := M6 hF
   obtain ⟨k, rfl, hk⟩ := Hn ru5 h1
   obtain ⟨t, rfl, htx⟩ := PU ru9 h2
   obtain ⟨ns, rfl, hn1, hn2⟩ := M7 ru23 ru9 rc9 h3
   obtain ⟨ls, rfl, hl1, hl2⟩ := HG ru28 h4
   simp only [Lit.wf, Bool.and_eq_true, decide_eq_true_eq] at hk
   have e1 : IntKind.u8.min = 0 := rfl
   have e2 : IntKind.u8.max = 255 := rfl
   rw [e1, e2] at hk
   rw [rc30] at h ⊢
   simp only [List.cons_append, List.nil_append, szV, szL, LQ] at h
   have key : ∀ ls : List (List AV), (∀ l ∈ ls, Typed Tryz.prog 30 l) → szL (ls.map (mkV Tryz.prog 30)) ≤ m → ∃ L : List ND, ls.map (mkV Tryz.prog 30) = L.map ND.av ∧ L.length = ls.length ∧ (∀ x ∈ L, x.Ok) ∧ (L.map Ff).sum ≤ szL (ls.map (mkV Tryz.prog 30)) := by
    intro ls
    induction ls with
    | nil => intro _ _; exact ⟨[], rfl, rfl, by simp, by simp [szL]⟩
    | cons x ls il =>
      intro hx hs
      simp only [List.map_cons, szL] at hs
      obtain ⟨n, n1, n2, n3⟩ := ih (l := x) (by omega) (by omega) (hx x (by simp))
      obtain ⟨L, k1, k2, k3, k4⟩ := il (fun l hl => hx l (by simp [hl])) (by omega)
      refine ⟨n :: L, by simp [n1, k1], by simp [k2], fun y hy => ?_, by simp only [List.map_cons, List.sum_cons, szL]; omega⟩
      rcases List.mem_cons.1 hy with rfl | hy
      · exact n2
      · exact k3 y hy
   obtain ⟨L, k1, k2, k3, k4⟩ := key ls hl2 (by omega)
   have hnl := KY (ns.map AV.s)
   rw [LQ, List.length_map] at hnl
   have hll := KY (ls.map (mkV Tryz.prog 30))
   rw [List.length_map] at hll
   refine ⟨.mk k.toNat t ns L, ?_, .mk (by omega) htx (by omega) hn2 (by omega) (by omega) k3, ?_⟩
   · rw [ND.av_eq, k1]
     simp only [ND.cells, ND.kind, ND.text, ND.names, ND.kids, List.cons_append, List.nil_append]
     rw [show ((k.toNat : Nat) : Int) = k by omega]
   · rw [OU]
     simp only [ND.text, ND.names, ND.kids, List.cons_append, List.nil_append, szV, szL, LQ]
     omega
theorem Sz {l : List AV} {B : Nat} (hB : B < 2 ^ 30) (h : szV (mkV Tryz.prog 30 l) ≤ B) (ht : Typed Tryz.prog 30 l) : ∃ n : ND, mkV Tryz.prog 30 l = .agg n.cells ∧ n.Ok ∧ Ff n ≤ B := by
 obtain ⟨n, h1, h2, h3⟩ := Vi _ (Nat.le_refl _) (by omega) ht
 exact ⟨n, by rw [h1, ND.av_eq], h2, by omega⟩
theorem Na {l : List AV} (h : szV (mkV Tryz.prog 30 l) ≤ 1048576) (ht : Typed Tryz.prog 30 l) : ∃ n : ND, mkV Tryz.prog 30 l = .agg n.cells ∧ n.Ok ∧ Ff n ≤ 1048576 := Sz (by decide) h ht
end Go.Proofs.YtbfgoopcnkeblaaGreat
