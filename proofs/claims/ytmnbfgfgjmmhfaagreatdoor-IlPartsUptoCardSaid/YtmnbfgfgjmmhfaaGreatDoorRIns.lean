/-
  What an instruction that is handed in reads as. (Types' numbers: the seat of r11, .ZD.)
-/
import Derived.Test.YtmnbfgfgjmmhfaaGreatDoorAmSorted
import Derived.Test.YtmnbfgfgjmmhfaaGreatDoorLIlP3
import Derived.Test.YtmnbfgfgjmmhfaaGreatDoorProg
import Derived.KernelRfl
set_option linter.all false
set_option linter.unusedVariables false
set_option linter.unusedSimpArgs false
set_option linter.unusedSectionVars false
set_option maxRecDepth 100000
namespace Go.Proofs.YtmnbfgfgjmmhfaaGreatDoor
open Go.Proofs.YtmnbfgfgjmmhfaaGreatDoor.Am Go.Proofs
theorem Pp : OS Tryz.prog [4, 5, 9, 22, 23, 25, 76, 78, 85] = true := by kernel_rfl
theorem rc25 : Tryz.prog.cellsOf 25 = 4 := by kernel_rfl
theorem rc78 : Tryz.prog.cellsOf 78 = 2 := by kernel_rfl
theorem rc85 : Tryz.prog.cellsOf 85 = 3 := by kernel_rfl
theorem ru22 : Tryz.prog.underlying 22 = some (.slice 78) := by kernel_rfl
theorem ru23 : Tryz.prog.underlying 23 = some (.slice 25) := by kernel_rfl
theorem ru76 : Tryz.prog.underlying 76 = some (.slice 85) := by kernel_rfl
theorem ru9 : Tryz.prog.underlying 9 = some .string := by kernel_rfl
theorem ru5 : Tryz.prog.underlying 5 = some (.int .u8) := by kernel_rfl
theorem ru4 : Tryz.prog.underlying 4 = some .bool := by kernel_rfl
theorem Vv (a : AV) : 1 ≤ szV a := by cases a <;> simp [szV]
theorem M0 : ∀ L : List AV, L.length ≤ szL L
 | [] => Nat.le_refl _
 | a :: L => by
   have h1 := Vv a
   have := M0 L
   simp only [List.length_cons, szL]; omega
theorem Ir {α : Type} (f : α → AV) (Pr : α → Prop) (bk : α → Nat) {t m : Nat} (h : ∀ l, szV (mkV Tryz.prog t l) ≤ m → Typed Tryz.prog t l → ∃ x, mkV Tryz.prog t l = f x ∧ Pr x ∧ bk x ≤ szV (mkV Tryz.prog t l)) :
    ∀ ls : List (List AV), (∀ l ∈ ls, Typed Tryz.prog t l) → szL (ls.map (mkV Tryz.prog t)) ≤ m → ∃ L : List α, ls.map (mkV Tryz.prog t) = L.map f ∧ L.length = ls.length ∧ (∀ x ∈ L, Pr x) ∧ (L.map bk).sum ≤ szL (ls.map (mkV Tryz.prog t))
 | [], _, _ => ⟨[], rfl, rfl, by simp, by simp [szL]⟩
 | x :: ls, hx, hs => by
   simp only [List.map_cons, szL] at hs
   obtain ⟨n, n1, n2, n3⟩ := h x (by omega) (hx x (by simp))
   obtain ⟨L, k1, k2, k3, k4⟩ := Ir f Pr bk h ls (fun l hl => hx l (by simp [hl])) (by omega)
   refine ⟨n :: L, by simp [n1, k1], by simp [k2], fun y hy => ?_, by simp only [List.map_cons, List.sum_cons, szL]; omega⟩
   rcases List.mem_cons.1 hy with rfl | hy
   · exact n2
   · exact k3 y hy
theorem ST {l : List AV} {m : Nat} (hm : m < 2 ^ 30) (h : szV (mkV Tryz.prog 85 l) ≤ m) (ht : Typed Tryz.prog 85 l) : ∃ p : PT, mkV Tryz.prog 85 l = p.av ∧ p.Ok ∧ 1 ≤ szV (mkV Tryz.prog 85 l) := by
 have hF := G0 Tryz.underlying85 ht
 rw [Dd Tryz.underlying85] at h ⊢
 obtain ⟨a, r, rfl, h1, hF⟩ := Cl hF
 obtain ⟨b, r, rfl, h2, hF⟩ := Cl hF
 obtain ⟨c, r, rfl, h3, hF⟩ := Cl hF
 obtain rfl := JI hF
 obtain ⟨v, rfl⟩ := JH ru4 h1
 obtain ⟨t, rfl, htx⟩ := NX ru9 h2
 obtain ⟨q, rfl⟩ := JH ru4 h3
 simp only [List.cons_append, List.nil_append, szV, szL] at h ⊢
 exact ⟨⟨v, t, q⟩, rfl, ⟨htx, by simp only; omega⟩, by omega⟩
theorem SU {l : List AV} {m : Nat} (hm : m < 2 ^ 30) (h : szV (mkV Tryz.prog 78 l) ≤ m) (ht : Typed Tryz.prog 78 l) : ∃ y : IT, mkV Tryz.prog 78 l = y.av ∧ y.Ok ∧ y.parts.length ≤ szV (mkV Tryz.prog 78 l) := by
 have hF := G0 Tryz.underlying78 ht
 rw [Dd Tryz.underlying78] at h ⊢
 obtain ⟨a, r, rfl, h1, hF⟩ := Cl hF
 obtain ⟨b, r, rfl, h2, hF⟩ := Cl hF
 obtain rfl := JI hF
 obtain ⟨ls, rfl, hl1, hl2⟩ := Hm ru76 h1
 obtain ⟨v, rfl⟩ := JH ru4 h2
 rw [rc85] at h ⊢
 simp only [List.cons_append, List.nil_append, szV, szL] at h ⊢
 obtain ⟨L, k1, k2, k3, k4⟩ := Ir PT.av PT.Ok (fun _ => 1) (t := 85) (m := m) (fun l h1 h2 => ST hm h1 h2) ls hl2 (by omega)
 have hll := M0 (ls.map (mkV Tryz.prog 85))
 rw [List.length_map] at hll
 refine ⟨⟨L, v⟩, ?_, ⟨k3, by simp only; omega⟩, by simp only; omega⟩
 rw [k1]; rfl
def bkI (n : IN) : Nat := nodesI n + (rdA n).length
theorem SV : ∀ (l : List IN) (f g : IN → Nat), (l.map fun k => f k + g k).sum = (l.map f).sum + (l.map g).sum
 | [], _, _ => rfl
 | a :: l, f, g => by simp only [List.map_cons, List.sum_cons, SV l f g]; omega
theorem bkI_eq (n : IN) : bkI n = 1 + (Bn n.items).length + (n.kids.map bkI).sum := by
 have h1 : (rdA n).length = (Bn n.items).length + (n.kids.map fun k => (rdA k).length).sum := by
  unfold rdA
  rw [Oa (fun i => Bn i.items), List.length_append, List.length_flatten, List.map_map]
  rfl
 have h2 : (n.kids.map bkI).sum = (n.kids.map nodesI).sum + (n.kids.map fun k => (rdA k).length).sum := SV n.kids nodesI fun k => (rdA k).length
 unfold bkI
 rw [h1, Ii]
 have h2' : (n.kids.map fun n => nodesI n + (rdA n).length).sum = (n.kids.map nodesI).sum + (n.kids.map fun k => (rdA k).length).sum := h2
 omega
theorem MA : ∀ l : List IT, (Bn l).length ≤ (l.map fun y => y.parts.length).sum
 | [] => Nat.le_refl _
 | y :: l => by
   have := MA l
   have h2 := List.length_filterMap_le HA y.parts
   show (List.flatMap _ (y :: l)).length ≤ _
   rw [List.flatMap_cons, List.length_append, List.map_cons, List.sum_cons]
   unfold Bn at this
   omega
theorem Tv : ∀ (m : Nat) {l : List AV}, szV (mkV Tryz.prog 25 l) ≤ m → m < 2 ^ 30 → Typed Tryz.prog 25 l → ∃ n : IN, mkV Tryz.prog 25 l = n.av ∧ n.Ok ∧ bkI n ≤ szV (mkV Tryz.prog 25 l) := by
 intro m
 induction m with
 | zero =>
   intro l h _ ht
   rw [Dd Tryz.underlying25] at h
   simp only [szV] at h; omega
 | succ m ih =>
   intro l h hm ht
   have hF := G0 Tryz.underlying25 ht
   rw [Dd Tryz.underlying25] at h ⊢
   obtain ⟨a, r, rfl, h1, hF⟩ := Cl hF
   obtain ⟨b, r, rfl, h2, hF⟩ := Cl hF
   obtain ⟨c, r, rfl, h3, hF⟩ := Cl hF
   obtain ⟨d, r, rfl, h4, hF⟩ := Cl hF
   obtain rfl := JI hF
   obtain ⟨k, rfl, hk⟩ := RX ru5 h1
   obtain ⟨t, rfl, htx⟩ := NX ru9 h2
   obtain ⟨is, rfl, hi1, hi2⟩ := Hm ru22 h3
   obtain ⟨ls, rfl, hl1, hl2⟩ := Hm ru23 h4
   simp only [Lit.wf, Bool.and_eq_true, decide_eq_true_eq] at hk
   have e1 : IntKind.u8.min = 0 := rfl
   have e2 : IntKind.u8.max = 255 := rfl
   rw [e1, e2] at hk
   rw [rc25, rc78] at h ⊢
   simp only [List.cons_append, List.nil_append, szV, szL] at h
   obtain ⟨I, i1, i2, i3, i4⟩ := Ir IT.av IT.Ok (fun y => y.parts.length) (t := 78) (m := m) (fun l h1 h2 => SU (by omega) h1 h2) is hi2 (by omega)
   obtain ⟨L, k1, k2, k3, k4⟩ := Ir IN.av IN.Ok bkI (t := 25) (m := m) (fun l h1 h2 => ih h1 (by omega) h2) ls hl2 (by omega)
   have hil := M0 (is.map (mkV Tryz.prog 78))
   rw [List.length_map] at hil
   have hll := M0 (ls.map (mkV Tryz.prog 25))
   rw [List.length_map] at hll
   have hrx := MA I
   refine ⟨.mk k.toNat t I L, ?_, .mk (by omega) htx (by omega) i3 (by omega) k3 (by omega), ?_⟩
   · rw [IN.av_eq, k1, i1]
     simp only [IN.cells, IN.kind, IN.name, IN.items, IN.kids, itx, List.cons_append, List.nil_append]
     rw [show ((k.toNat : Nat) : Int) = k by omega]
   · rw [bkI_eq]
     simp only [IN.items, IN.kids, List.cons_append, List.nil_append, szV, szL]
     omega
theorem N5 {l : List AV} (h : szV (mkV Tryz.prog 25 l) ≤ 1048576) (ht : Typed Tryz.prog 25 l) : ∃ n : IN, mkV Tryz.prog 25 l = .agg n.cells ∧ n.Ok ∧ bkI n ≤ 1048576 := by
 obtain ⟨n, h1, h2, h3⟩ := Tv _ (Nat.le_refl _) (by omega) ht
 exact ⟨n, by rw [h1, IN.av_eq], h2, by omega⟩
theorem SW (n : IN) : ∀ x ∈ allL n 0, (Bn x.2.items).length ≤ (rdA n).length := fun x hx => by
 unfold rdA
 rw [List.length_flatMap]
 exact HS (List.mem_map.2 ⟨x, hx, rfl⟩)
theorem Oh (a b : IN) (ha : a.Ok ∧ bkI a ≤ 1048576) (hb : b.Ok ∧ bkI b ≤ 1048576) (s : St) (hw : Wf s) : (lim prog).call CU [.agg a.cells, .agg b.cells] s = some (.b true, s) := by
 have h1 := ha.2
 have h2 := hb.2
 unfold bkI at h1 h2
 exact QK a b ha.1 hb.1 (by omega) (by omega) (by omega) (by omega) (fun x hx => by have := SW a x hx; omega) (fun x hx => by have := SW b x hx; omega) s hw
end Go.Proofs.YtmnbfgfgjmmhfaaGreatDoor
