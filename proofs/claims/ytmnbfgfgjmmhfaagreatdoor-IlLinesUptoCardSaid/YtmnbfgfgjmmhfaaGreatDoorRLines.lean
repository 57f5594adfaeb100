/-
  What an instruction that is handed in reads as. (Types' numbers: the seat of r11, .ZD.)
-/
import Derived.Test.YtmnbfgfgjmmhfaaGreatDoorAmRg
import Derived.Test.YtmnbfgfgjmmhfaaGreatDoorLLines
import Derived.Test.YtmnbfgfgjmmhfaaGreatDoorProg
import Derived.KernelRfl
set_option linter.all false
set_option linter.unusedVariables false
set_option linter.unusedSimpArgs false
set_option linter.unusedSectionVars false
set_option maxRecDepth 100000
namespace Go.Proofs.YtmnbfgfgjmmhfaaGreatDoor
open Go.Proofs.YtmnbfgfgjmmhfaaGreatDoor.Am Go.Proofs
theorem Oh : NL Tryz.prog [4, 5, 9, 22, 23, 25, 76, 78, 85] = true := by kernel_rfl
theorem rc25 : Tryz.prog.cellsOf 25 = 4 := by kernel_rfl
theorem rc78 : Tryz.prog.cellsOf 78 = 2 := by kernel_rfl
theorem rc85 : Tryz.prog.cellsOf 85 = 3 := by kernel_rfl
theorem ru22 : Tryz.prog.underlying 22 = some (.slice 78) := by kernel_rfl
theorem ru23 : Tryz.prog.underlying 23 = some (.slice 25) := by kernel_rfl
theorem ru76 : Tryz.prog.underlying 76 = some (.slice 85) := by kernel_rfl
theorem ru9 : Tryz.prog.underlying 9 = some .string := by kernel_rfl
theorem ru5 : Tryz.prog.underlying 5 = some (.int .u8) := by kernel_rfl
theorem ru4 : Tryz.prog.underlying 4 = some .bool := by kernel_rfl
theorem U1 (a : AV) : 1 ≤ szV a := by cases a <;> simp [szV]
theorem Ln : ∀ L : List AV, L.length ≤ szL L
 | [] => Nat.le_refl _
 | a :: L => by
   have h1 := U1 a
   have := Ln L
   simp only [List.length_cons, szL]; omega
theorem U2 (F : IN → List (List Nat)) : ∀ (n : IN) (d : Nat), (allL n d).flatMap (fun x => F x.2) = F n ++ (n.kids.map fun k => (allL k 0).flatMap fun x => F x.2).flatten := by
 refine IN.ind fun n ih d => ?_
 rw [Fl, List.flatMap_cons, List.flatMap_def, List.map_flatten, List.map_map, List.flatten_flatten, List.map_map]
 congr 2
 refine List.map_congr_left fun k hk => ?_
 have h1 := ih k hk (d + 1)
 have h2 := ih k hk 0
 rw [← h2] at h1
 simp only [Function.comp]
 rw [← h1, List.flatMap_def]
theorem all_ok : ∀ n : IN, n.Ok → ∀ d, ∀ x ∈ allL n d, x.2.Ok := by
 refine IN.ind fun n ih ho d x hx => ?_
 rw [Fl, List.mem_cons] at hx
 rcases hx with rfl | hx
 · exact ho
 · rw [List.mem_flatten] at hx
   obtain ⟨l, hl, hx⟩ := hx
   obtain ⟨k, hk, rfl⟩ := List.mem_map.1 hl
   exact ih k hk (ho.kids.1 k hk) (d + 1) x hx
theorem Hk {α : Type} (f : α → AV) (Pr : α → Prop) (bk : α → Nat) {t m : Nat} (h : ∀ l, szV (mkV Tryz.prog t l) ≤ m → Typed Tryz.prog t l → ∃ x, mkV Tryz.prog t l = f x ∧ Pr x ∧ bk x ≤ 100 * szV (mkV Tryz.prog t l)) :
    ∀ ls : List (List AV), (∀ l ∈ ls, Typed Tryz.prog t l) → szL (ls.map (mkV Tryz.prog t)) ≤ m → ∃ L : List α, ls.map (mkV Tryz.prog t) = L.map f ∧ L.length = ls.length ∧ (∀ x ∈ L, Pr x) ∧ (L.map bk).sum ≤ 100 * szL (ls.map (mkV Tryz.prog t))
 | [], _, _ => ⟨[], rfl, rfl, by simp, by simp [szL]⟩
 | x :: ls, hx, hs => by
   simp only [List.map_cons, szL] at hs
   obtain ⟨n, n1, n2, n3⟩ := h x (by omega) (hx x (by simp))
   obtain ⟨L, k1, k2, k3, k4⟩ := Hk f Pr bk h ls (fun l hl => hx l (by simp [hl])) (by omega)
   refine ⟨n :: L, by simp [n1, k1], by simp [k2], fun y hy => ?_, by simp only [List.map_cons, List.sum_cons, szL]; omega⟩
   rcases List.mem_cons.1 hy with rfl | hy
   · exact n2
   · exact k3 y hy
theorem RR {l : List AV} {m : Nat} (hm : m < 2 ^ 30) (h : szV (mkV Tryz.prog 85 l) ≤ m) (ht : Typed Tryz.prog 85 l) : ∃ p : PT, mkV Tryz.prog 85 l = p.av ∧ p.Ok ∧ (CV p).length ≤ 100 * szV (mkV Tryz.prog 85 l) := by
 have hF := F9 Tryz.underlying85 ht
 rw [DG Tryz.underlying85] at h ⊢
 obtain ⟨a, r, rfl, h1, hF⟩ := CX hF
 obtain ⟨b, r, rfl, h2, hF⟩ := CX hF
 obtain ⟨c, r, rfl, h3, hF⟩ := CX hF
 obtain rfl := IK hF
 obtain ⟨v, rfl⟩ := IJ ru4 h1
 obtain ⟨t, rfl, htx⟩ := MQ ru9 h2
 obtain ⟨q, rfl⟩ := IJ ru4 h3
 simp only [List.cons_append, List.nil_append, szV, szL] at h ⊢
 refine ⟨⟨v, t, q⟩, rfl, ⟨htx, by simp only; omega⟩, ?_⟩
 have := Gt t (by omega)
 simp only [CV, List.length_append, List.length_cons, List.length_nil]
 omega
theorem TM : ∀ l : List PT, (l.flatMap CV).length = (l.map fun p => (CV p).length).sum
 | [] => rfl
 | p :: l => by rw [List.flatMap_cons, List.length_append, TM l]; rfl
theorem RS {l : List AV} {m : Nat} (hm : m < 2 ^ 30) (h : szV (mkV Tryz.prog 78 l) ≤ m) (ht : Typed Tryz.prog 78 l) : ∃ y : IT, mkV Tryz.prog 78 l = y.av ∧ y.Ok ∧ (Ch y).length + 1 ≤ 100 * szV (mkV Tryz.prog 78 l) := by
 have hF := F9 Tryz.underlying78 ht
 rw [DG Tryz.underlying78] at h ⊢
 obtain ⟨a, r, rfl, h1, hF⟩ := CX hF
 obtain ⟨b, r, rfl, h2, hF⟩ := CX hF
 obtain rfl := IK hF
 obtain ⟨ls, rfl, hl1, hl2⟩ := Gm ru76 h1
 obtain ⟨v, rfl⟩ := IJ ru4 h2
 rw [rc85] at h ⊢
 simp only [List.cons_append, List.nil_append, szV, szL] at h ⊢
 obtain ⟨L, k1, k2, k3, k4⟩ := Hk PT.av PT.Ok (fun p => (CV p).length) (t := 85) (m := m) (fun l h1 h2 => RR hm h1 h2) ls hl2 (by omega)
 have hll := Ln (ls.map (mkV Tryz.prog 85))
 rw [List.length_map] at hll
 rw [← TM] at k4
 have hc := Gt (L.flatMap CV) (by omega)
 refine ⟨⟨L, v⟩, ?_, ⟨k3, by simp only; omega⟩, ?_⟩
 · rw [k1]; rfl
 · simp only [Ch, List.length_cons]
   omega
def ownL (n : IN) : Nat := n.name.length + 1 + (n.items.map fun y => (Ch y).length + 1).sum
def totL (n : IN) : Nat := ((allL n 0).flatMap fun x => List.replicate (ownL x.2) ([] : List Nat)).length
def bkL (n : IN) : Nat := nodesI n + totL n
theorem RT : ∀ (l : List IN) (f g : IN → Nat), (l.map fun k => f k + g k).sum = (l.map f).sum + (l.map g).sum
 | [], _, _ => rfl
 | a :: l, f, g => by simp only [List.map_cons, List.sum_cons, RT l f g]; omega
theorem bkL_eq (n : IN) : bkL n = 1 + ownL n + (n.kids.map bkL).sum := by
 have h1 : totL n = ownL n + (n.kids.map totL).sum := by
  unfold totL
  rw [U2 (fun i => List.replicate (ownL i) []), List.length_append, List.length_flatten, List.map_map, List.length_replicate]
  rfl
 have h2 : (n.kids.map bkL).sum = (n.kids.map nodesI).sum + (n.kids.map totL).sum := RT n.kids nodesI totL
 have h3 : (n.kids.map fun n => nodesI n + totL n).sum = (n.kids.map nodesI).sum + (n.kids.map totL).sum := h2
 unfold bkL
 rw [h1, Hb]
 omega
theorem own_le (n : IN) : ∀ x ∈ allL n 0, ownL x.2 ≤ totL n := fun x hx => by
 unfold totL
 rw [List.length_flatMap]
 refine GV (List.mem_map.2 ⟨x, hx, ?_⟩)
 simp
theorem U3 : ∀ (n : IN) (d : Nat), ∀ x ∈ allL n d, x.1 < d + nodesI n := by
 refine IN.ind fun n ih d x hx => ?_
 rw [Fl, List.mem_cons] at hx
 have h0 := Hb n
 rcases hx with rfl | hx
 · simp only; omega
 · rw [List.mem_flatten] at hx
   obtain ⟨l, hl, hx⟩ := hx
   obtain ⟨k, hk, rfl⟩ := List.mem_map.1 hl
   have := ih k hk (d + 1) x hx
   have := Kk hk
   omega
theorem Oi : ∀ l : List (List Nat), (GF l).length = (l.map fun w => w.length + 1).sum
 | [] => rfl
 | w :: l => by
   have := Oi l
   simp only [GF, List.flatMap_cons, List.length_append, List.length_cons, List.map_cons, List.sum_cons] at this ⊢
   omega
theorem Sw (x : Nat × IN) (ht : NU x.2) : (Cy x).length ≤ x.1 + 6 + ownL x.2 := by
 obtain ⟨r, hr, _⟩ := ht
 have hw0 : r.word.length ≤ 6 := by
  unfold Fn at hr
  split at hr <;> (try cases hr) <;> decide
 unfold Cy OS ownL
 simp only [hr, GG, List.length_append, List.length_replicate, Oi, List.map_append, List.sum_append, List.map_map]
 have e : (x.2.items.map ((fun w : List Nat => w.length + 1) ∘ Ch)).sum = (x.2.items.map fun y => (Ch y).length + 1).sum := rfl
 rw [e]
 split
 · simp; omega
 · simp; omega
theorem Sx : ∀ (m : Nat) {l : List AV}, szV (mkV Tryz.prog 25 l) ≤ m → m < 2 ^ 30 → Typed Tryz.prog 25 l → ∃ n : IN, mkV Tryz.prog 25 l = n.av ∧ n.Ok ∧ bkL n ≤ 100 * szV (mkV Tryz.prog 25 l) := by
 intro m
 induction m with
 | zero =>
   intro l h _ ht
   rw [DG Tryz.underlying25] at h
   simp only [szV] at h; omega
 | succ m ih =>
   intro l h hm ht
   have hF := F9 Tryz.underlying25 ht
   rw [DG Tryz.underlying25] at h ⊢
   obtain ⟨a, r, rfl, h1, hF⟩ := CX hF
   obtain ⟨b, r, rfl, h2, hF⟩ := CX hF
   obtain ⟨c, r, rfl, h3, hF⟩ := CX hF
   obtain ⟨d, r, rfl, h4, hF⟩ := CX hF
   obtain rfl := IK hF
   obtain ⟨k, rfl, hk⟩ := QZ ru5 h1
   obtain ⟨t, rfl, htx⟩ := MQ ru9 h2
   obtain ⟨is, rfl, hi1, hi2⟩ := Gm ru22 h3
   obtain ⟨ls, rfl, hl1, hl2⟩ := Gm ru23 h4
   simp only [Lit.wf, Bool.and_eq_true, decide_eq_true_eq] at hk
   have e1 : IntKind.u8.min = 0 := rfl
   have e2 : IntKind.u8.max = 255 := rfl
   rw [e1, e2] at hk
   rw [rc25, rc78] at h ⊢
   simp only [List.cons_append, List.nil_append, szV, szL] at h
   obtain ⟨I, i1, i2, i3, i4⟩ := Hk IT.av IT.Ok (fun y => (Ch y).length + 1) (t := 78) (m := m) (fun l h1 h2 => RS (by omega) h1 h2) is hi2 (by omega)
   obtain ⟨L, k1, k2, k3, k4⟩ := Hk IN.av IN.Ok bkL (t := 25) (m := m) (fun l h1 h2 => ih h1 (by omega) h2) ls hl2 (by omega)
   have hil := Ln (is.map (mkV Tryz.prog 78))
   rw [List.length_map] at hil
   have hll := Ln (ls.map (mkV Tryz.prog 25))
   rw [List.length_map] at hll
   refine ⟨.mk k.toNat t I L, ?_, .mk (by omega) htx (by omega) i3 (by omega) k3 (by omega), ?_⟩
   · rw [IN.av_eq, k1, i1]
     simp only [IN.cells, IN.kind, IN.name, IN.items, IN.kids, itx, List.cons_append, List.nil_append]
     rw [show ((k.toNat : Nat) : Int) = k by omega]
   · rw [bkL_eq]
     unfold ownL
     simp only [IN.items, IN.kids, IN.name, List.cons_append, List.nil_append, szV, szL]
     omega
theorem Mz {l : List AV} (h : szV (mkV Tryz.prog 25 l) ≤ 1048576) (ht : Typed Tryz.prog 25 l) : ∃ n : IN, mkV Tryz.prog 25 l = .agg n.cells ∧ n.Ok ∧ bkL n ≤ 104857600 := by
 obtain ⟨n, h1, h2, h3⟩ := Sx _ (Nat.le_refl _) (by omega) ht
 exact ⟨n, by rw [h1, IN.av_eq], h2, by omega⟩
theorem Sy : ∀ {l : List IT} {y : IT}, y ∈ l → (Ch y).length + 1 ≤ (l.map fun y => (Ch y).length + 1).sum := fun h => GV (List.mem_map.2 ⟨_, h, rfl⟩)
theorem Oj (n : IN) (ho : n.Ok) (hb : bkL n ≤ 104857600) : NY n := by
 intro hm x hx
 unfold bkL at hb
 have h1 := own_le n x hx
 have h2 := U3 n 0 x hx
 have ht : mayI x.2 = true := Md (P := fun k => mayI k = true) (n := n) (fun m h => (Kl h).2) n hm 0 x hx
 have htop := (Kl ht).1
 have hl := Sw x htop
 refine ⟨all_ok n ho 0 x hx, htop, by omega, fun y hy => ?_, by omega⟩
 have := Sy hy
 have h3 : (y.parts.flatMap CV).length ≤ (Ch y).length := by unfold Ch Ck; simp only [List.length_cons, List.length_append]; omega
 unfold ownL at h1
 omega
theorem Nf (a b : IN) (ha : a.Ok ∧ bkL a ≤ 104857600) (hb : b.Ok ∧ bkL b ≤ 104857600) (s : St) (hw : Wf s) : (lim prog).call CH [.agg a.cells, .agg b.cells] s = some (.b true, s) := by
 have h1 := ha.2
 have h2 := hb.2
 unfold bkL at h1 h2
 exact PJ a b ha.1 hb.1 (by omega) (by omega) (Oj a ha.1 ha.2) (Oj b hb.1 hb.2) s hw
end Go.Proofs.YtmnbfgfgjmmhfaaGreatDoor
