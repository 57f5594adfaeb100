/-
  touchstoneref07: what a tree is.
-/
import Derived.Test.YtbfgoopcnkeblaaGreatLNode6
import Derived.Test.YtbfgoopcnkeblaaGreatAmRg
set_option linter.all false
set_option linter.unusedVariables false
set_option linter.unusedSimpArgs false
set_option linter.unusedSectionVars false
set_option maxRecDepth 100000
set_option maxHeartbeats 4000000
namespace Go.Proofs.YtbfgoopcnkeblaaGreat
open Go.Proofs.YtbfgoopcnkeblaaGreat.Am
attribute [local irreducible] W WO WE WQ WD Tr.get Tr.set
def NT (t : List Nat) : Bool := decide (t.length ≤ 256) && !t.contains 0
theorem OI (t : List Nat) (hl : t.length < 2 ^ 62) (s : St) : (lim prog).call C5 [.s t] s = some (.b (NT t), s) := by
 refine fn_W GR rfl rfl ?_
 simp only [CO, go_sem, AD, AA, AC, AB, KB_n, KB_x, Nat.reduceBEq, Nat.reduceAdd, Nat.reduceLT, Nat.reduceLeDiff, Nat.reduceEqDiff, reduceIte, Int.reduceEq, reduceCtorEq]
 refine Ba (fun x e q => ∃ i : Nat, i + x = t.length ∧ q = s.enter ∧ (t.take i).contains 0 = false ∧ e.get 0 = .s t ∧ e.get 3 = .i .i64 (i : Nat)) ?_ t.length _ _ ⟨0, by omega, rfl, by simp, by simp only [go_sem, AD, AA, AC, AB, KB_n, KB_x, Nat.reduceBEq, Nat.reduceAdd, Nat.reduceLT, Nat.reduceLeDiff, Nat.reduceEqDiff, reduceIte, Int.reduceEq, reduceCtorEq], by simp only [go_sem, AD, AA, AC, AB, KB_n, KB_x, Nat.reduceBEq, Nat.reduceAdd, Nat.reduceLT, Nat.reduceLeDiff, Nat.reduceEqDiff, reduceIte, Int.reduceEq, reduceCtorEq]; rfl⟩
 rintro x e q ⟨i, hi, rfl, hn, g0, g3⟩
 by_cases h : i < t.length
 · have e1 : ((i : Int) < (t.length : Int)) = True := by simp only [eq_iff_iff, iff_true]; omega
   have hw1 := Af (show i + 1 < 2 ^ 63 by omega)
   have hc : t[i]? = some t[i] := List.getElem?_eq_getElem h
   have htk : t.take (i + 1) = t.take i ++ [t[i]] := by rw [List.take_add_one, hc]; rfl
   by_cases h0 : t[i] = 0
   · have e2 : ((t[i] : Int) = 0) = True := by simp [h0]
     simp only [go_sem, AD, AA, AC, AB, KB_n, KB_x, Nat.reduceBEq, Nat.reduceAdd, Nat.reduceLT, Nat.reduceLeDiff, Nat.reduceEqDiff, reduceIte, Int.reduceEq, reduceCtorEq, g0, g3, e1, AI, hw1, hc, e2]
     refine AO (Over.enter s) rfl ?_
     have : NT t = false := by
      have : t.contains 0 = true := by rw [List.contains_iff_mem, ← h0]; exact List.getElem_mem h
      rw [NT, this]; simp
     rw [this]; rfl
   · have e2 : ((t[i] : Int) = 0) = False := by simp only [eq_iff_iff, iff_false]; omega
     simp only [go_sem, AD, AA, AC, AB, KB_n, KB_x, Nat.reduceBEq, Nat.reduceAdd, Nat.reduceLT, Nat.reduceLeDiff, Nat.reduceEqDiff, reduceIte, Int.reduceEq, reduceCtorEq, g0, g3, e1, AI, hw1, hc, e2]
     refine ⟨x - 1, by omega, i + 1, by omega, ?_, rfl⟩
     have hb : (0 == t[i]) = false := by simp only [beq_eq_false_iff_ne, ne_eq]; omega
     rw [htk]
     simp only [List.contains_append, hn, List.contains_cons, List.contains_nil, hb, Bool.or_self]
 · have e1 : ((i : Int) < (t.length : Int)) = False := by simp only [eq_iff_iff, iff_false]; omega
   have e2 : ((t.length : Int) ≤ 256) = (t.length ≤ 256) := by simp only [eq_iff_iff]; omega
   rw [List.take_of_length_le (by omega)] at hn
   simp only [go_sem, AD, AA, AC, AB, KB_n, KB_x, Nat.reduceBEq, Nat.reduceAdd, Nat.reduceLT, Nat.reduceLeDiff, Nat.reduceEqDiff, reduceIte, Int.reduceEq, reduceCtorEq, g0, g3, e1, e2]
   refine AO (Over.enter s) rfl ?_
   simp only [NT, hn, Bo, wkZ, wk, Bool.not_false, Bool.and_true]
def W1 (n : ND) : Bool := decide (n.names.length = 0) && (decide (n.kids.length = 0) && (NT n.text && (decide (n.kind = 1) || decide (0 < n.text.length))))
theorem W1_eq (n : ND) : (decide (n.names = []) && (decide (n.kids.length = 0) && (decide (n.text.length ≤ 256) && (!n.text.contains 0 && (decide (n.kind = 1) || decide (n.text ≠ [])))))) = W1 n := by
 have h1 : decide (n.names = []) = decide (n.names.length = 0) := by simp
 have h2 : decide (n.text ≠ []) = decide (0 < n.text.length) := by simp [List.length_pos_iff]
 unfold W1 NT
 rw [h1, h2, Bool.and_assoc]
theorem Ks : ∀ n : ND, n.Ok → ∀ s, Wf s → (lim prog).call Bp [.agg n.cells] s = some (.b (Bi n), s) := by
 refine ND.ind fun n ih ho s hw => ?_
 refine fn_W GO rfl rfl ?_
 have H1 := (Hp.begin hw).new (.cells 30 n.cells)
 generalize hq : s.enter.new (.cells 30 n.cells) = q at H1
 generalize hm : s.enter.nb = m at H1
 have l0 := H1.ld 0 (off := 0) (v := .i .u8 (n.kind : Nat)) rfl rfl
 have l1 := H1.ld 0 (off := 1) (v := .s n.text) rfl rfl
 have l2 := H1.ld 0 (off := 2) (v := tx n.names) rfl rfl
 have l3 := H1.ld 0 (off := 3) (v := .ws false 4 (n.kids.map ND.av)) rfl rfl
 have hz0 : wkZ AM.cin [.agg n.cells] = [.agg n.cells] := by simp [AM, wkZ, wk, ND.cells]
 have ht := OI n.text ho.text.2 q
 rw [hz0, Dx, W1_eq]
 have hbr : ∀ b, KR s [.id] (.b b) (some ([.b b], q)) := fun b => AO H1.over rfl rfl
 by_cases c1 : n.kind = 1 ∨ n.kind = 3
 · rw [if_pos c1]
   by_cases k1 : n.kind = 1
   · have e1 : ((n.kind : Int) = 1) = True := by simp only [eq_iff_iff, iff_true]; omega
     by_cases d1 : n.names.length = 0
     · have f1 : ((n.names.length : Int) = 0) = True := by simp only [eq_iff_iff, iff_true]; omega
       by_cases d2 : n.kids.length = 0
       · have f2 : ((n.kids.length : Int) = 0) = True := by simp only [eq_iff_iff, iff_true]; omega
         cases d3 : NT n.text
         · rw [d3] at ht
           simp only [AM, go_sem, AD, AA, AC, AB, KB_n, KB_x, Nat.reduceBEq, Nat.reduceAdd, Nat.reduceLT, Nat.reduceLeDiff, Nat.reduceEqDiff, reduceIte, Int.reduceEq, reduceCtorEq, BO, hq, hm, l0, l1, l2, l3, Nat.zero_add, List.length_map, ht, e1, f1, f2]
           rw [show W1 n = false by simp [W1, d3]]
           exact hbr _
         · rw [d3] at ht
           simp only [AM, go_sem, AD, AA, AC, AB, KB_n, KB_x, Nat.reduceBEq, Nat.reduceAdd, Nat.reduceLT, Nat.reduceLeDiff, Nat.reduceEqDiff, reduceIte, Int.reduceEq, reduceCtorEq, BO, hq, hm, l0, l1, l2, l3, Nat.zero_add, List.length_map, ht, e1, f1, f2]
           rw [show W1 n = true by simp [W1, d1, d2, d3, k1]]
           exact hbr _
       · have f2 : ((n.kids.length : Int) = 0) = False := by simp only [eq_iff_iff, iff_false]; omega
         simp only [AM, go_sem, AD, AA, AC, AB, KB_n, KB_x, Nat.reduceBEq, Nat.reduceAdd, Nat.reduceLT, Nat.reduceLeDiff, Nat.reduceEqDiff, reduceIte, Int.reduceEq, reduceCtorEq, BO, hq, hm, l0, l1, l2, l3, Nat.zero_add, List.length_map, ht, e1, f1, f2]
         rw [show W1 n = false by simp [W1, d2]]
         exact hbr _
     · have f1 : ((n.names.length : Int) = 0) = False := by simp only [eq_iff_iff, iff_false]; omega
       simp only [AM, go_sem, AD, AA, AC, AB, KB_n, KB_x, Nat.reduceBEq, Nat.reduceAdd, Nat.reduceLT, Nat.reduceLeDiff, Nat.reduceEqDiff, reduceIte, Int.reduceEq, reduceCtorEq, BO, hq, hm, l0, l1, l2, l3, Nat.zero_add, List.length_map, ht, e1, f1]
       rw [show W1 n = false by simp [W1, d1]]
       exact hbr _
   · have e1 : ((n.kind : Int) = 1) = False := by simp only [eq_iff_iff, iff_false]; omega
     have e3 : ((n.kind : Int) = 3) = True := by simp only [eq_iff_iff, iff_true]; omega
     by_cases d1 : n.names.length = 0
     · have f1 : ((n.names.length : Int) = 0) = True := by simp only [eq_iff_iff, iff_true]; omega
       by_cases d2 : n.kids.length = 0
       · have f2 : ((n.kids.length : Int) = 0) = True := by simp only [eq_iff_iff, iff_true]; omega
         cases d3 : NT n.text
         · rw [d3] at ht
           simp only [AM, go_sem, AD, AA, AC, AB, KB_n, KB_x, Nat.reduceBEq, Nat.reduceAdd, Nat.reduceLT, Nat.reduceLeDiff, Nat.reduceEqDiff, reduceIte, Int.reduceEq, reduceCtorEq, BO, hq, hm, l0, l1, l2, l3, Nat.zero_add, List.length_map, ht, e1, e3, f1, f2]
           rw [show W1 n = false by simp [W1, d3]]
           exact hbr _
         · rw [d3] at ht
           by_cases d4 : 0 < n.text.length
           · have f4 : ((0 : Int) < (n.text.length : Int)) = True := by simp only [eq_iff_iff, iff_true]; omega
             simp only [AM, go_sem, AD, AA, AC, AB, KB_n, KB_x, Nat.reduceBEq, Nat.reduceAdd, Nat.reduceLT, Nat.reduceLeDiff, Nat.reduceEqDiff, reduceIte, Int.reduceEq, reduceCtorEq, BO, hq, hm, l0, l1, l2, l3, Nat.zero_add, List.length_map, ht, e1, e3, f1, f2, f4]
             rw [show W1 n = true by simp [W1, d1, d2, d3, d4, k1]]
             exact hbr _
           · have f4 : ((0 : Int) < (n.text.length : Int)) = False := by simp only [eq_iff_iff, iff_false]; omega
             simp only [AM, go_sem, AD, AA, AC, AB, KB_n, KB_x, Nat.reduceBEq, Nat.reduceAdd, Nat.reduceLT, Nat.reduceLeDiff, Nat.reduceEqDiff, reduceIte, Int.reduceEq, reduceCtorEq, BO, hq, hm, l0, l1, l2, l3, Nat.zero_add, List.length_map, ht, e1, e3, f1, f2, f4]
             rw [show W1 n = false by simp [W1, d1, d2, d3, d4, k1]]
             exact hbr _
       · have f2 : ((n.kids.length : Int) = 0) = False := by simp only [eq_iff_iff, iff_false]; omega
         simp only [AM, go_sem, AD, AA, AC, AB, KB_n, KB_x, Nat.reduceBEq, Nat.reduceAdd, Nat.reduceLT, Nat.reduceLeDiff, Nat.reduceEqDiff, reduceIte, Int.reduceEq, reduceCtorEq, BO, hq, hm, l0, l1, l2, l3, Nat.zero_add, List.length_map, ht, e1, e3, f1, f2]
         rw [show W1 n = false by simp [W1, d2]]
         exact hbr _
     · have f1 : ((n.names.length : Int) = 0) = False := by simp only [eq_iff_iff, iff_false]; omega
       simp only [AM, go_sem, AD, AA, AC, AB, KB_n, KB_x, Nat.reduceBEq, Nat.reduceAdd, Nat.reduceLT, Nat.reduceLeDiff, Nat.reduceEqDiff, reduceIte, Int.reduceEq, reduceCtorEq, BO, hq, hm, l0, l1, l2, l3, Nat.zero_add, List.length_map, ht, e1, e3, f1]
       rw [show W1 n = false by simp [W1, d1]]
       exact hbr _
 · rw [if_neg c1]
   have e1 : ((n.kind : Int) = 1) = False := by simp only [eq_iff_iff, iff_false]; omega
   have e3 : ((n.kind : Int) = 3) = False := by simp only [eq_iff_iff, iff_false]; omega
   by_cases c2 : n.kind = 2
   · rw [if_pos c2]
     have e2 : ((n.kind : Int) ≠ 2) = False := by simp [c2]
     by_cases d1 : n.text = []
     · have f1 : (n.text ≠ []) = False := by simp [d1]
       by_cases d2 : n.names.length = n.kids.length
       · have f2 : ((n.names.length : Int) ≠ (n.kids.length : Int)) = False := by simp only [ne_eq, eq_iff_iff, iff_false]; omega
         rw [decide_eq_true d1, decide_eq_true d2]
         simp only [AM, go_sem, AD, AA, AC, AB, KB_n, KB_x, Nat.reduceBEq, Nat.reduceAdd, Nat.reduceLT, Nat.reduceLeDiff, Nat.reduceEqDiff, reduceIte, Int.reduceEq, reduceCtorEq, BO, hq, hm, l0, l1, l2, l3, Nat.zero_add, List.length_map, ht, e1, e2, e3, f1, f2]
         refine Ba (fun x e q' => ∃ i : Nat, i + x = n.names.length ∧ q' = q ∧ Cu none (n.names.take i) (n.kids.take i) = true ∧ e.get 1 = .p m 0 ∧ e.get 3 = .i .i64 (i : Nat)) ?_ n.names.length _ _ ⟨0, by omega, rfl, by simp [Cu], by simp only [go_sem, AD, AA, AC, AB, KB_n, KB_x, Nat.reduceBEq, Nat.reduceAdd, Nat.reduceLT, Nat.reduceLeDiff, Nat.reduceEqDiff, reduceIte, Int.reduceEq, reduceCtorEq], by simp only [go_sem, AD, AA, AC, AB, KB_n, KB_x, Nat.reduceBEq, Nat.reduceAdd, Nat.reduceLT, Nat.reduceLeDiff, Nat.reduceEqDiff, reduceIte, Int.reduceEq, reduceCtorEq]; rfl⟩
         rintro x e q' ⟨i, hi, rfl, hwl, g1, g3⟩
         have hnl := ho.names.2
         by_cases h : i < n.names.length
         · have h1 : ((i : Int) < (n.names.length : Int)) = True := by simp only [eq_iff_iff, iff_true]; omega
           obtain ⟨y, hy⟩ : ∃ y, n.names[i]? = some y := ⟨_, List.getElem?_eq_getElem h⟩
           obtain ⟨k, hk⟩ : ∃ k, n.kids[i]? = some k := ⟨_, List.getElem?_eq_getElem (by omega)⟩
           have hy2 : (n.names.map AV.s)[i]? = some (.s y) := by rw [List.getElem?_map, hy]; rfl
           have hk2 := JH hk
           have hkm : k ∈ n.kids := List.mem_of_getElem? hk
           have hym : y ∈ n.names := List.mem_of_getElem? hy
           have hnm := Ll y (ho.names.1 y hym).len q'
           have hkc := ih k hkm (ho.kids.1 k hkm) q' H1.wf
           have hld : ldA q' true 4 (.ep k.cells 0 .shut) = some (.agg k.cells) := rfl
           have hw1 := Af (show i + 1 < 2 ^ 63 by omega)
           have htk : n.names.take (i + 1) = n.names.take i ++ [y] := by rw [List.take_add_one, hy]; rfl
           have htk2 : n.kids.take (i + 1) = n.kids.take i ++ [k] := by rw [List.take_add_one, hk]; rfl
           have hsn := HV none (n.names.take i) (n.kids.take i) y k (by rw [List.length_take, List.length_take]; omega)
           rw [← htk, ← htk2, hwl, Bool.true_and] at hsn
           have hno : Cu none (n.names.take (i + 1)) (n.kids.take (i + 1)) = false → Cu none n.names n.kids = false := fun hf => by
            rw [Bool.eq_false_iff]
            intro ht
            rw [HW n none n.names n.kids (i + 1) ht] at hf
            cases hf
           cases hn1 : Db y with
           | false =>
             rw [hn1] at hnm hsn
             rw [hno hsn]
             simp only [go_sem, AD, AA, AC, AB, KB_n, KB_x, Nat.reduceBEq, Nat.reduceAdd, Nat.reduceLT, Nat.reduceLeDiff, Nat.reduceEqDiff, reduceIte, Int.reduceEq, reduceCtorEq, g1, g3, l2, List.length_map, h1, AI, hy2, BD, Cf, hnm, Nat.zero_add]
             exact hbr _
           | true =>
           rw [hn1] at hnm hsn
           cases i with
           | zero =>
             have h2 : ((0 : Int) < ((0 : Nat) : Int)) = False := by simp
             have hsn : Cu none (n.names.take (0 + 1)) (n.kids.take (0 + 1)) = Bi k := by rw [hsn]; simp
             cases hwk : Bi k with
             | false =>
               rw [hwk] at hkc hsn
               rw [hno hsn]
               simp only [go_sem, AD, AA, AC, AB, KB_n, KB_x, Nat.reduceBEq, Nat.reduceAdd, Nat.reduceLT, Nat.reduceLeDiff, Nat.reduceEqDiff, reduceIte, Int.reduceEq, reduceCtorEq, g1, g3, l2, List.length_map, h1, AI, hy2, BD, Cf, hnm, h2, l3, hk2, hld, BG, hkc, Nat.zero_add]
               exact ⟨rfl, hbr _⟩
             | true =>
               rw [hwk] at hkc hsn
               simp only [go_sem, AD, AA, AC, AB, KB_n, KB_x, Nat.reduceBEq, Nat.reduceAdd, Nat.reduceLT, Nat.reduceLeDiff, Nat.reduceEqDiff, reduceIte, Int.reduceEq, reduceCtorEq, g1, g3, l2, List.length_map, h1, AI, hy2, BD, Cf, hnm, h2, l3, hk2, hld, BG, hkc, hw1, Nat.zero_add]
               exact ⟨rfl, x - 1, by omega, 0 + 1, by omega, hsn, by first | trivial | rfl⟩
           | succ i =>
             have h2 : ((0 : Int) < ((i + 1 : Nat) : Int)) = True := by simp only [eq_iff_iff, iff_true]; omega
             obtain ⟨z, hz⟩ : ∃ z, n.names[i]? = some z := ⟨_, List.getElem?_eq_getElem (by omega)⟩
             have hz2 : (n.names.map AV.s)[i]? = some (.s z) := by rw [List.getElem?_map, hz]; rfl
             have hsb : IntKind.i64.wrap (((i + 1 : Nat) : Int) - 1) = (i : Int) := by
              rw [show ((i + 1 : Nat) : Int) - 1 = (i : Int) by omega]; exact CA (by omega)
             rw [G6 hz] at hsn
             have hsn : Cu none (n.names.take (i + 1 + 1)) (n.kids.take (i + 1 + 1)) = (ltN z y && Bi k) := by rw [hsn]; simp
             have hle : (ltN y z || beqN y z) = !ltN z y := Fb y z
             cases hzy : ltN z y with
             | false =>
               rw [hzy] at hle hsn
               rw [hno hsn]
               simp only [go_sem, AD, AA, AC, AB, KB_n, KB_x, Nat.reduceBEq, Nat.reduceAdd, Nat.reduceLT, Nat.reduceLeDiff, Nat.reduceEqDiff, reduceIte, Int.reduceEq, reduceCtorEq, g1, g3, List.length_map, h1, AI, hy2, BD, Cf, hnm, h2, l2, hsb, hz2, Fa, hle, Nat.zero_add]
               exact hbr _
             | true =>
               rw [hzy] at hle hsn
               cases hwk : Bi k with
               | false =>
                 rw [hwk] at hkc hsn
                 rw [hno hsn]
                 simp only [go_sem, AD, AA, AC, AB, KB_n, KB_x, Nat.reduceBEq, Nat.reduceAdd, Nat.reduceLT, Nat.reduceLeDiff, Nat.reduceEqDiff, reduceIte, Int.reduceEq, reduceCtorEq, g1, g3, List.length_map, h1, AI, hy2, BD, Cf, hnm, h2, l2, hsb, hz2, Fa, hle, l3, hk2, hld, BG, hkc, Nat.zero_add]
                 exact ⟨rfl, hbr _⟩
               | true =>
                 rw [hwk] at hkc hsn
                 simp only [go_sem, AD, AA, AC, AB, KB_n, KB_x, Nat.reduceBEq, Nat.reduceAdd, Nat.reduceLT, Nat.reduceLeDiff, Nat.reduceEqDiff, reduceIte, Int.reduceEq, reduceCtorEq, g1, g3, List.length_map, h1, AI, hy2, BD, Cf, hnm, h2, l2, hsb, hz2, Fa, hle, l3, hk2, hld, BG, hkc, hw1, Nat.zero_add]
                 exact ⟨rfl, x - 1, by omega, i + 1 + 1, by omega, hsn, by first | trivial | rfl⟩
         · have h1 : ((i : Int) < (n.names.length : Int)) = False := by simp only [eq_iff_iff, iff_false]; omega
           rw [List.take_of_length_le (by omega), List.take_of_length_le (by omega)] at hwl
           rw [hwl]
           simp only [go_sem, AD, AA, AC, AB, KB_n, KB_x, Nat.reduceBEq, Nat.reduceAdd, Nat.reduceLT, Nat.reduceLeDiff, Nat.reduceEqDiff, reduceIte, Int.reduceEq, reduceCtorEq, g1, g3, l2, List.length_map, h1, Nat.zero_add]
           exact hbr _
       · have f2 : ((n.names.length : Int) ≠ (n.kids.length : Int)) = True := by simp only [ne_eq, eq_iff_iff, iff_true]; omega
         rw [decide_eq_true d1, decide_eq_false d2]
         simp only [AM, go_sem, AD, AA, AC, AB, KB_n, KB_x, Nat.reduceBEq, Nat.reduceAdd, Nat.reduceLT, Nat.reduceLeDiff, Nat.reduceEqDiff, reduceIte, Int.reduceEq, reduceCtorEq, BO, hq, hm, l0, l1, l2, l3, Nat.zero_add, List.length_map, ht, e1, e2, e3, f1, f2]
         exact hbr _
     · have f1 : (n.text ≠ []) = True := by simp [d1]
       rw [decide_eq_false d1]
       simp only [AM, go_sem, AD, AA, AC, AB, KB_n, KB_x, Nat.reduceBEq, Nat.reduceAdd, Nat.reduceLT, Nat.reduceLeDiff, Nat.reduceEqDiff, reduceIte, Int.reduceEq, reduceCtorEq, BO, hq, hm, l0, l1, l2, l3, Nat.zero_add, List.length_map, ht, e1, e2, e3, f1]
       exact hbr _
   · rw [if_neg c2]
     have e2 : ((n.kind : Int) ≠ 2) = True := by simp only [ne_eq, eq_iff_iff, iff_true]; omega
     simp only [AM, go_sem, AD, AA, AC, AB, KB_n, KB_x, Nat.reduceBEq, Nat.reduceAdd, Nat.reduceLT, Nat.reduceLeDiff, Nat.reduceEqDiff, reduceIte, Int.reduceEq, reduceCtorEq, BO, hq, hm, l0, l1, l2, l3, Nat.zero_add, List.length_map, ht, e1, e2, e3]
     exact hbr _
theorem OJ : ∀ n : ND, n.Ok → ∀ s, Wf s → (lim prog).call CH [.agg n.cells, .agg n.cells] s = some (.b true, s) := by
 refine ND.ind fun n ih ho s hw => ?_
 refine fn_W GK rfl rfl ?_
 have H1 := ((Hp.begin hw).new (.cells 30 n.cells)).new (.cells 30 n.cells)
 rw [RD] at H1
 generalize hq : (s.enter.new (.cells 30 n.cells)).new (.cells 30 n.cells) = q at H1
 generalize hm : s.enter.nb = m at H1
 have a0 := H1.ld 1 (off := 0) (v := .i .u8 (n.kind : Nat)) rfl rfl
 have a1 := H1.ld 1 (off := 1) (v := .s n.text) rfl rfl
 have a2 := H1.ld 1 (off := 2) (v := tx n.names) rfl rfl
 have a3 := H1.ld 1 (off := 3) (v := .ws false 4 (n.kids.map ND.av)) rfl rfl
 have b0 := H1.ld 0 (off := 0) (v := .i .u8 (n.kind : Nat)) rfl rfl
 have b1 := H1.ld 0 (off := 1) (v := .s n.text) rfl rfl
 have b2 := H1.ld 0 (off := 2) (v := tx n.names) rfl rfl
 have b3 := H1.ld 0 (off := 3) (v := .ws false 4 (n.kids.map ND.av)) rfl rfl
 have hz0 : wkZ BP.cin [.agg n.cells, .agg n.cells] = [.agg n.cells, .agg n.cells] := by simp [BP, wkZ, wk, ND.cells]
 have hnl := ho.names.2
 have hkl := ho.kids.2
 rw [hz0]
 have r1 : ((n.kind : Int) ≠ (n.kind : Int)) = False := by simp
 have r2 : (n.text ≠ n.text) = False := by simp
 have r3 : ((n.names.length : Int) ≠ (n.names.length : Int)) = False := by simp
 have r4 : ((n.kids.length : Int) ≠ (n.kids.length : Int)) = False := by simp
 simp only [BP, go_sem, AD, AA, AC, AB, KB_n, KB_x, Nat.reduceBEq, Nat.reduceAdd, Nat.reduceLT, Nat.reduceLeDiff, Nat.reduceEqDiff, reduceIte, Int.reduceEq, reduceCtorEq, BO, hq, hm, a0, a1, a2, a3, b0, b1, b2, b3, Nat.zero_add, List.length_map, r1, r2, r3, r4]
 refine Ba (fun x e q' => ∃ i : Nat, i + x = n.names.length ∧ q' = q ∧ e.get 2 = .p m 0 ∧ e.get 3 = .p (m + 1) 0 ∧ e.get 5 = .i .i64 (i : Nat)) ?_ n.names.length _ _ ⟨0, by omega, rfl, by simp only [go_sem, AD, AA, AC, AB, KB_n, KB_x, Nat.reduceBEq, Nat.reduceAdd, Nat.reduceLT, Nat.reduceLeDiff, Nat.reduceEqDiff, reduceIte, Int.reduceEq, reduceCtorEq], by simp only [go_sem, AD, AA, AC, AB, KB_n, KB_x, Nat.reduceBEq, Nat.reduceAdd, Nat.reduceLT, Nat.reduceLeDiff, Nat.reduceEqDiff, reduceIte, Int.reduceEq, reduceCtorEq], by simp only [go_sem, AD, AA, AC, AB, KB_n, KB_x, Nat.reduceBEq, Nat.reduceAdd, Nat.reduceLT, Nat.reduceLeDiff, Nat.reduceEqDiff, reduceIte, Int.reduceEq, reduceCtorEq]; rfl⟩
 rintro x e q' ⟨i, hi, rfl, g2, g3, g5⟩
 by_cases h : i < n.names.length
 · have e1 : ((i : Int) < (n.names.length : Int)) = True := by simp only [eq_iff_iff, iff_true]; omega
   obtain ⟨y, hy⟩ : ∃ y, n.names[i]? = some y := ⟨_, List.getElem?_eq_getElem h⟩
   have hy2 : (n.names.map AV.s)[i]? = some (.s y) := by rw [List.getElem?_map, hy]; rfl
   have hw1 := Af (show i + 1 < 2 ^ 63 by omega)
   have ry : (y ≠ y) = False := by simp
   simp only [go_sem, AD, AA, AC, AB, KB_n, KB_x, Nat.reduceBEq, Nat.reduceAdd, Nat.reduceLT, Nat.reduceLeDiff, Nat.reduceEqDiff, reduceIte, Int.reduceEq, reduceCtorEq, g2, g3, g5, a2, b2, List.length_map, e1, AI, hy2, BD, Cf, ry, hw1, Nat.zero_add]
   exact ⟨x - 1, by omega, i + 1, by omega, rfl⟩
 · have e1 : ((i : Int) < (n.names.length : Int)) = False := by simp only [eq_iff_iff, iff_false]; omega
   simp only [go_sem, AD, AA, AC, AB, KB_n, KB_x, Nat.reduceBEq, Nat.reduceAdd, Nat.reduceLT, Nat.reduceLeDiff, Nat.reduceEqDiff, reduceIte, Int.reduceEq, reduceCtorEq, g2, g3, g5, a2, List.length_map, e1, Nat.zero_add]
   refine Ba (fun x e q'' => ∃ i : Nat, i + x = n.kids.length ∧ q'' = q' ∧ e.get 2 = .p m 0 ∧ e.get 3 = .p (m + 1) 0 ∧ e.get 6 = .i .i64 (i : Nat)) ?_ n.kids.length _ _ ⟨0, by omega, rfl, by simp only [go_sem, AD, AA, AC, AB, KB_n, KB_x, Nat.reduceBEq, Nat.reduceAdd, Nat.reduceLT, Nat.reduceLeDiff, Nat.reduceEqDiff, reduceIte, Int.reduceEq, reduceCtorEq, g2], by simp only [go_sem, AD, AA, AC, AB, KB_n, KB_x, Nat.reduceBEq, Nat.reduceAdd, Nat.reduceLT, Nat.reduceLeDiff, Nat.reduceEqDiff, reduceIte, Int.reduceEq, reduceCtorEq, g3], by simp only [go_sem, AD, AA, AC, AB, KB_n, KB_x, Nat.reduceBEq, Nat.reduceAdd, Nat.reduceLT, Nat.reduceLeDiff, Nat.reduceEqDiff, reduceIte, Int.reduceEq, reduceCtorEq]; rfl⟩
   rintro x e q'' ⟨i, hi, rfl, g2, g3, g6⟩
   by_cases h : i < n.kids.length
   · have e1 : ((i : Int) < (n.kids.length : Int)) = True := by simp only [eq_iff_iff, iff_true]; omega
     obtain ⟨k, hk1⟩ : ∃ k, n.kids[i]? = some k := ⟨_, List.getElem?_eq_getElem h⟩
     have hmem : k ∈ n.kids := List.mem_of_getElem? hk1
     have hget := JH hk1
     have hld : ldA q'' true 4 (.ep k.cells 0 .shut) = some (.agg k.cells) := rfl
     have hc := ih k hmem (ho.kids.1 k hmem) q'' H1.wf
     have hw1 := Af (show i + 1 < 2 ^ 63 by omega)
     have hnt : k.cells.all noTok = true := rfl
     simp only [go_sem, AD, AA, AC, AB, KB_n, KB_x, Nat.reduceBEq, Nat.reduceAdd, Nat.reduceLT, Nat.reduceLeDiff, Nat.reduceEqDiff, reduceIte, Int.reduceEq, reduceCtorEq, g2, g3, g6, a3, b3, List.length_map, e1, AI, hget, hld, hnt, BG, hc, hw1, Nat.zero_add, true_and]
     exact ⟨x - 1, by omega, i + 1, by omega, rfl⟩
   · have e1 : ((i : Int) < (n.kids.length : Int)) = False := by simp only [eq_iff_iff, iff_false]; omega
     simp only [go_sem, AD, AA, AC, AB, KB_n, KB_x, Nat.reduceBEq, Nat.reduceAdd, Nat.reduceLT, Nat.reduceLeDiff, Nat.reduceEqDiff, reduceIte, Int.reduceEq, reduceCtorEq, g2, g3, g6, a3, List.length_map, e1, Nat.zero_add]
     exact AO H1.over rfl rfl
end Go.Proofs.YtbfgoopcnkeblaaGreat

/-
  sym.May and the document's, at the facts of a root, of terms that were made whole.
-/
set_option maxRecDepth 100000
set_option maxHeartbeats 4000000
namespace Go.Proofs.YtbfgoopcnkeblaaGreat
open Go.Proofs.YtbfgoopcnkeblaaGreat.Am
attribute [local irreducible] W WO WE WQ WD Tr.get Tr.set
def rootF : FT := ⟨true, 2, [], [], 0, 0⟩
theorem PP : ∀ f ∈ [rootF], f.Ok := by
 intro f hf
 simp only [List.mem_singleton] at hf
 subst hf
 exact ⟨by simp [rootF], by simp [rootF], by simp [rootF], by simp [rootF]⟩
theorem NW : mayP [rootF] = true := by decide +kernel
theorem Py (s : St) : (lim prog).call JC [] s = some (fx [rootF], s) := by
 refine fn_W Pq rfl rfl ?_
 have ha : Aj 6 [AV.agg [AV.b true, AV.i IntKind.u8 2, AV.nsl, AV.nsl, AV.i IntKind.i64 0, AV.i IntKind.i64 0]] = true := rfl
 simp only [HS, go_sem, AD, AA, AC, AB, KB_n, KB_x, Nat.reduceBEq, Nat.reduceAdd, Nat.reduceLT, Nat.reduceLeDiff, Nat.reduceEqDiff, reduceIte, Int.reduceEq, reduceCtorEq, ha]
 exact AO (Over.enter s) rfl rfl
theorem Pz (s : St) : (lim prog).call C4 [] s = some (fx [rootF], s) := by
 refine fn_W GM rfl rfl ?_
 have ha : Aj 6 [AV.agg [AV.b true, AV.i IntKind.u8 2, AV.nsl, AV.nsl, AV.i IntKind.i64 0, AV.i IntKind.i64 0]] = true := rfl
 simp only [CN, go_sem, AD, AA, AC, AB, KB_n, KB_x, Nat.reduceBEq, Nat.reduceAdd, Nat.reduceLT, Nat.reduceLeDiff, Nat.reduceEqDiff, reduceIte, Int.reduceEq, reduceCtorEq, ha]
 exact AO (Over.enter s) rfl rfl
def GA (n : TD) : Bool := Bi n.nd && decide (n.kind = 2)
theorem Rs (n : TD) (ho : n.Ok) (hwh : DC n = true) (s : St) (hw : Wf s) : (lim prog).call Kf [fx [rootF], .agg n.cells] s = some (.b (GA n), s) := by
 obtain ⟨hr, hb, hkw⟩ := E2 hwh
 refine fn_W RT rfl rfl ?_
 have H1 := (Hp.begin hw).new (.cells 34 n.cells)
 generalize hq : s.enter.new (.cells 34 n.cells) = q at H1
 generalize hm : s.enter.nb = m at H1
 have l0 : ldA q false 1 (.p m 0) = some (.i .i64 (-1)) := by rw [← hr]; exact H1.ld 0 (off := 0) (v := .i .i64 n.ref) rfl rfl
 have l1 := H1.ld 0 (off := 1) (v := .i .u8 (n.kind : Nat)) rfl rfl
 have lw := H1.ldw 0 (m := 6) rfl rfl
 have hz0 : wkZ EO.cin [fx [rootF], .agg n.cells] = [fx [rootF], .agg n.cells] := by simp [EO, wkZ, wk, TD.cells, fx]
 have hbr : ∀ b, KR s [.id] (.b b) (some ([.b b], q)) := fun b => AO H1.over rfl rfl
 have hM := may_ok [rootF] PP (by simp) (by simp [flatK, rootF]) q H1.wf
 rw [NW] at hM
 have hS := Px [rootF] n ho hwh q H1.wf
 have m1_lt : ((-1 : Int) < 0) = True := by simp
 rw [hz0]
 unfold GA
 cases hwn : Bi n.nd with
 | false =>
   rw [hwn] at hS
   simp only [EO, go_sem, AD, AA, AC, AB, KB_n, KB_x, Nat.reduceBEq, Nat.reduceAdd, Nat.reduceLT, Nat.reduceLeDiff, Nat.reduceEqDiff, reduceIte, Int.reduceEq, reduceCtorEq, A4, hq, hm, l0, l1, lw, EW, AR, hM, hS, Nat.zero_add, Bool.false_and]
   exact hbr _
 | true =>
   rw [hwn] at hS
   by_cases c2 : n.kind = 2
   · have e2 : ((n.kind : Int) = 2) = True := by simp only [eq_iff_iff, iff_true]; omega
     rw [decide_eq_true c2]
     simp only [EO, go_sem, AD, AA, AC, AB, KB_n, KB_x, Nat.reduceBEq, Nat.reduceAdd, Nat.reduceLT, Nat.reduceLeDiff, Nat.reduceEqDiff, reduceIte, Int.reduceEq, reduceCtorEq, A4, hq, hm, l0, l1, lw, EW, AR, hM, hS, Nat.zero_add, Hx, m1_lt, e2]
     exact hbr _
   · have e2 : ((n.kind : Int) = 2) = False := by simp only [eq_iff_iff, iff_false]; omega
     rw [decide_eq_false c2]
     simp only [EO, go_sem, AD, AA, AC, AB, KB_n, KB_x, Nat.reduceBEq, Nat.reduceAdd, Nat.reduceLT, Nat.reduceLeDiff, Nat.reduceEqDiff, reduceIte, Int.reduceEq, reduceCtorEq, A4, hq, hm, l0, l1, lw, EW, AR, hM, hS, Nat.zero_add, Hx, m1_lt, e2]
     exact hbr _
def OM : ND := .mk 1 [] [] []
def rawF : AV := .agg [.i .u8 1, .s [], .nsl, .nsl]
def Il (n : TD) : ND := .mk n.kind n.text n.names (n.names.map fun _ => OM)
theorem TW {n : TD} (ho : n.Ok) : (Il n).Ok := by
 refine .mk ho.kind ho.text.1 ho.text.2 ho.names.1 ho.names.2 (by rw [List.length_map]; exact ho.names.2) fun x hx => ?_
 obtain ⟨_, _, rfl⟩ := List.mem_map.1 hx
 exact .mk (by simp) ⟨by simp, by simp⟩ (by simp) (by simp) (by simp) (by simp) (by simp)
theorem P0 : Bi OM = true := by decide +kernel
theorem Lp : ∀ (p : Option (List Nat)) (ns : List (List Nat)) (ks : List ND), ns.length = ks.length → (Cu p ns (ns.map fun _ => OM) && ks.all Bi) = Cu p ns ks
 | _, [], [], _ => by simp [Cu]
 | p, s :: ns, k :: ks, h => by
   have ih := Lp (some s) ns ks (by simpa using h)
   simp only [List.map_cons, Cu, P0, Bool.true_and, List.all_cons]
   rw [← ih]
   cases Db s <;> cases Bi k <;> simp [Bool.and_assoc]
 | _, [], _ :: _, h => by simp at h
 | _, _ :: _, [], h => by simp at h
theorem Rt (n : TD) (h : n.names.length = n.kids.length) : (Bi (Il n) && n.kids.all fun k => Bi k.nd) = Bi n.nd := by
 have hall : (n.kids.all fun k => Bi k.nd) = (n.kids.map TD.nd).all Bi := by rw [List.all_map]; rfl
 by_cases g : n.names = []
 · have hk : n.kids = [] := List.length_eq_zero_iff.1 (by rw [← h, g]; rfl)
   have e1 : Il n = n.nd := by rw [TD.nd_eq, Il, g, hk]; rfl
   rw [e1, hk, List.all_nil, Bool.and_true]
 rw [hall, Dx (Il n), Dx n.nd, FH, Ed, MS, Hy]
 have b1 : (Il n).kind = n.kind := rfl
 have b2 : (Il n).names = n.names := rfl
 have b3 : (Il n).text = n.text := rfl
 have b4 : (Il n).kids = n.names.map fun _ => OM := rfl
 rw [b1, b2, b3, b4, List.length_map, List.length_map]
 by_cases c1 : n.kind = 1 ∨ n.kind = 3
 · rw [if_pos c1, if_pos c1, decide_eq_false g]; rfl
 · rw [if_neg c1, if_neg c1]
   by_cases c2 : n.kind = 2
   · rw [if_pos c2, if_pos c2, ← Lp none n.names (n.kids.map TD.nd) (by rw [List.length_map]; exact h), decide_eq_true h, decide_eq_true (rfl : n.names.length = n.names.length), Bool.true_and, Bool.true_and, Bool.and_assoc]
   · rw [if_neg c2, if_neg c2]; rfl
end Go.Proofs.YtbfgoopcnkeblaaGreat

/-
  The document's May, at the facts of a root, of terms that were made whole.
-/
set_option maxRecDepth 100000
set_option maxHeartbeats 4000000
namespace Go.Proofs.YtbfgoopcnkeblaaGreat
open Go.Proofs.YtbfgoopcnkeblaaGreat.Am
attribute [local irreducible] W WO WE WQ WD Tr.get Tr.set
theorem al_raw : Aj 4 [AV.agg [.i .u8 1, .s [], .nsl, .nsl]] = true := rfl
theorem Ru (c : CT) : ∀ n : Nat, wkM (.agg [.id, .id, .sl 1 .id, .sl 4 c]) (List.replicate n rawF) = List.replicate n OM.av
 | 0 => rfl
 | n + 1 => by
   rw [List.replicate_succ, List.replicate_succ]
   simp only [wkM, Ru c n]
   congr 1
theorem PQ : ∀ n : Nat, AV.refs.go (List.replicate n rawF) = false
 | 0 => rfl
 | n + 1 => by
   rw [List.replicate_succ]
   simp only [AV.refs.go, PQ n, Bool.or_false]; rfl
theorem Ve {s s' : St} {a a' : AV} {es : Nat} {xs : List AV} (h : Am.pub s a = some (a', s')) (ht : BZ a ≠ none) (hd : Dp es a' xs) : a' = .sl es xs .shut := by
 cases a with
 | sl e l m =>
   cases m with
   | tok k v =>
     have hs : ∃ l', a' = .sl e l' .shut := by
      simp only [Am.pub] at h
      split at h <;> try (cases h; done)
      split at h <;> cases h
      exact ⟨_, rfl⟩
     obtain ⟨l', rfl⟩ := hs
     rcases hd with ⟨h, _⟩ | ⟨h, _⟩ | h | h | h | h <;> cases h
     rfl
   | full => exact absurd rfl ht
   | shut => exact absurd rfl ht
 | _ => exact absurd rfl ht
theorem Vf (n : TD) (ho : n.Ok) (s : St) (hw : Wf s) : (lim prog).call C6 [.agg n.cells] s = some (.agg (Il n).cells, s) := by
 refine fn_W GV rfl rfl ?_
 have H0 := (Hp.begin hw).new (.cells 34 n.cells)
 generalize hq : s.enter.new (.cells 34 n.cells) = q at H0
 generalize hm : s.enter.nb = m at H0
 have H1 := H0.new (.cells 30 [.i .u8 0, .s [], .nsl, .nsl])
 generalize hq1 : q.new (.cells 30 [.i .u8 0, .s [], .nsl, .nsl]) = q1 at H1
 generalize hm1 : q.nb = m1 at H1
 have l1 := H1.ld 1 (off := 1) (v := .i .u8 (n.kind : Nat)) rfl rfl
 have l2 := H1.ld 1 (off := 2) (v := .s n.text) rfl rfl
 have l4 := H1.ld 1 (off := 4) (v := tx n.names) rfl rfl
 have H2 := H1.new (.cells 30 [.i .u8 0, .s [], .nsl, .nsl])
 generalize hq2 : q1.new (.cells 30 [.i .u8 0, .s [], .nsl, .nsl]) = q2 at H2
 generalize hm2 : q1.nb = m2 at H2
 obtain ⟨q3, d3, H3, _⟩ := H2.stw 0 (v := .agg [.i .u8 (n.kind : Nat), .s n.text, tx n.names, .nsl]) (m := 4) rfl rfl ⟨rfl, rfl⟩
 have hz0 : wkZ BS.cin [.agg n.cells] = [.agg n.cells] := by simp [BS, wkZ, wk, TD.cells]
 have hnl := ho.names.2
 rw [hz0]
 simp only [BS, go_sem, AD, AA, AC, AB, KB_n, KB_x, Nat.reduceBEq, Nat.reduceAdd, Nat.reduceLT, Nat.reduceLeDiff, Nat.reduceEqDiff, reduceIte, Int.reduceEq, reduceCtorEq, A4, hq, hm, hq1, hm1, hq2, hm2, l1, l2, l4, d3, Nat.zero_add]
 refine Ba (fun x e q => ∃ (i : Nat) (a : AV), i + x = n.names.length ∧ Hp s q s.en [⟨4, 30, a, List.replicate i rawF, true⟩] [(m2, .cells 30 [.i .u8 (n.kind : Nat), .s n.text, tx n.names, a]), (m1, .cells 30 [.i .u8 0, .s [], .nsl, .nsl]), (m, .cells 34 n.cells)] ∧ (a = .nsl ∧ i = 0 ∨ BZ a ≠ none) ∧
  e.get 1 = .p m 0 ∧ e.get 2 = .p m1 0 ∧ e.get 3 = .p m2 0 ∧ e.get 4 = .i .i64 (i : Nat)) ?_ n.names.length _ _ ?_
 · rintro x e q' ⟨i, a, hi, H, hra, g1, g2, g3, g4⟩
   have l4 := H.ld 2 (off := 4) (v := tx n.names) rfl rfl
   by_cases h : i < n.names.length
   · have e1 : ((i : Int) < (n.names.length : Int)) = True := by simp only [eq_iff_iff, iff_true]; omega
     have l3 := H.ld 0 (off := 3) rfl rfl
     have lr := (H.rld 0 rfl).1
     obtain ⟨a', q6, d6, H6, _, p6⟩ := H.app 0 (y := .sl 4 [.agg [.i .u8 1, .s [], .nsl, .nsl]] .full) (ys := [rawF]) rfl (by simp [elems, St.ok, rawF]) (by simp; omega)
     obtain ⟨q7, d7, H7, _⟩ := H6.st 0 (off := 3) (v := a') rfl (by simp) ⟨(H6.rcells 0 rfl).1, (H6.rcells 0 rfl).2.1⟩
     have hw1 := Af (show i + 1 < 2 ^ 63 by omega)
     simp only [go_sem, AD, AA, AC, AB, KB_n, KB_x, Nat.reduceBEq, Nat.reduceAdd, Nat.reduceLT, Nat.reduceLeDiff, Nat.reduceEqDiff, reduceIte, Int.reduceEq, reduceCtorEq, g1, g2, g3, g4, l4, e1, List.length_map, l3, lr, al_raw, RY, le14, d6, d7, hw1, Nat.zero_add]
     refine ⟨x - 1, by omega, i + 1, a', by omega, ?_, .inr (p6 (by simp)).1, rfl⟩
     rw [List.replicate_succ']
     exact H7
   · have e1 : ((i : Int) < (n.names.length : Int)) = False := by simp only [eq_iff_iff, iff_false]; omega
     obtain rfl : i = n.names.length := by omega
     have l5 : ldA q' true 4 (.p m2 0) = some (.agg [.i .u8 (n.kind : Nat), .s n.text, tx n.names, a]) := H.ldw 0 (m := 4) rfl rfl
     have hrep : (n.names.map fun _ => OM).map ND.av = List.replicate n.names.length OM.av := by
      rw [List.map_map]
      generalize n.names = L
      induction L with
      | nil => rfl
      | cons x L il => rw [List.map_cons, il, List.length_cons, List.replicate_succ]; rfl
     rcases hra with ⟨rfl, h0⟩ | hra
     · have hn0 : n.names = [] := List.length_eq_zero_iff.1 h0
       obtain ⟨q7, d7, H7, _⟩ := H.stw 1 (v := .agg [.i .u8 (n.kind : Nat), .s n.text, tx n.names, .nsl]) (m := 4) rfl rfl ⟨rfl, rfl⟩
       have l7 := H7.ldw 1 (m := 4) rfl rfl
       simp only [go_sem, AD, AA, AC, AB, KB_n, KB_x, Nat.reduceBEq, Nat.reduceAdd, Nat.reduceLT, Nat.reduceLeDiff, Nat.reduceEqDiff, reduceIte, Int.reduceEq, reduceCtorEq, g1, g2, g3, g4, l4, e1, List.length_map, l5, d7, l7, Nat.zero_add]
       refine AO H7.over ?_ ?_
       · simp only [Bo, AV.refs, AV.refs.go, EY, tx, Bool.or_self]
       · simp only [Bo, wkZ, wk, tx, hn0, Il, ND.cells, ND.kind, ND.text, ND.names, ND.kids, List.map_nil]
     · obtain ⟨a', q6, d6, t6, H6, _⟩ := H.pub 0 rfl
       obtain rfl := Ve d6 hra t6
       obtain ⟨q7, d7, H7, _⟩ := H6.stw 1 (v := .agg [.i .u8 (n.kind : Nat), .s n.text, tx n.names, .sl 4 (List.replicate n.names.length rawF) .shut]) (m := 4) rfl rfl ⟨rfl, rfl⟩
       have l7 := H7.ldw 1 (m := 4) rfl rfl
       simp only [go_sem, AD, AA, AC, AB, KB_n, KB_x, Nat.reduceBEq, Nat.reduceAdd, Nat.reduceLT, Nat.reduceLeDiff, Nat.reduceEqDiff, reduceIte, Int.reduceEq, reduceCtorEq, g1, g2, g3, g4, l4, e1, List.length_map, l5, d6, d7, l7, Nat.zero_add]
       refine AO H7.over ?_ ?_
       · simp only [Bo, AV.refs, AV.refs.go, PQ, EY, tx, Bool.or_self]
       · have hb : Nat.beq 4 4 = true := rfl
         simp only [Bo, wkZ, wk, hb, if_true, Ru, tx, Il, ND.cells, ND.kind, ND.text, ND.names, ND.kids, hrep]
 · simp only [go_sem, AD, AA, AC, AB, KB_n, KB_x, Nat.reduceBEq, Nat.reduceAdd, Nat.reduceLT, Nat.reduceLeDiff, Nat.reduceEqDiff, reduceIte, Int.reduceEq, reduceCtorEq]
   exact ⟨0, .nsl, by omega, H3.addFull 4 30 true .nil, .inl ⟨rfl, rfl⟩, rfl⟩
end Go.Proofs.YtbfgoopcnkeblaaGreat

/-
  touchstoneref23.Well and May of terms that were made whole.
-/
set_option maxRecDepth 100000
set_option maxHeartbeats 4000000
namespace Go.Proofs.YtbfgoopcnkeblaaGreat
open Go.Proofs.YtbfgoopcnkeblaaGreat.Am
attribute [local irreducible] W WO WE WQ WD Tr.get Tr.set
theorem Lq (k : ND) (s : St) : pub s (.agg k.cells) = some (.agg k.cells, s) := rfl
theorem MT (L : List FT) : ∀ n : TD, n.Ok → DC n = true → ∀ s, Wf s → (lim prog).call CK [fx L, .agg n.cells, .b false] s = some (.b (Bi n.nd), s) := by
 refine TD.ind fun n ih ho hwh s hw => ?_
 obtain ⟨hr, hb, hkw⟩ := E2 hwh
 refine fn_W GQ rfl rfl ?_
 have H1 := (Hp.begin hw).new (.cells 34 n.cells)
 generalize hq : s.enter.new (.cells 34 n.cells) = q at H1
 generalize hm : s.enter.nb = m at H1
 have l0 : ldA q false 1 (.p m 0) = some (.i .i64 (-1)) := by rw [← hr]; exact H1.ld 0 (off := 0) (v := .i .i64 n.ref) rfl rfl
 have l1 := H1.ld 0 (off := 1) (v := .i .u8 (n.kind : Nat)) rfl rfl
 have l3 : ldA q false 1 (.p m 3) = some (.i .i64 (-1)) := by rw [← hb]; exact H1.ld 0 (off := 3) (v := .i .i64 n.base) rfl rfl
 have l4 := H1.ld 0 (off := 4) (v := tx n.names) rfl rfl
 have l5 := H1.ld 0 (off := 5) (v := .ws false 6 (n.kids.map TD.av)) rfl rfl
 have lw := H1.ldw 0 (m := 6) rfl rfl
 have hz0 : wkZ Ao.cin [fx L, .agg n.cells, .b false] = [fx L, .agg n.cells, .b false] := by simp [Ao, wkZ, wk, TD.cells, fx]
 have hbr : ∀ b, KR s [.id] (.b b) (some ([.b b], q)) := fun b => AO H1.over rfl rfl
 have hB := Vf n ho q H1.wf
 have hW := Ks (Il n) (TW ho) q H1.wf
 have hnl := ho.names.2
 have hkl := ho.kids.2
 rw [hz0]
 by_cases c0 : n.kind = 0
 · have e0 : ((n.kind : Int) = 0) = True := by simp only [eq_iff_iff, iff_true]; omega
   have : Bi n.nd = false := by
    rw [Dx, FH, c0, if_neg (by omega), if_neg (by omega)]
   rw [this]
   simp only [Ao, go_sem, AD, AA, AC, AB, KB_n, KB_x, Nat.reduceBEq, Nat.reduceAdd, Nat.reduceLT, Nat.reduceLeDiff, Nat.reduceEqDiff, reduceIte, Int.reduceEq, reduceCtorEq, A4, hq, hm, l0, l1, Hx, Jg, e0, Nat.zero_add]
   exact hbr _
 have e0 : ((n.kind : Int) = 0) = False := by simp only [eq_iff_iff, iff_false]; omega
 by_cases d2 : n.names.length = n.kids.length
 · have f2 : ((n.names.length : Int) ≠ (n.kids.length : Int)) = False := by simp only [ne_eq, eq_iff_iff, iff_false]; omega
   rw [← Rt n d2]
   cases hwb : Bi (Il n) with
   | false =>
     rw [hwb] at hW
     simp only [Ao, go_sem, AD, AA, AC, AB, KB_n, KB_x, Nat.reduceBEq, Nat.reduceAdd, Nat.reduceLT, Nat.reduceLeDiff, Nat.reduceEqDiff, reduceIte, Int.reduceEq, reduceCtorEq, A4, hq, hm, l0, l1, l4, l5, lw, AR, Lq, List.length_map, Hx, Jg, e0, f2, hB, hW, Nat.zero_add, Bool.false_and]
     exact hbr _
   | true =>
     rw [hwb] at hW
     simp only [Ao, go_sem, AD, AA, AC, AB, KB_n, KB_x, Nat.reduceBEq, Nat.reduceAdd, Nat.reduceLT, Nat.reduceLeDiff, Nat.reduceEqDiff, reduceIte, Int.reduceEq, reduceCtorEq, A4, hq, hm, l0, l1, l3, l4, l5, lw, AR, Lq, List.length_map, Hx, Jg, e0, f2, hB, hW, Nat.zero_add, Bool.true_and]
     refine Ba (fun x e q' => ∃ i : Nat, i + x = n.kids.length ∧ q' = q ∧ ((n.kids.take i).all fun k => Bi k.nd) = true ∧ e.get 0 = fx L ∧ e.get 4 = .p m 0 ∧ e.get 7 = .i .i64 (i : Nat)) ?_ n.kids.length _ _ ?_
     · rintro x e q' ⟨i, hi, rfl, hall, g0, g4, g7⟩
       by_cases h : i < n.kids.length
       · have e1 : ((i : Int) < (n.kids.length : Int)) = True := by simp only [eq_iff_iff, iff_true]; omega
         obtain ⟨k, hk1⟩ : ∃ k, n.kids[i]? = some k := ⟨_, List.getElem?_eq_getElem h⟩
         have hmem : k ∈ n.kids := List.mem_of_getElem? hk1
         have hget := F9 hk1
         have hc := ih k hmem (ho.kids.1 k hmem) (hkw k hmem) q' H1.wf
         have hw1 := Af (show i + 1 < 2 ^ 63 by omega)
         cases hwk : Bi k.nd with
         | false =>
           rw [hwk] at hc
           have : (n.kids.all fun k => Bi k.nd) = false := by
            rw [Bool.eq_false_iff]
            intro hh
            rw [List.all_eq_true] at hh
            rw [hh k hmem] at hwk; cases hwk
           rw [this]
           simp only [go_sem, AD, AA, AC, AB, KB_n, KB_x, Nat.reduceBEq, Nat.reduceAdd, Nat.reduceLT, Nat.reduceLeDiff, Nat.reduceEqDiff, reduceIte, Int.reduceEq, reduceCtorEq, g0, g4, g7, l3, l5, List.length_map, e1, AI, hget, C1, AR, Cc, EW, Hx, hc, Nat.zero_add]
           exact hbr _
         | true =>
           rw [hwk] at hc
           simp only [go_sem, AD, AA, AC, AB, KB_n, KB_x, Nat.reduceBEq, Nat.reduceAdd, Nat.reduceLT, Nat.reduceLeDiff, Nat.reduceEqDiff, reduceIte, Int.reduceEq, reduceCtorEq, g0, g4, g7, l3, l5, List.length_map, e1, AI, hget, C1, AR, Cc, EW, Hx, hc, hw1, Nat.zero_add]
           refine ⟨x - 1, by omega, i + 1, by omega, ?_, rfl⟩
           rw [List.take_add_one, hk1]
           simp [hall, hwk]
       · have e1 : ((i : Int) < (n.kids.length : Int)) = False := by simp only [eq_iff_iff, iff_false]; omega
         rw [List.take_of_length_le (by omega)] at hall
         rw [hall]
         simp only [go_sem, AD, AA, AC, AB, KB_n, KB_x, Nat.reduceBEq, Nat.reduceAdd, Nat.reduceLT, Nat.reduceLeDiff, Nat.reduceEqDiff, reduceIte, Int.reduceEq, reduceCtorEq, g0, g4, g7, l5, List.length_map, e1, Nat.zero_add]
         exact hbr _
     · simp only [go_sem, AD, AA, AC, AB, KB_n, KB_x, Nat.reduceBEq, Nat.reduceAdd, Nat.reduceLT, Nat.reduceLeDiff, Nat.reduceEqDiff, reduceIte, Int.reduceEq, reduceCtorEq]
       exact ⟨0, by omega, by simp, rfl⟩
 · have f2 : ((n.names.length : Int) ≠ (n.kids.length : Int)) = True := by simp only [ne_eq, eq_iff_iff, iff_true]; omega
   have : Bi n.nd = false := by
    rw [Dx, FH, Ed, MS, Hy, List.length_map]
    by_cases c1 : n.kind = 1 ∨ n.kind = 3
    · rw [if_pos c1]
      by_cases g1 : n.names = []
      · have g2 : n.kids.length ≠ 0 := by intro h; exact d2 (by rw [g1, h]; rfl)
        simp [g2]
      · simp [g1]
    · rw [if_neg c1]
      by_cases c2 : n.kind = 2
      · rw [if_pos c2, decide_eq_false d2]; simp
      · rw [if_neg c2]
   rw [this]
   simp only [Ao, go_sem, AD, AA, AC, AB, KB_n, KB_x, Nat.reduceBEq, Nat.reduceAdd, Nat.reduceLT, Nat.reduceLeDiff, Nat.reduceEqDiff, reduceIte, Int.reduceEq, reduceCtorEq, A4, hq, hm, l0, l1, l4, l5, List.length_map, Hx, Jg, e0, f2, Nat.zero_add]
   exact hbr _
theorem NX (n : TD) (ho : n.Ok) (hwh : DC n = true) (s : St) (hw : Wf s) : (lim prog).call DG [fx [rootF], .agg n.cells] s = some (.b (GA n), s) := by
 obtain ⟨hr, hb, hkw⟩ := E2 hwh
 refine fn_W Gw rfl rfl ?_
 have H1 := (Hp.begin hw).new (.cells 34 n.cells)
 generalize hq : s.enter.new (.cells 34 n.cells) = q at H1
 generalize hm : s.enter.nb = m at H1
 have l0 : ldA q false 1 (.p m 0) = some (.i .i64 (-1)) := by rw [← hr]; exact H1.ld 0 (off := 0) (v := .i .i64 n.ref) rfl rfl
 have l1 := H1.ld 0 (off := 1) (v := .i .u8 (n.kind : Nat)) rfl rfl
 have lw := H1.ldw 0 (m := 6) rfl rfl
 have hz0 : wkZ A5.cin [fx [rootF], .agg n.cells] = [fx [rootF], .agg n.cells] := by simp [A5, wkZ, wk, TD.cells, fx]
 have hbr : ∀ b, KR s [.id] (.b b) (some ([.b b], q)) := fun b => AO H1.over rfl rfl
 have hM := OB [rootF] PP (by simp) (by simp [flatK, rootF]) q H1.wf
 rw [NW] at hM
 have hS := MT [rootF] n ho hwh q H1.wf
 rw [hz0]
 unfold GA
 cases hwn : Bi n.nd with
 | false =>
   rw [hwn] at hS
   simp only [A5, go_sem, AD, AA, AC, AB, KB_n, KB_x, Nat.reduceBEq, Nat.reduceAdd, Nat.reduceLT, Nat.reduceLeDiff, Nat.reduceEqDiff, reduceIte, Int.reduceEq, reduceCtorEq, A4, hq, hm, l0, l1, lw, EW, AR, hM, hS, Nat.zero_add, Bool.false_and]
   exact hbr _
 | true =>
   rw [hwn] at hS
   by_cases c2 : n.kind = 2
   · have e2 : ((n.kind : Int) = 2) = True := by simp only [eq_iff_iff, iff_true]; omega
     rw [decide_eq_true c2]
     simp only [A5, go_sem, AD, AA, AC, AB, KB_n, KB_x, Nat.reduceBEq, Nat.reduceAdd, Nat.reduceLT, Nat.reduceLeDiff, Nat.reduceEqDiff, reduceIte, Int.reduceEq, reduceCtorEq, A4, hq, hm, l0, l1, lw, EW, AR, hM, hS, Nat.zero_add, Hx, e2]
     exact hbr _
   · have e2 : ((n.kind : Int) = 2) = False := by simp only [eq_iff_iff, iff_false]; omega
     rw [decide_eq_false c2]
     simp only [A5, go_sem, AD, AA, AC, AB, KB_n, KB_x, Nat.reduceBEq, Nat.reduceAdd, Nat.reduceLT, Nat.reduceLeDiff, Nat.reduceEqDiff, reduceIte, Int.reduceEq, reduceCtorEq, A4, hq, hm, l0, l1, lw, EW, AR, hM, hS, Nat.zero_add, Hx, e2]
     exact hbr _
end Go.Proofs.YtbfgoopcnkeblaaGreat

/-
  touchstoneref07.Node: a term that was made whole as a node.
-/
set_option maxRecDepth 100000
set_option maxHeartbeats 4000000
namespace Go.Proofs.YtbfgoopcnkeblaaGreat
open Go.Proofs.YtbfgoopcnkeblaaGreat.Am
attribute [local irreducible] W WO WE WQ WD Tr.get Tr.set
theorem MU : ∀ l : List ND, (∀ k ∈ l, beqA k.av k.av = true) → EL (l.map ND.av) (l.map ND.av) = true
 | [], _ => rfl
 | k :: l, h => by
   simp only [List.map_cons, EL, h k (by simp), MU l fun x hx => h x (by simp [hx]), Bool.and_self]
theorem bN : ∀ n : ND, beqA n.av n.av = true := by
 refine ND.ind fun n ih => ?_
 rw [ND.av_eq]
 simp only [beqA, ND.cells, EL, tx, Gr, I7, MU n.kids ih, decide_true, Bool.and_self, Nat.beq_refl, beq_self_eq_true]
theorem MV : ∀ l : List TD, (∀ k ∈ l, beqA k.av k.av = true) → EL (l.map TD.av) (l.map TD.av) = true
 | [], _ => rfl
 | k :: l, h => by
   simp only [List.map_cons, EL, h k (by simp), MV l fun x hx => h x (by simp [hx]), Bool.and_self]
theorem bT : ∀ n : TD, beqA n.av n.av = true := by
 refine TD.ind fun n ih => ?_
 rw [TD.av_eq]
 simp only [beqA, TD.cells, EL, tx, Gr, I7, MV n.kids ih, decide_true, Bool.and_self, Nat.beq_refl, beq_self_eq_true]
theorem shut_n (k : ND) (s : St) : Nn false s (.agg k.cells) = some (.agg k.cells, s) := rfl
theorem T5 (k : TD) (s : St) : Nn false s (.agg k.cells) = some (.agg k.cells, s) := rfl
theorem al4n (k : ND) : Aj 4 [AV.agg k.cells] = true := rfl
theorem al6t (k : TD) : Aj 6 [AV.agg k.cells] = true := rfl
theorem le16 : (1 ≤ 6) = True := by simp
theorem Lr : ∀ {p : Option (List Nat)} {ns : List (List Nat)} {ks : List ND}, ns.length = ks.length → Cu p ns ks = true → ∀ k ∈ ks, Bi k = true
 | _, _, [], _, _ => by simp
 | _, [], _ :: _, h, _ => by simp at h
 | _, s :: ns, k :: ks, h, hw => by
   simp only [Cu, Bool.and_eq_true] at hw
   intro x hx
   rcases List.mem_cons.1 hx with rfl | hx
   · exact hw.2.2.1
   · exact Lr (by simpa using h) hw.2.2.2 x hx
theorem Fd {n : ND} (h : Bi n = true) : n.names.length = n.kids.length ∧ (∀ k ∈ n.kids, Bi k = true) ∧ n.kind ≠ 0 := by
 rw [Dx] at h
 by_cases c1 : n.kind = 1 ∨ n.kind = 3
 · rw [if_pos c1] at h
   simp only [Bool.and_eq_true, decide_eq_true_eq] at h
   have hk : n.kids = [] := List.length_eq_zero_iff.1 h.2.1
   refine ⟨by rw [h.1, hk]; rfl, by rw [hk]; simp, by omega⟩
 · rw [if_neg c1] at h
   by_cases c2 : n.kind = 2
   · rw [if_pos c2] at h
     simp only [Bool.and_eq_true, decide_eq_true_eq] at h
     exact ⟨h.2.1, Lr h.2.1 h.2.2, by omega⟩
   · rw [if_neg c2] at h; cases h
theorem P1 : ∀ n : TD, n.Ok → Bi n.nd = true → ∀ s, Wf s → (lim prog).call CI [.agg n.cells] s = some (.agg n.nd.cells, s) := by
 refine TD.ind fun n ih ho hwn s hw => ?_
 have hnd := Fd hwn
 rw [Ed, Hy, List.length_map, FH] at hnd
 obtain ⟨hlen, hkw, hk0⟩ := hnd
 have hkw : ∀ k ∈ n.kids, Bi k.nd = true := fun k hk => hkw _ (List.mem_map.2 ⟨k, hk, rfl⟩)
 refine fn_W GN rfl rfl ?_
 have H0 := (Hp.begin hw).new (.cells 34 n.cells)
 generalize hq : s.enter.new (.cells 34 n.cells) = q at H0
 generalize hm : s.enter.nb = m at H0
 have H1 := H0.new (.cells 30 [.i .u8 0, .s [], .nsl, .nsl])
 generalize hq1 : q.new (.cells 30 [.i .u8 0, .s [], .nsl, .nsl]) = q1 at H1
 generalize hm1 : q.nb = m1 at H1
 have l1 := H1.ld 1 (off := 1) (v := .i .u8 (n.kind : Nat)) rfl rfl
 have l2 := H1.ld 1 (off := 2) (v := .s n.text) rfl rfl
 have H2 := H1.new (.cells 30 [.i .u8 0, .s [], .nsl, .nsl])
 generalize hq2 : q1.new (.cells 30 [.i .u8 0, .s [], .nsl, .nsl]) = q2 at H2
 generalize hm2 : q1.nb = m2 at H2
 obtain ⟨q3, d3, H3, _⟩ := H2.stw 0 (v := .agg [.i .u8 (n.kind : Nat), .s n.text, .nsl, .nsl]) (m := 4) rfl rfl ⟨rfl, rfl⟩
 have hz0 : wkZ BQ.cin [.agg n.cells] = [.agg n.cells] := by simp [BQ, wkZ, wk, TD.cells]
 have hnl := ho.names.2
 have hkl := ho.kids.2
 rw [hz0]
 simp only [BQ, go_sem, AD, AA, AC, AB, KB_n, KB_x, Nat.reduceBEq, Nat.reduceAdd, Nat.reduceLT, Nat.reduceLeDiff, Nat.reduceEqDiff, reduceIte, Int.reduceEq, reduceCtorEq, A4, hq, hm, hq1, hm1, hq2, hm2, l1, l2, d3, Nat.zero_add]
 refine Ba (fun x e q => ∃ (i : Nat) (a b : AV), i + x = n.kids.length ∧ Hp s q s.en [⟨4, 30, a, ((n.kids.map TD.nd).take i).map ND.av, true⟩, ⟨1, 9, b, (n.names.take i).map .s, true⟩] [(m2, .cells 30 [.i .u8 (n.kind : Nat), .s n.text, b, a]), (m1, .cells 30 [.i .u8 0, .s [], .nsl, .nsl]), (m, .cells 34 n.cells)] ∧
  e.get 1 = .p m 0 ∧ e.get 2 = .p m1 0 ∧ e.get 3 = .p m2 0 ∧ e.get 4 = .i .i64 (i : Nat)) ?_ n.kids.length _ _ ?_
 · rintro x e q' ⟨i, a, b, hi, H, g1, g2, g3, g4⟩
   have l5 := H.ld 2 (off := 5) (v := .ws false 6 (n.kids.map TD.av)) rfl rfl
   by_cases h : i < n.kids.length
   · have e1 : ((i : Int) < (n.kids.length : Int)) = True := by simp only [eq_iff_iff, iff_true]; omega
     have l4 := H.ld 2 (off := 4) (v := tx n.names) rfl rfl
     obtain ⟨y, hy⟩ : ∃ y, n.names[i]? = some y := ⟨_, List.getElem?_eq_getElem (by omega)⟩
     obtain ⟨k, hk⟩ : ∃ k, n.kids[i]? = some k := ⟨_, List.getElem?_eq_getElem h⟩
     have hy2 : (n.names.map AV.s)[i]? = some (.s y) := by rw [List.getElem?_map, hy]; rfl
     have hk2 := F9 hk
     have hmem : k ∈ n.kids := List.mem_of_getElem? hk
     have hkn : (n.kids.map TD.nd)[i]? = some k.nd := by rw [List.getElem?_map, hk]; rfl
     have hkk := (Fd (hkw k hmem)).2.2
     rw [FH] at hkk
     have e2 : ((k.kind : Int) ≠ 0) = True := by simp only [ne_eq, eq_iff_iff, iff_true]; omega
     have hkd : ldA q' false 1 (.ep k.cells 1 .shut) = some (.i .u8 (k.kind : Nat)) := rfl
     have l2 := H.ld 0 (off := 2) rfl rfl
     have r1 := H.rld 1 rfl
     obtain ⟨b', q6, d6, H6, _⟩ := H.app 1 (y := .sl 1 [.s y] .full) (ys := [.s y]) rfl (by simp [elems, St.ok]) (by simp; omega)
     obtain ⟨q7, d7, H7, _⟩ := H6.st 0 (off := 2) (v := b') rfl (by simp) ⟨(H6.rcells 1 rfl).1, (H6.rcells 1 rfl).2.1⟩
     have l3 := H7.ld 0 (off := 3) rfl rfl
     have r0 := H7.rld 0 rfl
     have l5b := H7.ld 2 (off := 5) (v := .ws false 6 (n.kids.map TD.av)) rfl rfl
     have hc := ih k hmem (ho.kids.1 k hmem) (hkw k hmem) q7 H7.wf
     have hst := H7.still 0 rfl (MU _ fun k _ => bN k)
     obtain ⟨a', q8, d8, H8, _⟩ := H7.app 0 (y := .sl 4 [.agg k.nd.cells] .full) (ys := [.agg k.nd.cells]) rfl (by simp [elems, St.ok]) (by simp [List.length_take]; omega)
     obtain ⟨q9, d9, H9, _⟩ := H8.st 0 (off := 3) (v := a') rfl (by simp) ⟨(H8.rcells 0 rfl).1, (H8.rcells 0 rfl).2.1⟩
     have hw1 := Af (show i + 1 < 2 ^ 63 by omega)
     have alS : Aj 1 [AV.s y] = true := rfl
     simp only [go_sem, AD, AA, AC, AB, KB_n, KB_x, Nat.reduceBEq, Nat.reduceAdd, Nat.reduceLT, Nat.reduceLeDiff, Nat.reduceEqDiff, reduceIte, Int.reduceEq, reduceCtorEq, g1, g2, g3, g4, l5, e1, List.length_map, AI, hk2, hkd, e2, l2, l4, r1, hy2, BD, Cf, alS, RY, d6, d7, Nat.zero_add]
     refine GH rfl ?_
     simp only [go_sem, AD, AA, AC, AB, KB_n, KB_x, Nat.reduceBEq, Nat.reduceAdd, Nat.reduceLT, Nat.reduceLeDiff, Nat.reduceEqDiff, reduceIte, Int.reduceEq, reduceCtorEq, g1, g2, g3, g4, l3, l5b, List.length_map, AI, hk2, r0, C1, AR, Cc, hc, shut_n, al4n, le14, d8, d9, Nat.zero_add]
     refine N3 rfl ?_ hst ⟨⟨_, rfl, l3⟩, ⟨_, rfl, l3⟩, ⟨_, rfl, l3⟩, ⟨_, rfl, l3⟩, ⟨_, rfl, l3⟩, ⟨_, rfl, l3⟩, ⟨_, rfl, l3⟩, ⟨_, rfl, l3⟩, ⟨_, rfl, l3⟩, trivial⟩ (GI ?_)
     · simp only [go_sem, AD, AA, AC, AB, KB_n, KB_x, Nat.reduceBEq, Nat.reduceAdd, Nat.reduceLT, Nat.reduceLeDiff, Nat.reduceEqDiff, reduceIte, Int.reduceEq, reduceCtorEq, g3]
     simp only [go_sem, AD, AA, AC, AB, KB_n, KB_x, Nat.reduceBEq, Nat.reduceAdd, Nat.reduceLT, Nat.reduceLeDiff, Nat.reduceEqDiff, reduceIte, Int.reduceEq, reduceCtorEq, g4, hw1]
     refine ⟨x - 1, by omega, i + 1, a', b', by omega, ?_, g1, g2, g3, rfl⟩
     have ht1 : ((n.kids.map TD.nd).take (i + 1)).map ND.av = ((n.kids.map TD.nd).take i).map ND.av ++ [.agg k.nd.cells] := by
      rw [List.take_add_one, hkn]; simp [ND.av_eq]
     have ht2 : (n.names.take (i + 1)).map AV.s = (n.names.take i).map AV.s ++ [.s y] := by
      rw [List.take_add_one, hy]; simp
     rw [ht1, ht2]
     exact H9
   · have e1 : ((i : Int) < (n.kids.length : Int)) = False := by simp only [eq_iff_iff, iff_false]; omega
     obtain rfl : i = n.kids.length := by omega
     have l6 : ldA q' true 4 (.p m2 0) = some (.agg [.i .u8 (n.kind : Nat), .s n.text, b, a]) := H.ldw 0 (m := 4) rfl rfl
     obtain ⟨b', q5, d5, t5, H5, _⟩ := H.pub 1 rfl
     obtain ⟨a', q6, d6, t6, H6, _⟩ := H5.pub 0 rfl
     obtain ⟨q7, d7, H7, _⟩ := H6.stw 1 (v := .agg [.i .u8 (n.kind : Nat), .s n.text, b', a']) (m := 4) rfl rfl ⟨rfl, by simp only [Dl, Am.ones, t5.ones, t6.ones]⟩
     have l7 := H7.ldw 1 (m := 4) rfl rfl
     have hT1 : (n.kids.map TD.nd).take n.kids.length = n.kids.map TD.nd := List.take_of_length_le (by rw [List.length_map]; exact Nat.le_refl _)
     have hT2 : n.names.take n.kids.length = n.names := List.take_of_length_le (by omega)
     rw [hT1] at t6
     rw [hT2] at t5
     simp only [go_sem, AD, AA, AC, AB, KB_n, KB_x, Nat.reduceBEq, Nat.reduceAdd, Nat.reduceLT, Nat.reduceLeDiff, Nat.reduceEqDiff, reduceIte, Int.reduceEq, reduceCtorEq, g1, g2, g3, g4, l5, e1, List.length_map, l6, d5, d6, d7, l7, t5.frz, t6.frz, Nat.zero_add]
     refine AO H7.over ?_ ?_
     · simp only [Bo, AV.refs, AV.refs.go, t5.refs (EY _), t6.refs (PJ _), Bool.or_self]
     · have hc : ∀ (c : CT), ∀ k ∈ n.kids.map TD.nd, wk (.agg [.id, .id, .sl 1 .id, .sl 4 c]) k.av = k.av := fun c k _ => by
        rw [ND.av_eq]; simp [wk, wkZ, ND.cells]
       simp only [Bo, wkZ, wk, t5.wk (Pf _), t6.wk (Tz _ _ (hc _))]
       rw [TD.nd_eq]
       rfl
 · simp only [go_sem, AD, AA, AC, AB, KB_n, KB_x, Nat.reduceBEq, Nat.reduceAdd, Nat.reduceLT, Nat.reduceLeDiff, Nat.reduceEqDiff, reduceIte, Int.reduceEq, reduceCtorEq]
   exact ⟨0, .nsl, .nsl, by omega, (H3.addFull 1 9 true .nil).addFull 4 30 true .nil, rfl⟩
end Go.Proofs.YtbfgoopcnkeblaaGreat

/-
  touchstoneref07.Made: a node as a term.
-/
set_option maxRecDepth 100000
set_option maxHeartbeats 4000000
namespace Go.Proofs.YtbfgoopcnkeblaaGreat
open Go.Proofs.YtbfgoopcnkeblaaGreat.Am
attribute [local irreducible] W WO WE WQ WD Tr.get Tr.set
theorem PS (l : List TD) : AV.refs.go (l.map TD.av) = false := by
 induction l with
 | nil => rfl
 | cons a l il => simp only [List.map_cons, AV.refs.go, PO, il, Bool.or_self]
theorem Rv (c : CT) (l : List TD) (hc : ∀ k ∈ l, wk c k.av = k.av) : wkM c (l.map TD.av) = l.map TD.av := by
 induction l with
 | nil => rfl
 | cons a l ih => simp only [List.map_cons, wkM, hc a (by simp), ih fun k hk => hc k (by simp [hk])]
theorem NY (f : ND) (s : St) : ldA s true 4 (.ep f.cells 0 .shut) = some (.agg f.cells) := rfl
theorem NZ (k : ND) : k.cells.all noTok = true := rfl
theorem P2 : ∀ n : ND, n.Ok → Bi n = true → ∀ s, Wf s → (lim prog).call CJ [.agg n.cells] s = some (.agg n.td.cells, s) := by
 refine ND.ind fun n ih ho hwn s hw => ?_
 obtain ⟨hlen, hkw, _⟩ := Fd hwn
 refine fn_W GP rfl rfl ?_
 have H0 := (Hp.begin hw).new (.cells 30 n.cells)
 generalize hq : s.enter.new (.cells 30 n.cells) = q at H0
 generalize hm : s.enter.nb = m at H0
 have H1 := H0.new (.cells 34 [.i .i64 0, .i .u8 0, .s [], .i .i64 0, .nsl, .nsl])
 generalize hq1 : q.new (.cells 34 [.i .i64 0, .i .u8 0, .s [], .i .i64 0, .nsl, .nsl]) = q1 at H1
 generalize hm1 : q.nb = m1 at H1
 have l1 := H1.ld 1 (off := 0) (v := .i .u8 (n.kind : Nat)) rfl rfl
 have l2 := H1.ld 1 (off := 1) (v := .s n.text) rfl rfl
 have H2 := H1.new (.cells 34 [.i .i64 0, .i .u8 0, .s [], .i .i64 0, .nsl, .nsl])
 generalize hq2 : q1.new (.cells 34 [.i .i64 0, .i .u8 0, .s [], .i .i64 0, .nsl, .nsl]) = q2 at H2
 generalize hm2 : q1.nb = m2 at H2
 obtain ⟨q3, d3, H3, _⟩ := H2.stw 0 (v := .agg [.i .i64 (-1), .i .u8 (n.kind : Nat), .s n.text, .i .i64 (-1), .nsl, .nsl]) (m := 6) rfl rfl ⟨rfl, rfl⟩
 have hz0 : wkZ BR.cin [.agg n.cells] = [.agg n.cells] := by simp [BR, wkZ, wk, ND.cells]
 have hnl := ho.names.2
 have hkl := ho.kids.2
 rw [hz0]
 simp only [BR, go_sem, AD, AA, AC, AB, KB_n, KB_x, Nat.reduceBEq, Nat.reduceAdd, Nat.reduceLT, Nat.reduceLeDiff, Nat.reduceEqDiff, reduceIte, Int.reduceEq, reduceCtorEq, BO, hq, hm, hq1, hm1, hq2, hm2, l1, l2, d3, Nat.zero_add]
 refine Ba (fun x e q => ∃ (i : Nat) (a b : AV), i + x = n.kids.length ∧ Hp s q s.en [⟨6, 34, a, ((n.kids.map ND.td).take i).map TD.av, true⟩, ⟨1, 9, b, (n.names.take i).map .s, true⟩] [(m2, .cells 34 [.i .i64 (-1), .i .u8 (n.kind : Nat), .s n.text, .i .i64 (-1), b, a]), (m1, .cells 34 [.i .i64 0, .i .u8 0, .s [], .i .i64 0, .nsl, .nsl]), (m, .cells 30 n.cells)] ∧
  e.get 1 = .p m 0 ∧ e.get 2 = .p m1 0 ∧ e.get 3 = .p m2 0 ∧ e.get 4 = .i .i64 (i : Nat)) ?_ n.kids.length _ _ ?_
 · rintro x e q' ⟨i, a, b, hi, H, g1, g2, g3, g4⟩
   have l5 := H.ld 2 (off := 3) (v := .ws false 4 (n.kids.map ND.av)) rfl rfl
   by_cases h : i < n.kids.length
   · have e1 : ((i : Int) < (n.kids.length : Int)) = True := by simp only [eq_iff_iff, iff_true]; omega
     have l4 := H.ld 2 (off := 2) (v := tx n.names) rfl rfl
     obtain ⟨y, hy⟩ : ∃ y, n.names[i]? = some y := ⟨_, List.getElem?_eq_getElem (by omega)⟩
     obtain ⟨k, hk⟩ : ∃ k, n.kids[i]? = some k := ⟨_, List.getElem?_eq_getElem h⟩
     have hy2 : (n.names.map AV.s)[i]? = some (.s y) := by rw [List.getElem?_map, hy]; rfl
     have hk2 := JH hk
     have hmem : k ∈ n.kids := List.mem_of_getElem? hk
     have hkn : (n.kids.map ND.td)[i]? = some k.td := by rw [List.getElem?_map, hk]; rfl
     have l2 := H.ld 0 (off := 4) rfl rfl
     have r1 := H.rld 1 rfl
     obtain ⟨b', q6, d6, H6, _⟩ := H.app 1 (y := .sl 1 [.s y] .full) (ys := [.s y]) rfl (by simp [elems, St.ok]) (by simp; omega)
     obtain ⟨q7, d7, H7, _⟩ := H6.st 0 (off := 4) (v := b') rfl (by simp) ⟨(H6.rcells 1 rfl).1, (H6.rcells 1 rfl).2.1⟩
     have l3 := H7.ld 0 (off := 5) rfl rfl
     have r0 := H7.rld 0 rfl
     have l5b := H7.ld 2 (off := 3) (v := .ws false 4 (n.kids.map ND.av)) rfl rfl
     have hc := ih k hmem (ho.kids.1 k hmem) (hkw k hmem) q7 H7.wf
     have hst := H7.still 0 rfl (MV _ fun k _ => bT k)
     obtain ⟨a', q8, d8, H8, _⟩ := H7.app 0 (y := .sl 6 [.agg k.td.cells] .full) (ys := [.agg k.td.cells]) rfl (by simp [elems, St.ok]) (by simp [List.length_take]; omega)
     obtain ⟨q9, d9, H9, _⟩ := H8.st 0 (off := 5) (v := a') rfl (by simp) ⟨(H8.rcells 0 rfl).1, (H8.rcells 0 rfl).2.1⟩
     have hw1 := Af (show i + 1 < 2 ^ 63 by omega)
     have alS : Aj 1 [AV.s y] = true := rfl
     simp only [go_sem, AD, AA, AC, AB, KB_n, KB_x, Nat.reduceBEq, Nat.reduceAdd, Nat.reduceLT, Nat.reduceLeDiff, Nat.reduceEqDiff, reduceIte, Int.reduceEq, reduceCtorEq, g1, g2, g3, g4, l5, e1, List.length_map, AI, l2, l4, r1, hy2, BD, Cf, alS, RY, d6, d7, Nat.zero_add]
     refine GH rfl ?_
     simp only [go_sem, AD, AA, AC, AB, KB_n, KB_x, Nat.reduceBEq, Nat.reduceAdd, Nat.reduceLT, Nat.reduceLeDiff, Nat.reduceEqDiff, reduceIte, Int.reduceEq, reduceCtorEq, g1, g2, g3, g4, l3, l5b, List.length_map, AI, hk2, r0, NY, BG, NZ, hc, T5, al6t, le16, d8, d9, Nat.zero_add]
     refine N3 rfl ?_ hst ⟨⟨_, rfl, l3⟩, ⟨_, rfl, l3⟩, ⟨_, rfl, l3⟩, ⟨_, rfl, l3⟩, ⟨_, rfl, l3⟩, ⟨_, rfl, l3⟩, ⟨_, rfl, l3⟩, ⟨_, rfl, l3⟩, ⟨_, rfl, l3⟩, trivial⟩ (GI ?_)
     · simp only [go_sem, AD, AA, AC, AB, KB_n, KB_x, Nat.reduceBEq, Nat.reduceAdd, Nat.reduceLT, Nat.reduceLeDiff, Nat.reduceEqDiff, reduceIte, Int.reduceEq, reduceCtorEq, g3]
     simp only [go_sem, AD, AA, AC, AB, KB_n, KB_x, Nat.reduceBEq, Nat.reduceAdd, Nat.reduceLT, Nat.reduceLeDiff, Nat.reduceEqDiff, reduceIte, Int.reduceEq, reduceCtorEq, g4, hw1]
     refine ⟨x - 1, by omega, i + 1, a', b', by omega, ?_, g1, g2, g3, rfl⟩
     have ht1 : ((n.kids.map ND.td).take (i + 1)).map TD.av = ((n.kids.map ND.td).take i).map TD.av ++ [.agg k.td.cells] := by
      rw [List.take_add_one, hkn]; simp [TD.av_eq]
     have ht2 : (n.names.take (i + 1)).map AV.s = (n.names.take i).map AV.s ++ [.s y] := by
      rw [List.take_add_one, hy]; simp
     rw [ht1, ht2]
     exact H9
   · have e1 : ((i : Int) < (n.kids.length : Int)) = False := by simp only [eq_iff_iff, iff_false]; omega
     obtain rfl : i = n.kids.length := by omega
     have l6 : ldA q' true 6 (.p m2 0) = some (.agg [.i .i64 (-1), .i .u8 (n.kind : Nat), .s n.text, .i .i64 (-1), b, a]) := H.ldw 0 (m := 6) rfl rfl
     obtain ⟨b', q5, d5, t5, H5, _⟩ := H.pub 1 rfl
     obtain ⟨a', q6, d6, t6, H6, _⟩ := H5.pub 0 rfl
     obtain ⟨q7, d7, H7, _⟩ := H6.stw 1 (v := .agg [.i .i64 (-1), .i .u8 (n.kind : Nat), .s n.text, .i .i64 (-1), b', a']) (m := 6) rfl rfl ⟨rfl, by simp only [Dl, Am.ones, t5.ones, t6.ones]⟩
     have l7 := H7.ldw 1 (m := 6) rfl rfl
     have hT1 : (n.kids.map ND.td).take n.kids.length = n.kids.map ND.td := List.take_of_length_le (by rw [List.length_map]; exact Nat.le_refl _)
     have hT2 : n.names.take n.kids.length = n.names := List.take_of_length_le (by omega)
     rw [hT1] at t6
     rw [hT2] at t5
     simp only [go_sem, AD, AA, AC, AB, KB_n, KB_x, Nat.reduceBEq, Nat.reduceAdd, Nat.reduceLT, Nat.reduceLeDiff, Nat.reduceEqDiff, reduceIte, Int.reduceEq, reduceCtorEq, g1, g2, g3, g4, l5, e1, List.length_map, l6, d5, d6, d7, l7, t5.frz, t6.frz, Nat.zero_add]
     refine AO H7.over ?_ ?_
     · simp only [Bo, AV.refs, AV.refs.go, t5.refs (EY _), t6.refs (PS _), Bool.or_self]
     · have hc : ∀ (c : CT), ∀ k ∈ n.kids.map ND.td, wk (.agg [.id, .id, .id, .id, .sl 1 .id, .sl 6 c]) k.av = k.av := fun c k _ => by
        rw [TD.av_eq]; simp [wk, wkZ, TD.cells]
       simp only [Bo, wkZ, wk, t5.wk (Pf _), t6.wk (Rv _ _ (hc _))]
       rw [ND.td_eq]
       rfl
 · simp only [go_sem, AD, AA, AC, AB, KB_n, KB_x, Nat.reduceBEq, Nat.reduceAdd, Nat.reduceLT, Nat.reduceLeDiff, Nat.reduceEqDiff, reduceIte, Int.reduceEq, reduceCtorEq]
   exact ⟨0, .nsl, .nsl, by omega, (H3.addFull 1 9 true .nil).addFull 6 34 true .nil, rfl⟩
end Go.Proofs.YtbfgoopcnkeblaaGreat

/-
  ground.made: a node as a term; touchstoneref07.SameTerm of a term and itself.
-/
set_option maxRecDepth 100000
set_option maxHeartbeats 4000000
namespace Go.Proofs.YtbfgoopcnkeblaaGreat
open Go.Proofs.YtbfgoopcnkeblaaGreat.Am
attribute [local irreducible] W WO WE WQ WD Tr.get Tr.set
theorem Vg : ∀ n : ND, n.Ok → ∀ s, Wf s → (lim prog).call Ea [.agg n.cells] s = some (.agg n.td.cells, s) := by
 refine ND.ind fun n ih ho s hw => ?_
 refine fn_W MO rfl rfl ?_
 have H0 := (Hp.begin hw).new (.cells 30 n.cells)
 generalize hq : s.enter.new (.cells 30 n.cells) = q at H0
 generalize hm : s.enter.nb = m at H0
 have H1 := H0.new (.cells 34 [.i .i64 0, .i .u8 0, .s [], .i .i64 0, .nsl, .nsl])
 generalize hq1 : q.new (.cells 34 [.i .i64 0, .i .u8 0, .s [], .i .i64 0, .nsl, .nsl]) = q1 at H1
 generalize hm1 : q.nb = m1 at H1
 have hnl := ho.names.2
 have hkl := ho.kids.2
 have l1 := H1.ld 1 (off := 0) (v := .i .u8 (n.kind : Nat)) rfl rfl
 have l2 := H1.ld 1 (off := 1) (v := .s n.text) rfl rfl
 have l3 := H1.ld 1 (off := 2) (v := tx n.names) rfl rfl
 obtain ⟨r, s1, a1, q2, d1, d2, t1, H2, _⟩ := RZ H1 n.names (by omega)
 have l1b := H2.ld 1 (off := 0) (v := .i .u8 (n.kind : Nat)) rfl rfl
 have l2b := H2.ld 1 (off := 1) (v := .s n.text) rfl rfl
 obtain ⟨q3, d3, H3, _⟩ := H2.adp (T := 34) (m := 6) (z := [.i .i64 0, .i .u8 0, .s [], .i .i64 0, .nsl, .nsl]) (v := .agg [.i .i64 (-1), .i .u8 (n.kind : Nat), .s n.text, .i .i64 (-1), a1, .nsl]) rfl ⟨rfl, by simp only [Dl, Am.ones, t1.ones]⟩
 generalize hm2 : q2.nb = m2 at d3 H3
 have l4 := H3.ld 2 (off := 3) (v := .ws false 4 (n.kids.map ND.av)) rfl rfl
 have hz0 : wkZ DU.cin [.agg n.cells] = [.agg n.cells] := by simp [DU, wkZ, wk, ND.cells]
 have c1 : a1.cells = [a1] := t1.cells.1
 rw [hz0]
 simp only [DU, go_sem, AD, AA, AC, AB, KB_n, KB_x, Nat.reduceBEq, Nat.reduceAdd, Nat.reduceLT, Nat.reduceLeDiff, Nat.reduceEqDiff, reduceIte, Int.reduceEq, reduceCtorEq, BO, hq, hm, hq1, hm1, Nat.zero_add]
 refine GH rfl ?_
 simp only [go_sem, AD, AA, AC, AB, KB_n, KB_x, Nat.reduceBEq, Nat.reduceAdd, Nat.reduceLT, Nat.reduceLeDiff, Nat.reduceEqDiff, reduceIte, Int.reduceEq, reduceCtorEq, l1, l2, l3, d1, d2, t1.pub, t1.noTok, c1, hm2, d3, Nat.zero_add]
 refine N3 rfl ?_ (VJ _ _) ⟨⟨_, rfl, l1⟩, ⟨_, rfl, l1⟩, ⟨_, rfl, l1⟩, ⟨_, rfl, l1⟩, ⟨_, rfl, l1⟩, ⟨_, rfl, l1⟩, ⟨_, rfl, l1⟩, ⟨_, rfl, l1b⟩, trivial⟩ ?_
 · simp only [go_sem, AD, AA, AC, AB, KB_n, KB_x, Nat.reduceBEq, Nat.reduceAdd, Nat.reduceLT, Nat.reduceLeDiff, Nat.reduceEqDiff, reduceIte, Int.reduceEq, reduceCtorEq]
 refine N3 rfl ?_ (VK _) ⟨⟨_, rfl, l2⟩, ⟨_, rfl, l2⟩, ⟨_, rfl, l2⟩, ⟨_, rfl, l2⟩, ⟨_, rfl, l2⟩, ⟨_, rfl, l2b⟩, trivial⟩ (GI ?_)
 · simp only [go_sem, AD, AA, AC, AB, KB_n, KB_x, Nat.reduceBEq, Nat.reduceAdd, Nat.reduceLT, Nat.reduceLeDiff, Nat.reduceEqDiff, reduceIte, Int.reduceEq, reduceCtorEq]
 simp only [go_sem, AD, AA, AC, AB, KB_n, KB_x, Nat.reduceBEq, Nat.reduceAdd, Nat.reduceLT, Nat.reduceLeDiff, Nat.reduceEqDiff, reduceIte, Int.reduceEq, reduceCtorEq, l4, List.length_map, Nat.zero_add]
 refine Ba (fun x e q => ∃ (i : Nat) (a : AV), i + x = n.kids.length ∧ Hp s q s.en [⟨6, 34, a, ((n.kids.map ND.td).take i).map TD.av, true⟩] [(m2, .cells 34 [.i .i64 (-1), .i .u8 (n.kind : Nat), .s n.text, .i .i64 (-1), a1, a]), (m1, .cells 34 [.i .i64 0, .i .u8 0, .s [], .i .i64 0, .nsl, .nsl]), (m, .cells 30 n.cells)] ∧
  e.get 2 = .p m1 0 ∧ e.get 3 = .p m2 0 ∧ e.get 15 = .ws false 4 (n.kids.map ND.av) ∧ e.get 16 = .i .i64 (n.kids.length : Nat) ∧ e.get 17 = .i .i64 (i : Nat)) ?_ n.kids.length _ _ ?_
 · rintro x e q' ⟨i, a, hi, H, g2, g3, g15, g16, g17⟩
   by_cases h : i < n.kids.length
   · have e1 : ((i : Int) < (n.kids.length : Int)) = True := by simp only [eq_iff_iff, iff_true]; omega
     obtain ⟨k, hk⟩ : ∃ k, n.kids[i]? = some k := ⟨_, List.getElem?_eq_getElem h⟩
     have hmem : k ∈ n.kids := List.mem_of_getElem? hk
     have hk2 := JH hk
     have hkn : (n.kids.map ND.td)[i]? = some k.td := by rw [List.getElem?_map, hk]; rfl
     have H4 := H.new (.cells 30 [.i .u8 0, .s [], .nsl, .nsl])
     generalize hq4 : q'.new (.cells 30 [.i .u8 0, .s [], .nsl, .nsl]) = q4 at H4
     generalize hj : q'.nb = j at H4
     obtain ⟨q5, d5, H5, _⟩ := H4.stw 0 (v := .agg k.cells) (m := 4) rfl rfl ⟨BO k, Pv k⟩
     have l3 := H5.ld 1 (off := 5) rfl rfl
     have lw := H5.ldw 0 (m := 4) rfl rfl
     have r0 := H5.rld 0 rfl
     have hst := H5.still 0 rfl (MV _ fun k _ => bT k)
     have hc := ih k hmem (ho.kids.1 k hmem) q5 H5.wf
     obtain ⟨a', q8, d8, H8, _⟩ := H5.app 0 (y := .sl 6 [.agg k.td.cells] .full) (ys := [.agg k.td.cells]) rfl (by simp [elems, St.ok]) (by simp [List.length_take]; omega)
     obtain ⟨q9, d9, H9, _⟩ := H8.st 1 (off := 5) (v := a') rfl (by simp) ⟨(H8.rcells 0 rfl).1, (H8.rcells 0 rfl).2.1⟩
     have hw1 := Af (show i + 1 < 2 ^ 63 by omega)
     simp only [go_sem, AD, AA, AC, AB, KB_n, KB_x, Nat.reduceBEq, Nat.reduceAdd, Nat.reduceLT, Nat.reduceLeDiff, Nat.reduceEqDiff, reduceIte, Int.reduceEq, reduceCtorEq, g2, g3, g15, g16, g17, e1, AI, hk2, NY, BG, hq4, hj, d5, Nat.zero_add]
     refine GH rfl ?_
     simp only [go_sem, AD, AA, AC, AB, KB_n, KB_x, Nat.reduceBEq, Nat.reduceAdd, Nat.reduceLT, Nat.reduceLeDiff, Nat.reduceEqDiff, reduceIte, Int.reduceEq, reduceCtorEq, g3, l3, lw, r0, BG, NZ, hc, T5, al6t, le16, d8, d9, Nat.zero_add]
     refine N3 rfl ?_ hst ⟨⟨_, rfl, l3⟩, ⟨_, rfl, l3⟩, ⟨_, rfl, l3⟩, ⟨_, rfl, l3⟩, ⟨_, rfl, l3⟩, trivial⟩ (GI ?_)
     · simp only [go_sem, AD, AA, AC, AB, KB_n, KB_x, Nat.reduceBEq, Nat.reduceAdd, Nat.reduceLT, Nat.reduceLeDiff, Nat.reduceEqDiff, reduceIte, Int.reduceEq, reduceCtorEq, g3]
     simp only [go_sem, AD, AA, AC, AB, KB_n, KB_x, Nat.reduceBEq, Nat.reduceAdd, Nat.reduceLT, Nat.reduceLeDiff, Nat.reduceEqDiff, reduceIte, Int.reduceEq, reduceCtorEq, g17, hw1]
     refine ⟨x - 1, by omega, i + 1, a', by omega, ?_, g2, g3, g15, g16, rfl⟩
     have ht1 : ((n.kids.map ND.td).take (i + 1)).map TD.av = ((n.kids.map ND.td).take i).map TD.av ++ [.agg k.td.cells] := by
      rw [List.take_add_one, hkn]; simp [TD.av_eq]
     rw [ht1]
     exact H9.sel [0] [1, 2, 3] (by simp) (by simp)
   · have e1 : ((i : Int) < (n.kids.length : Int)) = False := by simp only [eq_iff_iff, iff_false]; omega
     obtain rfl : i = n.kids.length := by omega
     have l6 : ldA q' true 6 (.p m2 0) = some (.agg [.i .i64 (-1), .i .u8 (n.kind : Nat), .s n.text, .i .i64 (-1), a1, a]) := H.ldw 0 (m := 6) rfl rfl
     obtain ⟨a', q6, d6, t6, H6, _⟩ := H.pub 0 rfl
     obtain ⟨q7, d7, H7, _⟩ := H6.stw 1 (v := .agg [.i .i64 (-1), .i .u8 (n.kind : Nat), .s n.text, .i .i64 (-1), a1, a']) (m := 6) rfl rfl ⟨rfl, by simp only [Dl, Am.ones, t1.ones, t6.ones]⟩
     have l7 := H7.ldw 1 (m := 6) rfl rfl
     have hT1 : (n.kids.map ND.td).take n.kids.length = n.kids.map ND.td := List.take_of_length_le (by rw [List.length_map]; exact Nat.le_refl _)
     rw [hT1] at t6
     simp only [go_sem, AD, AA, AC, AB, KB_n, KB_x, Nat.reduceBEq, Nat.reduceAdd, Nat.reduceLT, Nat.reduceLeDiff, Nat.reduceEqDiff, reduceIte, Int.reduceEq, reduceCtorEq, g2, g3, g15, g16, g17, e1, l6, t1.pub, d6, d7, l7, t1.frz, t6.frz, Nat.zero_add]
     refine AO H7.over ?_ ?_
     · simp only [Bo, AV.refs, AV.refs.go, t1.refs (EY _), t6.refs (PS _), Bool.or_self]
     · have hc : ∀ (c : CT), ∀ k ∈ n.kids.map ND.td, wk (.agg [.id, .id, .id, .id, .sl 1 .id, .sl 6 c]) k.av = k.av := fun c k _ => by
        rw [TD.av_eq]; simp [wk, wkZ, TD.cells]
       simp only [Bo, wkZ, wk, t1.wk (Pf _), t6.wk (Rv _ _ (hc _))]
       rw [ND.td_eq]
       rfl
 · simp only [go_sem, AD, AA, AC, AB, KB_n, KB_x, Nat.reduceBEq, Nat.reduceAdd, Nat.reduceLT, Nat.reduceLeDiff, Nat.reduceEqDiff, reduceIte, Int.reduceEq, reduceCtorEq]
   exact ⟨0, .nsl, by omega, H3.addFull 6 34 true .nil, rfl⟩
theorem ON : ∀ n : TD, n.Ok → ∀ s, Wf s → (lim prog).call A7 [.agg n.cells, .agg n.cells] s = some (.b true, s) := by
 refine TD.ind fun n ih ho s hw => ?_
 refine fn_W E6 rfl rfl ?_
 have H1 := ((Hp.begin hw).new (.cells 34 n.cells)).new (.cells 34 n.cells)
 rw [RD] at H1
 generalize hq : (s.enter.new (.cells 34 n.cells)).new (.cells 34 n.cells) = q at H1
 generalize hm : s.enter.nb = m at H1
 have a0 := H1.ld 1 (off := 1) (v := .i .u8 (n.kind : Nat)) rfl rfl
 have ar := H1.ld 1 (off := 0) (v := .i .i64 n.ref) rfl rfl
 have ab := H1.ld 1 (off := 3) (v := .i .i64 n.base) rfl rfl
 have a1 := H1.ld 1 (off := 2) (v := .s n.text) rfl rfl
 have a2 := H1.ld 1 (off := 4) (v := tx n.names) rfl rfl
 have a3 := H1.ld 1 (off := 5) (v := .ws false 6 (n.kids.map TD.av)) rfl rfl
 have b0 := H1.ld 0 (off := 1) (v := .i .u8 (n.kind : Nat)) rfl rfl
 have br := H1.ld 0 (off := 0) (v := .i .i64 n.ref) rfl rfl
 have bb := H1.ld 0 (off := 3) (v := .i .i64 n.base) rfl rfl
 have b1 := H1.ld 0 (off := 2) (v := .s n.text) rfl rfl
 have b2 := H1.ld 0 (off := 4) (v := tx n.names) rfl rfl
 have b3 := H1.ld 0 (off := 5) (v := .ws false 6 (n.kids.map TD.av)) rfl rfl
 have hz0 : wkZ A8.cin [.agg n.cells, .agg n.cells] = [.agg n.cells, .agg n.cells] := by simp [A8, wkZ, wk, TD.cells]
 have hnl := ho.names.2
 have hkl := ho.kids.2
 rw [hz0]
 have r1 : ((n.kind : Int) ≠ (n.kind : Int)) = False := by simp
 have r5 : (n.ref ≠ n.ref) = False := by simp
 have r6 : (n.base ≠ n.base) = False := by simp
 have r2 : (n.text ≠ n.text) = False := by simp
 have r3 : ((n.names.length : Int) ≠ (n.names.length : Int)) = False := by simp
 have r4 : ((n.kids.length : Int) ≠ (n.kids.length : Int)) = False := by simp
 simp only [A8, go_sem, AD, AA, AC, AB, KB_n, KB_x, Nat.reduceBEq, Nat.reduceAdd, Nat.reduceLT, Nat.reduceLeDiff, Nat.reduceEqDiff, reduceIte, Int.reduceEq, reduceCtorEq, A4, hq, hm, a0, a1, a2, a3, ar, ab, b0, b1, b2, b3, br, bb, Nat.zero_add, List.length_map, r1, r2, r3, r4, r5, r6]
 refine Ba (fun x e q' => ∃ i : Nat, i + x = n.names.length ∧ q' = q ∧ e.get 2 = .p m 0 ∧ e.get 3 = .p (m + 1) 0 ∧ e.get 5 = .i .i64 (i : Nat)) ?_ n.names.length _ _ ⟨0, by omega, rfl, by simp only [go_sem, AD, AA, AC, AB, KB_n, KB_x, Nat.reduceBEq, Nat.reduceAdd, Nat.reduceLT, Nat.reduceLeDiff, Nat.reduceEqDiff, reduceIte, Int.reduceEq, reduceCtorEq], by simp only [go_sem, AD, AA, AC, AB, KB_n, KB_x, Nat.reduceBEq, Nat.reduceAdd, Nat.reduceLT, Nat.reduceLeDiff, Nat.reduceEqDiff, reduceIte, Int.reduceEq, reduceCtorEq], by simp only [go_sem, AD, AA, AC, AB, KB_n, KB_x, Nat.reduceBEq, Nat.reduceAdd, Nat.reduceLT, Nat.reduceLeDiff, Nat.reduceEqDiff, reduceIte, Int.reduceEq, reduceCtorEq]; rfl⟩
 rintro x e q' ⟨i, hi, rfl, g2, g3, g5⟩
 by_cases h : i < n.names.length
 · have e1 : ((i : Int) < (n.names.length : Int)) = True := by simp only [eq_iff_iff, iff_true]; omega
   obtain ⟨y, hy⟩ : ∃ y, n.names[i]? = some y := ⟨_, List.getElem?_eq_getElem h⟩
   have hy2 : (n.names.map AV.s)[i]? = some (.s y) := by rw [List.getElem?_map, hy]; rfl
   have hw1 := Af (show i + 1 < 2 ^ 63 by omega)
   have ry : (y ≠ y) = False := by simp
   simp only [go_sem, AD, AA, AC, AB, KB_n, KB_x, Nat.reduceBEq, Nat.reduceAdd, Nat.reduceLT, Nat.reduceLeDiff, Nat.reduceEqDiff, reduceIte, Int.reduceEq, reduceCtorEq, g2, g3, g5, a2, b2, List.length_map, e1, AI, hy2, BD, Cf, ry, hw1, Nat.zero_add]
   exact ⟨x - 1, by omega, i + 1, by omega, rfl⟩
 · have e1 : ((i : Int) < (n.names.length : Int)) = False := by simp only [eq_iff_iff, iff_false]; omega
   simp only [go_sem, AD, AA, AC, AB, KB_n, KB_x, Nat.reduceBEq, Nat.reduceAdd, Nat.reduceLT, Nat.reduceLeDiff, Nat.reduceEqDiff, reduceIte, Int.reduceEq, reduceCtorEq, g2, g3, g5, a2, List.length_map, e1, Nat.zero_add]
   refine Ba (fun x e q'' => ∃ i : Nat, i + x = n.kids.length ∧ q'' = q' ∧ e.get 2 = .p m 0 ∧ e.get 3 = .p (m + 1) 0 ∧ e.get 6 = .i .i64 (i : Nat)) ?_ n.kids.length _ _ ⟨0, by omega, rfl, by simp only [go_sem, AD, AA, AC, AB, KB_n, KB_x, Nat.reduceBEq, Nat.reduceAdd, Nat.reduceLT, Nat.reduceLeDiff, Nat.reduceEqDiff, reduceIte, Int.reduceEq, reduceCtorEq, g2], by simp only [go_sem, AD, AA, AC, AB, KB_n, KB_x, Nat.reduceBEq, Nat.reduceAdd, Nat.reduceLT, Nat.reduceLeDiff, Nat.reduceEqDiff, reduceIte, Int.reduceEq, reduceCtorEq, g3], by simp only [go_sem, AD, AA, AC, AB, KB_n, KB_x, Nat.reduceBEq, Nat.reduceAdd, Nat.reduceLT, Nat.reduceLeDiff, Nat.reduceEqDiff, reduceIte, Int.reduceEq, reduceCtorEq]; rfl⟩
   rintro x e q'' ⟨i, hi, rfl, g2, g3, g6⟩
   by_cases h : i < n.kids.length
   · have e1 : ((i : Int) < (n.kids.length : Int)) = True := by simp only [eq_iff_iff, iff_true]; omega
     obtain ⟨k, hk1⟩ : ∃ k, n.kids[i]? = some k := ⟨_, List.getElem?_eq_getElem h⟩
     have hmem : k ∈ n.kids := List.mem_of_getElem? hk1
     have hget := F9 hk1
     have hld : ldA q'' true 6 (.ep k.cells 0 .shut) = some (.agg k.cells) := rfl
     have hc := ih k hmem (ho.kids.1 k hmem) q'' H1.wf
     have hw1 := Af (show i + 1 < 2 ^ 63 by omega)
     have hnt : k.cells.all noTok = true := rfl
     simp only [go_sem, AD, AA, AC, AB, KB_n, KB_x, Nat.reduceBEq, Nat.reduceAdd, Nat.reduceLT, Nat.reduceLeDiff, Nat.reduceEqDiff, reduceIte, Int.reduceEq, reduceCtorEq, g2, g3, g6, a3, b3, List.length_map, e1, AI, hget, hld, hnt, AR, hc, hw1, Nat.zero_add, true_and]
     exact ⟨x - 1, by omega, i + 1, by omega, rfl⟩
   · have e1 : ((i : Int) < (n.kids.length : Int)) = False := by simp only [eq_iff_iff, iff_false]; omega
     simp only [go_sem, AD, AA, AC, AB, KB_n, KB_x, Nat.reduceBEq, Nat.reduceAdd, Nat.reduceLT, Nat.reduceLeDiff, Nat.reduceEqDiff, reduceIte, Int.reduceEq, reduceCtorEq, g2, g3, g6, a3, List.length_map, e1, Nat.zero_add]
     exact AO H1.over rfl rfl
end Go.Proofs.YtbfgoopcnkeblaaGreat

/-
  ground.names: the names of two lists, in their order, as an iterator.
-/
set_option maxRecDepth 100000
set_option maxHeartbeats 4000000
namespace Go.Proofs.YtbfgoopcnkeblaaGreat
open Go.Proofs.YtbfgoopcnkeblaaGreat.Am
attribute [local irreducible] W WO WE WQ WD Tr.get Tr.set
theorem Ku {s s1 : St} {v : AV} (h : v.refs = true) : leave s s1 v = { s1 with lo := min s.lo s1.lo } := by
 unfold Am.leave
 rw [h, Bool.not_true, Bool.and_false, if_neg (by simp)]
theorem P3 (L : List (List Nat)) (s : St) : (lim prog).call Ar [tx L] s =
    some (.fn AH [.p s.nb 0], { s.new (.cells 23 [tx L]) with lo := min s.lo s.nb }) := by
 obtain ⟨r, s', h, rfl, rfl⟩ := fn_G (f := Ar) (args := [tx L]) (s := s) (Post := fun r s' => r = .fn AH [.p s.nb 0] ∧ s' = { s.new (.cells 23 [tx L]) with lo := min s.lo s.nb }) Cz rfl rfl (by
  have hz0 : wkZ Ab.cin [tx L] = [tx L] := by simp [Ab, wkZ, wk, tx]
  rw [hz0]
  have c1 : (tx L).cells = [tx L] := rfl
  have hl1 : ∀ a : AV, [a].length = 1 := fun _ => rfl
  simp only [Ab, go_sem, AD, AA, AC, AB, KB_n, KB_x, Nat.reduceBEq, Nat.reduceAdd, Nat.reduceLT, Nat.reduceLeDiff, Nat.reduceEqDiff, reduceIte, Int.reduceEq, reduceCtorEq, c1, hl1]
  exact ⟨_, _, rfl, rfl, Ku rfl⟩)
 exact h
theorem OO (id : Nat) (s : St) : (lim prog).call Ah [.m id] s =
    some (.fn AN [.p s.nb 0], { s.new (.cells 83 [.m id]) with lo := min s.lo s.nb }) := by
 obtain ⟨r, s', h, rfl, rfl⟩ := fn_G (f := Ah) (args := [.m id]) (s := s) (Post := fun r s' => r = .fn AN [.p s.nb 0] ∧ s' = { s.new (.cells 83 [.m id]) with lo := min s.lo s.nb }) DY rfl rfl (by
  have hl1 : ∀ a : AV, [a].length = 1 := fun _ => rfl
  simp only [A2, go_sem, AD, AA, AC, AB, KB_n, KB_x, Nat.reduceBEq, Nat.reduceAdd, Nat.reduceLT, Nat.reduceLeDiff, Nat.reduceEqDiff, reduceIte, Int.reduceEq, reduceCtorEq, hl1]
  exact ⟨_, _, rfl, rfl, Ku rfl⟩)
 exact h
def oneM (L : List (List Nat)) : List (AV × AV) := L.map fun y => (.s y, .i .i64 1)
theorem TX {L : List (List Nat)} {y : List Nat} (h : y ∉ L) : L7 1 (.s y) (oneM L) = some none := by
 induction L with
 | nil => rfl
 | cons a L ih =>
   simp only [List.mem_cons, not_or] at h
   have := ih h.2
   unfold oneM at this
   simp only [oneM, List.map_cons, L7, RE, decide_eq_false h.1, this]
theorem Vh {L : List (List Nat)} {y : List Nat} (h : y ∉ L) : updM 1 (.s y) (.i .i64 1) (oneM L) = some (oneM (L ++ [y])) := by
 induction L with
 | nil => rfl
 | cons a L ih =>
   simp only [List.mem_cons, not_or] at h
   have := ih h.2
   unfold oneM at this
   simp only [oneM, List.map_cons, updM, RE, decide_eq_false h.1, this, List.cons_append]
theorem PU : ∀ L : List (List Nat), Ms (oneM L) = some L
 | [] => rfl
 | a :: L => by
   have := PU L
   unfold oneM at this
   simp only [oneM, List.map_cons, Ms, this]
theorem Na : ∀ {L : List (List Nat)}, L.Pairwise (fun a b => leN a b = true) → sortF L = L
 | [], _ => rfl
 | a :: L, h => by
   rw [List.pairwise_cons] at h
   rw [sortF, Na h.2]
   cases L with
   | nil => rfl
   | cons b L => rw [insN, h.1 b (by simp)]; rfl
theorem OP {args : List AV} {s : St} : (lim prog).call Bq args s = HL 87 args s := by
 rw [Fo]
 unfold Gk
 rw [GU]
 rfl
theorem P4 {L : List (List Nat)} (hp : L.Pairwise fun a b => leN a b = true) (hl : L.length ≤ 2 ^ 40) (hs : ∀ l ∈ L, l.length ≤ 2 ^ 47 - 4096) {q : St} {b id T : Nat} (hb : q.box? b = some (.cells T [.m id])) (hm : q.box? id = some (.map (oneM L))) :
    (lim prog).call Bq [.fn AN [.p b 0]] q = some (if L.isEmpty then .nsl else .sl 1 (L.map .s) .shut, q) := by
 rw [OP]
 have hc : L.length ≤ 2 ^ 40 ∧ (L.all fun l => decide (l.length ≤ 2 ^ 47 - 4096)) = true := ⟨hl, by
  rw [List.all_eq_true]; intro l h; rw [decide_eq_true_eq]; exact hs l h⟩
 unfold HL
 simp only [show AN = 87 from rfl, if_true, hb, hm, PU, if_pos hc, Na hp]
theorem TY {s0 s : St} {n : En} {R : List RA} {B : List (Nat × Box)} (H : Hp s0 s n R B) {L : List (List Nat)} (hp : L.Pairwise fun a b => leN a b = true) (hd : L.Nodup) (hl : L.length < 2 ^ 34) (hs : ∀ l ∈ L, l.length ≤ 2 ^ 47 - 4096) :
    ∃ b q, (lim prog).call EI [.nsl, tx L] s = some (.fn AH [.p b 0], q) ∧ Hp s0 q n R ((b, .cells 23 [tx L]) :: B) ∧ s.nb ≤ b := by
 obtain ⟨r, q, hc, b, rfl, hH, hb⟩ := fn_G (f := EI) (args := [.nsl, tx L]) (s := s) (Post := fun r q => ∃ b, r = .fn AH [.p b 0] ∧ Hp s0 q n R ((b, .cells 23 [tx L]) :: B) ∧ s.nb ≤ b) LF rfl rfl (by
  have hz0 : wkZ Ce.cin [.nsl, tx L] = [tx [], tx L] := by simp [Ce, wkZ, wk, tx]
  rw [hz0]
  have H1 := H.enter.new (.map [])
  obtain ⟨q1, hq1⟩ : ∃ q1, s.enter.new (.map []) = q1 := ⟨_, rfl⟩
  have e0 : s.enter.nb = s.nb := rfl
  rw [hq1, e0] at H1
  have hcl := NK q1
  have H2 := H1.setLo (m := min q1.lo q1.nb) (Nat.le_trans (Nat.min_le_left _ _) H1.lo) (by have := H1.over.lo; have := H1.over.nb; omega)
  obtain ⟨q2, hq2⟩ : ∃ q2, { q1 with lo := min q1.lo q1.nb } = q2 := ⟨_, rfl⟩
  have hq2' : ({ nb := q1.nb, boxes := q1.boxes, nt := q1.nt, toks := q1.toks, lo := min q1.lo q1.nb } : St) = q2 := hq2
  rw [hq2] at H2
  have hmb : s.nb < q2.nb := (H2.box (i := 0) rfl).2.2
  -- what is G4 the loop
  have hend : ∀ (q' : St), Hp s0 q' s.en R ((s.nb, .map (oneM L)) :: B) → s.nb ≤ q'.nb → ∃ (q4 q5 : St) (a : AV),
      (lim prog).call Ah [.m s.nb] q' = some (.fn AN [.p q'.nb 0], q4) ∧
      (lim prog).call Bq [.fn AN [.p q'.nb 0]] q4 = some (a, q4) ∧ (∀ u, Am.pub u a = some (a, u)) ∧
      (lim prog).call Ar [a] q4 = some (.fn AH [.p q4.nb 0], q5) ∧
      ∃ b, AV.fn AH [.p q4.nb 0] = .fn AH [.p b 0] ∧ Hp s0 (Am.leave s q5 (Bo [AV.fn AH [.p q4.nb 0]])) n R ((b, .cells 23 [tx L]) :: B) ∧ s.nb ≤ b := by
   intro q' H' hn'
   have hk := OO s.nb q'
   have K1 := (H'.new (.cells 83 [.m s.nb])).setLo (m := min q'.lo q'.nb) (Nat.le_trans (Nat.min_le_left _ _) H'.lo) (by have := H'.over.lo; have := H'.over.nb; omega)
   obtain ⟨q4, hq4⟩ : ∃ q4, { q'.new (.cells 83 [.m s.nb]) with lo := min q'.lo q'.nb } = q4 := ⟨_, rfl⟩
   rw [hq4] at K1 hk
   have hso := P4 hp (by omega) hs (K1.box (i := 0) rfl).1 (K1.box (i := 1) rfl).1
   have hv : (lim prog).call Ar [if L.isEmpty then .nsl else .sl 1 (L.map .s) .shut] q4 = some (.fn AH [.p q4.nb 0], { q4.new (.cells 23 [tx L]) with lo := min q4.lo q4.nb }) := by
    refine (Rr (args := [if L.isEmpty then .nsl else .sl 1 (L.map .s) .shut]) (args' := [tx L]) Cz rfl rfl ?_).trans (P3 L q4)
    cases L with
    | nil => simp [Ab, wkZ, wk, tx]
    | cons a L => 
      have := Pf (a :: L)
      simp [Ab, wkZ, wk, tx] at this ⊢
      exact this
   have K2 := (K1.new (.cells 23 [tx L])).setLo (m := min q4.lo q4.nb) (Nat.le_trans (Nat.min_le_left _ _) K1.lo) (by have := K1.over.lo; have := K1.over.nb; omega)
   have hpa : ∀ u, Am.pub u (if L.isEmpty then AV.nsl else .sl 1 (L.map .s) .shut) = some (if L.isEmpty then AV.nsl else .sl 1 (L.map .s) .shut, u) := fun u => by cases L <;> rfl
   generalize (if L.isEmpty then AV.nsl else .sl 1 (L.map .s) .shut) = a at hso hv hpa
   refine ⟨q4, _, a, hk, hso, hpa, hv, q4.nb, rfl, ?_, ?_⟩
   · have H5 := K2.sel (List.range R.length) (0 :: (List.range' 3 B.length)) List.nodup_range (by
      refine List.nodup_cons.2 ⟨by simp, List.nodup_range'⟩)
     rw [El] at H5
     have hpk : ∀ (x y z : Nat × Box), pick (x :: y :: z :: B) (0 :: List.range' 3 B.length) = x :: B := fun x y z => by
      have : pick (x :: y :: z :: B) (List.range' 3 B.length) = B := by
       have h1 : List.range' 3 B.length = (((List.range B.length).map (· + 1)).map (· + 1)).map (· + 1) := by
        apply List.ext_getElem <;> simp; omega
       rw [h1, FP, FP, FP, El]
      simp only [pick, List.getElem?_cons_zero, List.getElem?_cons_succ, this]
     rw [hpk] at H5
     exact H.leaveR (n1 := s.en) (v := Bo [AV.fn AH [.p q4.nb 0]]) H5 rfl
   · have : q4.nb = q'.nb + 1 := by rw [← hq4]; rfl
     omega
  have hmm : Hp s0 q2 s.en R ((s.nb, .map (oneM [])) :: B) := H2
  have hw01 : IntKind.i64.wrap (0 + 1) = 1 := rfl
  by_cases hL : L = []
  · subst hL
    have ha : appA q2 1 9 (.ws true 1 []) (tx []) = some (.ws true 1 [], q2) := rfl
    have h00 : ((0 : Int) < ((0 : Nat) : Int)) = False := by simp
    simp only [Ce, go_sem, AD, AA, AC, AB, KB_n, KB_x, Nat.reduceBEq, Nat.reduceAdd, Nat.reduceLT, Nat.reduceLeDiff, Nat.reduceEqDiff, reduceIte, Int.reduceEq, reduceCtorEq, hq1, e0, hcl, hq2', ha, List.length_nil]
    refine Ba (fun x e q => q = q2 ∧ e.get 5 = .m s.nb ∧ e.get 13 = .i .i64 ((0 : Nat) : Int) ∧ e.get 14 = .i .i64 0) ?_ 0 _ _ ?_
    · rintro x e q ⟨rfl, g5, g13, g14⟩
      obtain ⟨q4, q5, a, x1, x2, x3, x4, x5⟩ := hend _ hmm (by omega)
      simp only [go_sem, AD, AA, AC, AB, KB_n, KB_x, Nat.reduceBEq, Nat.reduceAdd, Nat.reduceLT, Nat.reduceLeDiff, Nat.reduceEqDiff, reduceIte, Int.reduceEq, reduceCtorEq, g5, g13, g14, h00, x1, x2, x3, x4]
      exact ⟨_, _, rfl, x5⟩
    · simp only [go_sem, AD, AA, AC, AB, KB_n, KB_x, Nat.reduceBEq, Nat.reduceAdd, Nat.reduceLT, Nat.reduceLeDiff, Nat.reduceEqDiff, reduceIte, Int.reduceEq, reduceCtorEq]
  · have ha : appA q2 1 9 (.ws true 1 []) (tx L) = some (.sl 1 (L.map .s) (.tok q2.nt 0), q2.newTok (L.map AV.s).length (some 9)) := by
     cases L with
     | nil => exact absurd rfl hL
     | cons y0 L' =>
       simp only [tx, List.map_cons, appA, elems, if_true, List.nil_append, List.length_nil, Nat.zero_add, true_and]
       rw [if_pos (by simp only [List.length_cons, List.length_map, Nat.mul_one] at hl ⊢; omega)]
    have H3 := hmm.newTok 1 9 (L.map .s)
    obtain ⟨q3, hq3⟩ : ∃ q3, q2.newTok (L.map AV.s).length (some 9) = q3 := ⟨_, rfl⟩
    rw [hq3] at ha H3
    have hn3 : q3.nb = q2.nb := by rw [← hq3]; rfl
    simp only [Ce, go_sem, AD, AA, AC, AB, KB_n, KB_x, Nat.reduceBEq, Nat.reduceAdd, Nat.reduceLT, Nat.reduceLeDiff, Nat.reduceEqDiff, reduceIte, Int.reduceEq, reduceCtorEq, hq1, e0, hcl, hq2', ha, List.length_map]
    refine Ba (fun x e q => ∃ i : Nat, i + x = L.length ∧ Hp s0 q s.en (⟨1, 9, .sl 1 (L.map .s) (.tok q2.nt 0), L.map .s, true⟩ :: R) ((s.nb, .map (oneM (L.take i))) :: B) ∧ s.nb ≤ q.nb ∧ e.get 5 = .m s.nb ∧ e.get 12 = .sl 1 (L.map .s) (.tok q2.nt 0) ∧ e.get 13 = .i .i64 (L.length : Nat) ∧ e.get 14 = .i .i64 (i : Nat)) ?_ L.length _ _ ?_
    · rintro x e q ⟨i, hi, K, hnb, g5, g12, g13, g14⟩
      by_cases h : i < L.length
      · have e1 : ((i : Int) < (L.length : Int)) = True := by simp only [eq_iff_iff, iff_true]; omega
        obtain ⟨y, hy⟩ : ∃ y, L[i]? = some y := ⟨_, List.getElem?_eq_getElem h⟩
        have hy2 : (L.map AV.s)[i]? = some (.s y) := by rw [List.getElem?_map, hy]; rfl
        have hok : q.ok (.tok q2.nt 0) = true := by
         rcases K.rows (i := 0) rfl with hf | ⟨k', v, t, h1, _, _, h4, h5, _⟩
         · rcases hf with ⟨h, _⟩ | ⟨h, _⟩ | h | h <;> cases h
         · cases h1
           exact FD.2 ⟨t, h4, h5⟩
        have hld : ldA q false 1 (.ep [.s y] 0 (.tok q2.nt 0)) = some (.s y) := by
         simp only [ldA, hok, if_true]
         rfl
        have hnd : y ∉ L.take i := by
         intro hh
         obtain ⟨j, hj, hjy⟩ := List.mem_iff_getElem.1 hh
         rw [List.getElem_take] at hjy
         rw [List.length_take] at hj
         rw [List.getElem?_eq_some_iff] at hy
         obtain ⟨hi2, hy⟩ := hy
         exact (List.pairwise_iff_getElem.1 hd) j i (by omega) hi2 (by omega) (by rw [hjy, hy])
        have hbm := (K.box (i := 0) rfl).1
        have hf := TX hnd
        have hu := Vh hnd
        have K2 := K.setBox (i := 0) rfl (.map (oneM (L.take (i + 1))))
        have htk : L.take (i + 1) = L.take i ++ [y] := by rw [List.take_add_one, hy]; rfl
        have hw1 := Af (show i + 1 < 2 ^ 63 by omega)
        simp only at hbm
        simp only [go_sem, AD, AA, AC, AB, KB_n, KB_x, Nat.reduceBEq, Nat.reduceAdd, Nat.reduceLT, Nat.reduceLeDiff, Nat.reduceEqDiff, reduceIte, Int.reduceEq, reduceCtorEq, g5, g12, g13, g14, e1, AI, hy2, BD, hld, hbm, hf, hw01, hu, hw1]
        rw [← htk]
        exact ⟨x - 1, by omega, i + 1, by omega, K2, hnb, rfl⟩
      · have e1 : ((i : Int) < (L.length : Int)) = False := by simp only [eq_iff_iff, iff_false]; omega
        rw [List.take_of_length_le (by omega)] at K
        obtain ⟨q4, q5, a, x1, x2, x3, x4, x5⟩ := hend _ K.dropR hnb
        simp only [go_sem, AD, AA, AC, AB, KB_n, KB_x, Nat.reduceBEq, Nat.reduceAdd, Nat.reduceLT, Nat.reduceLeDiff, Nat.reduceEqDiff, reduceIte, Int.reduceEq, reduceCtorEq, g5, g12, g13, g14, e1, x1, x2, x3, x4]
        exact ⟨_, _, rfl, x5⟩
    · simp only [go_sem, AD, AA, AC, AB, KB_n, KB_x, Nat.reduceBEq, Nat.reduceAdd, Nat.reduceLT, Nat.reduceLeDiff, Nat.reduceEqDiff, reduceIte, Int.reduceEq, reduceCtorEq]
      exact ⟨0, by omega, H3, by omega, rfl⟩)
 exact ⟨b, q, hc, hH, hb⟩
end Go.Proofs.YtbfgoopcnkeblaaGreat

/-
  The names of a well-formed node: in order, each once, found where they stand.
-/
set_option maxRecDepth 100000
set_option maxHeartbeats 4000000
namespace Go.Proofs.YtbfgoopcnkeblaaGreat
open Go.Proofs.YtbfgoopcnkeblaaGreat.Am
theorem lt_le : ∀ {a b : List Nat}, ltN a b = true → leN a b = true
 | _, [], h => by cases ‹List Nat› <;> cases h
 | [], _ :: _, _ => rfl
 | a :: x, b :: y, h => by
   simp only [ltN, Bool.or_eq_true, Bool.and_eq_true] at h
   simp only [leN, Bool.or_eq_true, Bool.and_eq_true]
   exact h.imp_right fun h => ⟨h.1, lt_le h.2⟩
theorem asc_le {L : List (List Nat)} (h : Asc L) : L.Pairwise fun a b => leN a b = true := by
 rw [List.pairwise_iff_getElem]
 intro i j hi hj hij
 exact lt_le (h hij (List.getElem?_eq_getElem hi) (List.getElem?_eq_getElem hj))
theorem Rx {L : List (List Nat)} (h : Asc L) : L.Nodup := by
 show L.Pairwise _
 rw [List.pairwise_iff_getElem]
 intro i j hi hj hij he
 have := h hij (List.getElem?_eq_getElem hi) (List.getElem?_eq_getElem hj)
 rw [he, OC] at this
 cases this
theorem bs_at {L : List (List Nat)} (hasc : Asc L) (hl : L.length < 2 ^ 62) {j : Nat} {y : List Nat} (hy : L[j]? = some y) (s : St) : (lim prog).call Ae [tx L, .s y] s = some (.tup [.i .i64 (j : Nat), .b true], s) := by
 obtain ⟨p, hp, hc⟩ := Pw L y hasc hl s
 have hpj : p = j := by
  rcases Nat.lt_trichotomy p j with h | h | h
  · exfalso
    obtain ⟨z, hz⟩ : ∃ z, L[p]? = some z := ⟨_, List.getElem?_eq_getElem (by rw [List.getElem?_eq_some_iff] at hy; have := hy.1; omega)⟩
    have h1 := hp.hi (Nat.le_refl _) hz
    have h2 := hasc h hz hy
    rw [h1] at h2; cases h2
  · exact h
  · have := hp.lo h hy
    rw [OC] at this; cases this
 subst hpj
 rw [hc, hy]
 simp
end Go.Proofs.YtbfgoopcnkeblaaGreat

/-
  slices.Values of texts: its loop over what it has; ground.node of a term that was made whole.
-/
set_option maxRecDepth 100000
set_option maxHeartbeats 4000000
namespace Go.Proofs.YtbfgoopcnkeblaaGreat
open Go.Proofs.YtbfgoopcnkeblaaGreat.Am
attribute [local irreducible] W WO WE WQ WD Tr.get Tr.set
theorem Vi {L : List (List Nat)} (hl : L.length < 2 ^ 40) {s : St} {b ky : Nat} (hb : s.box? b = some (.cells 23 [tx L])) (J : Nat → St → Prop) (h0 : J 0 s.enter)
    (hs : ∀ (j : Nat) (y : List Nat) (q : St), L[j]? = some y → J j q → ∃ q', Er (lim prog) (.yld ky) [.s y] q = some (.b true, q') ∧ J (j + 1) q') :
    ∃ q, (lim prog).call AH [.yld ky, .p b 0] s = some (.tup [], leave s q (.tup [])) ∧ J L.length q := by
 obtain ⟨r, s', hcall, rfl, q, rfl, hJ⟩ := fn_G (f := AH) (args := [.yld ky, .p b 0]) (s := s) (Post := fun r s' => r = .tup [] ∧ ∃ q, s' = leave s q (.tup []) ∧ J L.length q) ED rfl rfl (by
  have lda := O4 (s := s.enter) (v := tx L) (off := 0) hb rfl
  unfold tx at lda
  have hz0 : wkZ Ak.cin [.yld ky, .p b 0] = [.yld ky, .p b 0] := by simp [Ak, wkZ, wk]
  rw [hz0]
  simp only [Ak, go_sem, AD, AA, AC, AB, KB_n, KB_x, Nat.reduceBEq, Nat.reduceAdd, Nat.reduceLT, Nat.reduceLeDiff, Nat.reduceEqDiff, reduceIte, Int.reduceEq, reduceCtorEq, lda, List.length_map]
  refine Ba (fun n e q => ∃ j : Nat, j + n = L.length ∧ J j q ∧ e.get 0 = .yld ky ∧ e.get 5 = tx L ∧ e.get 6 = .i .i64 (L.length : Nat) ∧ e.get 7 = .i .i64 (j : Nat)) ?_ L.length _ _ ?_
  · rintro n e q ⟨j, hn, hj, g0, g5, g6, g7⟩
    by_cases h : j < L.length
    · have h1 : ((j : Int) < (L.length : Int)) = True := by simp only [eq_iff_iff, iff_true]; omega
      obtain ⟨y, hy⟩ : ∃ y, L[j]? = some y := ⟨_, List.getElem?_eq_getElem h⟩
      have hy2 : (L.map AV.s)[j]? = some (.s y) := by rw [List.getElem?_map, hy]; rfl
      have hw1 := Af (show j + 1 < 2 ^ 63 by omega)
      obtain ⟨q', hstep, hj'⟩ := hs j y q hy hj
      simp only [go_sem, AD, AA, AC, AB, KB_n, KB_x, Nat.reduceBEq, Nat.reduceAdd, Nat.reduceLT, Nat.reduceLeDiff, Nat.reduceEqDiff, reduceIte, Int.reduceEq, reduceCtorEq, g0, g5, g6, g7, h1, AI, hy2, BD, Cf, hstep, hw1]
      exact ⟨n - 1, by omega, j + 1, by omega, hj', rfl⟩
    · have h1 : ((j : Int) < (L.length : Int)) = False := by simp only [eq_iff_iff, iff_false]; omega
      obtain rfl : j = L.length := by omega
      simp only [go_sem, AD, AA, AC, AB, KB_n, KB_x, Nat.reduceBEq, Nat.reduceAdd, Nat.reduceLT, Nat.reduceLeDiff, Nat.reduceEqDiff, reduceIte, Int.reduceEq, reduceCtorEq, g0, g5, g6, g7, h1]
      exact ⟨_, _, rfl, rfl, q, rfl, hj⟩
  · simp only [go_sem, AD, AA, AC, AB, KB_n, KB_x, Nat.reduceBEq, Nat.reduceAdd, Nat.reduceLT, Nat.reduceLeDiff, Nat.reduceEqDiff, reduceIte, Int.reduceEq, reduceCtorEq]
    exact ⟨0, by omega, h0, rfl⟩)
 exact ⟨q, hcall, hJ⟩
end Go.Proofs.YtbfgoopcnkeblaaGreat

/-
  ground.node of a term that was made whole.
-/
set_option maxRecDepth 100000
set_option maxHeartbeats 4000000
namespace Go.Proofs.YtbfgoopcnkeblaaGreat
open Go.Proofs.YtbfgoopcnkeblaaGreat.Am
attribute [local irreducible] W WO WE WQ WD Tr.get Tr.set
abbrev nA : C := subC Aq.body [1, 1, 1, 1, 1, 0, 1, 0, 0]
abbrev nB : C := subC Aq.body [1, 1, 1, 1, 1, 0, 1, 0, 1]
theorem TZ (n : ND) : still (.agg n.cells) = true := by
 have h1 : n.cells.all noTok = true := rfl
 have h2 : EL n.cells n.cells = true := by
  have := bN n
  rw [ND.av_eq] at this
  simpa only [beqA] using this
 simp only [still, h1, BG, h2, Bool.and_self]
theorem P5 {n : TD} (hasc : Asc n.names) (hl : n.names.length < 2 ^ 34) (hkl : n.kids.length < 2 ^ 34) {gb : Nat} {s0 q : St} {en : En} {a b : AV} {e : Tr} {k m5 m4 m3 m2 j : Nat} {y : List Nat} {x : TD}
    (ih : ∀ u, Wf u → (lim prog).call B2 [.p gb 0, .agg x.cells] u = some (.agg x.nd.cells, u)) (hx : n.kids[j]? = some x) (hx0 : x.kind ≠ 0) (hy : n.names[j]? = some y)
    (K : Hp s0 q en [⟨4, 30, a, ((n.kids.map TD.nd).take j).map ND.av, true⟩, ⟨1, 9, b, (n.names.take j).map .s, true⟩] [(k, .loop 0 none e [38] nA nB), (m5, .cells 30 [.i .u8 (n.kind : Nat), .s n.text, b, a]), (m3, .cells 34 n.cells), (m2, .cells 54 [.p gb 0]), (m4, .cells 30 [.i .u8 0, .s [], .nsl, .nsl])])
    (g2 : e.get 2 = .p m2 0) (g3 : e.get 3 = .p m3 0) (g5 : e.get 5 = .p m5 0) :
    ∃ q', Er (lim prog) (.yld k) [.s y] q = some (.b true, q') ∧ ∃ a' b', Hp s0 q' en [⟨4, 30, a', ((n.kids.map TD.nd).take (j + 1)).map ND.av, true⟩, ⟨1, 9, b', (n.names.take (j + 1)).map .s, true⟩] [(k, .loop 0 none e [38] nA nB), (m5, .cells 30 [.i .u8 (n.kind : Nat), .s n.text, b', a']), (m3, .cells 34 n.cells), (m2, .cells 54 [.p gb 0]), (m4, .cells 30 [.i .u8 0, .s [], .nsl, .nsl])] ∧ q'.lo ≤ m5 := by
 have hbk := (K.box (i := 0) rfl).1
 suffices h : ∃ o q', Er (lim prog) (.yld k) [.s y] q = some (.b o.isNone, q') ∧ (fun (o : Option C) (q' : St) => o = none ∧ ∃ a' b', Hp s0 q' en [⟨4, 30, a', ((n.kids.map TD.nd).take (j + 1)).map ND.av, true⟩, ⟨1, 9, b', (n.names.take (j + 1)).map .s, true⟩] [(k, .loop 0 none e [38] nA nB), (m5, .cells 30 [.i .u8 (n.kind : Nat), .s n.text, b', a']), (m3, .cells 34 n.cells), (m2, .cells 54 [.p gb 0]), (m4, .cells 30 [.i .u8 0, .s [], .nsl, .nsl])] ∧ q'.lo ≤ m5) o q' by
  obtain ⟨o, q', h1, rfl, h2⟩ := h
  exact ⟨q', h1, h2⟩
 refine UZ (t := e.set 10 38 (.s y)) hbk rfl ?_
 simp only [nA, Aq, subC, go_sem, AD, AA, AC, AB, KB_n, KB_x, Nat.reduceBEq, Nat.reduceAdd, Nat.reduceLT, Nat.reduceLeDiff, Nat.reduceEqDiff, reduceIte, Int.reduceEq, reduceCtorEq]
 refine ⟨_, _, _, _, hbk, ?_⟩
 have K1 := K.setBox (i := 0) rfl (.loop 1 none e [38] nA nB)
 obtain ⟨q1, hq1⟩ : ∃ q1, q.setBox k (.loop 1 none e [38] nA nB) = q1 := ⟨_, rfl⟩
 rw [hq1] at K1 ⊢
 have K2 := K1.new (.cells 30 [.i .u8 0, .s [], .nsl, .nsl])
 obtain ⟨q2, hq2⟩ : ∃ q2, q1.new (.cells 30 [.i .u8 0, .s [], .nsl, .nsl]) = q2 := ⟨_, rfl⟩
 rw [hq2] at K2
 obtain ⟨m8, hm8⟩ : ∃ m8, q1.nb = m8 := ⟨_, rfl⟩
 rw [hm8] at K2
 have l4 := K2.ld 3 (off := 4) (v := tx n.names) rfl rfl
 have lp := K2.ld 4 (off := 0) (v := .p gb 0) rfl rfl
 have l5 := K2.ld 3 (off := 5) (v := .ws false 6 (n.kids.map TD.av)) rfl rfl
 have hbs := bs_at hasc (by omega) hy q2
 have hk2 := F9 hx
 have hc := ih q2 K2.wf
 obtain ⟨q3, d3, K3, _⟩ := K2.stw 0 (v := .agg x.nd.cells) (m := 4) rfl rfl ⟨BO _, Pv _⟩
 have lk := K3.ld 0 (off := 0) (v := .i .u8 (x.nd.kind : Nat)) rfl rfl
 have hxk : ((x.nd.kind : Int) ≠ 0) = True := by rw [FH]; simp only [ne_eq, eq_iff_iff, iff_true]; omega
 have l2 := K3.ld 2 (off := 2) rfl rfl
 have l3a := K3.ld 2 (off := 3) rfl rfl
 have lwa := K3.ldw 0 (m := 4) rfl rfl
 have r1 := K3.rld 1 rfl
 have hst := K3.still 0 rfl (MU _ fun k _ => bN k)
 have hjl : j < n.names.length := (List.getElem?_eq_some_iff.1 hy).1
 obtain ⟨b', q4, d4, K4, _, p4⟩ := K3.app 1 (y := .sl 1 [.s y] .full) (ys := [.s y]) rfl (by simp [elems, St.ok]) (by simp [List.length_take]; omega)
 have l3 := K4.ld 2 (off := 3) rfl rfl
 have lw := K4.ldw 0 (m := 4) rfl rfl
 have r0 := K4.rld 0 rfl
 obtain ⟨a', q5, d5, K5, _, p5⟩ := K4.app 0 (y := .sl 4 [.agg x.nd.cells] .full) (ys := [.agg x.nd.cells]) rfl (by simp [elems, St.ok]) (by simp [List.length_take]; omega)
 obtain ⟨q6, d6, K6, _⟩ := K5.st 2 (off := 2) (v := b') rfl (by simp) ⟨(K5.rcells 1 rfl).1, (K5.rcells 1 rfl).2.1⟩
 obtain ⟨q7, d7, K7, _, p7⟩ := K6.st 2 (off := 3) (v := a') rfl (by simp) ⟨(K6.rcells 0 rfl).1, (K6.rcells 0 rfl).2.1⟩
 have alS : Aj 1 [AV.s y] = true := rfl
 have hnt : x.nd.cells.all noTok = true := rfl
 simp only [nB, Aq, subC, go_sem, AD, AA, AC, AB, KB_n, KB_x, Nat.reduceBEq, Nat.reduceAdd, Nat.reduceLT, Nat.reduceLeDiff, Nat.reduceEqDiff, reduceIte, Int.reduceEq, reduceCtorEq, g2, g3, g5, hq2, hm8, l4, lp, l5, hbs, AI, hk2, C1, AR, Cc, hc, d3, lk, hxk, Nat.zero_add]
 refine GH rfl ?_
 simp only [go_sem, AD, AA, AC, AB, KB_n, KB_x, Nat.reduceBEq, Nat.reduceAdd, Nat.reduceLT, Nat.reduceLeDiff, Nat.reduceEqDiff, reduceIte, Int.reduceEq, reduceCtorEq, g5, l2, r1, alS, RY, d4, l3, r0, lw, BG, hnt, al4n, le14, d5, d6, d7, Nat.zero_add]
 refine N3 rfl ?_ hst ⟨⟨_, rfl, l3⟩, ⟨_, rfl, l3a⟩, ⟨_, rfl, l3⟩, ⟨_, rfl, l3⟩, trivial⟩ ?_
 · simp only [go_sem, AD, AA, AC, AB, KB_n, KB_x, Nat.reduceBEq, Nat.reduceAdd, Nat.reduceLT, Nat.reduceLeDiff, Nat.reduceEqDiff, reduceIte, Int.reduceEq, reduceCtorEq]
 refine N3 rfl ?_ (TZ _) ⟨⟨_, rfl, lw⟩, ⟨_, rfl, lwa⟩, ⟨_, rfl, lw⟩, ⟨_, rfl, lw⟩, ⟨_, rfl, lw⟩, trivial⟩ (GI ?_)
 · simp only [go_sem, AD, AA, AC, AB, KB_n, KB_x, Nat.reduceBEq, Nat.reduceAdd, Nat.reduceLT, Nat.reduceLeDiff, Nat.reduceEqDiff, reduceIte, Int.reduceEq, reduceCtorEq]
 have hkn : (n.kids.map TD.nd)[j]? = some x.nd := by rw [List.getElem?_map, hx]; rfl
 have ht1 : ((n.kids.map TD.nd).take (j + 1)).map ND.av = ((n.kids.map TD.nd).take j).map ND.av ++ [.agg x.nd.cells] := by
  rw [List.take_add_one, hkn]; simp [ND.av_eq]
 have ht2 : (n.names.take (j + 1)).map AV.s = (n.names.take j).map AV.s ++ [.s y] := by
  rw [List.take_add_one, hy]; simp
 rw [ht1, ht2]
 exact ⟨_, _, _, _, (K7.box (i := 1) rfl).1, rfl, a', b', (K7.setBox (i := 1) rfl (.loop 0 none e [38] nA nB)).sel [0, 1] [1, 2, 3, 4, 5] (by simp) (by simp), p7 (p5 (by simp)).2⟩
theorem Vj : ∀ n : TD, n.Ok → DC n = true → Bi n.nd = true → ∀ gb s, Wf s → (lim prog).call B2 [.p gb 0, .agg n.cells] s = some (.agg n.nd.cells, s) := by
 refine TD.ind fun n ih ho hwh hwn gb s hw => ?_
 obtain ⟨hr, hb, hkw⟩ := E2 hwh
 have hD := wellD hwn
 have hlen := hD.len
 have hasc : Asc n.names := by intro i j a b h1 h2 h3; exact hD.asc h1 (by rw [Ed]; exact h2) (by rw [Ed]; exact h3)
 have hnm : ∀ {i : Nat} {l : List Nat}, n.names[i]? = some l → Db l = true := fun h => hD.name (by rw [Ed]; exact h)
 rw [Ed, Hy, List.length_map] at hlen
 have hks := (Fd hwn).2.1
 rw [Hy] at hks
 have hks : ∀ k ∈ n.kids, Bi k.nd = true := fun k hk => hks _ (List.mem_map.2 ⟨k, hk, rfl⟩)
 have hnl := ho.names.2
 have hkl := ho.kids.2
 refine fn_W HZ rfl rfl ?_
 have H0 := (Hp.begin hw).new (.cells 54 [.p gb 0])
 obtain ⟨q0, hq0⟩ : ∃ q0, s.enter.new (.cells 54 [.p gb 0]) = q0 := ⟨_, rfl⟩
 obtain ⟨m2, hm2⟩ : ∃ m2, s.enter.nb = m2 := ⟨_, rfl⟩
 rw [hq0, hm2] at H0
 have H1 := H0.new (.cells 34 n.cells)
 obtain ⟨q1, hq1⟩ : ∃ q1, q0.new (.cells 34 n.cells) = q1 := ⟨_, rfl⟩
 obtain ⟨m3, hm3⟩ : ∃ m3, q0.nb = m3 := ⟨_, rfl⟩
 rw [hq1, hm3] at H1
 have H2 := H1.new (.cells 30 [.i .u8 0, .s [], .nsl, .nsl])
 obtain ⟨q2, hq2⟩ : ∃ q2, q1.new (.cells 30 [.i .u8 0, .s [], .nsl, .nsl]) = q2 := ⟨_, rfl⟩
 obtain ⟨m4, hm4⟩ : ∃ m4, q1.nb = m4 := ⟨_, rfl⟩
 rw [hq2, hm4] at H2
 have l0 : ldA q2 false 1 (.p m3 0) = some (.i .i64 (-1)) := by rw [← hr]; exact H2.ld 1 (off := 0) (v := .i .i64 n.ref) rfl rfl
 have l1 := H2.ld 1 (off := 1) (v := .i .u8 (n.kind : Nat)) rfl rfl
 have l2 := H2.ld 1 (off := 2) (v := .s n.text) rfl rfl
 have H3 := H2.new (.cells 30 [.i .u8 0, .s [], .nsl, .nsl])
 obtain ⟨q3, hq3⟩ : ∃ q3, q2.new (.cells 30 [.i .u8 0, .s [], .nsl, .nsl]) = q3 := ⟨_, rfl⟩
 obtain ⟨m5, hm5⟩ : ∃ m5, q2.nb = m5 := ⟨_, rfl⟩
 rw [hq3, hm5] at H3
 obtain ⟨q4, d4, H4, _⟩ := H3.stw 0 (v := .agg [.i .u8 (n.kind : Nat), .s n.text, .nsl, .nsl]) (m := 4) rfl rfl ⟨rfl, rfl⟩
 have H5 := H4.new (.cells 30 [.i .u8 0, .s [], .nsl, .nsl])
 obtain ⟨q5, hq5⟩ : ∃ q5, q4.new (.cells 30 [.i .u8 0, .s [], .nsl, .nsl]) = q5 := ⟨_, rfl⟩
 obtain ⟨m6, hm6⟩ : ∃ m6, q4.nb = m6 := ⟨_, rfl⟩
 rw [hq5, hm6] at H5
 obtain ⟨q6, d6, H6, _⟩ := H5.stw 0 (v := .agg [.i .u8 0, .s [], .nsl, .nsl]) (m := 4) rfl rfl ⟨rfl, rfl⟩
 have l3 : ldA q6 false 1 (.p m3 3) = some (.i .i64 (-1)) := by rw [← hb]; exact H6.ld 3 (off := 3) (v := .i .i64 n.base) rfl rfl
 have lz := H6.ld 0 (off := 2) (v := .nsl) rfl rfl
 have l4 := H6.ld 3 (off := 4) (v := tx n.names) rfl rfl
 obtain ⟨b, q7, d7, H7, _⟩ := TY H6 (asc_le hasc) (Rx hasc) hnl (fun l hl => by
  obtain ⟨i, hi⟩ := List.mem_iff_getElem?.1 hl
  have := hnm hi
  simp only [Db, Bool.and_eq_true, decide_eq_true_eq] at this
  omega)
 have hz0 : wkZ Aq.cin [.p gb 0, .agg n.cells] = [.p gb 0, .agg n.cells] := by simp [Aq, wkZ, wk, TD.cells]
 have cp : (AV.p gb 0).cells = [.p gb 0] := rfl
 have hl1 : ∀ a : AV, [a].length = 1 := fun _ => rfl
 rw [hz0]
 simp only [Aq, go_sem, AD, AA, AC, AB, KB_n, KB_x, Nat.reduceBEq, Nat.reduceAdd, Nat.reduceLT, Nat.reduceLeDiff, Nat.reduceEqDiff, reduceIte, Int.reduceEq, reduceCtorEq, A4, cp, hl1, hq0, hm2, hq1, hm3, hq2, hm4, l0, Hx, l1, l2, hq3, hm5, d4, hq5, hm6, d6, l3, lz, l4, d7, Nat.zero_add]
 refine W_rf3 (g := AH) (caps := [.p b 0]) (by simp only [go_sem, AD, AA, AC, AB, KB_n, KB_x, Nat.reduceBEq, Nat.reduceAdd, Nat.reduceLT, Nat.reduceLeDiff, Nat.reduceEqDiff, reduceIte, Int.reduceEq, reduceCtorEq]) fun e' he' => ?_
 have z2 : e'.get 2 = .p m2 0 := by rw [he']; simp only [go_sem, AD, AA, AC, AB, KB_n, KB_x, Nat.reduceBEq, Nat.reduceAdd, Nat.reduceLT, Nat.reduceLeDiff, Nat.reduceEqDiff, reduceIte, Int.reduceEq, reduceCtorEq]
 have z3 : e'.get 3 = .p m3 0 := by rw [he']; simp only [go_sem, AD, AA, AC, AB, KB_n, KB_x, Nat.reduceBEq, Nat.reduceAdd, Nat.reduceLT, Nat.reduceLeDiff, Nat.reduceEqDiff, reduceIte, Int.reduceEq, reduceCtorEq]
 have z4 : e'.get 4 = .p m4 0 := by rw [he']; simp only [go_sem, AD, AA, AC, AB, KB_n, KB_x, Nat.reduceBEq, Nat.reduceAdd, Nat.reduceLT, Nat.reduceLeDiff, Nat.reduceEqDiff, reduceIte, Int.reduceEq, reduceCtorEq]
 have z5 : e'.get 5 = .p m5 0 := by rw [he']; simp only [go_sem, AD, AA, AC, AB, KB_n, KB_x, Nat.reduceBEq, Nat.reduceAdd, Nat.reduceLT, Nat.reduceLeDiff, Nat.reduceEqDiff, reduceIte, Int.reduceEq, reduceCtorEq]
 clear he'
 have H8 := H7.new (.loop 0 none e' [38] nA nB)
 obtain ⟨q8, hq8⟩ : ∃ q8, q7.new (.loop 0 none e' [38] nA nB) = q8 := ⟨_, rfl⟩
 rw [hq8] at H8
 have b8 := (H8.box (i := 1) rfl).1
 have m5lt := (H8.box (i := 3) rfl).2.2
 have hlt : ∀ (i : Nat) (p : Nat × Box), ([(q7.nb, Box.loop 0 none e' [38] nA nB), (m5, .cells 30 [.i .u8 (n.kind : Nat), .s n.text, .nsl, .nsl]), (m3, .cells 34 n.cells), (m2, .cells 54 [.p gb 0]), (m4, .cells 30 [.i .u8 0, .s [], .nsl, .nsl])] : List (Nat × Box))[i]? = some p → p.1 < q8.nb := fun i p hp =>
  ((H8.sel [] [0, 3, 5, 6, 4] (by simp) (by simp)).box hp).2.2
 obtain ⟨u, hcall, a, b', K, hz⟩ := Vi (L := n.names) (by omega) (s := q8) (b := b) (ky := q7.nb) b8
  (fun j u => ∃ a b', Hp s u ⟨if j = 0 then q8.nb else m5, q8.nb, q8.nt⟩ [⟨4, 30, a, ((n.kids.map TD.nd).take j).map ND.av, true⟩, ⟨1, 9, b', (n.names.take j).map .s, true⟩] [(q7.nb, .loop 0 none e' [38] nA nB), (m5, .cells 30 [.i .u8 (n.kind : Nat), .s n.text, b', a]), (m3, .cells 34 n.cells), (m2, .cells 54 [.p gb 0]), (m4, .cells 30 [.i .u8 0, .s [], .nsl, .nsl])] ∧ (j = 0 → a = .nsl ∧ b' = .nsl))
  ⟨.nsl, .nsl, ((H8.enter.sel [] [0, 3, 5, 6, 4] (by simp) (by simp)).addFull 1 9 true .nil).addFull 4 30 true .nil, fun _ => ⟨rfl, rfl⟩⟩
  (by
   rintro j y u hy ⟨a, b', K, _⟩
   obtain ⟨x, hx⟩ : ∃ x, n.kids[j]? = some x := ⟨_, List.getElem?_eq_getElem (by rw [List.getElem?_eq_some_iff] at hy; have := hy.1; omega)⟩
   have hxm := List.mem_of_getElem? hx
   have hx0 := (Fd (hks x hxm)).2.2
   rw [FH] at hx0
   obtain ⟨u', h1, a2, b2, K2, hlo⟩ := P5 hasc hnl hkl (fun v hv => ih x hxm (ho.kids.1 x hxm) (hkw x hxm) (hks x hxm) gb v hv) hx hx0 hy K z2 z3 z5
   exact ⟨u', h1, a2, b2, K2.lower hlo, fun h => absurd h (by omega)⟩)
 have K9 := H8.leave (n1 := ⟨if n.names.length = 0 then q8.nb else m5, q8.nb, q8.nt⟩) K (.tup []) (@fun (i : Nat) (p : Nat × Box) hp => by
  match i, hp with
  | 0, hp => exact hlt 0 p hp
  | 1, hp => simp at hp; rw [← hp]; exact m5lt
  | 2, hp => exact hlt 2 p hp
  | 3, hp => exact hlt 3 p hp
  | 4, hp => exact hlt 4 p hp
  | i + 5, hp => simp at hp) (by
  by_cases h0 : n.names.length = 0
  · refine .inr @fun (i : Nat) (r : RA) (k : Nat) hr hk => ?_
    obtain ⟨rfl, rfl⟩ := hz h0
    match i, hr with
    | 0, hr => simp at hr; rw [← hr] at hk; simp [BZ] at hk
    | 1, hr => simp at hr; rw [← hr] at hk; simp [BZ] at hk
    | i + 2, hr => simp at hr
  · refine .inl ?_
    rw [if_neg h0]
    exact m5lt)
 rw [← hq8] at hcall
 refine ⟨_, _, hcall, 0, none, e', [38], nA, nB, by rw [hq8]; exact (K9.box (i := 0) rfl).1, by decide, ?_⟩
 rw [hq8]
 have K10 := K9.setBox (i := 0) rfl .used
 obtain ⟨v0, hv0⟩ : ∃ v0, (leave q8 u (.tup [])).setBox q7.nb .used = v0 := ⟨_, rfl⟩
 rw [hv0] at K10 ⊢
 have l6 : ldA v0 true 4 (.p m5 0) = some (.agg [.i .u8 (n.kind : Nat), .s n.text, b', a]) := K10.ldw 1 (m := 4) rfl rfl
 obtain ⟨b2, v1, x5, t5, K11, _⟩ := K10.pub 1 rfl
 obtain ⟨a2, v2, x6, t6, K12, _⟩ := K11.pub 0 rfl
 obtain ⟨v3, x7, K13, _⟩ := K12.stw 4 (v := .agg [.i .u8 (n.kind : Nat), .s n.text, b2, a2]) (m := 4) rfl rfl ⟨rfl, by simp only [Dl, Am.ones, t5.ones, t6.ones]⟩
 have l7 := K13.ldw 4 (m := 4) rfl rfl
 have hT1 : (n.kids.map TD.nd).take n.names.length = n.kids.map TD.nd := List.take_of_length_le (by rw [List.length_map]; omega)
 have hT2 : n.names.take n.names.length = n.names := List.take_of_length_le (Nat.le_refl _)
 rw [hT1] at t6
 rw [hT2] at t5
 simp only [go_sem, AD, AA, AC, AB, KB_n, KB_x, Nat.reduceBEq, Nat.reduceAdd, Nat.reduceLT, Nat.reduceLeDiff, Nat.reduceEqDiff, reduceIte, Int.reduceEq, reduceCtorEq, z4, z5, l6, x5, x6, x7, l7, t5.frz, t6.frz, Nat.zero_add]
 refine AO K13.over ?_ ?_
 · simp only [Bo, AV.refs, AV.refs.go, t5.refs (EY _), t6.refs (PJ _), Bool.or_self]
 · have hc : ∀ (c : CT), ∀ k ∈ n.kids.map TD.nd, wk (.agg [.id, .id, .sl 1 .id, .sl 4 c]) k.av = k.av := fun c k _ => by
    rw [ND.av_eq]; simp [wk, wkZ, ND.cells]
   simp only [Bo, wkZ, wk, t5.wk (Pf _), t6.wk (Tz _ _ (hc _))]
   rw [TD.nd_eq]
   rfl
end Go.Proofs.YtbfgoopcnkeblaaGreat

/-
  ground.Whole, ground.Made and the document's.
-/
set_option maxRecDepth 100000
set_option maxHeartbeats 4000000
namespace Go.Proofs.YtbfgoopcnkeblaaGreat
open Go.Proofs.YtbfgoopcnkeblaaGreat.Am
attribute [local irreducible] W WO WE WQ WD Tr.get Tr.set
theorem Jt (n : TD) : still (.agg n.cells) = true := by
 have h1 : n.cells.all noTok = true := rfl
 have h2 : EL n.cells n.cells = true := by
  have := bT n
  rw [TD.av_eq] at this
  simpa only [beqA] using this
 simp only [still, h1, AR, h2, Bool.and_self]
theorem T6 (n : ND) : AV.refs.go n.cells = false := by
 have := Rf n
 rw [ND.av_eq] at this
 simpa only [AV.refs] using this
theorem T7 (n : TD) : AV.refs.go n.cells = false := by
 have := PO n
 rw [TD.av_eq] at this
 simpa only [AV.refs] using this
def Hd (n : TD) : ND × Int := if DC n && GA n then (n.nd, 0) else (noN, 4)
def noT : TD := .mk 0 0 [] 0 [] []
def LH (n : ND) : TD × Int := if decide (n.kind = 2) && Bi n then (n.td, 0) else (noT, 4)
theorem LI (n : TD) (ho : n.Ok) (s : St) (hw : Wf s) : (lim prog).call FG [.agg n.cells] s = some (.tup [.agg (Hd n).1.cells, .i .i64 (Hd n).2], s) := by
 refine fn_W LD rfl rfl ?_
 have H0 := (Hp.begin hw).new (.cells 34 n.cells)
 generalize hq : s.enter.new (.cells 34 n.cells) = q at H0
 generalize hm : s.enter.nb = m at H0
 have H1 := H0.new (.cells 30 [.i .u8 0, .s [], .nsl, .nsl])
 generalize hq1 : q.new (.cells 30 [.i .u8 0, .s [], .nsl, .nsl]) = q1 at H1
 generalize hm1 : q.nb = m1 at H1
 have lw := H1.ldw 1 (m := 6) rfl rfl
 have hW := TV n ho q1 H1.wf
 obtain ⟨q2, d2, H2, _⟩ := H1.stw 0 (v := .agg [.i .u8 0, .s [], .nsl, .nsl]) (m := 4) rfl rfl ⟨rfl, rfl⟩
 have l7 := H2.ldw 0 (m := 4) rfl rfl
 have hz0 : wkZ CB.cin [.agg n.cells] = [.agg n.cells] := by simp [CB, wkZ, wk, TD.cells]
 rw [hz0]
 unfold Hd
 cases hwh : DC n with
 | false =>
   rw [hwh] at hW
   simp only [CB, go_sem, AD, AA, AC, AB, KB_n, KB_x, Nat.reduceBEq, Nat.reduceAdd, Nat.reduceLT, Nat.reduceLeDiff, Nat.reduceEqDiff, reduceIte, Int.reduceEq, reduceCtorEq, A4, hq, hm, hq1, hm1]
   refine GH rfl ?_
   simp only [go_sem, AD, AA, AC, AB, KB_n, KB_x, Nat.reduceBEq, Nat.reduceAdd, Nat.reduceLT, Nat.reduceLeDiff, Nat.reduceEqDiff, reduceIte, Int.reduceEq, reduceCtorEq, lw, AR, Cc, hW]
   refine N4 rfl (b := true) ?_ rfl ⟨_, rfl⟩ (GI ?_)
   · simp only [go_sem, AD, AA, AC, AB, KB_n, KB_x, Nat.reduceBEq, Nat.reduceAdd, Nat.reduceLT, Nat.reduceLeDiff, Nat.reduceEqDiff, reduceIte, Int.reduceEq, reduceCtorEq]
   simp only [go_sem, AD, AA, AC, AB, KB_n, KB_x, Nat.reduceBEq, Nat.reduceAdd, Nat.reduceLT, Nat.reduceLeDiff, Nat.reduceEqDiff, reduceIte, Int.reduceEq, reduceCtorEq, d2, l7]
   exact AO H2.over rfl rfl
 | true =>
   rw [hwh] at hW
   have hM := Rs n ho hwh q1 H1.wf
   have hP := Py q1
   cases hr : GA n with
   | false =>
     rw [hr] at hM
     simp only [CB, go_sem, AD, AA, AC, AB, KB_n, KB_x, Nat.reduceBEq, Nat.reduceAdd, Nat.reduceLT, Nat.reduceLeDiff, Nat.reduceEqDiff, reduceIte, Int.reduceEq, reduceCtorEq, A4, hq, hm, hq1, hm1]
     refine GH rfl ?_
     simp only [go_sem, AD, AA, AC, AB, KB_n, KB_x, Nat.reduceBEq, Nat.reduceAdd, Nat.reduceLT, Nat.reduceLeDiff, Nat.reduceEqDiff, reduceIte, Int.reduceEq, reduceCtorEq, lw, AR, Cc, hW, hP, EW, hM]
     refine NH rfl ?_ (Jt n) ⟨⟨_, rfl, lw⟩, ⟨_, rfl, lw⟩, ⟨_, rfl, lw⟩, trivial⟩ (GI ?_)
     · simp only [go_sem, AD, AA, AC, AB, KB_n, KB_x, Nat.reduceBEq, Nat.reduceAdd, Nat.reduceLT, Nat.reduceLeDiff, Nat.reduceEqDiff, reduceIte, Int.reduceEq, reduceCtorEq]
     simp only [go_sem, AD, AA, AC, AB, KB_n, KB_x, Nat.reduceBEq, Nat.reduceAdd, Nat.reduceLT, Nat.reduceLeDiff, Nat.reduceEqDiff, reduceIte, Int.reduceEq, reduceCtorEq, d2, l7]
     exact AO H2.over rfl rfl
   | true =>
     have hwn : Bi n.nd = true := by
      unfold GA at hr
      simp only [Bool.and_eq_true] at hr
      exact hr.1
     rw [hr] at hM
     have H3 := H1.new (.cells 56 [.nsl, .i .u8 0, .s [], .nsl, .nsl])
     generalize hq3 : q1.new (.cells 56 [.nsl, .i .u8 0, .s [], .nsl, .nsl]) = q3 at H3
     generalize hm3 : q1.nb = m3 at H3
     have lw3 := H3.ldw 2 (m := 6) rfl rfl
     have hN := Vj n ho hwh hwn m3 q3 H3.wf
     obtain ⟨q4, d4, H4, _⟩ := H3.stw 1 (v := .agg n.nd.cells) (m := 4) rfl rfl ⟨BO _, Pv _⟩
     have l9 := H4.ldw 1 (m := 4) rfl rfl
     have hl5 : ∀ a b c d e : AV, [a, b, c, d, e].length = 5 := fun _ _ _ _ _ => rfl
     simp only [CB, go_sem, AD, AA, AC, AB, KB_n, KB_x, Nat.reduceBEq, Nat.reduceAdd, Nat.reduceLT, Nat.reduceLeDiff, Nat.reduceEqDiff, reduceIte, Int.reduceEq, reduceCtorEq, A4, hq, hm, hq1, hm1]
     refine GH rfl ?_
     simp only [go_sem, AD, AA, AC, AB, KB_n, KB_x, Nat.reduceBEq, Nat.reduceAdd, Nat.reduceLT, Nat.reduceLeDiff, Nat.reduceEqDiff, reduceIte, Int.reduceEq, reduceCtorEq, lw, AR, Cc, hW, hP, EW, hM]
     refine NH rfl ?_ (Jt n) ⟨⟨_, rfl, lw⟩, ⟨_, rfl, lw⟩, ⟨_, rfl, lw⟩, trivial⟩ (GI ?_)
     · simp only [go_sem, AD, AA, AC, AB, KB_n, KB_x, Nat.reduceBEq, Nat.reduceAdd, Nat.reduceLT, Nat.reduceLeDiff, Nat.reduceEqDiff, reduceIte, Int.reduceEq, reduceCtorEq]
     simp only [go_sem, AD, AA, AC, AB, KB_n, KB_x, Nat.reduceBEq, Nat.reduceAdd, Nat.reduceLT, Nat.reduceLeDiff, Nat.reduceEqDiff, reduceIte, Int.reduceEq, reduceCtorEq, hl5, hq3, hm3, lw3, AR, hN, d4, l9, BG, NO]
     refine AO H4.over ?_ ?_
     · simp only [Bo, AV.refs.go, AV.refs, T6, Bool.or_self]
     · simp [Bo, wkZ, wk, ND.cells, tx]
theorem OQ (n : TD) (ho : n.Ok) (s : St) (hw : Wf s) : (lim prog).call Cr [.agg n.cells] s = some (.tup [.agg (Hd n).1.cells, .i .i64 (Hd n).2], s) := by
 refine fn_W F6 rfl rfl ?_
 have H0 := (Hp.begin hw).new (.cells 34 n.cells)
 generalize hq : s.enter.new (.cells 34 n.cells) = q at H0
 generalize hm : s.enter.nb = m at H0
 have H1 := H0.new (.cells 30 [.i .u8 0, .s [], .nsl, .nsl])
 generalize hq1 : q.new (.cells 30 [.i .u8 0, .s [], .nsl, .nsl]) = q1 at H1
 generalize hm1 : q.nb = m1 at H1
 have lw := H1.ldw 1 (m := 6) rfl rfl
 have hW := OK n ho q1 H1.wf
 obtain ⟨q2, d2, H2, _⟩ := H1.stw 0 (v := .agg [.i .u8 0, .s [], .nsl, .nsl]) (m := 4) rfl rfl ⟨rfl, rfl⟩
 have l7 := H2.ldw 0 (m := 4) rfl rfl
 have hz0 : wkZ Av.cin [.agg n.cells] = [.agg n.cells] := by simp [Av, wkZ, wk, TD.cells]
 rw [hz0]
 unfold Hd
 cases hwh : DC n with
 | false =>
   rw [hwh] at hW
   simp only [Av, go_sem, AD, AA, AC, AB, KB_n, KB_x, Nat.reduceBEq, Nat.reduceAdd, Nat.reduceLT, Nat.reduceLeDiff, Nat.reduceEqDiff, reduceIte, Int.reduceEq, reduceCtorEq, A4, hq, hm, hq1, hm1]
   refine GH rfl ?_
   simp only [go_sem, AD, AA, AC, AB, KB_n, KB_x, Nat.reduceBEq, Nat.reduceAdd, Nat.reduceLT, Nat.reduceLeDiff, Nat.reduceEqDiff, reduceIte, Int.reduceEq, reduceCtorEq, lw, AR, Cc, hW]
   refine N4 rfl (b := true) ?_ rfl ⟨_, rfl⟩ (GI ?_)
   · simp only [go_sem, AD, AA, AC, AB, KB_n, KB_x, Nat.reduceBEq, Nat.reduceAdd, Nat.reduceLT, Nat.reduceLeDiff, Nat.reduceEqDiff, reduceIte, Int.reduceEq, reduceCtorEq]
   simp only [go_sem, AD, AA, AC, AB, KB_n, KB_x, Nat.reduceBEq, Nat.reduceAdd, Nat.reduceLT, Nat.reduceLeDiff, Nat.reduceEqDiff, reduceIte, Int.reduceEq, reduceCtorEq, d2, l7]
   exact AO H2.over rfl rfl
 | true =>
   rw [hwh] at hW
   have hM := NX n ho hwh q1 H1.wf
   have hP := Pz q1
   cases hr : GA n with
   | false =>
     rw [hr] at hM
     simp only [Av, go_sem, AD, AA, AC, AB, KB_n, KB_x, Nat.reduceBEq, Nat.reduceAdd, Nat.reduceLT, Nat.reduceLeDiff, Nat.reduceEqDiff, reduceIte, Int.reduceEq, reduceCtorEq, A4, hq, hm, hq1, hm1]
     refine GH rfl ?_
     simp only [go_sem, AD, AA, AC, AB, KB_n, KB_x, Nat.reduceBEq, Nat.reduceAdd, Nat.reduceLT, Nat.reduceLeDiff, Nat.reduceEqDiff, reduceIte, Int.reduceEq, reduceCtorEq, lw, AR, Cc, hW, hP, EW, hM]
     refine NH rfl ?_ (Jt n) ⟨⟨_, rfl, lw⟩, ⟨_, rfl, lw⟩, ⟨_, rfl, lw⟩, trivial⟩ (GI ?_)
     · simp only [go_sem, AD, AA, AC, AB, KB_n, KB_x, Nat.reduceBEq, Nat.reduceAdd, Nat.reduceLT, Nat.reduceLeDiff, Nat.reduceEqDiff, reduceIte, Int.reduceEq, reduceCtorEq]
     simp only [go_sem, AD, AA, AC, AB, KB_n, KB_x, Nat.reduceBEq, Nat.reduceAdd, Nat.reduceLT, Nat.reduceLeDiff, Nat.reduceEqDiff, reduceIte, Int.reduceEq, reduceCtorEq, d2, l7]
     exact AO H2.over rfl rfl
   | true =>
     have hwn : Bi n.nd = true := by
      unfold GA at hr
      simp only [Bool.and_eq_true] at hr
      exact hr.1
     rw [hr] at hM
     have hN := P1 n ho hwn q1 H1.wf
     obtain ⟨q4, d4, H4, _⟩ := H1.stw 0 (v := .agg n.nd.cells) (m := 4) rfl rfl ⟨BO _, Pv _⟩
     have l9 := H4.ldw 0 (m := 4) rfl rfl
     simp only [Av, go_sem, AD, AA, AC, AB, KB_n, KB_x, Nat.reduceBEq, Nat.reduceAdd, Nat.reduceLT, Nat.reduceLeDiff, Nat.reduceEqDiff, reduceIte, Int.reduceEq, reduceCtorEq, A4, hq, hm, hq1, hm1]
     refine GH rfl ?_
     simp only [go_sem, AD, AA, AC, AB, KB_n, KB_x, Nat.reduceBEq, Nat.reduceAdd, Nat.reduceLT, Nat.reduceLeDiff, Nat.reduceEqDiff, reduceIte, Int.reduceEq, reduceCtorEq, lw, AR, Cc, hW, hP, EW, hM]
     refine NH rfl ?_ (Jt n) ⟨⟨_, rfl, lw⟩, ⟨_, rfl, lw⟩, ⟨_, rfl, lw⟩, trivial⟩ (GI ?_)
     · simp only [go_sem, AD, AA, AC, AB, KB_n, KB_x, Nat.reduceBEq, Nat.reduceAdd, Nat.reduceLT, Nat.reduceLeDiff, Nat.reduceEqDiff, reduceIte, Int.reduceEq, reduceCtorEq]
     simp only [go_sem, AD, AA, AC, AB, KB_n, KB_x, Nat.reduceBEq, Nat.reduceAdd, Nat.reduceLT, Nat.reduceLeDiff, Nat.reduceEqDiff, reduceIte, Int.reduceEq, reduceCtorEq, lw, AR, hN, d4, l9, BG, NO]
     refine AO H4.over ?_ ?_
     · simp only [Bo, AV.refs.go, AV.refs, T6, Bool.or_self]
     · simp [Bo, wkZ, wk, ND.cells, tx]
theorem MW (n : ND) (ho : n.Ok) (s : St) (hw : Wf s) : (lim prog).call Fx [.agg n.cells] s = some (.tup [.agg (LH n).1.cells, .i .i64 (LH n).2], s) := by
 refine fn_W MN rfl rfl ?_
 have H0 := (Hp.begin hw).new (.cells 30 n.cells)
 generalize hq : s.enter.new (.cells 30 n.cells) = q at H0
 generalize hm : s.enter.nb = m at H0
 have H1 := H0.new (.cells 34 [.i .i64 0, .i .u8 0, .s [], .i .i64 0, .nsl, .nsl])
 generalize hq1 : q.new (.cells 34 [.i .i64 0, .i .u8 0, .s [], .i .i64 0, .nsl, .nsl]) = q1 at H1
 generalize hm1 : q.nb = m1 at H1
 have lw := H1.ldw 1 (m := 4) rfl rfl
 have l0 := H1.ld 1 (off := 0) (v := .i .u8 (n.kind : Nat)) rfl rfl
 have hW := Rg n ho q1 H1.wf
 obtain ⟨q2, d2, H2, _⟩ := H1.stw 0 (v := .agg [.i .i64 0, .i .u8 0, .s [], .i .i64 0, .nsl, .nsl]) (m := 6) rfl rfl ⟨rfl, rfl⟩
 have l7 := H2.ldw 0 (m := 6) rfl rfl
 have hz0 : wkZ CZ.cin [.agg n.cells] = [.agg n.cells] := by simp [CZ, wkZ, wk, ND.cells]
 rw [hz0]
 unfold LH
 by_cases c2 : n.kind = 2
 · have e2 : ((n.kind : Int) ≠ 2) = False := by simp only [ne_eq, eq_iff_iff, iff_false]; omega
   rw [decide_eq_true c2]
   cases hwn : Bi n with
   | false =>
     rw [hwn] at hW
     simp only [CZ, go_sem, AD, AA, AC, AB, KB_n, KB_x, Nat.reduceBEq, Nat.reduceAdd, Nat.reduceLT, Nat.reduceLeDiff, Nat.reduceEqDiff, reduceIte, Int.reduceEq, reduceCtorEq, BO, hq, hm, hq1, hm1, l0, lw, BG, e2, hW, d2, l7, Nat.zero_add]
     exact AO H2.over rfl rfl
   | true =>
     rw [hwn] at hW
     have hN := Vg n ho q1 H1.wf
     obtain ⟨q4, d4, H4, _⟩ := H1.stw 0 (v := .agg n.td.cells) (m := 6) rfl rfl ⟨A4 _, PN _⟩
     have l9 := H4.ldw 0 (m := 6) rfl rfl
     simp only [CZ, go_sem, AD, AA, AC, AB, KB_n, KB_x, Nat.reduceBEq, Nat.reduceAdd, Nat.reduceLT, Nat.reduceLeDiff, Nat.reduceEqDiff, reduceIte, Int.reduceEq, reduceCtorEq, BO, hq, hm, hq1, hm1, l0, lw, BG, e2, hW, hN, d4, l9, AR, Lo, Nat.zero_add]
     refine AO H4.over ?_ ?_
     · simp only [Bo, AV.refs.go, AV.refs, T7, Bool.or_self]
     · simp [Bo, wkZ, wk, TD.cells, tx]
 · have e2 : ((n.kind : Int) ≠ 2) = True := by simp only [ne_eq, eq_iff_iff, iff_true]; omega
   rw [decide_eq_false c2]
   simp only [CZ, go_sem, AD, AA, AC, AB, KB_n, KB_x, Nat.reduceBEq, Nat.reduceAdd, Nat.reduceLT, Nat.reduceLeDiff, Nat.reduceEqDiff, reduceIte, Int.reduceEq, reduceCtorEq, BO, hq, hm, hq1, hm1, l0, e2, d2, l7, Nat.zero_add]
   exact AO H2.over rfl rfl
theorem P6 (n : ND) (ho : n.Ok) (s : St) (hw : Wf s) : (lim prog).call C3 [.agg n.cells] s = some (.tup [.agg (LH n).1.cells, .i .i64 (LH n).2], s) := by
 refine fn_W GL rfl rfl ?_
 have H0 := (Hp.begin hw).new (.cells 30 n.cells)
 generalize hq : s.enter.new (.cells 30 n.cells) = q at H0
 generalize hm : s.enter.nb = m at H0
 have H1 := H0.new (.cells 34 [.i .i64 0, .i .u8 0, .s [], .i .i64 0, .nsl, .nsl])
 generalize hq1 : q.new (.cells 34 [.i .i64 0, .i .u8 0, .s [], .i .i64 0, .nsl, .nsl]) = q1 at H1
 generalize hm1 : q.nb = m1 at H1
 have lw := H1.ldw 1 (m := 4) rfl rfl
 have l0 := H1.ld 1 (off := 0) (v := .i .u8 (n.kind : Nat)) rfl rfl
 have hW := Ks n ho q1 H1.wf
 obtain ⟨q2, d2, H2, _⟩ := H1.stw 0 (v := .agg [.i .i64 0, .i .u8 0, .s [], .i .i64 0, .nsl, .nsl]) (m := 6) rfl rfl ⟨rfl, rfl⟩
 have l7 := H2.ldw 0 (m := 6) rfl rfl
 have hz0 : wkZ Ay.cin [.agg n.cells] = [.agg n.cells] := by simp [Ay, wkZ, wk, ND.cells]
 rw [hz0]
 unfold LH
 by_cases c2 : n.kind = 2
 · have e2 : ((n.kind : Int) ≠ 2) = False := by simp only [ne_eq, eq_iff_iff, iff_false]; omega
   rw [decide_eq_true c2]
   cases hwn : Bi n with
   | false =>
     rw [hwn] at hW
     simp only [Ay, go_sem, AD, AA, AC, AB, KB_n, KB_x, Nat.reduceBEq, Nat.reduceAdd, Nat.reduceLT, Nat.reduceLeDiff, Nat.reduceEqDiff, reduceIte, Int.reduceEq, reduceCtorEq, BO, hq, hm, hq1, hm1, l0, lw, BG, e2, hW, d2, l7, Nat.zero_add]
     exact AO H2.over rfl rfl
   | true =>
     rw [hwn] at hW
     have hN := P2 n ho hwn q1 H1.wf
     obtain ⟨q4, d4, H4, _⟩ := H1.stw 0 (v := .agg n.td.cells) (m := 6) rfl rfl ⟨A4 _, PN _⟩
     have l9 := H4.ldw 0 (m := 6) rfl rfl
     simp only [Ay, go_sem, AD, AA, AC, AB, KB_n, KB_x, Nat.reduceBEq, Nat.reduceAdd, Nat.reduceLT, Nat.reduceLeDiff, Nat.reduceEqDiff, reduceIte, Int.reduceEq, reduceCtorEq, BO, hq, hm, hq1, hm1, l0, lw, BG, e2, hW, hN, d4, l9, AR, Lo, Nat.zero_add]
     refine AO H4.over ?_ ?_
     · simp only [Bo, AV.refs.go, AV.refs, T7, Bool.or_self]
     · simp [Bo, wkZ, wk, TD.cells, tx]
 · have e2 : ((n.kind : Int) ≠ 2) = True := by simp only [ne_eq, eq_iff_iff, iff_true]; omega
   rw [decide_eq_false c2]
   simp only [Ay, go_sem, AD, AA, AC, AB, KB_n, KB_x, Nat.reduceBEq, Nat.reduceAdd, Nat.reduceLT, Nat.reduceLeDiff, Nat.reduceEqDiff, reduceIte, Int.reduceEq, reduceCtorEq, BO, hq, hm, hq1, hm1, l0, e2, d2, l7, Nat.zero_add]
   exact AO H2.over rfl rfl
theorem nd_ok : ∀ n : TD, n.Ok → n.nd.Ok := by
 refine TD.ind fun n ih ho => ?_
 rw [TD.nd_eq]
 exact .mk ho.kind ho.text.1 ho.text.2 ho.names.1 ho.names.2 (by rw [List.length_map]; exact ho.kids.2) fun x hx => by
  obtain ⟨k, hk, rfl⟩ := List.mem_map.1 hx
  exact ih k hk (ho.kids.1 k hk)
theorem td_ok : ∀ n : ND, n.Ok → n.td.Ok := by
 refine ND.ind fun n ih ho => ?_
 rw [ND.td_eq]
 exact .mk ho.kind ho.text.1 ho.text.2 ho.names.1 ho.names.2 (by rw [List.length_map]; exact ho.kids.2) fun x hx => by
  obtain ⟨k, hk, rfl⟩ := List.mem_map.1 hx
  exact ih k hk (ho.kids.1 k hk)
theorem Vk : noN.Ok := .mk (by simp) ⟨by simp, by simp⟩ (by simp) (by simp) (by simp) (by simp) (by simp)
theorem noT_ok : noT.Ok := .mk (by simp) ⟨by simp, by simp⟩ (by simp) (by simp) (by simp) (by simp) (by simp)
theorem Ry {n : TD} (ho : n.Ok) : (Hd n).1.Ok := by
 unfold Hd
 split
 · exact nd_ok n ho
 · exact Vk
theorem Ta {n : ND} (ho : n.Ok) : (LH n).1.Ok := by
 unfold LH
 split
 · exact td_ok n ho
 · exact noT_ok
theorem LJ (t : TD) (ht : t.Ok) (hbt : Fc t < 2 ^ 60) (n : ND) (hn : n.Ok) (hbn : Fe n < 2 ^ 60) (s : St) (hw : Wf s) :
    (lim prog).call C7 [.agg t.cells, .agg n.cells] s = some (.b true, s) := by
 refine fn_W Eb rfl rfl ?_
 have H0 := (Hp.begin hw).new (.cells 34 t.cells)
 obtain ⟨q, hq⟩ : ∃ q, s.enter.new (.cells 34 t.cells) = q := ⟨_, rfl⟩
 obtain ⟨m, hm⟩ : ∃ m, s.enter.nb = m := ⟨_, rfl⟩
 rw [hq, hm] at H0
 have H1 := H0.new (.cells 30 n.cells)
 obtain ⟨q1, hq1⟩ : ∃ q1, q.new (.cells 30 n.cells) = q1 := ⟨_, rfl⟩
 obtain ⟨m1, hm1⟩ : ∃ m1, q.nb = m1 := ⟨_, rfl⟩
 rw [hq1, hm1] at H1
 have ln := H1.ldw 0 (m := 4) rfl rfl
 have lt := H1.ldw 1 (m := 6) rfl rfl
 have hz0 : wkZ Ad.cin [.agg t.cells, .agg n.cells] = [.agg t.cells, .agg n.cells] := by simp [Ad, wkZ, wk, TD.cells, ND.cells]
 rw [hz0]
 obtain ⟨_, _, hw1, rfl, v, hv, rfl⟩ := R0 n hn hbn q1 H1.wf
 rename_i q1
 obtain ⟨_, s2, hw2, hs2, v2, hv2, rfl⟩ := TR t ht hbt q1 H1.wf
 rw [hs2] at hw2
 have hbr : ∀ b, KR s [.id] (.b b) (some ([.b b], q1)) := fun b => AO H1.over rfl rfl
 by_cases e1 : 1000 ≤ v
 · have f1 : ((1000 : Int) ≤ (v : Int)) = True := by simp only [eq_iff_iff, iff_true]; omega
   simp only [Ad, go_sem, AD, AA, AC, AB, KB_n, KB_x, Nat.reduceBEq, Nat.reduceAdd, Nat.reduceLT, Nat.reduceLeDiff, Nat.reduceEqDiff, reduceIte, Int.reduceEq, reduceCtorEq, A4, BO, hq, hm, hq1, hm1, ln, BG, hw1, f1]
   exact hbr _
 have f1 : ((1000 : Int) ≤ (v : Int)) = False := by simp only [eq_iff_iff, iff_false]; omega
 by_cases e2 : 1000 ≤ v2
 · have f2 : ((1000 : Int) ≤ (v2 : Int)) = True := by simp only [eq_iff_iff, iff_true]; omega
   simp only [Ad, go_sem, AD, AA, AC, AB, KB_n, KB_x, Nat.reduceBEq, Nat.reduceAdd, Nat.reduceLT, Nat.reduceLeDiff, Nat.reduceEqDiff, reduceIte, Int.reduceEq, reduceCtorEq, A4, BO, hq, hm, hq1, hm1, ln, lt, BG, AR, hw1, hw2, f1, f2]
   exact hbr _
 have f2 : ((1000 : Int) ≤ (v2 : Int)) = False := by simp only [eq_iff_iff, iff_false]; omega
 have hA := LI t ht q1 H1.wf
 obtain ⟨x, hx⟩ : ∃ x, (Hd t).1 = x := ⟨_, rfl⟩
 have hxo : x.Ok := by rw [← hx]; exact Ry ht
 obtain ⟨er, her⟩ : ∃ er, (Hd t).2 = er := ⟨_, rfl⟩
 rw [hx, her] at hA
 have H2 := H1.new (.cells 30 [.i .u8 0, .s [], .nsl, .nsl])
 obtain ⟨q2, hq2⟩ : ∃ q2, q1.new (.cells 30 [.i .u8 0, .s [], .nsl, .nsl]) = q2 := ⟨_, rfl⟩
 obtain ⟨m2, hm2⟩ : ∃ m2, q1.nb = m2 := ⟨_, rfl⟩
 rw [hq2, hm2] at H2
 obtain ⟨q3, d3, H3, _⟩ := H2.stw 0 (v := .agg x.cells) (m := 4) rfl rfl ⟨BO _, Pv _⟩
 have lt3 := H3.ldw 2 (m := 6) rfl rfl
 have hB := OQ t ht q3 H3.wf
 rw [hx, her] at hB
 have H4 := H3.new (.cells 30 [.i .u8 0, .s [], .nsl, .nsl])
 obtain ⟨q4, hq4⟩ : ∃ q4, q3.new (.cells 30 [.i .u8 0, .s [], .nsl, .nsl]) = q4 := ⟨_, rfl⟩
 obtain ⟨m4, hm4⟩ : ∃ m4, q3.nb = m4 := ⟨_, rfl⟩
 rw [hq4, hm4] at H4
 obtain ⟨q5, d5, H5, _⟩ := H4.stw 0 (v := .agg x.cells) (m := 4) rfl rfl ⟨BO _, Pv _⟩
 have ln5 := H5.ldw 2 (m := 4) rfl rfl
 have hC := MW n hn q5 H5.wf
 obtain ⟨z, hz⟩ : ∃ z, (LH n).1 = z := ⟨_, rfl⟩
 have hzo : z.Ok := by rw [← hz]; exact Ta hn
 obtain ⟨es, hes⟩ : ∃ es, (LH n).2 = es := ⟨_, rfl⟩
 rw [hz, hes] at hC
 have H6 := H5.new (.cells 34 [.i .i64 0, .i .u8 0, .s [], .i .i64 0, .nsl, .nsl])
 obtain ⟨q6, hq6⟩ : ∃ q6, q5.new (.cells 34 [.i .i64 0, .i .u8 0, .s [], .i .i64 0, .nsl, .nsl]) = q6 := ⟨_, rfl⟩
 obtain ⟨m6, hm6⟩ : ∃ m6, q5.nb = m6 := ⟨_, rfl⟩
 rw [hq6, hm6] at H6
 obtain ⟨q7, d7, H7, _⟩ := H6.stw 0 (v := .agg z.cells) (m := 6) rfl rfl ⟨A4 _, PN _⟩
 have ln7 := H7.ldw 3 (m := 4) rfl rfl
 have hD := P6 n hn q7 H7.wf
 rw [hz, hes] at hD
 have H8 := H7.new (.cells 34 [.i .i64 0, .i .u8 0, .s [], .i .i64 0, .nsl, .nsl])
 obtain ⟨q8, hq8⟩ : ∃ q8, q7.new (.cells 34 [.i .i64 0, .i .u8 0, .s [], .i .i64 0, .nsl, .nsl]) = q8 := ⟨_, rfl⟩
 obtain ⟨m8, hm8⟩ : ∃ m8, q7.nb = m8 := ⟨_, rfl⟩
 rw [hq8, hm8] at H8
 obtain ⟨q9, d9, H9, _⟩ := H8.stw 0 (v := .agg z.cells) (m := 6) rfl rfl ⟨A4 _, PN _⟩
 have a5 := H9.ldw 3 (m := 4) rfl rfl
 have a7 := H9.ldw 2 (m := 4) rfl rfl
 have a9 := H9.ldw 1 (m := 6) rfl rfl
 have a11 := H9.ldw 0 (m := 6) rfl rfl
 have hS := OJ x hxo q9 H9.wf
 have hT := ON z hzo q9 H9.wf
 have g1 : (er = er) = True := by simp
 have g2 : (es = es) = True := by simp
 simp only [Ad, go_sem, AD, AA, AC, AB, KB_n, KB_x, Nat.reduceBEq, Nat.reduceAdd, Nat.reduceLT, Nat.reduceLeDiff, Nat.reduceEqDiff, reduceIte, Int.reduceEq, reduceCtorEq, A4, BO, hq, hm, hq1, hm1, ln, lt, BG, AR, hw1, hw2, f1, f2, hA, hq2, hm2, d3, lt3, hB, hq4, hm4, d5, ln5, hC, hq6, hm6, d7, ln7, hD, hq8, hm8, d9, a5, a7, a9, a11, hS, hT, g1, g2]
 exact AO H9.over rfl rfl
end Go.Proofs.YtbfgoopcnkeblaaGreat
