/-
  The document's Ways.
-/
import Derived.Test.YtgloinighjdhlaaLFactD
import Derived.Test.YtgloinighjdhlaaAmKeep
set_option linter.all false
set_option linter.unusedVariables false
set_option linter.unusedSimpArgs false
set_option linter.unusedSectionVars false
set_option maxRecDepth 100000
set_option maxHeartbeats 4000000
set_option linter.unusedSimpArgs false
set_option linter.constructorNameAsVariable false
namespace Go.Proofs.Ytgloinighjdhlaa
open Go.Proofs.Ytgloinighjdhlaa.Am
attribute [local irreducible] W WO WE WQ WD Tr.get Tr.set
def wx (W : List (List FT)) : AV := .ws false 1 (W.map fx)
def tupW (r : List (List FT) × Int) : AV := .tup [wx r.1, .i .i64 r.2]
def mostK (links : Bool) : Nat := if links then 3 else 2
def waysP (l : List FT) (n : Int) (empty links : Bool) : List (List FT) × Int :=
  if empty then (if (moreP l n).2 = 0 then (if (wholeP l n).2 = 0 then ([(wholeP l n).1, (moreP l n).1], 0) else ([(moreP l n).1], 0)) else ([], (moreP l n).2))
  else if (knowP l n 0).2 = 0 then ((List.range (mostK links + 1)).map fun k => (knowP l n k).1, 0) else ([], (knowP l n 0).2)
theorem know_e (l : List FT) (n : Int) (k : Nat) (hk : k ≤ 3) : (knowP l n k).2 = (knowP l n 0).2 := by
  unfold knowP
  split
  · split
    · rfl
    · split
      · rfl
      · rw [if_neg (by omega), if_neg (by omega)]
  · rfl
theorem refs_goL : ∀ W : List (List FT), AV.refs.go (W.map fx) = false
  | [] => rfl
  | l :: W => by
    simp only [List.map_cons, AV.refs.go, refs_goL W]
    simp only [fx, AV.refs, refs_goF, Bool.or_false]
theorem wk_fx (l : List FT) : wk (.sl 6 (.agg [.id, .id, (.sl 1 .id), (.sl 1 .id), .id, .id])) (fx l) = fx l := by
  simp only [fx, wk]
theorem wkM_W : ∀ W : List (List FT), wkM (.sl 6 (.agg [.id, .id, (.sl 1 .id), (.sl 1 .id), .id, .id])) (W.map fx) = W.map fx
  | [] => by simp only [List.map_nil, wkM]
  | l :: W => by simp only [List.map_cons, wkM, wkM_W W, wk_fx]
theorem KR_W {s q : St} (ov : Over s q) (W : List (List FT)) (z : Int) {a : AV} (ha : Told1 1 a (W.map fx)) : KR s [.sl 1 (.sl 6 (.agg [.id, .id, (.sl 1 .id), (.sl 1 .id), .id, .id])), .id] (tupW (W, z)) (some ([a, .i .i64 z], q)) := by
  refine KR_some ov ?_ ?_
  · simp only [tupOf, AV.refs, AV.refs.go, ha.refs (refs_goL W)]
    rfl
  · simp only [tupOf, wkZ, wk, ha.wk (wkM_W W), tupW, wx]
theorem KR_W0 {s q : St} (ov : Over s q) (z : Int) : KR s [.sl 1 (.sl 6 (.agg [.id, .id, (.sl 1 .id), (.sl 1 .id), .id, .id])), .id] (tupW ([], z)) (some ([.nsl, .i .i64 z], q)) := KR_W ov [] z (.inl ⟨rfl, rfl⟩)
theorem elems_one (s : St) (l : List FT) : elems s 1 (.sl 1 [AV.ws false 6 (l.map FT.av)] .full) = some [fx l] := by simp [elems, St.ok, fx]
theorem allLen_one (l : List FT) : allLen 1 [AV.ws false 6 (l.map FT.av)] = true := rfl
theorem wrap_u8 {k : Nat} (h : k ≤ 3) : IntKind.u8.wrap ((k : Int) + 1) = ((k + 1 : Nat) : Int) := by
  rcases (by omega : k = 0 ∨ k = 1 ∨ k = 2 ∨ k = 3) with rfl | rfl | rfl | rfl <;> rfl
theorem ways_loop {l : List FT} (ho : ∀ f ∈ l, f.Ok) (hl : l.length < 2 ^ 34) (hB : (flatK l).length < 2 ^ 62) {n : Int} {links : Bool} {s q : St} {m : Nat} {empty : Bool}
    (H : Hp s q s.en [] [(m, .cells 32 [.i .i64 n, .b empty])]) {e : Tr} {Q : Ex → Tr → St → Prop}
    (h0 : e.get 0 = fx l) (h4 : e.get 4 = .p m 0) (h8 : e.get 8 = .nsl) (h12 : e.get 12 = .i .u8 (mostK links : Nat)) (h13 : e.get 13 = .i .u8 0)
    (k0 : (knowP l n 0).2 ≠ 0 → ∀ e' q', e'.get 6 = .nsl → e'.get 7 = .i .i64 (knowP l n 0).2 → Over s q' → Q .r e' q')
    (k1 : (knowP l n 0).2 = 0 → ∀ e' q' a, e'.get 8 = a → Hp s q' s.en [⟨1, 22, a, ((List.range (mostK links + 1)).map fun k => (knowP l n k).1).map fx, true⟩] [(m, .cells 32 [.i .i64 n, .b empty])] → Q (.x 0) e' q') :
    W (lim prog) (subC c_touchstoneref24_Ways.body [1, 1, 1, 1, 1, 0, 1, 0]) e q Q := by
  have hmk : mostK links ≤ 3 := by unfold mostK; split <;> omega
  simp only [c_touchstoneref24_Ways, subC, go_sem, W_cond2, WO_guard3, WE_guard3, WQ_guard3, KB_n, KB_x, Nat.reduceBEq, Nat.reduceAdd, Nat.reduceLT, Nat.reduceLeDiff, Nat.reduceEqDiff, reduceIte, Int.reduceEq, reduceCtorEq]
  refine W_loop (fun x e q => ∃ (k : Nat) (a : AV), k + x = mostK links + 1 ∧ Hp s q s.en [⟨1, 22, a, ((List.range k).map fun k => (knowP l n k).1).map fx, true⟩] [(m, .cells 32 [.i .i64 n, .b empty])] ∧ (0 < k → (knowP l n 0).2 = 0) ∧ e.get 0 = fx l ∧ e.get 4 = .p m 0 ∧ e.get 8 = a ∧ e.get 12 = .i .u8 (mostK links : Nat) ∧ e.get 13 = .i .u8 (k : Nat)) ?_ (mostK links + 1) _ _ ?_
  · clear h0 h4 h8 h12 h13 H
    rintro x e q ⟨k, a, hkx, H, hke, g0, g4, g8, g12, g13⟩
    have l0 := H.ld 0 (off := 0) (v := .i .i64 n) rfl rfl
    by_cases hk : k ≤ mostK links
    · have e1 : ((k : Int) ≤ (mostK links : Int)) = True := by simp only [eq_iff_iff, iff_true]; omega
      have hkn := ref22know_ok l ho hl hB n k q H.wf
      have hee := know_e l n k (by omega)
      unfold fx at hkn
      simp only [tupR, fx] at hkn
      have hw1 := wrap_u8 (show k ≤ 3 by omega)
      by_cases hz : (knowP l n 0).2 = 0
      · have e2 : ((knowP l n k).2 ≠ 0) = False := by simp [hee, hz]
        obtain ⟨a2, q2, d2, H2, n2, _⟩ := H.app 0 (y := .sl 1 [.ws false 6 ((knowP l n k).1.map FT.av)] .full) (ys := [fx (knowP l n k).1]) rfl (elems_one _ _) (by simp; omega)
        have hal := allLen_one (knowP l n k).1
        simp only [go_sem, W_cond2, WO_guard3, WE_guard3, WQ_guard3, KB_n, KB_x, Nat.reduceBEq, Nat.reduceAdd, Nat.reduceLT, Nat.reduceLeDiff, Nat.reduceEqDiff, reduceIte, Int.reduceEq, reduceCtorEq, g0, g4, g8, g12, g13, fx, l0, e1, hkn, e2, hal, d2, hw1, Nat.zero_add]
        refine ⟨x - 1, by omega, k + 1, a2, by omega, ?_, fun _ => hz, ?_⟩
        · have hxs : ((List.range k).map fun k => (knowP l n k).1).map fx ++ [fx (knowP l n k).1] = ((List.range (k + 1)).map fun k => (knowP l n k).1).map fx := by
            rw [List.range_succ, List.map_append, List.map_append]; rfl
          have H3 : Hp s q2 s.en [⟨1, 22, a2, ((List.range k).map fun k => (knowP l n k).1).map fx ++ [fx (knowP l n k).1], true⟩] [(m, .cells 32 [.i .i64 n, .b empty])] := H2
          rw [hxs] at H3
          exact H3
        · exact ⟨rfl, rfl⟩
      · have e2 : ((knowP l n k).2 ≠ 0) = True := by rw [hee]; simp [hz]
        simp only [go_sem, W_cond2, WO_guard3, WE_guard3, WQ_guard3, KB_n, KB_x, Nat.reduceBEq, Nat.reduceAdd, Nat.reduceLT, Nat.reduceLeDiff, Nat.reduceEqDiff, reduceIte, Int.reduceEq, reduceCtorEq, g0, g4, g8, g12, g13, fx, l0, e1, hkn, e2, Nat.zero_add]
        refine k0 hz _ _ ?_ ?_ H.over <;> simp only [go_sem, W_cond2, WO_guard3, WE_guard3, WQ_guard3, KB_n, KB_x, Nat.reduceBEq, Nat.reduceAdd, Nat.reduceLT, Nat.reduceLeDiff, Nat.reduceEqDiff, reduceIte, Int.reduceEq, reduceCtorEq, hee]
    · have e1 : ((k : Int) ≤ (mostK links : Int)) = False := by simp only [eq_iff_iff, iff_false]; omega
      obtain rfl : k = mostK links + 1 := by omega
      simp only [go_sem, W_cond2, WO_guard3, WE_guard3, WQ_guard3, KB_n, KB_x, Nat.reduceBEq, Nat.reduceAdd, Nat.reduceLT, Nat.reduceLeDiff, Nat.reduceEqDiff, reduceIte, Int.reduceEq, reduceCtorEq, g0, g4, g8, g12, g13, e1]
      refine k1 (hke (by omega)) _ _ a ?_ H
      simp only [go_sem, W_cond2, WO_guard3, WE_guard3, WQ_guard3, KB_n, KB_x, Nat.reduceBEq, Nat.reduceAdd, Nat.reduceLT, Nat.reduceLeDiff, Nat.reduceEqDiff, reduceIte, Int.reduceEq, reduceCtorEq, g8]
  · exact ⟨0, .nsl, by omega, H.addFull 1 22 true .nil, fun h => absurd h (by omega), h0, h4, h8, h12, h13⟩
theorem wkM_F : ∀ l : List FT, wkM (.agg [.id, .id, (.sl 1 .id), (.sl 1 .id), .id, .id]) (l.map FT.av) = l.map FT.av
  | [] => by simp only [List.map_nil, wkM]
  | f :: l => by
    simp only [List.map_cons, wkM, wkM_F l, FT.av, wk, wkZ_F f]
theorem told_fx {l : List FT} {a : AV} (h : Told1 6 a (l.map FT.av)) : wk (.sl 6 (.agg [.id, .id, (.sl 1 .id), (.sl 1 .id), .id, .id])) a = fx l := h.wk (wkM_F l)
theorem ref24ways_ok (l : List FT) (ho : ∀ f ∈ l, f.Ok) (hl : l.length < 2 ^ 34) (hB : (flatK l).length < 2 ^ 62) (n : Int) (empty links : Bool) {a0 : AV} (ha0 : Told1 6 a0 (l.map FT.av)) (s : St) (hw : Wf s) : (lim prog).call f_touchstoneref24_Ways [a0, .agg [.i .i64 n, .b empty], .b links] s = some (tupW (waysP l n empty links), s) := by
  refine fn_W p_touchstoneref24_Ways rfl rfl ?_
  have hz0 : wkZ c_touchstoneref24_Ways.cin [a0, .agg [.i .i64 n, .b empty], .b links] = [fx l, .agg [.i .i64 n, .b empty], .b links] := by
    simp only [c_touchstoneref24_Ways, wkZ, told_fx ha0, wk]
  rw [hz0]
  have H1 := (Hp.begin hw).new (.cells 32 [.i .i64 n, .b empty])
  generalize hq : s.enter.new (.cells 32 [.i .i64 n, .b empty]) = q at H1
  generalize hm : s.enter.nb = m at H1
  have l0 := H1.ld 0 (off := 0) (v := .i .i64 n) rfl rfl
  have l1 := H1.ld 0 (off := 1) (v := .b empty) rfl rfl
  unfold waysP
  cases empty
  · rw [if_neg (by simp)]
    cases links
    · simp only [c_touchstoneref24_Ways, go_sem, W_cond2, WO_guard3, WE_guard3, WQ_guard3, KB_n, KB_x, Nat.reduceBEq, Nat.reduceAdd, Nat.reduceLT, Nat.reduceLeDiff, Nat.reduceEqDiff, reduceIte, Int.reduceEq, reduceCtorEq, hq, hm, l0, l1, Nat.zero_add]
      refine ways_loop (links := false) ho hl hB H1 ?_ ?_ ?_ ?_ ?_ ?_ ?_
      · simp only [go_sem, W_cond2, WO_guard3, WE_guard3, WQ_guard3, KB_n, KB_x, Nat.reduceBEq, Nat.reduceAdd, Nat.reduceLT, Nat.reduceLeDiff, Nat.reduceEqDiff, reduceIte, Int.reduceEq, reduceCtorEq, fx]
      · simp only [go_sem, W_cond2, WO_guard3, WE_guard3, WQ_guard3, KB_n, KB_x, Nat.reduceBEq, Nat.reduceAdd, Nat.reduceLT, Nat.reduceLeDiff, Nat.reduceEqDiff, reduceIte, Int.reduceEq, reduceCtorEq]
      · simp only [go_sem, W_cond2, WO_guard3, WE_guard3, WQ_guard3, KB_n, KB_x, Nat.reduceBEq, Nat.reduceAdd, Nat.reduceLT, Nat.reduceLeDiff, Nat.reduceEqDiff, reduceIte, Int.reduceEq, reduceCtorEq]
      · simp only [go_sem, W_cond2, WO_guard3, WE_guard3, WQ_guard3, KB_n, KB_x, Nat.reduceBEq, Nat.reduceAdd, Nat.reduceLT, Nat.reduceLeDiff, Nat.reduceEqDiff, reduceIte, Int.reduceEq, reduceCtorEq, mostK]; rfl
      · simp only [go_sem, W_cond2, WO_guard3, WE_guard3, WQ_guard3, KB_n, KB_x, Nat.reduceBEq, Nat.reduceAdd, Nat.reduceLT, Nat.reduceLeDiff, Nat.reduceEqDiff, reduceIte, Int.reduceEq, reduceCtorEq]
      · intro hz e q' g6 g7 ov
        rw [if_neg hz]
        simp only [go_sem, W_cond2, WO_guard3, WE_guard3, WQ_guard3, KB_n, KB_x, Nat.reduceBEq, Nat.reduceAdd, Nat.reduceLT, Nat.reduceLeDiff, Nat.reduceEqDiff, reduceIte, Int.reduceEq, reduceCtorEq, g6, g7]
        exact KR_W0 ov _
      · intro hz e q' a g8 H
        rw [if_pos hz]
        obtain ⟨a3, q3, d3, t3, H3, _⟩ := H.pub 0 rfl
        have d4 : pubA q' a = some (a3, q3) := by
          rw [pubA_row (H.rows (i := 0) rfl)]; exact d3
        simp only [go_sem, W_cond2, WO_guard3, WE_guard3, WQ_guard3, KB_n, KB_x, Nat.reduceBEq, Nat.reduceAdd, Nat.reduceLT, Nat.reduceLeDiff, Nat.reduceEqDiff, reduceIte, Int.reduceEq, reduceCtorEq, g8, d4]
        exact KR_W H3.over _ _ t3
    · simp only [c_touchstoneref24_Ways, go_sem, W_cond2, WO_guard3, WE_guard3, WQ_guard3, KB_n, KB_x, Nat.reduceBEq, Nat.reduceAdd, Nat.reduceLT, Nat.reduceLeDiff, Nat.reduceEqDiff, reduceIte, Int.reduceEq, reduceCtorEq, hq, hm, l0, l1, Nat.zero_add]
      refine ways_loop (links := true) ho hl hB H1 ?_ ?_ ?_ ?_ ?_ ?_ ?_
      · simp only [go_sem, W_cond2, WO_guard3, WE_guard3, WQ_guard3, KB_n, KB_x, Nat.reduceBEq, Nat.reduceAdd, Nat.reduceLT, Nat.reduceLeDiff, Nat.reduceEqDiff, reduceIte, Int.reduceEq, reduceCtorEq, fx]
      · simp only [go_sem, W_cond2, WO_guard3, WE_guard3, WQ_guard3, KB_n, KB_x, Nat.reduceBEq, Nat.reduceAdd, Nat.reduceLT, Nat.reduceLeDiff, Nat.reduceEqDiff, reduceIte, Int.reduceEq, reduceCtorEq]
      · simp only [go_sem, W_cond2, WO_guard3, WE_guard3, WQ_guard3, KB_n, KB_x, Nat.reduceBEq, Nat.reduceAdd, Nat.reduceLT, Nat.reduceLeDiff, Nat.reduceEqDiff, reduceIte, Int.reduceEq, reduceCtorEq]
      · simp only [go_sem, W_cond2, WO_guard3, WE_guard3, WQ_guard3, KB_n, KB_x, Nat.reduceBEq, Nat.reduceAdd, Nat.reduceLT, Nat.reduceLeDiff, Nat.reduceEqDiff, reduceIte, Int.reduceEq, reduceCtorEq, mostK]; rfl
      · simp only [go_sem, W_cond2, WO_guard3, WE_guard3, WQ_guard3, KB_n, KB_x, Nat.reduceBEq, Nat.reduceAdd, Nat.reduceLT, Nat.reduceLeDiff, Nat.reduceEqDiff, reduceIte, Int.reduceEq, reduceCtorEq]
      · intro hz e q' g6 g7 ov
        rw [if_neg hz]
        simp only [go_sem, W_cond2, WO_guard3, WE_guard3, WQ_guard3, KB_n, KB_x, Nat.reduceBEq, Nat.reduceAdd, Nat.reduceLT, Nat.reduceLeDiff, Nat.reduceEqDiff, reduceIte, Int.reduceEq, reduceCtorEq, g6, g7]
        exact KR_W0 ov _
      · intro hz e q' a g8 H
        rw [if_pos hz]
        obtain ⟨a3, q3, d3, t3, H3, _⟩ := H.pub 0 rfl
        have d4 : pubA q' a = some (a3, q3) := by
          rw [pubA_row (H.rows (i := 0) rfl)]; exact d3
        simp only [go_sem, W_cond2, WO_guard3, WE_guard3, WQ_guard3, KB_n, KB_x, Nat.reduceBEq, Nat.reduceAdd, Nat.reduceLT, Nat.reduceLeDiff, Nat.reduceEqDiff, reduceIte, Int.reduceEq, reduceCtorEq, g8, d4]
        exact KR_W H3.over _ _ t3
  · rw [if_pos rfl]
    have hmo := ref22more_ok l ho hl hB n q H1.wf
    have hwo := ref22whole_ok l ho hl hB n q H1.wf
    simp only [tupR, fx] at hmo hwo
    by_cases hz : (moreP l n).2 = 0
    · have e1 : ((moreP l n).2 ≠ 0) = False := by simp [hz]
      rw [if_pos hz]
      by_cases hz2 : (wholeP l n).2 = 0
      · have e2 : ((wholeP l n).2 = 0) = True := by simp [hz2]
        rw [if_pos hz2]
        obtain ⟨a2, q2, d2, H2, n2, _⟩ := H1.appN (es := 1) 22 (a := .nsl) (xs := []) .nil (elems_one q (wholeP l n).1) (by simp)
        obtain ⟨a3, q3, d3, H3, n3, _⟩ := H2.app 0 (y := .sl 1 [.ws false 6 ((moreP l n).1.map FT.av)] .full) (ys := [fx (moreP l n).1]) rfl (elems_one _ _) (by simp)
        obtain ⟨a4, q4, d4, t4, H4, _⟩ := H3.pub 0 rfl
        have d5 : pubA q3 a3 = some (a4, q4) := by
          rw [pubA_row (H3.rows (i := 0) rfl)]; exact d4
        have hal := allLen_one (moreP l n).1
        have hal2 := allLen_one (wholeP l n).1
        simp only [c_touchstoneref24_Ways, go_sem, W_cond2, WO_guard3, WE_guard3, WQ_guard3, KB_n, KB_x, Nat.reduceBEq, Nat.reduceAdd, Nat.reduceLT, Nat.reduceLeDiff, Nat.reduceEqDiff, reduceIte, Int.reduceEq, reduceCtorEq, hq, hm, l0, l1, Nat.zero_add, fx, hmo, hwo, e1, e2, hal, hal2, d2, d3, d5]
        exact KR_W H4.over [(wholeP l n).1, (moreP l n).1] 0 t4
      · have e2 : ((wholeP l n).2 = 0) = False := by simp [hz2]
        rw [if_neg hz2]
        obtain ⟨a3, q3, d3, H3, n3, _⟩ := H1.appN (es := 1) 22 (a := .nsl) (xs := []) .nil (elems_one q (moreP l n).1) (by simp)
        obtain ⟨a4, q4, d4, t4, H4, _⟩ := H3.pub 0 rfl
        have d5 : pubA q3 a3 = some (a4, q4) := by
          rw [pubA_row (H3.rows (i := 0) rfl)]; exact d4
        have hal := allLen_one (moreP l n).1
        simp only [c_touchstoneref24_Ways, go_sem, W_cond2, WO_guard3, WE_guard3, WQ_guard3, KB_n, KB_x, Nat.reduceBEq, Nat.reduceAdd, Nat.reduceLT, Nat.reduceLeDiff, Nat.reduceEqDiff, reduceIte, Int.reduceEq, reduceCtorEq, hq, hm, l0, l1, Nat.zero_add, fx, hmo, hwo, e1, e2, hal, d3, d5]
        exact KR_W H4.over [(moreP l n).1] 0 t4
    · have e1 : ((moreP l n).2 ≠ 0) = True := by simp [hz]
      rw [if_neg hz]
      simp only [c_touchstoneref24_Ways, go_sem, W_cond2, WO_guard3, WE_guard3, WQ_guard3, KB_n, KB_x, Nat.reduceBEq, Nat.reduceAdd, Nat.reduceLT, Nat.reduceLeDiff, Nat.reduceEqDiff, reduceIte, Int.reduceEq, reduceCtorEq, hq, hm, l0, l1, Nat.zero_add, fx, hmo, e1]
      exact KR_W0 H1.over _
end Go.Proofs.Ytgloinighjdhlaa

/-
  The document's Follow.
-/
set_option maxRecDepth 100000
set_option maxHeartbeats 4000000
set_option linter.unusedSimpArgs false
set_option linter.constructorNameAsVariable false
namespace Go.Proofs.Ytgloinighjdhlaa
open Go.Proofs.Ytgloinighjdhlaa.Am
structure FOk (l : List FT) : Prop where
  ok : ∀ f ∈ l, f.Ok
  len : l.length < 2 ^ 34
  fl : (flatK l).length < 2 ^ 62
theorem flatK_set {l : List FT} {i : Nat} {f g : FT} (h : l[i]? = some f) (hk : g.kids.length ≤ f.kids.length) : (flatK (l.set i g)).length ≤ (flatK l).length := by
  have hlt := (List.getElem?_eq_some_iff.1 h).1
  have h1 : flatK l = flatK (l.take i) ++ f.kids ++ flatK (l.drop (i + 1)) := by
    rw [← flatK_take h]
    unfold flatK
    rw [← List.flatten_append, ← List.map_append, List.take_append_drop]
  have h2 : flatK (l.set i g) = flatK (l.take i) ++ g.kids ++ flatK (l.drop (i + 1)) := by
    rw [List.set_eq_take_append_cons_drop, if_pos hlt]
    unfold flatK
    simp
  rw [h1, h2]
  simp only [List.length_append]
  omega
theorem FOk.set {l : List FT} (H : FOk l) {i : Nat} {f g : FT} (h : l[i]? = some f) (hg : g.Ok) (hk : g.kids.length ≤ f.kids.length) : FOk (l.set i g) where
  ok := fun x hx => by
    rcases List.mem_or_eq_of_mem_set hx with hx | rfl
    · exact H.ok x hx
    · exact hg
  len := by rw [List.length_set]; exact H.len
  fl := Nat.lt_of_le_of_lt (flatK_set h hk) H.fl
theorem FOk.nil : FOk [] := ⟨fun f hf => by simp at hf, by simp, by simp [flatK]⟩
theorem FOk.know {l : List FT} (H : FOk l) (n : Int) {k : Nat} (hk : k < 256) : FOk (knowP l n k).1 := by
  unfold knowP
  split
  · split
    · exact .nil
    · rename_i f hf
      split
      · exact .nil
      · split
        · exact .nil
        · exact H.set hf ⟨hk, by simp, by simp, by simp⟩ (by simp)
  · exact .nil
theorem FOk.more {l : List FT} (H : FOk l) (n : Int) : FOk (moreP l n).1 := by
  unfold moreP
  split
  · split
    · exact .nil
    · rename_i f hf
      have hf' := H.ok f (List.mem_of_getElem? hf)
      split
      · exact .nil
      · exact H.set hf ⟨hf'.kind, hf'.names, hf'.nlen, hf'.klen⟩ (Nat.le_refl _)
  · exact .nil
theorem FOk.whole {l : List FT} (H : FOk l) (n : Int) : FOk (wholeP l n).1 := by
  unfold wholeP
  split
  · split
    · exact .nil
    · rename_i f hf
      have hf' := H.ok f (List.mem_of_getElem? hf)
      split
      · exact .nil
      · split
        · exact .nil
        · exact H.set hf ⟨hf'.kind, hf'.names, hf'.nlen, hf'.klen⟩ (Nat.le_refl _)
  · exact .nil
theorem FOk.ways {l : List FT} (H : FOk l) (n : Int) (empty links : Bool) : ∀ w ∈ (waysP l n empty links).1, FOk w := by
  unfold waysP
  intro w hw
  have hmk : mostK links ≤ 3 := by unfold mostK; split <;> omega
  split at hw
  · split at hw
    · split at hw
      · simp only [List.mem_cons, List.not_mem_nil, or_false] at hw
        rcases hw with rfl | rfl
        · exact H.whole n
        · exact H.more n
      · simp only [List.mem_cons, List.not_mem_nil, or_false] at hw
        subst hw
        exact H.more n
    · simp at hw
  · split at hw
    · obtain ⟨k, hk, rfl⟩ := List.mem_map.1 hw
      rw [List.mem_range] at hk
      exact H.know n (by omega)
    · simp at hw
def folF (links : Bool) (choices : List Int) : Nat → List FT → List (Int × Bool) → List FT × Int
  | _, out, [] => (out, 0)
  | i, out, s :: row =>
    if (waysP out s.1 s.2 links).2 = 0 then
      (match choices[i]? with
      | none => ([], 1)
      | some c => if c < 0 ∨ ((waysP out s.1 s.2 links).1.length : Int) ≤ c then ([], 1) else folF links choices (i + 1) ((waysP out s.1 s.2 links).1.getD c.toNat []) row)
    else ([], (waysP out s.1 s.2 links).2)
def followP (l : List FT) (row : List (Int × Bool)) (choices : List Int) (links : Bool) : List FT × Int :=
  if (folF links choices 0 l row).2 = 0 then (if row.length < choices.length then ([], 1) else folF links choices 0 l row) else folF links choices 0 l row
def spl (p : Int × Bool) : AV := .agg [.i .i64 p.1, .b p.2]
def sx (row : List (Int × Bool)) : AV := .ws false 2 (row.map spl)
theorem sx_get {row : List (Int × Bool)} {i : Nat} {p : Int × Bool} (h : row[i]? = some p) : (row.map spl)[i]? = some (.agg [.i .i64 p.1, .b p.2]) := by
  rw [List.getElem?_map, h]; rfl
def OutA (s q : St) (a : AV) (l : List FT) : Prop := ∃ R, Hp s q s.en R [] ∧ (Told1 6 a (l.map FT.av) ∨ ∃ fr, R[0]? = some ⟨6, 60, a, l.map FT.av, fr⟩)
theorem OutA.pub {s q : St} {a : AV} {l : List FT} (h : OutA s q a l) : ∃ a' q', Am.pub q a = some (a', q') ∧ pubA q a = some (a', q') ∧ Told1 6 a' (l.map FT.av) ∧ (∃ R, Hp s q' s.en R []) := by
  obtain ⟨R, H, ht | ⟨fr, hR⟩⟩ := h
  · exact ⟨a, q, ht.pub q, ht.pubA q, ht, R, H⟩
  · obtain ⟨a', q', d, t, H', _⟩ := H.pub 0 hR
    refine ⟨a', q', d, ?_, t, _, H'⟩
    have := pubA_row (H.rows hR)
    simp only at this
    rw [this]
    exact d
end Go.Proofs.Ytgloinighjdhlaa

/-
  The document's Follow: the walk.
-/
set_option maxRecDepth 100000
set_option maxHeartbeats 4000000
set_option linter.unusedSimpArgs false
set_option linter.constructorNameAsVariable false
namespace Go.Proofs.Ytgloinighjdhlaa
open Go.Proofs.Ytgloinighjdhlaa.Am
attribute [local irreducible] W WO WE WQ WD Tr.get Tr.set
theorem drop_at {α : Type} {L : List α} {i : Nat} {x : α} (h : L[i]? = some x) : L.drop i = x :: L.drop (i + 1) := by
  obtain ⟨h1, h2⟩ := List.getElem?_eq_some_iff.1 h
  rw [List.drop_eq_getElem_cons h1, h2]
theorem follow_err {l : List FT} {row : List (Int × Bool)} {choices : List Int} {links : Bool} {z : Int} (hz : z ≠ 0) (h : folF links choices 0 l row = ([], z)) : followP l row choices links = ([], z) := by
  unfold followP
  rw [h, if_neg hz]
theorem ref24follow_ok (l : List FT) (ho : FOk l) (row : List (Int × Bool)) (hr : row.length < 2 ^ 40) (choices : List Int) (hcl : choices.length < 2 ^ 40) (links : Bool) (s : St) (hw : Wf s) : (lim prog).call f_touchstoneref24_Follow [fx l, sx row, zx choices, .b links] s = some (tupR (followP l row choices links), s) := by
  refine fn_W p_touchstoneref24_Follow rfl rfl ?_
  have hz0 : wkZ c_touchstoneref24_Follow.cin [fx l, sx row, zx choices, .b links] = [fx l, sx row, zx choices, .b links] := by
    simp only [c_touchstoneref24_Follow, wkZ, fx, sx, zx, wk]
  rw [hz0]
  obtain ⟨a1, q1, d1, H1, n1, _⟩ := (Hp.begin hw).appN (es := 6) 60 (a := .sl 6 [] .full) (xs := []) (.inr (.inr (.inl rfl))) (elems_fx s.enter l) (by have := ho.len; simp; omega)
  rw [List.nil_append] at H1
  have hal0 : allLen 6 [] = true := rfl
  unfold fx at d1
  simp only [c_touchstoneref24_Follow, go_sem, W_cond2, WO_guard3, WE_guard3, WQ_guard3, KB_n, KB_x, Nat.reduceBEq, Nat.reduceAdd, Nat.reduceLT, Nat.reduceLeDiff, Nat.reduceEqDiff, reduceIte, Int.reduceEq, reduceCtorEq, fx, hal0, d1]
  refine W_loop (fun x e q => ∃ (i : Nat) (out : List FT) (a : AV), i + x = row.length ∧ OutA s q a out ∧ FOk out ∧ folF links choices i out (row.drop i) = folF links choices 0 l row ∧ e.get 1 = sx row ∧ e.get 2 = zx choices ∧ e.get 3 = .b links ∧ e.get 10 = a ∧ e.get 11 = .i .i64 (i : Nat)) ?_ row.length _ _ ?_
  · rintro x e q ⟨i, out, a, hix, ha, hout, hfo, g1, g2, g3, g10, g11⟩
    obtain ⟨a', q', dp, dpA, ta, R, H⟩ := ha.pub
    by_cases h : i < row.length
    · have h1 : ((i : Int) < (row.length : Int)) = True := by simp only [eq_iff_iff, iff_true]; omega
      obtain ⟨⟨n, em⟩, hp⟩ : ∃ p, row[i]? = some p := ⟨_, List.getElem?_eq_getElem h⟩
      have hp2 := sx_get hp
      have hw1 := wrap_succ (show i + 1 < 2 ^ 63 by omega)
      have ld2 : ∀ u : St, ldA u true 2 (.ep [.i .i64 n, .b em] 0 .shut) = some (.agg [.i .i64 n, .b em]) := fun _ => rfl
      have hwy := ref24ways_ok out hout.ok hout.len hout.fl n em links ta q' H.wf
      simp only [tupW, wx] at hwy
      rw [drop_at hp, folF] at hfo
      simp only at hfo
      by_cases hz : (waysP out n em links).2 = 0
      · have e1 : ((waysP out n em links).2 ≠ 0) = False := by simp [hz]
        rw [if_pos hz] at hfo
        by_cases hc : i < choices.length
        · have c1 : ((choices.length : Int) ≤ (i : Int)) = False := by simp only [eq_iff_iff, iff_false]; omega
          obtain ⟨c, hcc⟩ : ∃ c, choices[i]? = some c := ⟨_, List.getElem?_eq_getElem hc⟩
          have hc2 := iv_get hcc
          rw [hcc] at hfo
          simp only at hfo
          by_cases k1 : c < 0
          · have e2 : (c < 0) = True := by simp [k1]
            rw [if_pos (.inl k1)] at hfo
            rw [follow_err (by decide) hfo.symm]
            simp only [go_sem, W_cond2, WO_guard3, WE_guard3, WQ_guard3, KB_n, KB_x, Nat.reduceBEq, Nat.reduceAdd, Nat.reduceLT, Nat.reduceLeDiff, Nat.reduceEqDiff, reduceIte, Int.reduceEq, reduceCtorEq, g1, g2, g3, g10, g11, sx, zx, List.length_map, h1, natOf_nat, hp2, cl_agg, ld2, dp, hwy, e1, c1, hc2, cells_iv, ldA_1, e2]
            exact KR_0 H.over _
          · have e2 : (c < 0) = False := by simp only [eq_iff_iff, iff_false]; exact k1
            by_cases k2 : ((waysP out n em links).1.length : Int) ≤ c
            · have e3 : (((waysP out n em links).1.length : Int) ≤ c) = True := by simp [k2]
              rw [if_pos (.inr k2)] at hfo
              rw [follow_err (by decide) hfo.symm]
              simp only [go_sem, W_cond2, WO_guard3, WE_guard3, WQ_guard3, KB_n, KB_x, Nat.reduceBEq, Nat.reduceAdd, Nat.reduceLT, Nat.reduceLeDiff, Nat.reduceEqDiff, reduceIte, Int.reduceEq, reduceCtorEq, g1, g2, g3, g10, g11, sx, zx, List.length_map, h1, natOf_nat, hp2, cl_agg, ld2, dp, hwy, e1, c1, hc2, cells_iv, ldA_1, e2, e3]
              exact KR_0 H.over _
            · have e3 : (((waysP out n em links).1.length : Int) ≤ c) = False := by simp only [eq_iff_iff, iff_false]; exact k2
              obtain ⟨j, rfl⟩ : ∃ j : Nat, c = (j : Int) := ⟨c.toNat, by omega⟩
              rw [if_neg (by omega), Int.toNat_natCast] at hfo
              obtain ⟨w, hwj⟩ : ∃ w, (waysP out n em links).1[j]? = some w := ⟨_, List.getElem?_eq_getElem (by omega)⟩
              have hwm := List.mem_of_getElem? hwj
              have hw2 : ((waysP out n em links).1.map fx)[j]? = some (.ws false 6 (w.map FT.av)) := by rw [List.getElem?_map, hwj]; rfl
              have hgd : (waysP out n em links).1.getD j [] = w := by rw [List.getD_eq_getElem?_getD, hwj]; rfl
              rw [hgd] at hfo
              have ldw1 : ∀ u : St, ldA u false 1 (.ep [.ws false 6 (w.map FT.av)] 0 .shut) = some (.ws false 6 (w.map FT.av)) := fun _ => rfl
              simp only [go_sem, W_cond2, WO_guard3, WE_guard3, WQ_guard3, KB_n, KB_x, Nat.reduceBEq, Nat.reduceAdd, Nat.reduceLT, Nat.reduceLeDiff, Nat.reduceEqDiff, reduceIte, Int.reduceEq, reduceCtorEq, g1, g2, g3, g10, g11, sx, zx, List.length_map, h1, natOf_nat, hp2, cl_agg, ld2, dp, hwy, e1, c1, hc2, cells_iv, ldA_1, e2, e3, hw2, ldw1, hw1]
              exact ⟨x - 1, by omega, i + 1, w, _, by omega, ⟨R, H, .inl (.inr (.inr (.inr (.inr (.inr rfl)))))⟩, hout.ways n em links w hwm, hfo, rfl, rfl⟩
        · have c1 : ((choices.length : Int) ≤ (i : Int)) = True := by simp only [eq_iff_iff, iff_true]; omega
          rw [List.getElem?_eq_none (by omega)] at hfo
          simp only at hfo
          rw [follow_err (by decide) hfo.symm]
          simp only [go_sem, W_cond2, WO_guard3, WE_guard3, WQ_guard3, KB_n, KB_x, Nat.reduceBEq, Nat.reduceAdd, Nat.reduceLT, Nat.reduceLeDiff, Nat.reduceEqDiff, reduceIte, Int.reduceEq, reduceCtorEq, g1, g2, g3, g10, g11, sx, zx, List.length_map, h1, natOf_nat, hp2, cl_agg, ld2, dp, hwy, e1, c1]
          exact KR_0 H.over _
      · have e1 : ((waysP out n em links).2 ≠ 0) = True := by simp [hz]
        rw [if_neg hz] at hfo
        rw [follow_err hz hfo.symm]
        simp only [go_sem, W_cond2, WO_guard3, WE_guard3, WQ_guard3, KB_n, KB_x, Nat.reduceBEq, Nat.reduceAdd, Nat.reduceLT, Nat.reduceLeDiff, Nat.reduceEqDiff, reduceIte, Int.reduceEq, reduceCtorEq, g1, g2, g3, g10, g11, sx, zx, List.length_map, h1, natOf_nat, hp2, cl_agg, ld2, dp, hwy, e1]
        exact KR_0 H.over _
    · have h1 : ((i : Int) < (row.length : Int)) = False := by simp only [eq_iff_iff, iff_false]; omega
      rw [List.drop_of_length_le (by omega), folF] at hfo
      unfold followP
      rw [← hfo, if_pos rfl]
      by_cases k : row.length < choices.length
      · have e1 : ((row.length : Int) < (choices.length : Int)) = True := by simp only [eq_iff_iff, iff_true]; omega
        rw [if_pos k]
        simp only [go_sem, W_cond2, WO_guard3, WE_guard3, WQ_guard3, KB_n, KB_x, Nat.reduceBEq, Nat.reduceAdd, Nat.reduceLT, Nat.reduceLeDiff, Nat.reduceEqDiff, reduceIte, Int.reduceEq, reduceCtorEq, g1, g2, g3, g10, g11, sx, zx, List.length_map, h1, e1]
        obtain ⟨_, H', _⟩ := ha
        exact KR_0 H'.over _
      · have e1 : ((row.length : Int) < (choices.length : Int)) = False := by simp only [eq_iff_iff, iff_false]; omega
        rw [if_neg k]
        simp only [go_sem, W_cond2, WO_guard3, WE_guard3, WQ_guard3, KB_n, KB_x, Nat.reduceBEq, Nat.reduceAdd, Nat.reduceLT, Nat.reduceLeDiff, Nat.reduceEqDiff, reduceIte, Int.reduceEq, reduceCtorEq, g1, g2, g3, g10, g11, sx, zx, List.length_map, h1, e1, dpA]
        refine KR_some H.over ?_ ?_
        · simp only [tupOf, AV.refs, AV.refs.go, ta.refs (refs_goF out)]
          rfl
        · simp only [tupOf, wkZ, wk, told_fx ta, tupR]
  · simp only [go_sem, W_cond2, WO_guard3, WE_guard3, WQ_guard3, KB_n, KB_x, Nat.reduceBEq, Nat.reduceAdd, Nat.reduceLT, Nat.reduceLeDiff, Nat.reduceEqDiff, reduceIte, Int.reduceEq, reduceCtorEq]
    exact ⟨0, l, a1, by omega, ⟨_, H1, .inr ⟨true, rfl⟩⟩, ho, rfl, rfl, rfl⟩
end Go.Proofs.Ytgloinighjdhlaa

/-
  slices.Clone of numbers, over a heap.
-/
set_option maxRecDepth 100000
set_option linter.unusedSimpArgs false
set_option linter.constructorNameAsVariable false
namespace Go.Proofs.Ytgloinighjdhlaa
open Go.Proofs.Ytgloinighjdhlaa.Am
theorem cloneI_nil (s : St) : (lim prog).call f_slices_Clone_int_int [zx []] s = some (.ws true 1 [], { s with lo := min s.lo s.nb }) := by
  rw [lim_call]
  unfold callF
  rw [p_slices_Clone_int_int]
  have h1 : wkZ c_slices_Clone_int_int.cin [zx []] = [.ws false 1 []] := by
    simp [c_slices_Clone_int_int, wkZ, wk, wkM, zx]
  have h2 : both c_slices_Clone_int_int [.ws false 1 []] = some (.ws true 1 []) := by rfl
  have h3 : Nat.ble [zx []].length c_slices_Clone_int_int.ntmps = true := rfl
  have h4 : c_slices_Clone_int_int.prim = none := rfl
  simp only [h4, h3, h1, h2]
theorem cloneI_cons (x : Int) (L : List Int) (hL : (x :: L).length < 2 ^ 38) (s : St) :
    (lim prog).call f_slices_Clone_int_int [zx (x :: L)] s = some (.sl 1 ((x :: L).map iv) (.tok s.nt 0), { s.newTok (x :: L).length (some 3) with lo := min s.lo s.nb }) := by
  have h1 : wkZ c_slices_Clone_int_int.cin [zx (x :: L)] = [zx (x :: L)] := by
    simp only [c_slices_Clone_int_int, wkZ, zx, wk]
  obtain ⟨r, s', hc, rfl, rfl⟩ := fn_K (t := 2) (s := s) (args := [zx (x :: L)]) (Post := fun r s' => r = .sl 1 ((x :: L).map iv) (.tok s.nt 0) ∧ s' = { s.newTok (x :: L).length (some 3) with lo := min s.lo s.nb }) p_slices_Clone_int_int rfl rfl rfl (by rw [h1]; rfl) (by
    rw [h1]
    have heq : eqS (zx (x :: L)) .nsl = some false := rfl
    have ha : appA s.enter 1 3 (.sl 1 [] .full) (zx (x :: L)) = some (.sl 1 ((x :: L).map iv) (.tok s.nt 0), s.enter.newTok (x :: L).length (some 3)) := by
      simp only [zx, List.map_cons, appA, elems, if_true, List.nil_append, List.length_nil, Nat.zero_add, true_and]
      rw [if_pos (by simpa using hL)]
      simp [St.enter]
    have hal : allLen 1 [] = true := rfl
    simp only [c_slices_Clone_int_int, go_sem, W_cond, WO_guard2, WE_guard2, WQ_guard2, W_regD, KB_n, KB_x, Nat.reduceBEq, Nat.reduceAdd, Nat.reduceLT, Nat.reduceLeDiff, Nat.reduceEqDiff, reduceIte, Int.reduceEq, reduceCtorEq, heq, hal, le11s, ha, KK_n, KK_r]
    rfl)
  exact hc
theorem cloneI_hp {s0 s : St} {n : En} {R : List RA} {B : List (Nat × Box)} (H : Hp s0 s n R B) (L : List Int) (hL : L.length < 2 ^ 38) :
    ∃ r s', (lim prog).call f_slices_Clone_int_int [zx L] s = some (r, s') ∧ Hp s0 s' n (⟨1, 3, r, L.map iv, true⟩ :: R) B ∧ s'.nb = s.nb := by
  have hlo := H.lo
  have h1 := H.over.lo
  have h2 := H.over.nb
  cases L with
  | nil =>
    refine ⟨_, _, cloneI_nil s, ?_, rfl⟩
    exact (H.setLo (m := min s.lo s.nb) (by omega) (by omega)).addFull 1 3 true .ws
  | cons x L =>
    refine ⟨_, _, cloneI_cons x L hL s, ?_, rfl⟩
    have := H.newTok 1 3 ((x :: L).map iv)
    rw [List.length_map] at this
    exact this.setLo (m := min s.lo s.nb) (by omega) (by omega)
theorem cloneI_hpQ {s0 s : St} {n : En} {R : List RA} {B : List (Nat × Box)} (H : Hp s0 s n R B) (L : List Int) (hL : L.length < 2 ^ 38) :
    ∃ r s1 a s', (lim prog).call f_slices_Clone_int_int [zx L] s = some (r, s1) ∧ shutA false s1 r = some (a, s') ∧ Told1 1 a (L.map iv) ∧ Hp s0 s' n R B ∧ s'.nb = s.nb := by
  obtain ⟨r, s1, h1, H1, e1⟩ := cloneI_hp H L hL
  obtain ⟨a, s', h2, h3, H2, e2⟩ := H1.pub 0 rfl
  refine ⟨r, s1, a, s', h1, h2, h3, ?_, by omega⟩
  exact H2.dropR
theorem cloneF_nil (s : St) : (lim prog).call f_slices_Clone_api_Fact_api_Fact [fx []] s = some (.ws true 6 [], { s with lo := min s.lo s.nb }) := by
  rw [lim_call]
  unfold callF
  rw [p_slices_Clone_api_Fact_api_Fact]
  have h1 : wkZ c_slices_Clone_api_Fact_api_Fact.cin [fx []] = [.ws false 6 []] := by
    simp [c_slices_Clone_api_Fact_api_Fact, wkZ, wk, wkM, fx]
  have h2 : both c_slices_Clone_api_Fact_api_Fact [.ws false 6 []] = some (.ws true 6 []) := by rfl
  have h3 : Nat.ble [fx []].length c_slices_Clone_api_Fact_api_Fact.ntmps = true := rfl
  have h4 : c_slices_Clone_api_Fact_api_Fact.prim = none := rfl
  simp only [h4, h3, h1, h2]
end Go.Proofs.Ytgloinighjdhlaa

/-
  Clones of facts and of numbers; store.own.
-/
set_option maxRecDepth 100000
set_option maxHeartbeats 4000000
set_option linter.unusedSimpArgs false
set_option linter.constructorNameAsVariable false
namespace Go.Proofs.Ytgloinighjdhlaa
open Go.Proofs.Ytgloinighjdhlaa.Am
attribute [local irreducible] W WO WE WQ WD Tr.get Tr.set
theorem cloneF_hp {s0 s : St} {n : En} {R : List RA} {B : List (Nat × Box)} (H : Hp s0 s n R B) (l : List FT) (hne : l ≠ []) (hl : l.length < 2 ^ 34) :
    ∃ r s', (lim prog).call f_slices_Clone_api_Fact_api_Fact [fx l] s = some (r, s') ∧ Hp s0 s' n (⟨6, 60, r, l.map FT.av, true⟩ :: R) B ∧ s'.nb = s.nb ∧ rowTok r ≠ none := by
  have hlo := H.lo
  have g1 := H.over.lo
  have g2 := H.over.nb
  have h1 : wkZ c_slices_Clone_api_Fact_api_Fact.cin [fx l] = [fx l] := by simp only [c_slices_Clone_api_Fact_api_Fact, wkZ, fx, wk]
  obtain ⟨r, s', hc, rfl, rfl⟩ := fn_K (t := 2) (s := s) (args := [fx l]) (Post := fun r s' => r = .sl 6 (l.map FT.av) (.tok s.nt 0) ∧ s' = { s.newTok l.length (some 60) with lo := min s.lo s.nb }) p_slices_Clone_api_Fact_api_Fact rfl rfl rfl (by
      rw [h1]
      cases l with
      | nil => exact absurd rfl hne
      | cons f t => rfl) (by
    rw [h1]
    have heq : eqS (fx l) .nsl = some false := by
      cases l with
      | nil => exact absurd rfl hne
      | cons f t => rfl
    have ha : appA s.enter 6 60 (.sl 6 [] .full) (fx l) = some (.sl 6 (l.map FT.av) (.tok s.nt 0), s.enter.newTok l.length (some 60)) := by
      cases l with
      | nil => exact absurd rfl hne
      | cons f t =>
        simp only [fx, List.map_cons, appA, elems, if_true, List.nil_append, List.length_nil, Nat.zero_add, true_and]
        rw [if_pos (by simp at hl ⊢; omega)]
        simp [St.enter]
    have hal : allLen 6 [] = true := rfl
    simp only [c_slices_Clone_api_Fact_api_Fact, go_sem, W_cond2, WO_guard3, WE_guard3, WQ_guard3, KB_n, KB_x, Nat.reduceBEq, Nat.reduceAdd, Nat.reduceLT, Nat.reduceLeDiff, Nat.reduceEqDiff, reduceIte, Int.reduceEq, reduceCtorEq, heq, hal, ha, KK_n, KK_r]
    rfl)
  refine ⟨_, _, hc, ?_, rfl, by simp [rowTok]⟩
  have := H.newTok 6 60 (l.map FT.av)
  rw [List.length_map] at this
  exact this.setLo (m := min s.lo s.nb) (by omega) (by omega)
end Go.Proofs.Ytgloinighjdhlaa

/-
  store.own.
-/
set_option maxRecDepth 100000
set_option maxHeartbeats 4000000
set_option linter.unusedSimpArgs false
set_option linter.constructorNameAsVariable false
namespace Go.Proofs.Ytgloinighjdhlaa
open Go.Proofs.Ytgloinighjdhlaa.Am
def CF (f : FT) (c : List AV) : Prop := ∃ a b, Told1 1 a (f.names.map .s) ∧ Told1 1 b (f.kids.map iv) ∧ c = [.b f.known, .i .u8 (f.kind : Nat), a, b, .i .i64 f.rest, .i .i64 f.beside]
def GF (l : List FT) (G : List (List AV)) : Prop := G.length = l.length ∧ ∀ (i : Nat) (f : FT), l[i]? = some f → ∃ c, G[i]? = some c ∧ CF f c
theorem CF.self (f : FT) : CF f f.cells := ⟨tx f.names, zx f.kids, .ws, .ws, rfl⟩
theorem GF.self (l : List FT) : GF l (l.map FT.cells) := ⟨by simp, fun i f h => ⟨f.cells, by rw [List.getElem?_map, h]; rfl, CF.self f⟩⟩
theorem GF.mem {l : List FT} {G : List (List AV)} (h : GF l G) {c : List AV} (hc : c ∈ G) : ∃ f, f ∈ l ∧ CF f c := by
  obtain ⟨i, hi, rfl⟩ := List.mem_iff_getElem.1 hc
  have hl : i < l.length := by rw [← h.1]; exact hi
  obtain ⟨c, hc, hf⟩ := h.2 i l[i] (List.getElem?_eq_getElem hl)
  rw [List.getElem?_eq_getElem hi] at hc
  cases hc
  exact ⟨l[i], List.getElem_mem hl, hf⟩
theorem GF.six {l : List FT} {G : List (List AV)} (h : GF l G) : Six G := fun c hc => by
  obtain ⟨f, _, a, b, _, _, rfl⟩ := h.mem hc
  rfl
theorem told_ones2 {a b : AV} {xs ys : List AV} (ha : Told1 1 a xs) (hb : Told1 1 b ys) (l : List AV) : ones (a :: b :: l) = ones l := by
  rcases ha with ⟨rfl, _⟩ | ⟨rfl, _⟩ | rfl | rfl | rfl | rfl <;> rcases hb with ⟨rfl, _⟩ | ⟨rfl, _⟩ | rfl | rfl | rfl | rfl <;> rfl
theorem GF.ones {l : List FT} {G : List (List AV)} (h : GF l G) : ∀ c ∈ G, Am.ones c = true := fun c hc => by
  obtain ⟨f, _, a, b, ha, hb, rfl⟩ := h.mem hc
  show Am.ones (a :: b :: _) = true
  rw [told_ones2 ha hb]
  rfl
theorem CF.wk {f : FT} {c : List AV} (h : CF f c) : wkZ [CT.id, .id, (.sl 1 .id), (.sl 1 .id), .id, .id] c = f.cells := by
  obtain ⟨a, b, ha, hb, rfl⟩ := h
  have h1 := ha.wk (c := .id) (wkM_s f.names)
  have h2 := hb.wk (c := .id) (wkM_i f.kids)
  simp only [wkZ, h1, h2]
  simp only [Am.wk, FT.cells, tx, zx]
theorem GF.wk {l : List FT} {G : List (List AV)} (h : GF l G) : G.map (fun c => wkZ [CT.id, .id, (.sl 1 .id), (.sl 1 .id), .id, .id] c) = l.map FT.cells := by
  apply List.ext_getElem?
  intro i
  rw [List.getElem?_map, List.getElem?_map]
  by_cases hi : i < l.length
  · obtain ⟨c, hc, hf⟩ := h.2 i l[i] (List.getElem?_eq_getElem hi)
    rw [hc, List.getElem?_eq_getElem hi]
    simp only [Option.map_some, hf.wk]
  · rw [List.getElem?_eq_none (by have := h.1; omega), List.getElem?_eq_none (by omega)]; rfl
theorem GF.set {l : List FT} {G : List (List AV)} (h : GF l G) {i : Nat} {g : FT} {c : List AV} (hi : i < l.length) (hc : CF g c) : GF (l.set i g) (G.set i c) := by
  refine ⟨by rw [List.length_set, List.length_set]; exact h.1, fun j f hj => ?_⟩
  have hG := h.1
  rw [List.getElem?_set] at hj ⊢
  by_cases hij : i = j
  · rw [if_pos hij, if_pos hi] at hj
    cases hj
    rw [if_pos hij, if_pos (by omega)]
    exact ⟨c, rfl, hc⟩
  · rw [if_neg hij] at hj ⊢
    exact h.2 j f hj
theorem CF.refs {f : FT} {c : List AV} (h : CF f c) : AV.refs.go c = false := by
  obtain ⟨a, b, ha, hb, rfl⟩ := h
  simp only [AV.refs.go, ha.refs (refs_goS _), hb.refs (refs_goI _)]
  rfl
theorem GF.refs {l : List FT} {G : List (List AV)} (h : GF l G) : AV.refs.go (G.map AV.agg) = false := by
  have : ∀ G : List (List AV), (∀ c ∈ G, AV.refs.go c = false) → AV.refs.go (G.map AV.agg) = false := by
    intro G
    induction G with
    | nil => intro _; rfl
    | cons c G ih =>
      intro hG
      simp only [List.map_cons, AV.refs.go, ih fun x hx => hG x (List.mem_cons_of_mem _ hx), AV.refs, hG c List.mem_cons_self]
      rfl
  exact this G fun c hc => by
    obtain ⟨f, _, hf⟩ := h.mem hc
    exact hf.refs
theorem take_set {cs : List AV} {off : Nat} (h : off < cs.length) (v : AV) : cs.take off ++ ([v] ++ cs.drop (off + [v].length)) = cs.set off v := by
  rw [List.set_eq_take_append_cons_drop, if_pos h]; rfl
theorem still_zx (L : List Int) : still (zx L) = true := by
  simp [still, zx, beqA, beqAL_ints]
def RowO (s0 q : St) (n : En) (v : AV) (l : List FT) (G : List (List AV)) : Prop := (Hp s0 q n [⟨6, 60, v, l.map FT.av, true⟩] [] ∧ rowTok v ≠ none ∧ G = l.map FT.cells) ∨ (∃ id, v = .bl id 6 0 l.length (l.length * 6, false) ∧ Hp s0 q n [] [(id, .row 60 G.flatten false 0)])
theorem RowO.thaw {s0 q : St} {n : En} {v : AV} {l : List FT} {G : List (List AV)} (h : RowO s0 q n v l G) (f : FT) :
    ∃ q1, stA (q.new (.cells 60 [.b false, .i .u8 0, .nsl, .nsl, .i .i64 0, .i .i64 0])) 6 (.p q.nb 0) (.agg f.cells) = some q1 ∧ ∃ id q2, thawA q1 v = some (.bl id 6 0 l.length (l.length * 6, false), q2) ∧ Hp s0 q2 n [] [(id, .row 60 G.flatten false 0), (q.nb, .cells 60 f.cells)] := by
  rcases h with ⟨H, hv, rfl⟩ | ⟨id, rfl, H⟩
  · obtain ⟨q1, d1, H1, n1⟩ := H.adp (T := 60) (m := 6) (z := [.b false, .i .u8 0, .nsl, .nsl, .i .i64 0, .i .i64 0]) (v := .agg f.cells) rfl ⟨rfl, rfl⟩
    obtain ⟨q2, d2, H2, n2⟩ := H1.thaw 0 rfl hv [] (by simp) (by simp)
    rw [← map_agg, flatC_agg] at H2
    rw [List.length_map] at d2
    exact ⟨q1, d1, _, q2, d2, H2⟩
  · obtain ⟨q1, d1, H1, n1⟩ := H.adp (T := 60) (m := 6) (z := [.b false, .i .u8 0, .nsl, .nsl, .i .i64 0, .i .i64 0]) (v := .agg f.cells) rfl ⟨rfl, rfl⟩
    exact ⟨q1, d1, id, q1, rfl, H1.sel [] [1, 0] (by simp) (by simp)⟩
end Go.Proofs.Ytgloinighjdhlaa

/-
  store.own: the walk.
-/
set_option maxRecDepth 100000
set_option maxHeartbeats 4000000
set_option linter.unusedSimpArgs false
set_option linter.constructorNameAsVariable false
namespace Go.Proofs.Ytgloinighjdhlaa
open Go.Proofs.Ytgloinighjdhlaa.Am
attribute [local irreducible] W WO WE WQ WD Tr.get Tr.set
theorem set_self {α : Type} {l : List α} {i : Nat} {f : α} (h : l[i]? = some f) : l.set i f = l := by
  apply List.ext_getElem?
  intro j
  rw [List.getElem?_set]
  by_cases hj : i = j
  · subst hj
    rw [if_pos rfl, if_pos (List.getElem?_eq_some_iff.1 h).1, h]
  · rw [if_neg hj]
theorem own_hp {s0 s : St} {n : En} (H : Hp s0 s n [] []) (l : List FT) (hne : l ≠ []) (ho : FOk l) :
    ∃ r s', (lim prog).call f_store_own [fx l] s = some (r, s') ∧ ∃ id G, r = .bl id 6 0 l.length (l.length * 6, false) ∧ Hp s0 s' n [] [(id, .row 60 G.flatten false 0)] ∧ GF l G := by
  have hpos := List.length_pos_iff.2 hne
  have hll := ho.len
  have hz0 : wkZ c_store_own.cin [fx l] = [fx l] := by simp only [c_store_own, wkZ, fx, wk]
  refine fn_K (t := 2) (s := s) (args := [fx l]) (Post := fun r s' => ∃ id G, r = .bl id 6 0 l.length (l.length * 6, false) ∧ Hp s0 s' n [] [(id, .row 60 G.flatten false 0)] ∧ GF l G) p_store_own rfl rfl rfl (by
      rw [hz0]
      cases l with
      | nil => exact absurd rfl hne
      | cons f t => rfl) ?_
  rw [hz0]
  have HE := H.enter
  obtain ⟨r1, q1, d1, H1, n1, hr1⟩ := cloneF_hp HE l hne hll
  unfold fx at d1
  simp only [c_store_own, go_sem, W_cond2, WO_guard3, WE_guard3, WQ_guard3, KB_n, KB_x, Nat.reduceBEq, Nat.reduceAdd, Nat.reduceLT, Nat.reduceLeDiff, Nat.reduceEqDiff, reduceIte, Int.reduceEq, reduceCtorEq, fx, List.length_map, d1]
  refine W_loop (fun x e q => ∃ (i : Nat) (v : AV) (G : List (List AV)), i + x = l.length ∧ RowO s0 q s.en v l G ∧ (0 < i → rowTok v = none) ∧ GF l G ∧ e.get 3 = v ∧ e.get 8 = fx l ∧ e.get 9 = .i .i64 (l.length : Nat) ∧ e.get 10 = .i .i64 (i : Nat)) ?_ l.length _ _ ?_
  · rintro x e q ⟨i, v, G, hix, hro, hiv, hG, g3, g8, g9, g10⟩
    by_cases h : i < l.length
    · have h1 : ((i : Int) < (l.length : Int)) = True := by simp only [eq_iff_iff, iff_true]; omega
      obtain ⟨f, hf⟩ : ∃ f, l[i]? = some f := ⟨_, List.getElem?_eq_getElem h⟩
      have hfo := ho.ok f (List.mem_of_getElem? hf)
      have hg2 := fx_get hf
      have hw1 := wrap_succ (show i + 1 < 2 ^ 63 by omega)
      have hlt : (i < l.length) = True := by simp [h]
      obtain ⟨q2, d2, id, q3, d3, H3⟩ := hro.thaw f
      generalize hb : q.nb = b at d2 H3
      obtain ⟨ra, sa, a1, q4, d4, d5, t1, H4, n4⟩ := clone_hpQ H3 f.names (by have := hfo.nlen; omega)
      obtain ⟨rb, sb, a2, q5, d6, d7, t2, H5, n5⟩ := cloneI_hpQ H4 f.kids (by have := hfo.klen; omega)
      have l2 := H3.ld 1 (off := 2) (v := tx f.names) rfl rfl
      have l3a := H3.ld 1 (off := 3) (v := zx f.kids) rfl rfl
      have l3b := H4.ld 1 (off := 3) (v := zx f.kids) rfl rfl
      obtain ⟨c, hc, ca, cb, ta, tb, rfl⟩ := hG.2 i f hf
      have hlen := six_len hG.six
      have hGl := hG.1
      obtain ⟨q6, d8, H6, n6⟩ := H5.strw 0 (off := i * 6 + 2) (m := 1) (v := a1) rfl (by omega) ⟨by rw [t1.cells.1]; rfl, by rw [t1.cells.1]; exact t1.cells.2.1⟩
      rw [t1.cells.1, take_set (by omega) a1, setc_six hG.six hc (by omega) a1] at H6
      have hG2 := hG.set h (c := [.b f.known, .i .u8 (f.kind : Nat), a1, cb, .i .i64 f.rest, .i .i64 f.beside]) (g := f) ⟨a1, cb, t1, tb, rfl⟩
      rw [set_self hf] at hG2
      have hc2 : (G.set i [.b f.known, .i .u8 (f.kind : Nat), a1, cb, .i .i64 f.rest, .i .i64 f.beside])[i]? = some [.b f.known, .i .u8 (f.kind : Nat), a1, cb, .i .i64 f.rest, .i .i64 f.beside] := by
        rw [List.getElem?_set, if_pos rfl, if_pos (by omega)]
      have hlen2 := six_len hG2.six
      rw [List.length_set] at hlen2
      have H6' : Hp s0 q6 s.en [] [(id, .row 60 (G.set i [.b f.known, .i .u8 (f.kind : Nat), a1, cb, .i .i64 f.rest, .i .i64 f.beside]).flatten false 0), (b, .cells 60 f.cells)] := H6
      obtain ⟨q7, d9, H7, n7⟩ := H6'.strw 0 (off := i * 6 + 3) (m := 1) (v := a2) rfl (by omega) ⟨by rw [t2.cells.1]; rfl, by rw [t2.cells.1]; exact t2.cells.2.1⟩
      rw [t2.cells.1, take_set (by omega) a2, setc_six hG2.six hc2 (by omega) a2] at H7
      have hG3 := hG2.set h (c := [.b f.known, .i .u8 (f.kind : Nat), a1, a2, .i .i64 f.rest, .i .i64 f.beside]) (g := f) ⟨a1, a2, t1, t2, rfl⟩
      rw [set_self hf] at hG3
      have H8 : Hp s0 q7 s.en [] [(id, .row 60 ((G.set i [.b f.known, .i .u8 (f.kind : Nat), a1, cb, .i .i64 f.rest, .i .i64 f.beside]).set i [.b f.known, .i .u8 (f.kind : Nat), a1, a2, .i .i64 f.rest, .i .i64 f.beside]).flatten false 0)] := H7.sel [] [0] (by simp) (by simp)
      have hst := still_zx f.kids
      unfold zx at l3a l3b d6 hst
      unfold tx at l2 d4
      simp only [go_sem, W_cond2, WO_guard3, WE_guard3, WQ_guard3, KB_n, KB_x, Nat.reduceBEq, Nat.reduceAdd, Nat.reduceLT, Nat.reduceLeDiff, Nat.reduceEqDiff, reduceIte, Int.reduceEq, reduceCtorEq, g3, g8, g9, g10, fx, h1, natOf_nat, hg2, cl_agg, ld_cells6, pub_cells6, d2, hb, d3]
      refine W_regE rfl ?_
      simp only [go_sem, W_cond2, WO_guard3, WE_guard3, WQ_guard3, KB_n, KB_x, Nat.reduceBEq, Nat.reduceAdd, Nat.reduceLT, Nat.reduceLeDiff, Nat.reduceEqDiff, reduceIte, Int.reduceEq, reduceCtorEq, l2, d4, d5, l3b, d6, d7, natOf_nat, hlt, Nat.zero_add, d8, d9]
      refine KW_ld rfl ?_ hst ⟨⟨_, rfl, l3b⟩, ⟨_, rfl, l3a⟩, ⟨_, rfl, l3b⟩, ⟨_, rfl, l3b⟩, trivial⟩ (KW_end ?_)
      · simp only [go_sem, W_cond2, WO_guard3, WE_guard3, WQ_guard3, KB_n, KB_x, Nat.reduceBEq, Nat.reduceAdd, Nat.reduceLT, Nat.reduceLeDiff, Nat.reduceEqDiff, reduceIte, Int.reduceEq, reduceCtorEq]
      simp only [go_sem, W_cond2, WO_guard3, WE_guard3, WQ_guard3, KB_n, KB_x, Nat.reduceBEq, Nat.reduceAdd, Nat.reduceLT, Nat.reduceLeDiff, Nat.reduceEqDiff, reduceIte, Int.reduceEq, reduceCtorEq, g8, g9, g10, fx, hw1]
      exact ⟨x - 1, by omega, i + 1, _, _, by omega, .inr ⟨id, rfl, H8⟩, fun _ => rfl, hG3, rfl, rfl⟩
    · have h1 : ((i : Int) < (l.length : Int)) = False := by simp only [eq_iff_iff, iff_false]; omega
      simp only [go_sem, W_cond2, WO_guard3, WE_guard3, WQ_guard3, KB_n, KB_x, Nat.reduceBEq, Nat.reduceAdd, Nat.reduceLT, Nat.reduceLeDiff, Nat.reduceEqDiff, reduceIte, Int.reduceEq, reduceCtorEq, g3, g8, g9, g10, h1, KK_n, KK_r]
      rcases hro with ⟨_, hv, _⟩ | ⟨id, rfl, H9⟩
      · exact absurd (hiv (by omega)) hv
      · refine ⟨id, G, rfl, ?_, hG⟩
        have hh1 := H.lo
        have hh2 := H9.over.lo
        have hh3 := H.over.lo
        have hh4 := H9.lo
        have K := H9.setLo (m := min s.lo q.lo) (by have h7 : s.en.lo = s.nb := rfl; omega) (by omega)
        exact { wf := K.wf, over := K.over, lo := by show min s.lo q.lo ≤ n.lo; omega, nb := Nat.le_trans H.nb K.nb, nt := Nat.le_trans H.nt K.nt, rows := K.rows, apart := K.apart, box := K.box, bapart := K.bapart }
  · simp only [go_sem, W_cond2, WO_guard3, WE_guard3, WQ_guard3, KB_n, KB_x, Nat.reduceBEq, Nat.reduceAdd, Nat.reduceLT, Nat.reduceLeDiff, Nat.reduceEqDiff, reduceIte, Int.reduceEq, reduceCtorEq]
    refine ⟨0, r1, l.map FT.cells, by omega, .inl ⟨H1, hr1, rfl⟩, fun h => absurd h (by omega), GF.self l, rfl, rfl, rfl⟩
end Go.Proofs.Ytgloinighjdhlaa

/-
  slices.AppendSeq and slices.Collect of numbers.
-/
set_option maxRecDepth 100000
set_option maxHeartbeats 2000000
set_option linter.unusedSimpArgs false
set_option linter.constructorNameAsVariable false
namespace Go.Proofs.Ytgloinighjdhlaa
open Go.Proofs.Ytgloinighjdhlaa.Am
abbrev apAI : C := subC c_slices_AppendSeq_int_int.body [1, 0, 1, 0, 0]
abbrev apCI : C := subC c_slices_AppendSeq_int_int.body [1, 0, 1, 0, 1]
def AII (L : List Int) (s : St) (k ido : Nat) (e : Tr) (j : Nat) (q : St) : Prop :=
  q.box? k = some (.loop 0 none e [7] apAI apCI) ∧ RP 1 (k + 1) s.nt s.nt 3 37 ido ((L.take j).map iv) q ∧ (j = 0 → q.box? ido = some (.cells 37 [.nsl]))
theorem apBodyI {L : List Int} {s : St} {k ido : Nat} {e : Tr} (hido : ido < k) (hs : s.nb ≤ ido) (hl : L.length < 2 ^ 37) (g2 : e.get 2 = .p ido 0) :
    Body prog (fun _ => False) s (k + 1) s.nt (.yld k) (L.map iv) (AII L s k ido e) (fun _ => False) where
  stab := fun j q q' ⟨h1, h2, h3⟩ f => ⟨by rw [f.box k (by omega) (by simp)]; exact h1, h2.fr (by omega) (by simp) f, fun hj => by rw [f.box ido (by omega) (by simp)]; exact h3 hj⟩
  stab0 := fun q q' h f => ⟨by rw [f.box k (by omega) (by simp)]; exact h.1, h.2.1.fr0 (fun a k' h1 h2 => by rw [h.2.2 rfl] at h1; cases h1; simp [rowTok] at h2) (by omega) (by simp) f, fun hj => by rw [f.box ido (by omega) (by simp)]; exact h.2.2 hj⟩
  stabR := fun _ _ h _ => h
  step := by
    intro j hj q ⟨hk, hI, _⟩ hov hw hh ht
    have hj' : j < L.length := by simpa using hj
    have hLj : (L.map iv)[j] = .i .i64 L[j] := by simp [iv]
    rw [hLj]
    obtain ⟨x, hx⟩ : ∃ x, L[j] = x := ⟨_, rfl⟩
    rw [hx]
    have hst : L.take (j + 1) = L.take j ++ [x] := by rw [List.take_succ_eq_append_getElem hj', hx]
    have hylen : (L.take j).length ≤ L.length := by simp; omega
    obtain ⟨Y, hY⟩ : ∃ Y, L.take j = Y := ⟨_, rfl⟩
    rw [hY] at hI hst hylen
    obtain ⟨q1, hq1⟩ : ∃ q1, q.setBox k (.loop 1 none e [7] apAI apCI) = q1 := ⟨_, rfl⟩
    have w1 : Wf q1 := by rw [← hq1]; exact hw.setBox _ _
    have nb1 : q1.nb = q.nb ∧ q1.nt = q.nt ∧ q1.lo = q.lo := by rw [← hq1]; exact ⟨rfl, rfl, rfl⟩
    have bx1 : ∀ i, q1.box? i = if i = k then some (.loop 1 none e [7] apAI apCI) else q.box? i := fun i => by rw [← hq1]; exact setBox_box? hw.b (by omega) i
    have ov1 : Over s q1 := by rw [← hq1]; exact Over.setBox hov (by omega) (by omega) _
    obtain ⟨a, hb, hr, htok⟩ := hI
    have hb1 : q1.box? ido = some (.cells 37 [a]) := by rw [bx1, if_neg (by omega)]; exact hb
    have hr1 : RowP 1 s.nt q1 3 a (Y.map iv) := hr.mono (by omega) fun k _ => by rw [← hq1]; rfl
    have lda := ld_box (s := q1) (v := a) (off := 0) hb1 rfl
    have b1k := bx1 k
    rw [if_pos rfl] at b1k
    have hel : elems q1 1 (.sl 1 [.i .i64 x] .full) = some [.i .i64 x] := by simp [elems, St.ok]
    have al : allLen 1 [AV.i .i64 x] = true := rfl
    obtain ⟨a', q2, e2, hr2, hg, href, hc⟩ := app_rowP w1 (by omega) hr1 hel (by simp) (by simp; omega)
    have hm : Y.map iv ++ [AV.i .i64 x] = (Y ++ [x]).map iv := by simp [iv]
    rw [hm] at hr2
    obtain ⟨q3, e3, r3, nb3, nt3, w3, bx3, ov3⟩ := RP.store (h := k + 1) (tB := s.nt) hb1 hg hr2 hc href w1 (by omega) (by omega)
    have b3k : q3.box? k = some (.loop 1 none e [7] apAI apCI) := by rw [bx3 k (by omega)]; exact b1k
    have hfin : ∀ e' : Tr, YK k (RoundK (fun _ => False) (k + 1) s q (AII L s k ido e (j + 1)) (fun _ => False)) .n e' q3 := fun e' => by
      refine round_end b3k (by omega) w3 (ov3 s hs (Nat.le_refl _) (by omega) ov1) (by omega) (by omega) (by omega) (by simp) (fun i hi hlt => by have hi' : k + 1 ≤ i := hi.resolve_left id; rw [bx3 i (by omega), bx1, if_neg (by omega)]) (fun _ => ⟨?_, ?_, fun hh => by simp at hh⟩) (fun hh => by simp at hh) (fun i hh => by simp at hh)
      · rw [setBox_box? w3.b (by omega), if_pos rfl]
      · rw [hst]
        exact r3.fr (O := fun i => i = k) (by omega) (show ¬ (ido = k) by omega) (Fr.setBox (O := fun i => i = k) (tB := s.nt) (h := k + 1) (id := k) w3 (by omega) (.inr rfl) (by omega) _)
    refine round_step ?_
    refine callY_W (t := e.set 10 7 (.i .i64 x)) hk rfl ?_
    simp only [apAI, c_slices_AppendSeq_int_int, subC, go_sem, W_cond, WO_guard2, WE_guard2, WQ_guard2, W_regD, KB_n, KB_x, Nat.reduceBEq, Nat.reduceAdd, Nat.reduceLT, Nat.reduceLeDiff, Nat.reduceEqDiff, reduceIte, Int.reduceEq, reduceCtorEq]
    refine ⟨_, _, _, _, hk, ?_⟩
    rw [hq1]
    have hz : a = .nsl ∨ ∃ k v, a = .sl 1 (Y.map iv) (.tok k v) := by
      rcases hr with ⟨rfl, _⟩ | ⟨k, v, t, rfl, _⟩
      · exact .inl rfl
      · exact .inr ⟨k, v, rfl⟩
    rcases hz with rfl | ⟨k', v, rfl⟩ <;>
      (simp only [apCI, c_slices_AppendSeq_int_int, subC, go_sem, W_cond, WO_guard2, WE_guard2, WQ_guard2, W_regD, KB_n, KB_x, Nat.reduceBEq, Nat.reduceAdd, Nat.reduceLT, Nat.reduceLeDiff, Nat.reduceEqDiff, reduceIte, Int.reduceEq, reduceCtorEq, g2, Nat.zero_add, lda, al, e2, e3]
       exact hfin _)
theorem appendSeqI_K {L : List Int} (hl : L.length < 2 ^ 37) {g : Nat} {caps : List AV} {s : St} (hw : Wf s) (hit : ∀ q, (∀ i, i < s.nb → q.box? i = s.box? i) → s.nb ≤ q.nb → IterOk prog (fun _ => False) q.nb g caps (L.map iv) q) :
    ∃ r s', (lim prog).call f_slices_AppendSeq_int_int [.nsl, .fn g caps] s = some (r, s') ∧ RowP 1 s.nt s' 3 r (L.map iv) ∧ Up s s' := by
  refine fn_K (t := 4) (Post := fun r s' => RowP 1 s.nt s' 3 r (L.map iv) ∧ Up s s') p_slices_AppendSeq_int_int rfl rfl rfl rfl ?_
  obtain ⟨q2, hq2⟩ : ∃ q2, s.enter.new (.cells 37 [.nsl]) = q2 := ⟨_, rfl⟩
  have w2 : Wf q2 := by rw [← hq2]; exact hw.enter.new _
  have n2 : q2.nb = s.nb + 1 ∧ q2.nt = s.nt ∧ q2.lo = s.nb := by rw [← hq2]; exact ⟨rfl, rfl, rfl⟩
  have ov2 : Over s q2 := by rw [← hq2]; exact (Over.enter s).new _
  have bo2 : q2.box? s.nb = some (.cells 37 [.nsl]) := by rw [← hq2]; exact new_box_self s.enter _
  have bx2 : ∀ i, i < s.nb → q2.box? i = s.box? i := fun i hi => by rw [← hq2]; exact new_box_lt (s := s.enter) hi
  have hnb : s.enter.nb = s.nb := rfl
  have c1 : AV.nsl.cells = [.nsl] := rfl
  have hl1 : ∀ a : AV, [a].length = 1 := fun _ => rfl
  simp only [c_slices_AppendSeq_int_int, go_sem, W_cond, WO_guard2, WE_guard2, WQ_guard2, W_regD, KB_n, KB_x, Nat.reduceBEq, Nat.reduceAdd, Nat.reduceLT, Nat.reduceLeDiff, Nat.reduceEqDiff, reduceIte, Int.reduceEq, reduceCtorEq, hnb, c1, hl1, hq2]
  refine W_cut (fun e => e.get 2 = .p s.nb 0 ∧ e.get 6 = .fn g caps) ⟨?_, ?_⟩ ?_
  · simp only [go_sem, W_cond, WO_guard2, WE_guard2, WQ_guard2, W_regD, KB_n, KB_x, Nat.reduceBEq, Nat.reduceAdd, Nat.reduceLT, Nat.reduceLeDiff, Nat.reduceEqDiff, reduceIte, Int.reduceEq, reduceCtorEq]
  · simp only [go_sem, W_cond, WO_guard2, WE_guard2, WQ_guard2, W_regD, KB_n, KB_x, Nat.reduceBEq, Nat.reduceAdd, Nat.reduceLT, Nat.reduceLeDiff, Nat.reduceEqDiff, reduceIte, Int.reduceEq, reduceCtorEq]
  rintro e ⟨g2, g6⟩
  obtain ⟨q3, hq3⟩ : ∃ q3, q2.new (.loop 0 none e [7] apAI apCI) = q3 := ⟨_, rfl⟩
  have w3 : Wf q3 := by rw [← hq3]; exact w2.new _
  have n3 : q3.nb = s.nb + 2 ∧ q3.nt = s.nt := by rw [← hq3]; exact ⟨by show q2.nb + 1 = _; omega, n2.2.1⟩
  have ov3 : Over s q3 := by rw [← hq3]; exact ov2.new _
  have bx3 : ∀ i, i < q2.nb → q3.box? i = q2.box? i := fun i hi => by rw [← hq3]; exact new_box_lt hi
  have bk3 : q3.box? q2.nb = some (.loop 0 none e [7] apAI apCI) := by rw [← hq3]; exact new_box_self _ _
  obtain ⟨q4, hc4, ov4, w4, n4, t4, hI4⟩ := hit q3 (fun i hi => by rw [bx3 i (by omega), bx2 i hi]) (by omega) s (q2.nb + 1) s.nt q2.nb _ _
    (apBodyI (k := q2.nb) (ido := s.nb) (e := e) (by omega) (Nat.le_refl _) hl g2)
    ⟨bk3, ⟨.nsl, by rw [bx3 _ (by omega)]; exact bo2, .inl ⟨rfl, rfl⟩, fun k hk => by simp [rowTok] at hk⟩, fun _ => by rw [bx3 _ (by omega)]; exact bo2⟩ ov3 w3 (by omega) (by omega) (by omega) (by omega)
  rw [← hq3] at hc4
  refine W_rf g6 hc4 ?_
  rcases hI4 with ⟨k1, ⟨a, k2, k3, k4⟩, _⟩ | h
  · refine ⟨_, _, _, _, _, _, k1, by decide, ?_⟩
    have b5 : (q4.setBox q2.nb .used).box? s.nb = some (.cells 37 [a]) := by rw [setBox_box? w4.b (by omega), if_neg (by omega)]; exact k2
    have lda := ld_box (s := q4.setBox q2.nb .used) (v := a) (off := 0) b5 rfl
    have ov5 : Over s (q4.setBox q2.nb .used) := Over.setBox ov4 (by omega) (by omega) _
    have w5 : Wf (q4.setBox q2.nb .used) := w4.setBox _ _
    rw [List.length_map, List.take_length] at k3
    have hfin : RowP 1 s.nt { q4.setBox q2.nb .used with lo := min s.lo (q4.setBox q2.nb .used).lo } 3 a (L.map iv) := k3.mono (Nat.le_refl _) fun _ _ => rfl
    rcases rowP_shape k3 with ⟨rfl, _⟩ | ⟨k, v, rfl⟩ <;>
      (simp only [go_sem, W_cond, WO_guard2, WE_guard2, WQ_guard2, W_regD, KB_n, KB_x, Nat.reduceBEq, Nat.reduceAdd, Nat.reduceLT, Nat.reduceLeDiff, Nat.reduceEqDiff, reduceIte, Int.reduceEq, reduceCtorEq, KK_n, KK_r, g2, lda, Nat.zero_add]
       exact ⟨hfin, Up.of ov5 w5⟩)
  · exact h.elim
theorem collectI_K {L : List Int} (hl : L.length < 2 ^ 37) {g : Nat} {caps : List AV} {s : St} (hw : Wf s) (hit : ∀ q, (∀ i, i < s.nb → q.box? i = s.box? i) → s.nb ≤ q.nb → IterOk prog (fun _ => False) q.nb g caps (L.map iv) q) :
    ∃ r s', (lim prog).call f_slices_Collect_int [.fn g caps] s = some (r, s') ∧ RowP 1 s.nt s' 3 r (L.map iv) ∧ Up s s' := by
  refine fn_K (t := 2) (Post := fun r s' => RowP 1 s.nt s' 3 r (L.map iv) ∧ Up s s') p_slices_Collect_int rfl rfl rfl rfl ?_
  obtain ⟨r, s', h, hr, hu⟩ := appendSeqI_K (s := s.enter) hl hw.enter hit
  have hov : Over s s' := hu.over s (Over.enter s)
  have hfin : RowP 1 s.nt { s' with lo := min s.lo s'.lo } 3 r (L.map iv) := hr.mono (Nat.le_refl _) fun _ _ => rfl
  simp only [c_slices_Collect_int, go_sem, W_cond, WO_guard2, WE_guard2, WQ_guard2, W_regD, KB_n, KB_x, Nat.reduceBEq, Nat.reduceAdd, Nat.reduceLT, Nat.reduceLeDiff, Nat.reduceEqDiff, reduceIte, Int.reduceEq, reduceCtorEq, KK_n, KK_r, h]
  exact ⟨hfin, Up.of hov hu.wf⟩
end Go.Proofs.Ytgloinighjdhlaa

/-
  slices.Values of numbers as an iterator; slices.Sorted of it.
-/
set_option maxRecDepth 100000
set_option maxHeartbeats 4000000
set_option linter.unusedSimpArgs false
set_option linter.constructorNameAsVariable false
namespace Go.Proofs.Ytgloinighjdhlaa
open Go.Proofs.Ytgloinighjdhlaa.Am
attribute [local irreducible] W WO WE WQ WD Tr.get Tr.set
theorem valuesIter {m a : Nat} {L : List Int} (hl : L.length < 2 ^ 40) {s : St} (ha : s.box? a = some (.cells 37 [zx L])) (la : a < s.nb) :
    IterOk prog (fun _ => False) m f_slices_Values_int_int_1 [.p a 0] (L.map iv) s := by
  intro s0 h tB ky I R B hI hov hw hh ht h0 _
  obtain ⟨r, s', hcall, rfl, hres⟩ := fn_G (f := f_slices_Values_int_int_1) (args := [.yld ky, .p a 0]) (s := s) (Post := fun r s' => r = .tup [] ∧ Over s0 s' ∧ Wf s' ∧ s.nb ≤ s'.nb ∧ s.nt ≤ s'.nt ∧ (I L.length s' ∨ R s')) p_slices_Values_int_int_1 rfl rfl (by
    have hend : ∀ q, Over s0 q → Wf q → s.nb ≤ q.nb → s.nt ≤ q.nt → (I L.length q ∨ R q) → KH s [] (fun r s' => r = .tup [] ∧ Over s0 s' ∧ Wf s' ∧ s.nb ≤ s'.nb ∧ s.nt ≤ s'.nt ∧ (I L.length s' ∨ R s')) (some ([], q)) := fun q k1 k2 k3 k4 k5 => by
      obtain ⟨f1, f2, f3, f4, f5⟩ := leave_fr (O := fun _ => False) (h := h) (tB := tB) (v := .tup []) k2 hh k3 k4 ht rfl
      refine ⟨_, _, rfl, rfl, f5 s0 hov k1, f2, f3, f4, k5.imp (fun k => B.stab _ _ _ k f1) fun k => B.stabR _ _ k f1⟩
    have lda := ld_box (s := s.enter) (v := zx L) (off := 0) ha rfl
    unfold zx at lda
    have hz0 : wkZ c_slices_Values_int_int_1.cin [.yld ky, .p a 0] = [.yld ky, .p a 0] := by simp [c_slices_Values_int_int_1, wkZ, wk]
    rw [hz0]
    simp only [c_slices_Values_int_int_1, go_sem, W_cond2, WO_guard3, WE_guard3, WQ_guard3, KB_n, KB_x, Nat.reduceBEq, Nat.reduceAdd, Nat.reduceLT, Nat.reduceLeDiff, Nat.reduceEqDiff, reduceIte, Int.reduceEq, reduceCtorEq, lda, List.length_map]
    refine W_loop (fun n e q => ∃ j : Nat, j + n = L.length ∧ I j q ∧ Over s0 q ∧ Wf q ∧ s.nb ≤ q.nb ∧ s.nt ≤ q.nt ∧ e.get 0 = .yld ky ∧ e.get 5 = zx L ∧ e.get 6 = .i .i64 (L.length : Nat) ∧ e.get 7 = .i .i64 (j : Nat)) ?_ L.length _ _ ?_
    · rintro n e q ⟨j, hn, hIj, hovq, hwq, hnb, hnt, g0, g5, g6, g7⟩
      by_cases hj : j < L.length
      · have h1 : ((j : Int) < (L.length : Int)) = True := by simp only [eq_iff_iff, iff_true]; omega
        obtain ⟨z, hz⟩ : ∃ z, L[j]? = some z := ⟨_, List.getElem?_eq_getElem hj⟩
        have hz2 := iv_get hz
        have hw1 := wrap_succ (show j + 1 < 2 ^ 63 by omega)
        have hLj : (L.map iv)[j]'(by simpa using hj) = .i .i64 z := by
          rw [List.getElem_map, (List.getElem?_eq_some_iff.1 hz).2]; rfl
        obtain ⟨bb, q', hstep, ht1, hf1, hov1, hw2, hnb1, hnt1, hkeep⟩ := B.step j (by simpa using hj) q hIj hovq hwq (by omega) (by omega)
        rw [hLj] at hstep
        cases bb with
        | true =>
          simp only [go_sem, W_cond2, WO_guard3, WE_guard3, WQ_guard3, KB_n, KB_x, Nat.reduceBEq, Nat.reduceAdd, Nat.reduceLT, Nat.reduceLeDiff, Nat.reduceEqDiff, reduceIte, Int.reduceEq, reduceCtorEq, g0, g5, g6, g7, zx, h1, natOf_nat, hz2, cells_iv, ldA_1, hstep, hw1]
          exact ⟨n - 1, by omega, j + 1, by omega, ht1 rfl, hov1, hw2, by omega, by omega, rfl⟩
        | false =>
          simp only [go_sem, W_cond2, WO_guard3, WE_guard3, WQ_guard3, KB_n, KB_x, Nat.reduceBEq, Nat.reduceAdd, Nat.reduceLT, Nat.reduceLeDiff, Nat.reduceEqDiff, reduceIte, Int.reduceEq, reduceCtorEq, g0, g5, g6, g7, zx, h1, natOf_nat, hz2, cells_iv, ldA_1, hstep]
          exact hend q' hov1 hw2 (by omega) (by omega) (.inr (hf1 rfl))
      · have h1 : ((j : Int) < (L.length : Int)) = False := by simp only [eq_iff_iff, iff_false]; omega
        simp only [go_sem, W_cond2, WO_guard3, WE_guard3, WQ_guard3, KB_n, KB_x, Nat.reduceBEq, Nat.reduceAdd, Nat.reduceLT, Nat.reduceLeDiff, Nat.reduceEqDiff, reduceIte, Int.reduceEq, reduceCtorEq, g0, g5, g6, g7, h1]
        exact hend q hovq hwq hnb hnt (.inl (by have : j = L.length := by omega
                                                rw [← this]; exact hIj))
    · simp only [go_sem, W_cond2, WO_guard3, WE_guard3, WQ_guard3, KB_n, KB_x, Nat.reduceBEq, Nat.reduceAdd, Nat.reduceLT, Nat.reduceLeDiff, Nat.reduceEqDiff, reduceIte, Int.reduceEq, reduceCtorEq]
      exact ⟨0, by omega, B.stab0 _ _ hI (Fr0.enter hh), hov.toEnter, hw.enter, Nat.le_refl _, Nat.le_refl _, rfl, rfl⟩)
  obtain ⟨k1, k2, k3, k4, k5⟩ := hres
  exact ⟨s', hcall, k1, k2, k3, k4, by simpa using k5⟩
end Go.Proofs.Ytgloinighjdhlaa

/-
  slices.Sorted of numbers; store.there.
-/
set_option maxRecDepth 100000
set_option maxHeartbeats 4000000
set_option linter.unusedSimpArgs false
set_option linter.constructorNameAsVariable false
namespace Go.Proofs.Ytgloinighjdhlaa
open Go.Proofs.Ytgloinighjdhlaa.Am
attribute [local irreducible] W WO WE WQ WD Tr.get Tr.set
theorem chunk_one : ∀ {n : Nat} {l : List AV}, l.length = n → chunk 1 n l = l
  | 0, [], _ => rfl
  | n + 1, a :: l, h => by
    simp only [List.length_cons, Nat.add_right_cancel_iff] at h
    rw [chunk, if_pos rfl, List.take_succ_cons, List.take_zero, List.drop_succ_cons, List.drop_zero, chunk_one h]
    rfl
theorem ones_ints : ∀ L : List Int, ones (L.map iv) = true
  | [] => rfl
  | z :: L => ones_ints L
theorem frz_ints {s : St} {L : List Int} {id T rm : Nat} {fz : Bool} {p : Nat × Bool} (hb : s.box? id = some (.row T (L.map iv) fz rm)) :
    frz s (.bl id 1 0 L.length p) = some (.sl 1 (L.map iv) .shut, s.setBox id (.row T (L.map iv) true rm)) := by
  have hc : cut (L.map iv) 0 (L.length * 1) = some (L.map iv) := by
    unfold cut
    rw [List.drop_zero, Nat.mul_one, List.take_of_length_le (by simp), if_pos (by simp)]
  simp only [frz, hb, hc]
  rw [if_pos ⟨Nat.zero_le _, ones_ints L, by decide⟩, chunk_one (by simp)]
theorem sorted_ok {L : List Int} (hl : L.length < 2 ^ 36) {s : St} (hw : Wf s) {a : Nat} (ha : s.box? a = some (.cells 37 [zx L])) (la : a < s.nb) :
    (lim prog).call f_slices_Sorted_int [.fn f_slices_Values_int_int_1 [.p a 0]] s = some (zx (sortZ L), s) := by
  refine fn_W p_slices_Sorted_int rfl rfl ?_
  have hz0 : wkZ c_slices_Sorted_int.cin [.fn f_slices_Values_int_int_1 [.p a 0]] = [.fn f_slices_Values_int_int_1 [.p a 0]] := by simp [c_slices_Sorted_int, wkZ, wk]
  rw [hz0]
  obtain ⟨r, s1, hc, hr, hu⟩ := collectI_K (L := L) (by omega) hw.enter (s := s.enter) (g := f_slices_Values_int_int_1) (caps := [.p a 0]) fun q h1 h2 => valuesIter (by omega) (by rw [h1 a la]; exact ha) (Nat.lt_of_lt_of_le la h2)
  have hov : Over s s1 := hu.over s (Over.enter s)
  rcases hr with ⟨rfl, hL⟩ | ⟨k, v, t, rfl, k1, k2, k3, k4, k5, k6, k7⟩
  · rw [List.map_eq_nil_iff] at hL
    subst hL
    have hp : (lim prog).call f_slices_Sort_int_int [.nsl] s1 = some (.tup [], s1) := (prim_callS p_slices_Sort_int_int rfl).trans rfl
    have hth : thawA s1 .nsl = some (.nsl, s1) := rfl
    simp only [c_slices_Sorted_int, go_sem, W_cond2, WO_guard3, WE_guard3, WQ_guard3, KB_n, KB_x, Nat.reduceBEq, Nat.reduceAdd, Nat.reduceLT, Nat.reduceLeDiff, Nat.reduceEqDiff, reduceIte, Int.reduceEq, reduceCtorEq, hc, hth, hp]
    exact KR_some hov rfl (by simp [sortZ, tupOf, wkZ, wk, zx])
  · have K : Hp s s1 ⟨s1.lo, s.nb, s.nt⟩ [⟨1, 3, .sl 1 (L.map iv) (.tok k v), L.map iv, true⟩] [] := {
      wf := hu.wf
      over := hov
      lo := Nat.le_refl _
      nb := hov.nb
      nt := hov.nt
      rows := fun {i r} hi => by
        cases i with
        | zero =>
          simp only [List.getElem?_cons_zero, Option.some.injEq] at hi
          subst hi
          exact .inr ⟨k, v, t, rfl, k1, k2, k3, k4, k5, k6, fun _ => k7⟩
        | succ i => simp at hi
      apart := fun {i j r r' k} hij hi hj => by
        cases i with
        | zero => cases j with
          | zero => exact absurd rfl hij
          | succ j => simp at hj
        | succ i => simp at hi
      box := fun {i p} hi => by simp at hi
      bapart := fun {i j p q} _ hi _ => by simp at hi }
    obtain ⟨q2, d2, H2, n2⟩ := K.thaw 0 rfl (by simp [rowTok]) [] (by simp) (by simp)
    rw [flatC_i] at H2
    rw [List.length_map, Nat.mul_one] at d2
    obtain ⟨q3, d3, H3, n3⟩ := H2.sortI 0 rfl (by omega) (L.length, false)
    have hp : (lim prog).call f_slices_Sort_int_int [.bl s1.nb 1 0 L.length (L.length, false)] q2 = some (.tup [], q3) := (prim_callS p_slices_Sort_int_int rfl).trans d3
    have hbx := (H3.box (i := 0) rfl).1
    have hfz := frz_ints (L := sortZ L) (p := (L.length, false)) hbx
    rw [sortZ_len] at hfz
    have hpa : pubA q3 (.bl s1.nb 1 0 L.length (L.length, false)) = _ := hfz
    have H4 := H3.setBox (i := 0) rfl (.row 3 ((sortZ L).map iv) true 0)
    simp only [c_slices_Sorted_int, go_sem, W_cond2, WO_guard3, WE_guard3, WQ_guard3, KB_n, KB_x, Nat.reduceBEq, Nat.reduceAdd, Nat.reduceLT, Nat.reduceLeDiff, Nat.reduceEqDiff, reduceIte, Int.reduceEq, reduceCtorEq, hc, d2, hp, hpa]
    refine KR_some H4.over (by simp only [tupOf, AV.refs, refs_goI]) ?_
    simp only [tupOf, wkZ, wk, wkM_i]
    rfl
theorem values_ok (L : List Int) (s : St) : (lim prog).call f_slices_Values_int_int [zx L] s = some (.fn f_slices_Values_int_int_1 [.p s.nb 0], { s.new (.cells 37 [zx L]) with lo := min s.lo s.nb }) := by
  obtain ⟨r, s', h, rfl, rfl⟩ := fn_G (f := f_slices_Values_int_int) (args := [zx L]) (s := s) (Post := fun r s' => r = .fn f_slices_Values_int_int_1 [.p s.nb 0] ∧ s' = { s.new (.cells 37 [zx L]) with lo := min s.lo s.nb }) p_slices_Values_int_int rfl rfl (by
    have hz0 : wkZ c_slices_Values_int_int.cin [zx L] = [zx L] := by simp only [c_slices_Values_int_int, wkZ, zx, wk]
    have hl1 : ∀ a : AV, [a].length = 1 := fun _ => rfl
    rw [hz0]
    simp only [c_slices_Values_int_int, go_sem, W_cond2, WO_guard3, WE_guard3, WQ_guard3, KB_n, KB_x, Nat.reduceBEq, Nat.reduceAdd, Nat.reduceLT, Nat.reduceLeDiff, Nat.reduceEqDiff, reduceIte, Int.reduceEq, reduceCtorEq, zx, hl1]
    exact ⟨_, _, rfl, rfl, leave_refs rfl⟩)
  exact h
theorem there1_ok {l : List FT} (hm : mayP l = true) {s q : St} (ho : Over s q) {b : Nat} (hb : s.box? b = some (.cells 22 [fx l])) (lb : b < s.nb) {i : Nat} {f : FT} (hf : l[i]? = some f) {z : Int} (hz : z ∈ besP f) (hwq : Wf q) :
    callV (lim prog) (.fn f_store_there_1 [.p b 0]) [.i .i64 z] q = some (.b (isThere l z), q) := by
  show (lim prog).call f_store_there_1 [.i .i64 z, .p b 0] q = _
  refine fn_W p_store_there_1 rfl rfl ?_
  have hbq : q.box? b = some (.cells 22 [fx l]) := by rw [over_box ho lb]; exact hb
  have lbq : b < q.nb := Nat.lt_of_lt_of_le lb ho.nb
  have ld := ld1_old (Over.enter q) (off := 0) (v := fx l) lbq hbq rfl
  obtain ⟨j, g, rfl, hg⟩ := may_kid hm hf (bes_mem hz)
  have hg3 := fx_get hg
  have l0 : ∀ u, ldA u false 1 (.ep g.cells 0 .shut) = some (.b g.known) := fun u => rfl
  have l1 : ∀ u, ldA u false 1 (.ep g.cells 1 .shut) = some (.i .u8 (g.kind : Nat)) := fun u => rfl
  have hit : isThere l (j : Int) = (g.known && decide (g.kind ≠ 0)) := by
    unfold isThere
    rw [Int.toNat_natCast, hg]
  have hkk : ((g.kind : Int) ≠ 0) = (g.kind ≠ 0) := by simp
  unfold fx at ld
  rw [hit]
  cases hkn : g.known
  · rw [hkn] at l0
    simp only [c_store_there_1, go_sem, W_cond2, WO_guard3, WE_guard3, WQ_guard3, KB_n, KB_x, Nat.reduceBEq, Nat.reduceAdd, Nat.reduceLT, Nat.reduceLeDiff, Nat.reduceEqDiff, reduceIte, Int.reduceEq, reduceCtorEq, ld, natOf_nat, hg3, cl_agg, l0, l1, hkk]
    exact KR_some (Over.enter q) rfl rfl
  · rw [hkn] at l0
    simp only [c_store_there_1, go_sem, W_cond2, WO_guard3, WE_guard3, WQ_guard3, KB_n, KB_x, Nat.reduceBEq, Nat.reduceAdd, Nat.reduceLT, Nat.reduceLeDiff, Nat.reduceEqDiff, reduceIte, Int.reduceEq, reduceCtorEq, ld, natOf_nat, hg3, cl_agg, l0, l1, hkk]
    refine KR_some (Over.enter q) rfl ?_
    simp only [tupOf, wkZ, wk, Bool.true_and]
theorem there_ok {l : List FT} (hm : mayP l = true) {i : Nat} {f : FT} (hf : l[i]? = some f) (hfo : f.Ok) (hb0 : 0 ≤ f.beside) (hb1 : f.beside ≤ (f.kids.length : Int)) (s : St) (hw : Wf s) :
    (lim prog).call f_store_there [fx l, .agg f.cells] s = some (.b (thereP l f), s) := by
  refine fn_W p_store_there rfl rfl ?_
  have hz0 : wkZ c_store_there.cin [fx l, .agg f.cells] = [fx l, .agg f.cells] := by
    have := wkZ_F f
    simp only [c_store_there, wkZ, wk, fx] at this ⊢
    rw [this]
  rw [hz0]
  have H1 := ((Hp.begin hw).new (.cells 22 [fx l])).new (.cells 60 f.cells)
  generalize hq : (s.enter.new (.cells 22 [fx l])).new (.cells 60 f.cells) = q at H1
  generalize hm1 : s.enter.nb = m1 at H1
  have hm2 : (s.enter.new (.cells 22 [fx l])).nb = m1 + 1 := by rw [← hm1]; rfl
  rw [hm2] at H1
  have l3 := H1.ld 0 (off := 3) (v := zx f.kids) rfl rfl
  have l5 := H1.ld 0 (off := 5) (v := .i .i64 f.beside) rfl rfl
  have hv := values_ok f.kids q
  obtain ⟨q2, hq2⟩ : ∃ q2, ({ q.new (.cells 37 [zx f.kids]) with lo := min q.lo q.nb } : St) = q2 := ⟨_, rfl⟩
  rw [hq2] at hv
  have ov1 := H1.over
  have w2 : Wf q2 := by rw [← hq2]; exact (H1.wf.new _).lo _
  have ov2 : Over s q2 := by rw [← hq2]; exact Over.setLo (ov1.new _) (by have := ov1.lo; have := ov1.nb; omega)
  have nq2 : q2.nb = q.nb + 1 := by rw [← hq2]; rfl
  have bq2 : q2.box? q.nb = some (.cells 37 [zx f.kids]) := by rw [← hq2]; exact new_box_self q _
  have bold : ∀ j, j < q.nb → q2.box? j = q.box? j := fun j hj => by rw [← hq2]; exact new_box_lt (s := q) hj
  have hs := sorted_ok (L := f.kids) (by have := hfo.klen; omega) w2 bq2 (by omega)
  have h1b := H1.box (i := 1) rfl
  have h0b := H1.box (i := 0) rfl
  simp only at h1b h0b
  have b1 : q2.box? m1 = some (.cells 22 [fx l]) := by rw [bold _ h1b.2.2]; exact h1b.1
  have b0 : q2.box? (m1 + 1) = some (.cells 60 f.cells) := by rw [bold _ h0b.2.2]; exact h0b.1
  have l5' := ld_box (s := q2) (v := .i .i64 f.beside) (off := 5) b0 rfl
  have hc := containsFunc_ok (besP f) (by
    unfold besP
    rw [List.length_drop, sortZ_len]
    have := hfo.klen; omega) f_store_there_1 [.p m1 0] (isThere l) q2 w2 (fun z hz => there1_ok hm (Over.enter q2) b1 (by have := h1b.2.2; omega) hf hz w2.enter)
  obtain ⟨B, hB⟩ : ∃ B : Nat, f.beside = (B : Int) := ⟨f.beside.toNat, by omega⟩
  have hsl : sliceA q2 false 1 (zx (sortZ f.kids)) (some (.i .i64 (B : Nat))) none none = some (zx (besP f), q2) := by
    have hlen : B ≤ (sortZ f.kids).length := by rw [sortZ_len]; omega
    have hbd : bounds ((sortZ f.kids).map iv).length (some (.i .i64 (B : Nat))) none = some (B, (sortZ f.kids).length) := by
      simp only [bounds, natOf_nat, List.length_map]
      rw [if_pos ⟨hlen, Nat.le_refl _⟩]
    have hbs : besP f = (sortZ f.kids).drop B := by unfold besP; rw [hB, Int.toNat_natCast]
    simp only [zx, sliceA, if_true, hbd]
    by_cases hw0 : B = 0
    · subst hw0
      rw [if_pos ⟨rfl, by simp⟩, hbs, List.drop_zero]
    · rw [if_neg (fun h => hw0 h.1), hbs, List.map_drop, List.take_of_length_le (by simp)]
  rw [hB] at l5 l5'
  unfold zx at hs hv l3 hsl hc
  unfold fx at hq hm2
  simp only [c_store_there, go_sem, W_cond2, WO_guard3, WE_guard3, WQ_guard3, KB_n, KB_x, Nat.reduceBEq, Nat.reduceAdd, Nat.reduceLT, Nat.reduceLeDiff, Nat.reduceEqDiff, reduceIte, Int.reduceEq, reduceCtorEq, cells6, hq, hm1, hm2, fx, List.length_cons, List.length_nil, Nat.zero_add, l3, hv, hs, l5', hsl, hc]
  exact KR_some ov2 rfl rfl
end Go.Proofs.Ytgloinighjdhlaa

/-
  The closures of store.Know, More and Whole: what is wrong with a fact; what is done to it.
-/
set_option maxRecDepth 100000
set_option maxHeartbeats 4000000
set_option linter.unusedSimpArgs false
set_option linter.constructorNameAsVariable false
namespace Go.Proofs.Ytgloinighjdhlaa
open Go.Proofs.Ytgloinighjdhlaa.Am
attribute [local irreducible] W WO WE WQ WD Tr.get Tr.set
def knowW (kind : Nat) (f : FT) : Int := if f.known then 6 else if 3 < kind then 1 else 0
def moreW (f : FT) : Int := if f.isDir then (if f.rest = 1 then 6 else 0) else 1
def wholeW (l : List FT) (f : FT) : Int := if f.isDir then (if f.rest = 1 then 6 else if f.rest = 2 ∧ thereP l f = false then 67 else 0) else 1
theorem know1_ok {kind : Nat} {q : St} (hw : Wf q) {b : Nat} (hb : q.box? b = some (.cells 5 [.i .u8 (kind : Nat)])) (lb : b < q.nb) (f : FT) :
    callV (lim prog) (.fn f_store_Know_1 [.p b 0]) [.agg f.cells] q = some (.i .i64 (knowW kind f), q) := by
  show (lim prog).call f_store_Know_1 [.agg f.cells, .p b 0] q = _
  refine fn_W p_store_Know_1 rfl rfl ?_
  have hz0 : wkZ c_store_Know_1.cin [.agg f.cells, .p b 0] = [.agg f.cells, .p b 0] := by
    have := wkZ_F f
    simp only [c_store_Know_1, wkZ, wk] at this ⊢
    rw [this]
  rw [hz0]
  have H1 := (Hp.begin hw).new (.cells 60 f.cells)
  generalize hq : q.enter.new (.cells 60 f.cells) = q1 at H1
  generalize hm : q.enter.nb = m at H1
  have l0 := H1.ld 0 (off := 0) (v := .b f.known) rfl rfl
  have lb0 := ld1_old H1.over (off := 0) (v := .i .u8 (kind : Nat)) lb hb rfl
  have hbr : ∀ z, KR q [.id] (.i .i64 z) (some ([.i .i64 z], q1)) := fun z => KR_some H1.over rfl rfl
  unfold knowW
  cases hk : f.known
  · rw [hk] at l0
    rw [if_neg (by simp)]
    by_cases k3 : 3 < kind
    · have e1 : ((3 : Int) < (kind : Int)) = True := by simp only [eq_iff_iff, iff_true]; omega
      rw [if_pos k3]
      simp only [c_store_Know_1, go_sem, W_cond2, WO_guard3, WE_guard3, WQ_guard3, KB_n, KB_x, Nat.reduceBEq, Nat.reduceAdd, Nat.reduceLT, Nat.reduceLeDiff, Nat.reduceEqDiff, reduceIte, Int.reduceEq, reduceCtorEq, cells6, hq, hm, l0, lb0, Nat.zero_add, e1]
      exact hbr _
    · have e1 : ((3 : Int) < (kind : Int)) = False := by simp only [eq_iff_iff, iff_false]; omega
      rw [if_neg k3]
      simp only [c_store_Know_1, go_sem, W_cond2, WO_guard3, WE_guard3, WQ_guard3, KB_n, KB_x, Nat.reduceBEq, Nat.reduceAdd, Nat.reduceLT, Nat.reduceLeDiff, Nat.reduceEqDiff, reduceIte, Int.reduceEq, reduceCtorEq, cells6, hq, hm, l0, lb0, Nat.zero_add, e1]
      exact hbr _
  · rw [hk] at l0
    rw [if_pos rfl]
    simp only [c_store_Know_1, go_sem, W_cond2, WO_guard3, WE_guard3, WQ_guard3, KB_n, KB_x, Nat.reduceBEq, Nat.reduceAdd, Nat.reduceLT, Nat.reduceLeDiff, Nat.reduceEqDiff, reduceIte, Int.reduceEq, reduceCtorEq, cells6, hq, hm, l0, Nat.zero_add]
    exact hbr _
theorem more1_ok {q : St} (hw : Wf q) (f : FT) : callV (lim prog) (.fn f_store_More_1 []) [.agg f.cells] q = some (.i .i64 (moreW f), q) := by
  show (lim prog).call f_store_More_1 [.agg f.cells] q = _
  refine fn_W p_store_More_1 rfl rfl ?_
  have hz0 : wkZ c_store_More_1.cin [.agg f.cells] = [.agg f.cells] := by
    have := wkZ_F f
    simp only [c_store_More_1, wkZ, wk] at this ⊢
    rw [this]
  rw [hz0]
  have H1 := (Hp.begin hw).new (.cells 60 f.cells)
  generalize hq : q.enter.new (.cells 60 f.cells) = q1 at H1
  generalize hm : q.enter.nb = m at H1
  have l4 := H1.ld 0 (off := 4) (v := .i .i64 f.rest) rfl rfl
  have lw := H1.ldw (m := 6) 0 rfl rfl
  have hd := storedir_ok f q1 H1.wf
  have hbr : ∀ z, KR q [.id] (.i .i64 z) (some ([.i .i64 z], q1)) := fun z => KR_some H1.over rfl rfl
  unfold moreW
  cases hi : f.isDir
  · rw [hi] at hd
    simp only [c_store_More_1, go_sem, W_cond2, WO_guard3, WE_guard3, WQ_guard3, KB_n, KB_x, Nat.reduceBEq, Nat.reduceAdd, Nat.reduceLT, Nat.reduceLeDiff, Nat.reduceEqDiff, reduceIte, Int.reduceEq, reduceCtorEq, cells6, hq, hm, l4, lw, pub_cells6, hd, Nat.zero_add]
    exact hbr _
  · rw [hi] at hd
    rw [if_pos rfl]
    by_cases r1 : f.rest = 1
    · have e1 : (f.rest = 1) = True := by simp [r1]
      rw [if_pos r1]
      simp only [c_store_More_1, go_sem, W_cond2, WO_guard3, WE_guard3, WQ_guard3, KB_n, KB_x, Nat.reduceBEq, Nat.reduceAdd, Nat.reduceLT, Nat.reduceLeDiff, Nat.reduceEqDiff, reduceIte, Int.reduceEq, reduceCtorEq, cells6, hq, hm, l4, lw, pub_cells6, hd, Nat.zero_add, e1]
      exact hbr _
    · have e1 : (f.rest = 1) = False := by simp [r1]
      rw [if_neg r1]
      simp only [c_store_More_1, go_sem, W_cond2, WO_guard3, WE_guard3, WQ_guard3, KB_n, KB_x, Nat.reduceBEq, Nat.reduceAdd, Nat.reduceLT, Nat.reduceLeDiff, Nat.reduceEqDiff, reduceIte, Int.reduceEq, reduceCtorEq, cells6, hq, hm, l4, lw, pub_cells6, hd, Nat.zero_add, e1]
      exact hbr _
theorem whole1_ok {l : List FT} (hmay : mayP l = true) {i : Nat} {f : FT} (hf : l[i]? = some f) (hfo : f.Ok) {q : St} (hw : Wf q) {b : Nat} (hb : q.box? b = some (.cells 22 [fx l])) (lb : b < q.nb) :
    callV (lim prog) (.fn f_store_Whole_1 [.p b 0]) [.agg f.cells] q = some (.i .i64 (wholeW l f), q) := by
  show (lim prog).call f_store_Whole_1 [.agg f.cells, .p b 0] q = _
  refine fn_W p_store_Whole_1 rfl rfl ?_
  have hz0 : wkZ c_store_Whole_1.cin [.agg f.cells, .p b 0] = [.agg f.cells, .p b 0] := by
    have := wkZ_F f
    simp only [c_store_Whole_1, wkZ, wk] at this ⊢
    rw [this]
  rw [hz0]
  have H1 := (Hp.begin hw).new (.cells 60 f.cells)
  generalize hq : q.enter.new (.cells 60 f.cells) = q1 at H1
  generalize hm : q.enter.nb = m at H1
  have l4 := H1.ld 0 (off := 4) (v := .i .i64 f.rest) rfl rfl
  have lw := H1.ldw (m := 6) 0 rfl rfl
  have lb0 := ld1_old H1.over (off := 0) (v := fx l) lb hb rfl
  have hd := storedir_ok f q1 H1.wf
  have hbr : ∀ z, KR q [.id] (.i .i64 z) (some ([.i .i64 z], q1)) := fun z => KR_some H1.over rfl rfl
  unfold wholeW
  cases hi : f.isDir
  · rw [hi] at hd
    simp only [c_store_Whole_1, go_sem, W_cond2, WO_guard3, WE_guard3, WQ_guard3, KB_n, KB_x, Nat.reduceBEq, Nat.reduceAdd, Nat.reduceLT, Nat.reduceLeDiff, Nat.reduceEqDiff, reduceIte, Int.reduceEq, reduceCtorEq, cells6, hq, hm, l4, lw, pub_cells6, hd, Nat.zero_add]
    exact hbr _
  · rw [hi] at hd
    rw [if_pos rfl]
    by_cases r1 : f.rest = 1
    · have e1 : (f.rest = 1) = True := by simp [r1]
      rw [if_pos r1]
      simp only [c_store_Whole_1, go_sem, W_cond2, WO_guard3, WE_guard3, WQ_guard3, KB_n, KB_x, Nat.reduceBEq, Nat.reduceAdd, Nat.reduceLT, Nat.reduceLeDiff, Nat.reduceEqDiff, reduceIte, Int.reduceEq, reduceCtorEq, cells6, hq, hm, l4, lw, pub_cells6, hd, Nat.zero_add, e1]
      exact hbr _
    · have e1 : (f.rest = 1) = False := by simp [r1]
      rw [if_neg r1]
      by_cases r2 : f.rest = 2
      · have e2 : (f.rest = 2) = True := by simp [r2]
        obtain ⟨b0, b1⟩ := one_rest (may_one hmay (List.mem_of_getElem? hf)) hi r2
        have ht := there_ok hmay hf hfo b0 b1 q1 H1.wf
        unfold fx at lb0 ht
        cases htp : thereP l f
        · rw [htp] at ht
          rw [if_pos ⟨r2, rfl⟩]
          simp only [c_store_Whole_1, go_sem, W_cond2, WO_guard3, WE_guard3, WQ_guard3, KB_n, KB_x, Nat.reduceBEq, Nat.reduceAdd, Nat.reduceLT, Nat.reduceLeDiff, Nat.reduceEqDiff, reduceIte, Int.reduceEq, reduceCtorEq, cells6, hq, hm, l4, lw, pub_cells6, hd, Nat.zero_add, e1, e2, lb0, ht]
          exact hbr _
        · rw [htp] at ht
          rw [if_neg (by simp)]
          simp only [c_store_Whole_1, go_sem, W_cond2, WO_guard3, WE_guard3, WQ_guard3, KB_n, KB_x, Nat.reduceBEq, Nat.reduceAdd, Nat.reduceLT, Nat.reduceLeDiff, Nat.reduceEqDiff, reduceIte, Int.reduceEq, reduceCtorEq, cells6, hq, hm, l4, lw, pub_cells6, hd, Nat.zero_add, e1, e2, lb0, ht]
          exact hbr _
      · have e2 : (f.rest = 2) = False := by simp [r2]
        rw [if_neg (fun h => r2 h.1)]
        simp only [c_store_Whole_1, go_sem, W_cond2, WO_guard3, WE_guard3, WQ_guard3, KB_n, KB_x, Nat.reduceBEq, Nat.reduceAdd, Nat.reduceLT, Nat.reduceLeDiff, Nat.reduceEqDiff, reduceIte, Int.reduceEq, reduceCtorEq, cells6, hq, hm, l4, lw, pub_cells6, hd, Nat.zero_add, e1, e2]
        exact hbr _
end Go.Proofs.Ytgloinighjdhlaa

/-
  What is done to a fact in a row.
-/
set_option maxRecDepth 100000
set_option maxHeartbeats 4000000
set_option linter.unusedSimpArgs false
set_option linter.constructorNameAsVariable false
namespace Go.Proofs.Ytgloinighjdhlaa
open Go.Proofs.Ytgloinighjdhlaa.Am
attribute [local irreducible] W WO WE WQ WD Tr.get Tr.set
def RowB (s0 s : St) (n : En) (id : Nat) (l : List FT) : Prop := ∃ G, Hp s0 s n [] [(id, .row 60 G.flatten false 0)] ∧ GF l G
theorem RowB.leave {s0 s s1 : St} {n : En} {id : Nat} {l l' : List FT} (h : RowB s0 s n id l) (k : RowB s0 s1 s.en id l') (v : AV) : RowB s0 (Am.leave s s1 v) n id l' := by
  obtain ⟨G, H, hG⟩ := h
  obtain ⟨G', K, hG'⟩ := k
  have hid := (H.box (i := 0) rfl).2.2
  refine ⟨G', H.leave (n1 := s.en) K v (fun {i p} hp => ?_) (.inr fun {i r k} hr _ => by simp at hr), hG'⟩
  cases i with
  | zero =>
    simp only [List.getElem?_cons_zero, Option.some.injEq] at hp
    subst hp; exact hid
  | succ i => simp at hp
theorem RowB.enter {s0 s : St} {n : En} {id : Nat} {l : List FT} (h : RowB s0 s n id l) : RowB s0 s.enter s.en id l := by
  obtain ⟨G, H, hG⟩ := h
  exact ⟨G, H.enter, hG⟩
theorem RowB.st {s0 s : St} {n : En} {id : Nat} {l : List FT} (h : RowB s0 s n id l) {i j : Nat} {f g : FT} (hf : l[i]? = some f) (hj : j < 6) {v : AV} (hv : v.cells = [v] ∧ ones [v] = true) (hc : ∀ c, CF f c → CF g (c.set j v)) :
    ∃ s', stA s 1 (.p id (i * 6 + j)) v = some s' ∧ RowB s0 s' n id (l.set i g) := by
  obtain ⟨G, H, hG⟩ := h
  obtain ⟨c, hgc, hcf⟩ := hG.2 i f hf
  have hil := (List.getElem?_eq_some_iff.1 hf).1
  have hlen := six_len hG.six
  have hGl := hG.1
  obtain ⟨s', d, H', _⟩ := H.strw 0 (off := i * 6 + j) (m := 1) (v := v) rfl (by omega) ⟨by rw [hv.1]; rfl, by rw [hv.1]; exact hv.2⟩
  rw [hv.1, take_set (by omega) v, setc_six hG.six hgc hj v] at H'
  exact ⟨s', d, _, H', hG.set hil (hc c hcf)⟩
theorem RowB.ldn {s0 s : St} {n : En} {id : Nat} {l : List FT} (h : RowB s0 s n id l) {i : Nat} {f : FT} (hf : l[i]? = some f) : ∃ a, ldA s false 1 (.p id (i * 6 + 2)) = some a ∧ Told1 1 a (f.names.map .s) := by
  obtain ⟨G, H, hG⟩ := h
  obtain ⟨c, hgc, a, b, ha, hb, rfl⟩ := hG.2 i f hf
  exact ⟨a, H.ldr 0 rfl (by rw [get_six hG.six hgc (by omega)]; rfl), ha⟩
theorem whole2_ok {s0 s : St} {n : En} {id : Nat} {l : List FT} (h : RowB s0 s n id l) {i : Nat} {f : FT} (hf : l[i]? = some f) :
    ∃ s', callV (lim prog) (.fn f_store_Whole_2 []) [.p id (i * 6)] s = some (.tup [], s') ∧ RowB s0 s' n id (l.set i { f with rest := 1, beside := 0 }) := by
  obtain ⟨r, s', hc, rfl, hP⟩ := fn_G (f := f_store_Whole_2) (args := [.p id (i * 6)]) (s := s) (Post := fun r s' => r = .tup [] ∧ RowB s0 s' n id (l.set i { f with rest := 1, beside := 0 })) p_store_Whole_2 rfl rfl (by
    have hil := (List.getElem?_eq_some_iff.1 hf).1
    obtain ⟨q1, d1, h1⟩ := h.enter.st hf (j := 4) (g := { f with rest := 1 }) (v := .i .i64 1) (by omega) ⟨rfl, rfl⟩ (fun c hc => by obtain ⟨a, b, ha, hb, rfl⟩ := hc; exact ⟨a, b, ha, hb, rfl⟩)
    have hf1 : (l.set i { f with rest := 1 })[i]? = some { f with rest := 1 } := by rw [List.getElem?_set, if_pos rfl, if_pos hil]
    obtain ⟨q2, d2, h2⟩ := h1.st hf1 (j := 5) (g := { f with rest := 1, beside := 0 }) (v := .i .i64 0) (by omega) ⟨rfl, rfl⟩ (fun c hc => by obtain ⟨a, b, ha, hb, rfl⟩ := hc; exact ⟨a, b, ha, hb, rfl⟩)
    rw [List.set_set] at h2
    simp only [c_store_Whole_2, go_sem, W_cond2, WO_guard3, WE_guard3, WQ_guard3, KB_n, KB_x, Nat.reduceBEq, Nat.reduceAdd, Nat.reduceLT, Nat.reduceLeDiff, Nat.reduceEqDiff, reduceIte, Int.reduceEq, reduceCtorEq, d1, d2]
    exact ⟨_, _, rfl, rfl, h.leave h2 _⟩)
  exact ⟨s', hc, hP⟩
theorem more2_ok {s0 s : St} {n : En} {id : Nat} {l : List FT} (h : RowB s0 s n id l) {i : Nat} {f : FT} (hf : l[i]? = some f) :
    ∃ s', callV (lim prog) (.fn f_store_More_2 []) [.p id (i * 6)] s = some (.tup [], s') ∧ RowB s0 s' n id (l.set i { f with rest := 2, beside := (f.names.length : Int) }) := by
  obtain ⟨r, s', hc, rfl, hP⟩ := fn_G (f := f_store_More_2) (args := [.p id (i * 6)]) (s := s) (Post := fun r s' => r = .tup [] ∧ RowB s0 s' n id (l.set i { f with rest := 2, beside := (f.names.length : Int) })) p_store_More_2 rfl rfl (by
    have hil := (List.getElem?_eq_some_iff.1 hf).1
    obtain ⟨a, la, ta⟩ := h.enter.ldn hf
    have hln := ta.len s.enter
    rw [List.length_map] at hln
    obtain ⟨q1, d1, h1⟩ := h.enter.st hf (j := 4) (g := { f with rest := 2 }) (v := .i .i64 2) (by omega) ⟨rfl, rfl⟩ (fun c hc => by obtain ⟨a, b, ha, hb, rfl⟩ := hc; exact ⟨a, b, ha, hb, rfl⟩)
    have hf1 : (l.set i { f with rest := 2 })[i]? = some { f with rest := 2 } := by rw [List.getElem?_set, if_pos rfl, if_pos hil]
    obtain ⟨q2, d2, h2⟩ := h1.st hf1 (j := 5) (g := { f with rest := 2, beside := (f.names.length : Int) }) (v := .i .i64 (f.names.length : Nat)) (by omega) ⟨rfl, rfl⟩ (fun c hc => by obtain ⟨a, b, ha, hb, rfl⟩ := hc; exact ⟨a, b, ha, hb, rfl⟩)
    rw [List.set_set] at h2
    have hpu : ldR s.enter (some a) = some (a, s.enter) := by
      rcases ta with ⟨rfl, _⟩ | ⟨rfl, _⟩ | rfl | rfl | rfl | rfl <;> rfl
    simp only [c_store_More_2, go_sem, W_cond2, WO_guard3, WE_guard3, WQ_guard3, KB_n, KB_x, Nat.reduceBEq, Nat.reduceAdd, Nat.reduceLT, Nat.reduceLeDiff, Nat.reduceEqDiff, reduceIte, Int.reduceEq, reduceCtorEq, la, hpu, hln, d1, d2]
    exact ⟨_, _, rfl, rfl, h.leave h2 _⟩)
  exact ⟨s', hc, hP⟩
theorem know2_ok {s0 s : St} {n : En} {id : Nat} {l : List FT} (h : RowB s0 s n id l) {i : Nat} {f : FT} (hf : l[i]? = some f) {kb kind : Nat} (hk : s0.box? kb = some (.cells 5 [.i .u8 (kind : Nat)])) (lk : kb < s0.nb) :
    ∃ s', callV (lim prog) (.fn f_store_Know_2 [.p kb 0]) [.p id (i * 6)] s = some (.tup [], s') ∧ RowB s0 s' n id (l.set i { f with known := true, kind := kind }) := by
  obtain ⟨r, s', hc, rfl, hP⟩ := fn_G (f := f_store_Know_2) (args := [.p id (i * 6), .p kb 0]) (s := s) (Post := fun r s' => r = .tup [] ∧ RowB s0 s' n id (l.set i { f with known := true, kind := kind })) p_store_Know_2 rfl rfl (by
    have hil := (List.getElem?_eq_some_iff.1 hf).1
    obtain ⟨q1, d1, h1⟩ := h.enter.st hf (j := 0) (g := { f with known := true }) (v := .b true) (by omega) ⟨rfl, rfl⟩ (fun c hc => by obtain ⟨a, b, ha, hb, rfl⟩ := hc; exact ⟨a, b, ha, hb, rfl⟩)
    have hf1 : (l.set i { f with known := true })[i]? = some { f with known := true } := by rw [List.getElem?_set, if_pos rfl, if_pos hil]
    obtain ⟨q2, d2, h2⟩ := h1.st hf1 (j := 1) (g := { f with known := true, kind := kind }) (v := .i .u8 (kind : Nat)) (by omega) ⟨rfl, rfl⟩ (fun c hc => by obtain ⟨a, b, ha, hb, rfl⟩ := hc; exact ⟨a, b, ha, hb, rfl⟩)
    rw [List.set_set] at h2
    obtain ⟨_, HE, _⟩ := h.enter
    obtain ⟨_, H1, _⟩ := h1
    have l0 := ld1_old HE.over (off := 0) (v := .i .u8 (kind : Nat)) lk hk rfl
    have l1 := ld1_old H1.over (off := 0) (v := .i .u8 (kind : Nat)) lk hk rfl
    simp only [c_store_Know_2, go_sem, W_cond2, WO_guard3, WE_guard3, WQ_guard3, KB_n, KB_x, Nat.reduceBEq, Nat.reduceAdd, Nat.reduceLT, Nat.reduceLeDiff, Nat.reduceEqDiff, reduceIte, Int.reduceEq, reduceCtorEq]
    refine W_regE rfl ?_
    simp only [Nat.add_zero] at d1
    simp only [go_sem, W_cond2, WO_guard3, WE_guard3, WQ_guard3, KB_n, KB_x, Nat.reduceBEq, Nat.reduceAdd, Nat.reduceLT, Nat.reduceLeDiff, Nat.reduceEqDiff, reduceIte, Int.reduceEq, reduceCtorEq, l0, d1, d2, Nat.add_zero]
    refine KW_ld rfl ?_ (still_i _ _) ⟨⟨_, rfl, l0⟩, ⟨_, rfl, l0⟩, ⟨_, rfl, l0⟩, ⟨_, rfl, l0⟩, ⟨_, rfl, l0⟩, ⟨_, rfl, l1⟩, trivial⟩ (KW_end ?_)
    · simp only [go_sem, W_cond2, WO_guard3, WE_guard3, WQ_guard3, KB_n, KB_x, Nat.reduceBEq, Nat.reduceAdd, Nat.reduceLT, Nat.reduceLeDiff, Nat.reduceEqDiff, reduceIte, Int.reduceEq, reduceCtorEq]
    simp only [go_sem, W_cond2, WO_guard3, WE_guard3, WQ_guard3, KB_n, KB_x, Nat.reduceBEq, Nat.reduceAdd, Nat.reduceLT, Nat.reduceLeDiff, Nat.reduceEqDiff, reduceIte, Int.reduceEq, reduceCtorEq]
    exact ⟨_, _, rfl, rfl, h.leave h2 _⟩)
  exact ⟨s', hc, hP⟩
end Go.Proofs.Ytgloinighjdhlaa

/-
  store.change.
-/
set_option maxRecDepth 100000
set_option maxHeartbeats 4000000
set_option linter.unusedSimpArgs false
set_option linter.constructorNameAsVariable false
namespace Go.Proofs.Ytgloinighjdhlaa
open Go.Proofs.Ytgloinighjdhlaa.Am
attribute [local irreducible] W WO WE WQ WD Tr.get Tr.set
def changeP (l : List FT) (n : Int) (W : FT → Int) (D : FT → FT) : List FT × Int :=
  if wrongE l n = 0 then (match l[n.toNat]? with
    | some f => if W f = 0 then (l.set n.toNat (D f), 0) else ([], W f)
    | none => ([], 0)) else ([], wrongE l n)
theorem change_ok (l : List FT) (ho : FOk l) (n : Int) {w d : Nat} {wc dc : List AV} (wf : FT → Int) (df : FT → FT) {a0 : AV} (ha0 : Told1 6 a0 (l.map FT.av)) {s : St} (hw : Wf s)
    (hwr : mayP l = true → ∀ (i : Nat) (f : FT), l[i]? = some f → callV (lim prog) (.fn w wc) [.agg f.cells] s.enter = some (.i .i64 (wf f), s.enter))
    (hdo : ∀ (q : St) (id i : Nat) (f : FT), l[i]? = some f → RowB s q s.en id l → ∃ q', callV (lim prog) (.fn d dc) [.p id (i * 6)] q = some (.tup [], q') ∧ RowB s q' s.en id (l.set i (df f))) :
    (lim prog).call f_store_change [a0, .i .i64 n, .fn w wc, .fn d dc] s = some (tupR (changeP l n wf df), s) := by
  refine fn_W p_store_change rfl rfl ?_
  have hz0 : wkZ c_store_change.cin [a0, .i .i64 n, .fn w wc, .fn d dc] = [fx l, .i .i64 n, .fn w wc, .fn d dc] := by
    simp only [c_store_change, wkZ, told_fx ha0, wk]
  rw [hz0]
  have hno : ∀ z : Int, KR s [.sl 6 (.agg [.id, .id, (.sl 1 .id), (.sl 1 .id), .id, .id]), .id] (tupR ([], z)) (some ([.nsl, .i .i64 z], s.enter)) := fun z => KR_0 (Over.enter s) z
  have hm := may_ok l ho.ok ho.len ho.fl s.enter hw.enter
  unfold fx at hm
  unfold changeP
  by_cases hz : wrongE l n = 0
  · obtain ⟨hmay, i, f, rfl, hf⟩ := wrong_zero hz
    have hil := (List.getElem?_eq_some_iff.1 hf).1
    have hg2 := fx_get hf
    have hne : l ≠ [] := by intro hh; subst hh; simp at hil
    rw [hmay] at hm
    have e1 : ((i : Int) < 0) = False := by simp only [eq_iff_iff, iff_false]; omega
    have e2 : ((l.length : Int) ≤ (i : Int)) = False := by simp only [eq_iff_iff, iff_false]; omega
    have hwc := hwr hmay i f hf
    rw [if_pos hz, Int.toNat_natCast, hf]
    show W _ _ _ _ (KF s _ _ (tupR (if wf f = 0 then (l.set i (df f), 0) else ([], wf f))))
    by_cases hW : wf f = 0
    · have e3 : ((wf f) ≠ 0) = False := by simp [hW]
      rw [if_pos hW]
      obtain ⟨r, q1, d1, id, G, rfl, H1, hG1⟩ := own_hp (Hp.begin hw) l hne ho
      obtain ⟨q2, d2, G2, H2, hG2⟩ := hdo q1 id i f hf ⟨G, H1, hG1⟩
      have hth : thawA q1 (.bl id 6 0 l.length (l.length * 6, false)) = some (.bl id 6 0 l.length (l.length * 6, false), q1) := rfl
      have hlt : (i < l.length) = True := by simp [hil]
      have hbx := (H2.box (i := 0) rfl).1
      have hfz := frz_six hG2.six hG2.ones (p := (l.length * 6, false)) hbx
      have hGl := hG2.1
      rw [List.length_set] at hGl
      rw [hGl] at hfz
      have hpa : pubA q2 (.bl id 6 0 l.length (l.length * 6, false)) = _ := hfz
      have H3 := H2.setBox (i := 0) rfl (.row 60 G2.flatten true 0)
      unfold fx at d1
      simp only [c_store_change, go_sem, W_cond2, WO_guard3, WE_guard3, WQ_guard3, KB_n, KB_x, Nat.reduceBEq, Nat.reduceAdd, Nat.reduceLT, Nat.reduceLeDiff, Nat.reduceEqDiff, reduceIte, Int.reduceEq, reduceCtorEq, fx, List.length_map, hm, e1, e2, natOf_nat, hg2, cl_agg, ld_cells6, pub_cells6, hwc, e3, d1, hth, hlt, Nat.zero_add, d2, hpa]
      refine KR_some H3.over ?_ ?_
      · simp only [tupOf, AV.refs, AV.refs.go, hG2.refs]
        rfl
      · have hwk := wkM_agg (l.set i (df f)) G2 hG2.wk
        simp only [tupOf, wkZ, wk, hwk, tupR, fx]
        rfl
    · have e3 : ((wf f) ≠ 0) = True := by simp [hW]
      rw [if_neg hW]
      simp only [c_store_change, go_sem, W_cond2, WO_guard3, WE_guard3, WQ_guard3, KB_n, KB_x, Nat.reduceBEq, Nat.reduceAdd, Nat.reduceLT, Nat.reduceLeDiff, Nat.reduceEqDiff, reduceIte, Int.reduceEq, reduceCtorEq, fx, List.length_map, hm, e1, e2, natOf_nat, hg2, cl_agg, ld_cells6, pub_cells6, hwc, e3]
      exact hno _
  · rw [if_neg hz]
    unfold wrongE at hz ⊢
    cases hmay : mayP l
    · rw [hmay] at hm
      simp only [c_store_change, go_sem, W_cond2, WO_guard3, WE_guard3, WQ_guard3, KB_n, KB_x, Nat.reduceBEq, Nat.reduceAdd, Nat.reduceLT, Nat.reduceLeDiff, Nat.reduceEqDiff, reduceIte, Int.reduceEq, reduceCtorEq, fx, List.length_map, hm]
      exact hno _
    · rw [hmay] at hm hz
      rw [if_pos rfl] at hz ⊢
      have hout : ¬ (0 ≤ n ∧ n < (l.length : Int)) := fun h => hz (by rw [if_pos h])
      rw [if_neg hout]
      by_cases n1 : n < 0
      · have e1 : (n < 0) = True := by simp [n1]
        simp only [c_store_change, go_sem, W_cond2, WO_guard3, WE_guard3, WQ_guard3, KB_n, KB_x, Nat.reduceBEq, Nat.reduceAdd, Nat.reduceLT, Nat.reduceLeDiff, Nat.reduceEqDiff, reduceIte, Int.reduceEq, reduceCtorEq, fx, List.length_map, hm, e1]
        exact hno _
      · have e1 : (n < 0) = False := by simp only [eq_iff_iff, iff_false]; exact n1
        have e2 : ((l.length : Int) ≤ n) = True := by simp only [eq_iff_iff, iff_true]; omega
        simp only [c_store_change, go_sem, W_cond2, WO_guard3, WE_guard3, WQ_guard3, KB_n, KB_x, Nat.reduceBEq, Nat.reduceAdd, Nat.reduceLT, Nat.reduceLeDiff, Nat.reduceEqDiff, reduceIte, Int.reduceEq, reduceCtorEq, fx, List.length_map, hm, e1, e2]
        exact hno _
end Go.Proofs.Ytgloinighjdhlaa

/-
  store.Know, More and Whole.
-/
set_option maxRecDepth 100000
set_option maxHeartbeats 4000000
set_option linter.unusedSimpArgs false
set_option linter.constructorNameAsVariable false
namespace Go.Proofs.Ytgloinighjdhlaa
open Go.Proofs.Ytgloinighjdhlaa.Am
attribute [local irreducible] W WO WE WQ WD Tr.get Tr.set
theorem one_plain {f : FT} (h : f.one = true) (hk : f.known = false) : f.names = [] ∧ f.kids = [] ∧ f.rest = 0 ∧ f.beside = 0 := by
  have hd : f.isDir = false := by unfold FT.isDir; rw [hk]; rfl
  unfold FT.one at h
  rw [hd] at h
  simp only [Bool.false_eq_true, if_false, Bool.and_eq_true, Bool.not_eq_true', decide_eq_true_eq] at h
  obtain ⟨h1, h2, h3, h4⟩ := h
  unfold FT.bad at h1
  simp only [Bool.or_eq_false_iff, decide_eq_false_iff_not, Decidable.not_not] at h1
  have h5 := h1.2.2
  exact ⟨List.length_eq_zero_iff.1 h2, List.length_eq_zero_iff.1 (by omega), h3, h4⟩
theorem know_change (l : List FT) (n : Int) (kind : Nat) : changeP l n (knowW kind) (fun f => { f with known := true, kind := kind }) = knowP l n kind := by
  unfold changeP knowP
  by_cases hz : wrongE l n = 0
  · obtain ⟨hmay, i, f, rfl, hf⟩ := wrong_zero hz
    rw [if_pos hz, if_pos hz, Int.toNat_natCast, hf]
    simp only
    unfold knowW
    cases hk : f.known
    · obtain ⟨h1, h2, h3, h4⟩ := one_plain (may_one hmay (List.mem_of_getElem? hf)) hk
      have : ({ f with known := true, kind := kind } : FT) = ⟨true, kind, [], [], 0, 0⟩ := by
        cases f
        simp only at h1 h2 h3 h4
        subst h1; subst h2; subst h3; subst h4
        rfl
      rw [this]
      by_cases k3 : 3 < kind <;> simp [k3]
    · simp
  · rw [if_neg hz, if_neg hz]
theorem wrong_dir {l : List FT} {n : Int} (hz : wrongE l n = 0) {f : FT} (hf : l[n.toNat]? = some f) : dirE l n = if f.isDir then 0 else 1 := by
  unfold dirE
  rw [if_pos hz, hf]
theorem more_change (l : List FT) (n : Int) : changeP l n moreW (fun f => { f with rest := 2, beside := (f.names.length : Int) }) = moreP l n := by
  unfold changeP moreP
  by_cases hz : wrongE l n = 0
  · obtain ⟨hmay, i, f, rfl, hf⟩ := wrong_zero hz
    rw [wrong_dir hz (by rw [Int.toNat_natCast]; exact hf), if_pos hz, Int.toNat_natCast, hf]
    simp only
    unfold moreW
    cases hi : f.isDir
    · simp
    · by_cases r1 : f.rest = 1 <;> simp [r1]
  · have : dirE l n = wrongE l n := by unfold dirE; rw [if_neg hz]
    rw [this, if_neg hz, if_neg hz]
theorem whole_change (l : List FT) (n : Int) : changeP l n (wholeW l) (fun f => { f with rest := 1, beside := 0 }) = wholeP l n := by
  unfold changeP wholeP
  by_cases hz : wrongE l n = 0
  · obtain ⟨hmay, i, f, rfl, hf⟩ := wrong_zero hz
    rw [wrong_dir hz (by rw [Int.toNat_natCast]; exact hf), if_pos hz, Int.toNat_natCast, hf]
    simp only
    unfold wholeW
    cases hi : f.isDir
    · simp
    · by_cases r1 : f.rest = 1
      · simp [r1]
      · by_cases r2 : f.rest = 2 ∧ thereP l f = false <;> simp [r1, r2]
  · have : dirE l n = wrongE l n := by unfold dirE; rw [if_neg hz]
    rw [this, if_neg hz, if_neg hz]
theorem storeknow_ok (l : List FT) (ho : FOk l) (n : Int) (kind : Nat) {a0 : AV} (ha0 : Told1 6 a0 (l.map FT.av)) {s : St} (hw : Wf s) : (lim prog).call f_store_Know [a0, .i .i64 n, .i .u8 (kind : Nat)] s = some (tupR (knowP l n kind), s) := by
  refine fn_W p_store_Know rfl rfl ?_
  have hz0 : wkZ c_store_Know.cin [a0, .i .i64 n, .i .u8 (kind : Nat)] = [fx l, .i .i64 n, .i .u8 (kind : Nat)] := by
    simp only [c_store_Know, wkZ, told_fx ha0, wk]
  rw [hz0]
  have H1 := (Hp.begin hw).new (.cells 5 [.i .u8 (kind : Nat)])
  generalize hq : s.enter.new (.cells 5 [.i .u8 (kind : Nat)]) = q at H1
  generalize hm : s.enter.nb = m at H1
  have hb := H1.box (i := 0) rfl
  simp only at hb
  have hc := change_ok l ho n (w := f_store_Know_1) (d := f_store_Know_2) (wc := [.p m 0]) (dc := [.p m 0]) (knowW kind) (fun f => { f with known := true, kind := kind }) (a0 := fx l) .ws (s := q) H1.wf (fun _ i f _ => know1_ok H1.wf.enter hb.1 hb.2.2 f) (fun q' id i f hf hr => know2_ok hr hf hb.1 hb.2.2)
  rw [know_change] at hc
  simp only [tupR, fx] at hc
  simp only [c_store_Know, go_sem, W_cond2, WO_guard3, WE_guard3, WQ_guard3, KB_n, KB_x, Nat.reduceBEq, Nat.reduceAdd, Nat.reduceLT, Nat.reduceLeDiff, Nat.reduceEqDiff, reduceIte, Int.reduceEq, reduceCtorEq, hq, hm, List.length_cons, List.length_nil, Nat.zero_add, fx, hc]
  exact KR_F H1.over _ _
theorem storemore_ok (l : List FT) (ho : FOk l) (n : Int) {a0 : AV} (ha0 : Told1 6 a0 (l.map FT.av)) {s : St} (hw : Wf s) : (lim prog).call f_store_More [a0, .i .i64 n] s = some (tupR (moreP l n), s) := by
  refine fn_W p_store_More rfl rfl ?_
  have hz0 : wkZ c_store_More.cin [a0, .i .i64 n] = [fx l, .i .i64 n] := by
    simp only [c_store_More, wkZ, told_fx ha0, wk]
  rw [hz0]
  have hc := change_ok l ho n (w := f_store_More_1) (d := f_store_More_2) (wc := []) (dc := []) moreW (fun f => { f with rest := 2, beside := (f.names.length : Int) }) (a0 := fx l) .ws (s := s.enter) hw.enter (fun _ i f _ => more1_ok hw.enter f) (fun q' id i f hf hr => more2_ok hr hf)
  rw [more_change] at hc
  simp only [tupR, fx] at hc
  simp only [c_store_More, go_sem, W_cond2, WO_guard3, WE_guard3, WQ_guard3, KB_n, KB_x, Nat.reduceBEq, Nat.reduceAdd, Nat.reduceLT, Nat.reduceLeDiff, Nat.reduceEqDiff, reduceIte, Int.reduceEq, reduceCtorEq, fx, hc]
  exact KR_F (Over.enter s) _ _
theorem storewhole_ok (l : List FT) (ho : FOk l) (n : Int) {a0 : AV} (ha0 : Told1 6 a0 (l.map FT.av)) {s : St} (hw : Wf s) : (lim prog).call f_store_Whole [a0, .i .i64 n] s = some (tupR (wholeP l n), s) := by
  refine fn_W p_store_Whole rfl rfl ?_
  have hz0 : wkZ c_store_Whole.cin [a0, .i .i64 n] = [fx l, .i .i64 n] := by
    simp only [c_store_Whole, wkZ, told_fx ha0, wk]
  rw [hz0]
  have H1 := (Hp.begin hw).new (.cells 22 [fx l])
  generalize hq : s.enter.new (.cells 22 [fx l]) = q at H1
  generalize hm : s.enter.nb = m at H1
  have hb := H1.box (i := 0) rfl
  simp only at hb
  have l0 := H1.ld 0 (off := 0) (v := fx l) rfl rfl
  have hc := change_ok l ho n (w := f_store_Whole_1) (d := f_store_Whole_2) (wc := [.p m 0]) (dc := []) (wholeW l) (fun f => { f with rest := 1, beside := 0 }) (a0 := fx l) .ws (s := q) H1.wf (fun hmay i f hf => whole1_ok hmay hf (ho.ok f (List.mem_of_getElem? hf)) H1.wf.enter hb.1 hb.2.2) (fun q' id i f hf hr => whole2_ok hr hf)
  rw [whole_change] at hc
  simp only [tupR, fx] at hc
  unfold fx at hq l0
  simp only [c_store_Whole, go_sem, W_cond2, WO_guard3, WE_guard3, WQ_guard3, KB_n, KB_x, Nat.reduceBEq, Nat.reduceAdd, Nat.reduceLT, Nat.reduceLeDiff, Nat.reduceEqDiff, reduceIte, Int.reduceEq, reduceCtorEq, fx, List.length_cons, List.length_nil, Nat.zero_add, hq, hm, l0, hc]
  exact KR_F H1.over _ _
end Go.Proofs.Ytgloinighjdhlaa

/-
  fork: the calls of a split.
-/
set_option maxRecDepth 100000
set_option maxHeartbeats 4000000
set_option linter.unusedSimpArgs false
set_option linter.constructorNameAsVariable false
namespace Go.Proofs.Ytgloinighjdhlaa
open Go.Proofs.Ytgloinighjdhlaa.Am
attribute [local irreducible] W WO WE WQ WD Tr.get Tr.set
theorem calls1_ok (l : List FT) (ho : FOk l) {n : Int} {em : Bool} {a0 : AV} (ha0 : Told1 6 a0 (l.map FT.av)) {q : St} (hw : Wf q) {b : Nat} (hb : q.box? b = some (.cells 30 [.i .i64 n, .b em])) (lb : b < q.nb) :
    callV (lim prog) (.fn f_fork_Split_calls_1 [.p b 0]) [a0] q = some (tupR (wholeP l n), q) := by
  show (lim prog).call f_fork_Split_calls_1 [a0, .p b 0] q = _
  refine fn_W p_fork_Split_calls_1 rfl rfl ?_
  have hz0 : wkZ c_fork_Split_calls_1.cin [a0, .p b 0] = [fx l, .p b 0] := by
    simp only [c_fork_Split_calls_1, wkZ, told_fx ha0]
  rw [hz0]
  have l0 := ld1_old (Over.enter q) (off := 0) (v := .i .i64 n) lb hb rfl
  have hc := storewhole_ok l ho n (a0 := fx l) .ws (s := q.enter) hw.enter
  simp only [tupR, fx] at hc
  simp only [c_fork_Split_calls_1, go_sem, W_cond2, WO_guard3, WE_guard3, WQ_guard3, KB_n, KB_x, Nat.reduceBEq, Nat.reduceAdd, Nat.reduceLT, Nat.reduceLeDiff, Nat.reduceEqDiff, reduceIte, Int.reduceEq, reduceCtorEq, fx, Nat.zero_add, l0, hc]
  exact KR_F (Over.enter q) _ _
theorem calls2_ok (l : List FT) (ho : FOk l) {n : Int} {em : Bool} {a0 : AV} (ha0 : Told1 6 a0 (l.map FT.av)) {q : St} (hw : Wf q) {b : Nat} (hb : q.box? b = some (.cells 30 [.i .i64 n, .b em])) (lb : b < q.nb) :
    callV (lim prog) (.fn f_fork_Split_calls_2 [.p b 0]) [a0] q = some (tupR (moreP l n), q) := by
  show (lim prog).call f_fork_Split_calls_2 [a0, .p b 0] q = _
  refine fn_W p_fork_Split_calls_2 rfl rfl ?_
  have hz0 : wkZ c_fork_Split_calls_2.cin [a0, .p b 0] = [fx l, .p b 0] := by
    simp only [c_fork_Split_calls_2, wkZ, told_fx ha0]
  rw [hz0]
  have l0 := ld1_old (Over.enter q) (off := 0) (v := .i .i64 n) lb hb rfl
  have hc := storemore_ok l ho n (a0 := fx l) .ws (s := q.enter) hw.enter
  simp only [tupR, fx] at hc
  simp only [c_fork_Split_calls_2, go_sem, W_cond2, WO_guard3, WE_guard3, WQ_guard3, KB_n, KB_x, Nat.reduceBEq, Nat.reduceAdd, Nat.reduceLT, Nat.reduceLeDiff, Nat.reduceEqDiff, reduceIte, Int.reduceEq, reduceCtorEq, fx, Nat.zero_add, l0, hc]
  exact KR_F (Over.enter q) _ _
theorem calls3_ok (l : List FT) (ho : FOk l) {n : Int} {em : Bool} {k : Nat} {a0 : AV} (ha0 : Told1 6 a0 (l.map FT.av)) {q : St} (hw : Wf q) {b kb : Nat} (hb : q.box? b = some (.cells 30 [.i .i64 n, .b em])) (lb : b < q.nb) (hk : q.box? kb = some (.cells 5 [.i .u8 (k : Nat)])) (lk : kb < q.nb) :
    callV (lim prog) (.fn f_fork_Split_calls_3 [.p b 0, .p kb 0]) [a0] q = some (tupR (knowP l n k), q) := by
  show (lim prog).call f_fork_Split_calls_3 [a0, .p b 0, .p kb 0] q = _
  refine fn_W p_fork_Split_calls_3 rfl rfl ?_
  have hz0 : wkZ c_fork_Split_calls_3.cin [a0, .p b 0, .p kb 0] = [fx l, .p b 0, .p kb 0] := by
    simp only [c_fork_Split_calls_3, wkZ, told_fx ha0]
  rw [hz0]
  have l0 := ld1_old (Over.enter q) (off := 0) (v := .i .i64 n) lb hb rfl
  have l1 := ld1_old (Over.enter q) (off := 0) (v := .i .u8 (k : Nat)) lk hk rfl
  have hc := storeknow_ok l ho n k (a0 := fx l) .ws (s := q.enter) hw.enter
  simp only [tupR, fx] at hc
  simp only [c_fork_Split_calls_3, go_sem, W_cond2, WO_guard3, WE_guard3, WQ_guard3, KB_n, KB_x, Nat.reduceBEq, Nat.reduceAdd, Nat.reduceLT, Nat.reduceLeDiff, Nat.reduceEqDiff, reduceIte, Int.reduceEq, reduceCtorEq, fx, Nat.zero_add, l0, l1, hc]
  exact KR_F (Over.enter q) _ _
end Go.Proofs.Ytgloinighjdhlaa

/-
  fork.kinds as an iterator.
-/
set_option maxRecDepth 100000
set_option maxHeartbeats 4000000
set_option linter.unusedSimpArgs false
set_option linter.constructorNameAsVariable false
namespace Go.Proofs.Ytgloinighjdhlaa
open Go.Proofs.Ytgloinighjdhlaa.Am
attribute [local irreducible] W WO WE WQ WD Tr.get Tr.set
end Go.Proofs.Ytgloinighjdhlaa

/-
  fork.kinds; the calls of a split that asks for empty.
-/
set_option maxRecDepth 100000
set_option maxHeartbeats 4000000
set_option linter.unusedSimpArgs false
set_option linter.constructorNameAsVariable false
namespace Go.Proofs.Ytgloinighjdhlaa
open Go.Proofs.Ytgloinighjdhlaa.Am
attribute [local irreducible] W WO WE WQ WD Tr.get Tr.set
theorem kinds_ok (links : Bool) (s : St) : (lim prog).call f_fork_kinds [.b links] s = some (.fn f_fork_kinds_1 [.p s.nb 0], { s.new (.cells 4 [.b links]) with lo := min s.lo s.nb }) := by
  obtain ⟨r, s', h, rfl, rfl⟩ := fn_G (f := f_fork_kinds) (args := [.b links]) (s := s) (Post := fun r s' => r = .fn f_fork_kinds_1 [.p s.nb 0] ∧ s' = { s.new (.cells 4 [.b links]) with lo := min s.lo s.nb }) p_fork_kinds rfl rfl (by
    have hz0 : wkZ c_fork_kinds.cin [.b links] = [.b links] := by simp [c_fork_kinds, wkZ, wk]
    have hl1 : ∀ a : AV, [a].length = 1 := fun _ => rfl
    rw [hz0]
    simp only [c_fork_kinds, go_sem, W_cond2, WO_guard3, WE_guard3, WQ_guard3, KB_n, KB_x, Nat.reduceBEq, Nat.reduceAdd, Nat.reduceLT, Nat.reduceLeDiff, Nat.reduceEqDiff, reduceIte, Int.reduceEq, reduceCtorEq, hl1]
    exact ⟨_, _, rfl, rfl, leave_refs rfl⟩)
  exact h
theorem callsE_ok (n : Int) (links : Bool) (s : St) : (lim prog).call f_fork_Split_calls [.agg [.i .i64 n, .b true], .b links] s = some (.ws false 1 [.fn f_fork_Split_calls_1 [.p s.nb 0], .fn f_fork_Split_calls_2 [.p s.nb 0]], { s.new (.cells 30 [.i .i64 n, .b true]) with lo := min s.lo s.nb }) := by
  obtain ⟨r, s', h, rfl, rfl⟩ := fn_G (f := f_fork_Split_calls) (args := [.agg [.i .i64 n, .b true], .b links]) (s := s) (Post := fun r s' => r = .ws false 1 [.fn f_fork_Split_calls_1 [.p s.nb 0], .fn f_fork_Split_calls_2 [.p s.nb 0]] ∧ s' = { s.new (.cells 30 [.i .i64 n, .b true]) with lo := min s.lo s.nb }) p_fork_Split_calls rfl rfl (by
    have hz0 : wkZ c_fork_Split_calls.cin [.agg [.i .i64 n, .b true], .b links] = [.agg [.i .i64 n, .b true], .b links] := by simp [c_fork_Split_calls, wkZ, wk]
    have l1 : ldA (s.enter.new (.cells 30 [.i .i64 n, .b true])) false 1 (.p s.enter.nb 1) = some (.b true) := ld_box (new_box_self s.enter _) rfl
    have hal : allLen 1 [AV.fn f_fork_Split_calls_1 [.p s.enter.nb 0], .fn f_fork_Split_calls_2 [.p s.enter.nb 0]] = true := rfl
    rw [hz0]
    simp only [c_fork_Split_calls, go_sem, W_cond2, WO_guard3, WE_guard3, WQ_guard3, KB_n, KB_x, Nat.reduceBEq, Nat.reduceAdd, Nat.reduceLT, Nat.reduceLeDiff, Nat.reduceEqDiff, reduceIte, Int.reduceEq, reduceCtorEq, l1, Nat.zero_add, List.length_cons, List.length_nil, hal]
    exact ⟨_, _, rfl, rfl, leave_refs rfl⟩)
  exact h
end Go.Proofs.Ytgloinighjdhlaa

/-
  What comes of a row of calls: the program's way, and the document's.
-/
set_option maxRecDepth 100000
namespace Go.Proofs.Ytgloinighjdhlaa
open Go.Proofs.Ytgloinighjdhlaa.Am
def goW : List (List FT × Int) → List (List FT) → List (List FT) × Int
  | [], acc => (acc, 0)
  | r :: rs, acc => if r.2 = 0 then goW rs (acc ++ [r.1]) else if r.2 = 67 then goW rs acc else ([], r.2)
def answers (l : List FT) (n : Int) (empty links : Bool) : List (List FT × Int) :=
  if empty then [wholeP l n, moreP l n] else (List.range (mostK links + 1)).map fun k => knowP l n k
theorem goW_ok : ∀ (rs : List (List FT × Int)) (acc : List (List FT)), (∀ r ∈ rs, r.2 = 0) → goW rs acc = (acc ++ rs.map (·.1), 0)
  | [], acc, _ => by simp [goW]
  | r :: rs, acc, h => by
    rw [goW, if_pos (h r List.mem_cons_self), goW_ok rs _ fun x hx => h x (List.mem_cons_of_mem _ hx)]
    simp
theorem wrongE_vals (l : List FT) (n : Int) : wrongE l n = 0 ∨ wrongE l n = 1 ∨ wrongE l n = 4 := by
  unfold wrongE
  split
  · split
    · exact .inl rfl
    · exact .inr (.inl rfl)
  · exact .inr (.inr rfl)
theorem dirE_vals (l : List FT) (n : Int) : dirE l n = 0 ∨ dirE l n = 1 ∨ dirE l n = 4 := by
  unfold dirE
  split
  · split
    · split
      · exact .inl rfl
      · exact .inr (.inl rfl)
    · exact .inl rfl
  · exact wrongE_vals l n
theorem know_vals (l : List FT) (n : Int) : (knowP l n 0).2 ≠ 67 := by
  unfold knowP
  split
  · split
    · simp
    · split
      · simp
      · split <;> simp
  · rcases wrongE_vals l n with h | h | h <;> rw [h] <;> simp
theorem goW_ways (l : List FT) (n : Int) (empty links : Bool) : goW (answers l n empty links) [] = waysP l n empty links := by
  unfold answers waysP
  have hmk : mostK links ≤ 3 := by unfold mostK; split <;> omega
  cases empty
  · rw [if_neg (by simp), if_neg (by simp)]
    by_cases hz : (knowP l n 0).2 = 0
    · rw [if_pos hz, goW_ok _ _ fun r hr => by
        obtain ⟨k, hk, rfl⟩ := List.mem_map.1 hr
        rw [List.mem_range] at hk
        rw [know_e l n k (by omega), hz]]
      simp
    · rw [if_neg hz]
      have : (List.range (mostK links + 1)).map (fun k => knowP l n k) = knowP l n 0 :: ((List.range (mostK links)).map fun k => knowP l n (k + 1)) := by
        rw [List.range_succ_eq_map, List.map_cons, List.map_map]; rfl
      rw [this, goW, if_neg hz, if_neg (know_vals l n)]
  · rw [if_pos rfl, if_pos rfl]
    simp only [goW]
    have key : ((wholeP l n).2 = 0 ∨ (wholeP l n).2 = 67) ∧ (moreP l n).2 = 0 ∨ ((wholeP l n).2 ≠ 0 ∧ (wholeP l n).2 ≠ 67 ∧ (wholeP l n).2 = (moreP l n).2) := by
      unfold wholeP moreP
      by_cases hd : dirE l n = 0
      · rw [if_pos hd, if_pos hd]
        cases hf : l[n.toNat]? with
        | none => left; simp
        | some f =>
          simp only
          by_cases r1 : f.rest = 1
          · right; simp [r1]
          · left
            by_cases r2 : f.rest = 2 ∧ thereP l f = false <;> simp [r1, r2]
      · right
        rw [if_neg hd, if_neg hd]
        refine ⟨hd, ?_, rfl⟩
        rcases dirE_vals l n with h | h | h <;> rw [h] <;> simp
    rcases key with ⟨h1 | h1, h2⟩ | ⟨h1, h2, h3⟩
    · simp [h1, h2]
    · simp [h1, h2]
    · rw [if_neg h1, if_neg h2, if_neg (by rw [← h3]; exact h1), h3]
end Go.Proofs.Ytgloinighjdhlaa

/-
  fork.Ways, out of the calls' contract.
-/
set_option maxRecDepth 100000
set_option maxHeartbeats 4000000
set_option linter.unusedSimpArgs false
set_option linter.constructorNameAsVariable false
namespace Go.Proofs.Ytgloinighjdhlaa
open Go.Proofs.Ytgloinighjdhlaa.Am
attribute [local irreducible] W WO WE WQ WD Tr.get Tr.set
def CallsOk (l : List FT) (n : Int) (em links : Bool) : Prop := ∀ {s q : St} {B0 : List (Nat × Box)}, Hp s q s.en [] B0 →
  ∃ vs q1 n1 B1, (lim prog).call f_fork_Split_calls [.agg [.i .i64 n, .b em], .b links] q = some (.ws false 1 vs, q1) ∧ Hp s q1 n1 [] B1 ∧ vs.length = (answers l n em links).length ∧
    ∀ (j : Nat) (r : List FT × Int), (answers l n em links)[j]? = some r → ∃ g caps, vs[j]? = some (.fn g caps) ∧
      ∀ (u : St) (a0 : AV), Told1 6 a0 (l.map FT.av) → (∀ p ∈ B1, u.box? p.1 = some p.2 ∧ p.1 < u.nb) → Wf u → callV (lim prog) (.fn g caps) [a0] u = some (tupR r, u)
theorem forkways_ok (l : List FT) (n : Int) (em links : Bool) (hcalls : CallsOk l n em links) {a0 : AV} (ha0 : Told1 6 a0 (l.map FT.av)) {s : St} (hw : Wf s) :
    (lim prog).call f_fork_Ways [a0, .agg [.i .i64 n, .b em], .b links] s = some (tupW (waysP l n em links), s) := by
  rw [← goW_ways]
  refine fn_W p_fork_Ways rfl rfl ?_
  have hz0 : wkZ c_fork_Ways.cin [a0, .agg [.i .i64 n, .b em], .b links] = [fx l, .agg [.i .i64 n, .b em], .b links] := by
    simp only [c_fork_Ways, wkZ, told_fx ha0, wk]
  rw [hz0]
  have H1 := (Hp.begin hw).new (.cells 30 [.i .i64 n, .b em])
  generalize hq : s.enter.new (.cells 30 [.i .i64 n, .b em]) = q at H1
  generalize hm : s.enter.nb = m at H1
  have lw := H1.ldw (m := 2) 0 rfl rfl
  obtain ⟨vs, q1, n1, B1, hc, H2, hvl, hspec⟩ := hcalls H1
  have hal : (answers l n em links).length ≤ 4 := by
    have hmk : mostK links ≤ 3 := by unfold mostK; split <;> omega
    unfold answers
    split
    · simp
    · simp; omega
  simp only [c_fork_Ways, go_sem, W_cond2, WO_guard3, WE_guard3, WQ_guard3, KB_n, KB_x, Nat.reduceBEq, Nat.reduceAdd, Nat.reduceLT, Nat.reduceLeDiff, Nat.reduceEqDiff, reduceIte, Int.reduceEq, reduceCtorEq, hq, hm, List.length_cons, List.length_nil, Nat.zero_add, fx, lw, hc, hvl]
  refine W_loop (fun x e q => ∃ (i : Nat) (a : AV) (acc : List (List FT)), i + x = (answers l n em links).length ∧ Hp s q n1 [⟨1, 22, a, acc.map fx, true⟩] B1 ∧ acc.length ≤ i ∧ goW ((answers l n em links).drop i) acc = goW (answers l n em links) [] ∧ e.get 0 = fx l ∧ e.get 8 = a ∧ e.get 15 = .ws false 1 vs ∧ e.get 16 = .i .i64 ((answers l n em links).length : Nat) ∧ e.get 17 = .i .i64 (i : Nat)) ?_ (answers l n em links).length _ _ ?_
  · rintro x e q ⟨i, a, acc, hix, H, hacc, hgo, g0, g8, g15, g16, g17⟩
    by_cases h : i < (answers l n em links).length
    · have h1 : ((i : Int) < ((answers l n em links).length : Int)) = True := by simp only [eq_iff_iff, iff_true]; omega
      obtain ⟨r, hr⟩ : ∃ r, (answers l n em links)[i]? = some r := ⟨_, List.getElem?_eq_getElem h⟩
      obtain ⟨g, caps, hv, hcall⟩ := hspec i r hr
      have hca := hcall q (fx l) .ws (fun p hp => by
        obtain ⟨j, hj, rfl⟩ := List.mem_iff_getElem.1 hp
        have := H.box (List.getElem?_eq_getElem hj)
        exact ⟨this.1, this.2.2⟩) H.wf
      have hw1 := wrap_succ (show i + 1 < 2 ^ 63 by omega)
      rw [drop_at hr, goW] at hgo
      have lfn : ∀ u : St, ldA u false 1 (.ep [.fn g caps] 0 .shut) = some (.fn g caps) := fun _ => rfl
      simp only [tupR, fx] at hca
      by_cases r0 : r.2 = 0
      · have e1 : (r.2 = 0) = True := by simp [r0]
        rw [if_pos r0] at hgo
        obtain ⟨a2, q2, d2, H3, n3, _⟩ := H.app 0 (y := .sl 1 [.ws false 6 (r.1.map FT.av)] .full) (ys := [fx r.1]) rfl (elems_one _ _) (by simp; omega)
        have hall := allLen_one r.1
        simp only [go_sem, W_cond2, WO_guard3, WE_guard3, WQ_guard3, KB_n, KB_x, Nat.reduceBEq, Nat.reduceAdd, Nat.reduceLT, Nat.reduceLeDiff, Nat.reduceEqDiff, reduceIte, Int.reduceEq, reduceCtorEq, g0, g8, g15, g16, g17, fx, h1, natOf_nat, hv, lfn, hca, e1, hall, d2, hw1]
        refine ⟨x - 1, by omega, i + 1, a2, acc ++ [r.1], by omega, ?_, by simp; omega, hgo, rfl, rfl⟩
        rw [List.map_append]
        exact H3
      · have e1 : (r.2 = 0) = False := by simp [r0]
        rw [if_neg r0] at hgo
        by_cases r6 : r.2 = 67
        · have e2 : (r.2 = 67) = True := by simp [r6]
          rw [if_pos r6] at hgo
          simp only [go_sem, W_cond2, WO_guard3, WE_guard3, WQ_guard3, KB_n, KB_x, Nat.reduceBEq, Nat.reduceAdd, Nat.reduceLT, Nat.reduceLeDiff, Nat.reduceEqDiff, reduceIte, Int.reduceEq, reduceCtorEq, g0, g8, g15, g16, g17, fx, h1, natOf_nat, hv, lfn, hca, e1, e2, hw1]
          exact ⟨x - 1, by omega, i + 1, a, acc, by omega, H, by omega, hgo, rfl, rfl⟩
        · have e2 : (r.2 = 67) = False := by simp [r6]
          rw [if_neg r6] at hgo
          rw [← hgo]
          simp only [go_sem, W_cond2, WO_guard3, WE_guard3, WQ_guard3, KB_n, KB_x, Nat.reduceBEq, Nat.reduceAdd, Nat.reduceLT, Nat.reduceLeDiff, Nat.reduceEqDiff, reduceIte, Int.reduceEq, reduceCtorEq, g0, g8, g15, g16, g17, fx, h1, natOf_nat, hv, lfn, hca, e1, e2]
          exact KR_W0 H.over _
    · have h1 : ((i : Int) < ((answers l n em links).length : Int)) = False := by simp only [eq_iff_iff, iff_false]; omega
      rw [List.drop_of_length_le (by omega), goW] at hgo
      rw [← hgo]
      obtain ⟨a3, q3, d3, t3, H3, _⟩ := H.pub 0 rfl
      have d4 : pubA q a = some (a3, q3) := by
        rw [pubA_row (H.rows (i := 0) rfl)]; exact d3
      simp only [go_sem, W_cond2, WO_guard3, WE_guard3, WQ_guard3, KB_n, KB_x, Nat.reduceBEq, Nat.reduceAdd, Nat.reduceLT, Nat.reduceLeDiff, Nat.reduceEqDiff, reduceIte, Int.reduceEq, reduceCtorEq, g0, g8, g15, g16, g17, h1, d4]
      exact KR_W H3.over _ _ t3
  · simp only [go_sem, W_cond2, WO_guard3, WE_guard3, WQ_guard3, KB_n, KB_x, Nat.reduceBEq, Nat.reduceAdd, Nat.reduceLT, Nat.reduceLeDiff, Nat.reduceEqDiff, reduceIte, Int.reduceEq, reduceCtorEq]
    exact ⟨0, .nsl, [], by omega, H2.addFull 1 22 true .nil, by simp, rfl, rfl, rfl, rfl⟩
end Go.Proofs.Ytgloinighjdhlaa

/-
  fork.Follow.
-/
set_option maxRecDepth 100000
set_option maxHeartbeats 4000000
set_option linter.unusedSimpArgs false
set_option linter.constructorNameAsVariable false
namespace Go.Proofs.Ytgloinighjdhlaa
open Go.Proofs.Ytgloinighjdhlaa.Am
attribute [local irreducible] W WO WE WQ WD Tr.get Tr.set
theorem forkfollow_ok (l : List FT) (ho : FOk l) (row : List (Int × Bool)) (hr : row.length < 2 ^ 40) (choices : List Int) (hcl : choices.length < 2 ^ 40) (links : Bool) (hcalls : ∀ l, FOk l → ∀ n em, CallsOk l n em links) (s : St) (hw : Wf s) : (lim prog).call f_fork_Follow [fx l, sx row, zx choices, .b links] s = some (tupR (followP l row choices links), s) := by
  refine fn_W p_fork_Follow rfl rfl ?_
  have hz0 : wkZ c_fork_Follow.cin [fx l, sx row, zx choices, .b links] = [fx l, sx row, zx choices, .b links] := by
    simp only [c_fork_Follow, wkZ, fx, sx, zx, wk]
  rw [hz0]
  obtain ⟨a1, q1, d1, ha1⟩ : ∃ a1 q1, (lim prog).call f_slices_Clone_api_Fact_api_Fact [fx l] s.enter = some (a1, q1) ∧ OutA s q1 a1 l := by
    by_cases hne : l = []
    · subst hne
      exact ⟨_, _, cloneF_nil s.enter, [], (Hp.begin hw).setLo (m := min s.enter.lo s.enter.nb) (Nat.min_le_left _ _) (by show s.nb ≤ min s.nb s.nb; omega), .inl .ws⟩
    · obtain ⟨r, s', h1, H, _, _⟩ := cloneF_hp (Hp.begin hw) l hne ho.len
      exact ⟨r, s', h1, _, H, .inr ⟨true, rfl⟩⟩
  unfold fx at d1
  simp only [c_fork_Follow, go_sem, W_cond2, WO_guard3, WE_guard3, WQ_guard3, KB_n, KB_x, Nat.reduceBEq, Nat.reduceAdd, Nat.reduceLT, Nat.reduceLeDiff, Nat.reduceEqDiff, reduceIte, Int.reduceEq, reduceCtorEq, fx, sx, List.length_map, d1]
  refine W_loop (fun x e q => ∃ (i : Nat) (out : List FT) (a : AV), i + x = row.length ∧ OutA s q a out ∧ FOk out ∧ folF links choices i out (row.drop i) = folF links choices 0 l row ∧ e.get 1 = sx row ∧ e.get 2 = zx choices ∧ e.get 3 = .b links ∧ e.get 10 = a ∧ e.get 17 = sx row ∧ e.get 18 = .i .i64 (row.length : Nat) ∧ e.get 19 = .i .i64 (i : Nat)) ?_ row.length _ _ ?_
  · rintro x e q ⟨i, out, a, hix, ha, hout, hfo, g1, g2, g3, g10, g17, g18, g19⟩
    by_cases h : i < row.length
    · have h1 : ((i : Int) < (row.length : Int)) = True := by simp only [eq_iff_iff, iff_true]; omega
      obtain ⟨⟨n, em⟩, hp⟩ : ∃ p, row[i]? = some p := ⟨_, List.getElem?_eq_getElem h⟩
      have hp2 := sx_get hp
      have hw1 := wrap_succ (show i + 1 < 2 ^ 63 by omega)
      have ld2 : ∀ u : St, ldA u true 2 (.ep [.i .i64 n, .b em] 0 .shut) = some (.agg [.i .i64 n, .b em]) := fun _ => rfl
      obtain ⟨R0, H0, hor⟩ := ha
      obtain ⟨q2, d2, H2, n2⟩ := H0.adp (T := 30) (m := 2) (z := [.i .i64 0, .b false]) (v := .agg [.i .i64 n, .b em]) rfl ⟨rfl, rfl⟩
      generalize hb : q.nb = b at d2 H2
      have lw2 := H2.ldw (m := 2) 0 rfl rfl
      obtain ⟨a', q', dp, ta, R, H, lw3⟩ : ∃ a' q', Am.pub q2 a = some (a', q') ∧ Told1 6 a' (out.map FT.av) ∧ ∃ R, Hp s q' s.en R [] ∧ True := by
        rcases hor with ht | ⟨fr, hR⟩
        · exact ⟨a, q2, ht.pub q2, ht, R0, H2.dropB, trivial⟩
        · obtain ⟨a', q', d, t, H', _⟩ := H2.pub 0 hR
          exact ⟨a', q', d, t, _, H'.dropB, trivial⟩
      have hwy := forkways_ok out n em links (hcalls out hout n em) ta H.wf
      simp only [tupW, wx] at hwy
      rw [drop_at hp, folF] at hfo
      simp only at hfo
      by_cases hz : (waysP out n em links).2 = 0
      · have e1 : ((waysP out n em links).2 ≠ 0) = False := by simp [hz]
        rw [if_pos hz] at hfo
        by_cases hc : i < choices.length
        · have c1 : ((choices.length : Int) ≤ (i : Int)) = False := by simp only [eq_iff_iff, iff_false]; omega
          obtain ⟨c, hcc⟩ : ∃ c, choices[i]? = some c := ⟨_, List.getElem?_eq_getElem hc⟩
          have hc2 := iv_get hcc
          rw [hcc] at hfo
          simp only at hfo
          by_cases k1 : c < 0
          · have e2 : (c < 0) = True := by simp [k1]
            rw [if_pos (.inl k1)] at hfo
            rw [follow_err (by decide) hfo.symm]
            simp only [go_sem, W_cond2, WO_guard3, WE_guard3, WQ_guard3, KB_n, KB_x, Nat.reduceBEq, Nat.reduceAdd, Nat.reduceLT, Nat.reduceLeDiff, Nat.reduceEqDiff, reduceIte, Int.reduceEq, reduceCtorEq, g1, g2, g3, g10, g17, g18, g19, sx, zx, List.length_map, h1, natOf_nat, hp2, cl_agg, ld2, d2, hb, lw2, dp, hwy, e1, c1, hc2, cells_iv, ldA_1, e2]
            exact KR_0 H.over _
          · have e2 : (c < 0) = False := by simp only [eq_iff_iff, iff_false]; exact k1
            by_cases k2 : ((waysP out n em links).1.length : Int) ≤ c
            · have e3 : (((waysP out n em links).1.length : Int) ≤ c) = True := by simp [k2]
              rw [if_pos (.inr k2)] at hfo
              rw [follow_err (by decide) hfo.symm]
              simp only [go_sem, W_cond2, WO_guard3, WE_guard3, WQ_guard3, KB_n, KB_x, Nat.reduceBEq, Nat.reduceAdd, Nat.reduceLT, Nat.reduceLeDiff, Nat.reduceEqDiff, reduceIte, Int.reduceEq, reduceCtorEq, g1, g2, g3, g10, g17, g18, g19, sx, zx, List.length_map, h1, natOf_nat, hp2, cl_agg, ld2, d2, hb, lw2, dp, hwy, e1, c1, hc2, cells_iv, ldA_1, e2, e3]
              exact KR_0 H.over _
            · have e3 : (((waysP out n em links).1.length : Int) ≤ c) = False := by simp only [eq_iff_iff, iff_false]; exact k2
              obtain ⟨j, rfl⟩ : ∃ j : Nat, c = (j : Int) := ⟨c.toNat, by omega⟩
              rw [if_neg (by omega), Int.toNat_natCast] at hfo
              obtain ⟨w, hwj⟩ : ∃ w, (waysP out n em links).1[j]? = some w := ⟨_, List.getElem?_eq_getElem (by omega)⟩
              have hwm := List.mem_of_getElem? hwj
              have hw2 : ((waysP out n em links).1.map fx)[j]? = some (.ws false 6 (w.map FT.av)) := by rw [List.getElem?_map, hwj]; rfl
              have hgd : (waysP out n em links).1.getD j [] = w := by rw [List.getD_eq_getElem?_getD, hwj]; rfl
              rw [hgd] at hfo
              have ldw1 : ∀ u : St, ldA u false 1 (.ep [.ws false 6 (w.map FT.av)] 0 .shut) = some (.ws false 6 (w.map FT.av)) := fun _ => rfl
              simp only [go_sem, W_cond2, WO_guard3, WE_guard3, WQ_guard3, KB_n, KB_x, Nat.reduceBEq, Nat.reduceAdd, Nat.reduceLT, Nat.reduceLeDiff, Nat.reduceEqDiff, reduceIte, Int.reduceEq, reduceCtorEq, g1, g2, g3, g10, g17, g18, g19, sx, zx, List.length_map, h1, natOf_nat, hp2, cl_agg, ld2, d2, hb, lw2, dp, hwy, e1, c1, hc2, cells_iv, ldA_1, e2, e3, hw2, ldw1, hw1]
              exact ⟨x - 1, by omega, i + 1, w, _, by omega, ⟨R, H, .inl (.inr (.inr (.inr (.inr (.inr rfl)))))⟩, hout.ways n em links w hwm, hfo, rfl, rfl⟩
        · have c1 : ((choices.length : Int) ≤ (i : Int)) = True := by simp only [eq_iff_iff, iff_true]; omega
          rw [List.getElem?_eq_none (by omega)] at hfo
          simp only at hfo
          rw [follow_err (by decide) hfo.symm]
          simp only [go_sem, W_cond2, WO_guard3, WE_guard3, WQ_guard3, KB_n, KB_x, Nat.reduceBEq, Nat.reduceAdd, Nat.reduceLT, Nat.reduceLeDiff, Nat.reduceEqDiff, reduceIte, Int.reduceEq, reduceCtorEq, g1, g2, g3, g10, g17, g18, g19, sx, zx, List.length_map, h1, natOf_nat, hp2, cl_agg, ld2, d2, hb, lw2, dp, hwy, e1, c1]
          exact KR_0 H.over _
      · have e1 : ((waysP out n em links).2 ≠ 0) = True := by simp [hz]
        rw [if_neg hz] at hfo
        rw [follow_err hz hfo.symm]
        simp only [go_sem, W_cond2, WO_guard3, WE_guard3, WQ_guard3, KB_n, KB_x, Nat.reduceBEq, Nat.reduceAdd, Nat.reduceLT, Nat.reduceLeDiff, Nat.reduceEqDiff, reduceIte, Int.reduceEq, reduceCtorEq, g1, g2, g3, g10, g17, g18, g19, sx, zx, List.length_map, h1, natOf_nat, hp2, cl_agg, ld2, d2, hb, lw2, dp, hwy, e1]
        exact KR_0 H.over _
    · obtain ⟨a', q', dp, dpA, ta, R, H⟩ := ha.pub
      have h1 : ((i : Int) < (row.length : Int)) = False := by simp only [eq_iff_iff, iff_false]; omega
      rw [List.drop_of_length_le (by omega), folF] at hfo
      unfold followP
      rw [← hfo, if_pos rfl]
      by_cases k : row.length < choices.length
      · have e1 : ((row.length : Int) < (choices.length : Int)) = True := by simp only [eq_iff_iff, iff_true]; omega
        rw [if_pos k]
        simp only [go_sem, W_cond2, WO_guard3, WE_guard3, WQ_guard3, KB_n, KB_x, Nat.reduceBEq, Nat.reduceAdd, Nat.reduceLT, Nat.reduceLeDiff, Nat.reduceEqDiff, reduceIte, Int.reduceEq, reduceCtorEq, g1, g2, g3, g10, g17, g18, g19, sx, zx, List.length_map, h1, e1]
        obtain ⟨_, H', _⟩ := ha
        exact KR_0 H'.over _
      · have e1 : ((row.length : Int) < (choices.length : Int)) = False := by simp only [eq_iff_iff, iff_false]; omega
        rw [if_neg k]
        simp only [go_sem, W_cond2, WO_guard3, WE_guard3, WQ_guard3, KB_n, KB_x, Nat.reduceBEq, Nat.reduceAdd, Nat.reduceLT, Nat.reduceLeDiff, Nat.reduceEqDiff, reduceIte, Int.reduceEq, reduceCtorEq, g1, g2, g3, g10, g17, g18, g19, sx, zx, List.length_map, h1, e1, dpA]
        refine KR_some H.over ?_ ?_
        · simp only [tupOf, AV.refs, AV.refs.go, ta.refs (refs_goF out)]
          rfl
        · simp only [tupOf, wkZ, wk, told_fx ta, tupR]
  · simp only [go_sem, W_cond2, WO_guard3, WE_guard3, WQ_guard3, KB_n, KB_x, Nat.reduceBEq, Nat.reduceAdd, Nat.reduceLT, Nat.reduceLeDiff, Nat.reduceEqDiff, reduceIte, Int.reduceEq, reduceCtorEq]
    exact ⟨0, l, a1, by omega, ha1, ho, rfl, rfl, rfl, rfl, rfl⟩
end Go.Proofs.Ytgloinighjdhlaa

/-
  The law's own: long.
-/
set_option maxRecDepth 100000
set_option maxHeartbeats 4000000
set_option linter.unusedSimpArgs false
set_option linter.constructorNameAsVariable false
namespace Go.Proofs.Ytgloinighjdhlaa
open Go.Proofs.Ytgloinighjdhlaa.Am
attribute [local irreducible] W WO WE WQ WD Tr.get Tr.set
def fineF (f : FT) : Bool := decide (f.names.length ≤ 50) && (decide (f.kids.length ≤ 50) && f.names.all fun s => decide (s.length ≤ 300))
def longF (l : List FT) : Bool := !(decide (l.length ≤ 50) && l.all fineF)
theorem longF_bad {l : List FT} {f : FT} (hf : f ∈ l) (h : fineF f = false) : longF l = true := by
  unfold longF
  have : l.all fineF = false := by
    rw [Bool.eq_false_iff]
    intro hh
    rw [List.all_eq_true] at hh
    rw [hh f hf] at h; cases h
  rw [this, Bool.and_false]; rfl
theorem longF_ok (l : List FT) (ho : ∀ f ∈ l, f.Ok) (s : St) (hw : Wf s) : (lim prog).call f_touchstonelaw24_long [fx l] s = some (.b (longF l), s) := by
  refine fn_W p_touchstonelaw24_long rfl rfl ?_
  have hz0 : wkZ c_touchstonelaw24_long.cin [fx l] = [fx l] := by simp only [c_touchstonelaw24_long, wkZ, fx, wk]
  have hbr : ∀ b, KR s [.id] (.b b) (some ([.b b], s.enter)) := fun z => KR_some (Over.enter s) rfl rfl
  have hth : ∀ u : St, thawA u (.ws false 6 (l.map FT.av)) = some (.ws false 6 (l.map FT.av), u) := fun _ => rfl
  rw [hz0]
  by_cases hlen : 50 < l.length
  · have e1 : ((50 : Int) < (l.length : Int)) = True := by simp only [eq_iff_iff, iff_true]; omega
    rw [show longF l = true by unfold longF; rw [decide_eq_false (by omega)]; rfl]
    simp only [c_touchstonelaw24_long, go_sem, W_cond2, WO_guard3, WE_guard3, WQ_guard3, KB_n, KB_x, Nat.reduceBEq, Nat.reduceAdd, Nat.reduceLT, Nat.reduceLeDiff, Nat.reduceEqDiff, reduceIte, Int.reduceEq, reduceCtorEq, fx, List.length_map, e1]
    exact hbr _
  · have e1 : ((50 : Int) < (l.length : Int)) = False := by simp only [eq_iff_iff, iff_false]; omega
    simp only [c_touchstonelaw24_long, go_sem, W_cond2, WO_guard3, WE_guard3, WQ_guard3, KB_n, KB_x, Nat.reduceBEq, Nat.reduceAdd, Nat.reduceLT, Nat.reduceLeDiff, Nat.reduceEqDiff, reduceIte, Int.reduceEq, reduceCtorEq, fx, List.length_map, e1]
    refine W_loop (fun x e q => ∃ i : Nat, i + x = l.length ∧ q = s.enter ∧ (∀ a g, a < i → l[a]? = some g → fineF g = true) ∧ e.get 0 = fx l ∧ e.get 3 = .i .i64 (i : Nat)) ?_ l.length _ _ ?_
    · rintro x e q ⟨i, hix, rfl, hfi, g0, g3⟩
      by_cases h : i < l.length
      · have h1 : ((i : Int) < (l.length : Int)) = True := by simp only [eq_iff_iff, iff_true]; omega
        obtain ⟨g, hg⟩ : ∃ g, l[i]? = some g := ⟨_, List.getElem?_eq_getElem h⟩
        have hgm := List.mem_of_getElem? hg
        have hg2 := fx_get hg
        have hgo := ho g hgm
        have hw1 := wrap_succ (show i + 1 < 2 ^ 63 by omega)
        have l2 : ∀ u, ldA u false 1 (.ep g.cells 2 .shut) = some (tx g.names) := fun u => rfl
        have l3 : ∀ u, ldA u false 1 (.ep g.cells 3 .shut) = some (zx g.kids) := fun u => rfl
        by_cases d1 : 50 < g.names.length
        · have r1 : ((50 : Int) < (g.names.length : Int)) = True := by simp only [eq_iff_iff, iff_true]; omega
          rw [longF_bad hgm (by unfold fineF; rw [decide_eq_false (by omega), Bool.false_and])]
          simp only [go_sem, W_cond2, WO_guard3, WE_guard3, WQ_guard3, KB_n, KB_x, Nat.reduceBEq, Nat.reduceAdd, Nat.reduceLT, Nat.reduceLeDiff, Nat.reduceEqDiff, reduceIte, Int.reduceEq, reduceCtorEq, g0, g3, fx, zx, List.length_map, h1, hth, natOf_nat, hg2, cl_agg, l2, l3, r1]
          exact hbr _
        · have r1 : ((50 : Int) < (g.names.length : Int)) = False := by simp only [eq_iff_iff, iff_false]; omega
          by_cases d2 : 50 < g.kids.length
          · have r2 : ((50 : Int) < (g.kids.length : Int)) = True := by simp only [eq_iff_iff, iff_true]; omega
            rw [longF_bad hgm (by unfold fineF; rw [decide_eq_false (show ¬ g.kids.length ≤ 50 by omega), Bool.false_and, Bool.and_false])]
            simp only [go_sem, W_cond2, WO_guard3, WE_guard3, WQ_guard3, KB_n, KB_x, Nat.reduceBEq, Nat.reduceAdd, Nat.reduceLT, Nat.reduceLeDiff, Nat.reduceEqDiff, reduceIte, Int.reduceEq, reduceCtorEq, g0, g3, fx, zx, List.length_map, h1, hth, natOf_nat, hg2, cl_agg, l2, l3, r1, r2]
            exact hbr _
          · have r2 : ((50 : Int) < (g.kids.length : Int)) = False := by simp only [eq_iff_iff, iff_false]; omega
            simp only [go_sem, W_cond2, WO_guard3, WE_guard3, WQ_guard3, KB_n, KB_x, Nat.reduceBEq, Nat.reduceAdd, Nat.reduceLT, Nat.reduceLeDiff, Nat.reduceEqDiff, reduceIte, Int.reduceEq, reduceCtorEq, g0, g3, fx, zx, List.length_map, h1, hth, natOf_nat, hg2, cl_agg, l2, l3, r1, r2]
            refine W_loop (fun y e q => ∃ c : Nat, c + y = g.names.length ∧ q = s.enter ∧ (∀ a t, a < c → g.names[a]? = some t → t.length ≤ 300) ∧ e.get 0 = fx l ∧ e.get 3 = .i .i64 (i : Nat) ∧ e.get 4 = .i .i64 (c : Nat)) ?_ g.names.length _ _ ?_
            · clear g0 g3
              rintro y e q ⟨c, hcy, rfl, hfc, g0, g3, g4⟩
              by_cases hc : c < g.names.length
              · have c1 : ((c : Int) < (g.names.length : Int)) = True := by simp only [eq_iff_iff, iff_true]; omega
                obtain ⟨t, ht⟩ : ∃ t, g.names[c]? = some t := ⟨_, List.getElem?_eq_getElem hc⟩
                have ht2 : (g.names.map AV.s)[c]? = some (.s t) := by rw [List.getElem?_map, ht]; rfl
                have htm := List.mem_of_getElem? ht
                have hw2 := wrap_succ (show c + 1 < 2 ^ 63 by omega)
                by_cases d3 : 300 < t.length
                · have r3 : ((300 : Int) < (t.length : Int)) = True := by simp only [eq_iff_iff, iff_true]; omega
                  rw [longF_bad hgm (by
                    have : (g.names.all fun s => decide (s.length ≤ 300)) = false := by
                      rw [Bool.eq_false_iff]; intro hh
                      rw [List.all_eq_true] at hh
                      have := of_decide_eq_true (hh t htm)
                      omega
                    unfold fineF; rw [this, Bool.and_false, Bool.and_false])]
                  simp only [go_sem, W_cond2, WO_guard3, WE_guard3, WQ_guard3, KB_n, KB_x, Nat.reduceBEq, Nat.reduceAdd, Nat.reduceLT, Nat.reduceLeDiff, Nat.reduceEqDiff, reduceIte, Int.reduceEq, reduceCtorEq, g0, g3, g4, fx, zx, List.length_map, hth, natOf_nat, hg2, cl_agg, l2, c1, ht2, cells_s, ldA_1, r3]
                  exact hbr _
                · have r3 : ((300 : Int) < (t.length : Int)) = False := by simp only [eq_iff_iff, iff_false]; omega
                  simp only [go_sem, W_cond2, WO_guard3, WE_guard3, WQ_guard3, KB_n, KB_x, Nat.reduceBEq, Nat.reduceAdd, Nat.reduceLT, Nat.reduceLeDiff, Nat.reduceEqDiff, reduceIte, Int.reduceEq, reduceCtorEq, g0, g3, g4, fx, zx, List.length_map, hth, natOf_nat, hg2, cl_agg, l2, c1, ht2, cells_s, ldA_1, r3, hw2]
                  refine ⟨y - 1, by omega, c + 1, by omega, fun a u ha hu => ?_, rfl⟩
                  rcases Nat.lt_or_ge a c with hlt | hge
                  · exact hfc a u hlt hu
                  · obtain rfl : a = c := by omega
                    rw [ht] at hu; cases hu
                    omega
              · have c1 : ((c : Int) < (g.names.length : Int)) = False := by simp only [eq_iff_iff, iff_false]; omega
                simp only [go_sem, W_cond2, WO_guard3, WE_guard3, WQ_guard3, KB_n, KB_x, Nat.reduceBEq, Nat.reduceAdd, Nat.reduceLT, Nat.reduceLeDiff, Nat.reduceEqDiff, reduceIte, Int.reduceEq, reduceCtorEq, g0, g3, g4, fx, zx, List.length_map, hth, natOf_nat, hg2, cl_agg, l2, c1, hw1]
                refine ⟨x - 1, by omega, i + 1, by omega, fun a g' ha hg' => ?_, rfl⟩
                rcases Nat.lt_or_ge a i with hlt | hge
                · exact hfi a g' hlt hg'
                · obtain rfl : a = i := by omega
                  rw [hg] at hg'; cases hg'
                  unfold fineF
                  rw [decide_eq_true (show g.names.length ≤ 50 by omega), decide_eq_true (show g.kids.length ≤ 50 by omega), Bool.true_and, Bool.true_and, List.all_eq_true]
                  intro u hu
                  obtain ⟨a, ha, rfl⟩ := List.mem_iff_getElem.1 hu
                  exact decide_eq_true (hfc a _ (by omega) (List.getElem?_eq_getElem ha))
            · simp only [go_sem, W_cond2, WO_guard3, WE_guard3, WQ_guard3, KB_n, KB_x, Nat.reduceBEq, Nat.reduceAdd, Nat.reduceLT, Nat.reduceLeDiff, Nat.reduceEqDiff, reduceIte, Int.reduceEq, reduceCtorEq]
              exact ⟨0, by omega, fun a t ha => by omega, rfl, g3, rfl⟩
      · have h1 : ((i : Int) < (l.length : Int)) = False := by simp only [eq_iff_iff, iff_false]; omega
        rw [show longF l = false by
          unfold longF
          rw [decide_eq_true (by omega), Bool.true_and]
          have : l.all fineF = true := by
            rw [List.all_eq_true]
            intro g hg
            obtain ⟨a, ha, rfl⟩ := List.mem_iff_getElem.1 hg
            exact hfi a _ (by omega) (List.getElem?_eq_getElem ha)
          rw [this]; rfl]
        simp only [go_sem, W_cond2, WO_guard3, WE_guard3, WQ_guard3, KB_n, KB_x, Nat.reduceBEq, Nat.reduceAdd, Nat.reduceLT, Nat.reduceLeDiff, Nat.reduceEqDiff, reduceIte, Int.reduceEq, reduceCtorEq, g0, g3, fx, List.length_map, h1]
        exact hbr _
    · simp only [go_sem, W_cond2, WO_guard3, WE_guard3, WQ_guard3, KB_n, KB_x, Nat.reduceBEq, Nat.reduceAdd, Nat.reduceLT, Nat.reduceLeDiff, Nat.reduceEqDiff, reduceIte, Int.reduceEq, reduceCtorEq]
      exact ⟨0, by omega, fun a g ha => by omega, rfl, rfl⟩
end Go.Proofs.Ytgloinighjdhlaa

/-
  The law's own: given.
-/
set_option maxRecDepth 100000
set_option maxHeartbeats 4000000
set_option linter.unusedSimpArgs false
set_option linter.constructorNameAsVariable false
namespace Go.Proofs.Ytgloinighjdhlaa
open Go.Proofs.Ytgloinighjdhlaa.Am
attribute [local irreducible] W WO WE WQ WD Tr.get Tr.set
theorem refs_goSp : ∀ row : List (Int × Bool), AV.refs.go (row.map spl) = false
  | [] => rfl
  | p :: row => by
    simp only [List.map_cons, AV.refs.go, refs_goSp row]
    rfl
theorem wkM_sp : ∀ row : List (Int × Bool), wkM (.agg [.id, .id]) (row.map spl) = row.map spl
  | [] => by simp only [List.map_nil, wkM]
  | p :: row => by
    simp only [List.map_cons, wkM, wkM_sp row, spl, wk, wkZ]
theorem given_ok (row : List (Int × Bool)) (hr : row.length < 2 ^ 34) (s : St) (hw : Wf s) : (lim prog).call f_touchstonelaw24_given [sx row] s = some (sx row, s) := by
  refine fn_W p_touchstonelaw24_given rfl rfl ?_
  have hz0 : wkZ c_touchstonelaw24_given.cin [sx row] = [sx row] := by simp only [c_touchstonelaw24_given, wkZ, sx, wk]
  have hth : ∀ u : St, thawA u (.ws false 2 (row.map spl)) = some (.ws false 2 (row.map spl), u) := fun _ => rfl
  rw [hz0]
  simp only [c_touchstonelaw24_given, go_sem, W_cond2, WO_guard3, WE_guard3, WQ_guard3, KB_n, KB_x, Nat.reduceBEq, Nat.reduceAdd, Nat.reduceLT, Nat.reduceLeDiff, Nat.reduceEqDiff, reduceIte, Int.reduceEq, reduceCtorEq, sx]
  refine W_loop (fun x e q => ∃ (i : Nat) (a : AV), i + x = row.length ∧ Hp s q s.en [⟨2, 30, a, (row.take i).map spl, true⟩] [] ∧ e.get 0 = sx row ∧ e.get 3 = a ∧ e.get 4 = .i .i64 (i : Nat)) ?_ row.length _ _ ?_
  · rintro x e q ⟨i, a, hix, H, g0, g3, g4⟩
    by_cases h : i < row.length
    · have h1 : ((i : Int) < (row.length : Int)) = True := by simp only [eq_iff_iff, iff_true]; omega
      obtain ⟨⟨n, em⟩, hp⟩ : ∃ p, row[i]? = some p := ⟨_, List.getElem?_eq_getElem h⟩
      have hp2 := sx_get hp
      have hw1 := wrap_succ (show i + 1 < 2 ^ 63 by omega)
      have ld0 : ∀ u : St, ldA u false 1 (.ep [.i .i64 n, .b em] 0 .shut) = some (.i .i64 n) := fun _ => rfl
      have ld1 : ∀ u : St, ldA u false 1 (.ep [.i .i64 n, .b em] 1 .shut) = some (.b em) := fun _ => rfl
      have hal : allLen 2 [AV.agg [.i .i64 n, .b em]] = true := rfl
      obtain ⟨a2, q2, d2, H2, n2, _⟩ := H.app 0 (y := .sl 2 [.agg [.i .i64 n, .b em]] .full) (ys := [.agg [.i .i64 n, .b em]]) rfl (by simp [elems, St.ok]) (by simp; omega)
      simp only [go_sem, W_cond2, WO_guard3, WE_guard3, WQ_guard3, KB_n, KB_x, Nat.reduceBEq, Nat.reduceAdd, Nat.reduceLT, Nat.reduceLeDiff, Nat.reduceEqDiff, reduceIte, Int.reduceEq, reduceCtorEq, g0, g3, g4, sx, List.length_map, h1, hth, natOf_nat, hp2, cl_agg, ld0, ld1, hal, d2, hw1]
      have hxs : (row.take i).map spl ++ [AV.agg [.i .i64 n, .b em]] = (row.take (i + 1)).map spl := by
        rw [List.take_add_one, hp, List.map_append]; rfl
      have H3 : Hp s q2 s.en [⟨2, 30, a2, (row.take i).map spl ++ [AV.agg [.i .i64 n, .b em]], true⟩] [] := H2
      rw [hxs] at H3
      exact ⟨x - 1, by omega, i + 1, a2, by omega, H3, rfl, rfl⟩
    · have h1 : ((i : Int) < (row.length : Int)) = False := by simp only [eq_iff_iff, iff_false]; omega
      rw [List.take_of_length_le (by omega)] at H
      obtain ⟨a3, q3, d3, t3, H3, _⟩ := H.pub 0 rfl
      have d4 : pubA q a = some (a3, q3) := by rw [pubA_row (H.rows (i := 0) rfl)]; exact d3
      simp only [go_sem, W_cond2, WO_guard3, WE_guard3, WQ_guard3, KB_n, KB_x, Nat.reduceBEq, Nat.reduceAdd, Nat.reduceLT, Nat.reduceLeDiff, Nat.reduceEqDiff, reduceIte, Int.reduceEq, reduceCtorEq, g0, g3, g4, sx, List.length_map, h1, d4]
      exact KR_some H3.over (by simp only [tupOf, t3.refs (refs_goSp _)]) (by simp only [tupOf, wkZ, t3.wk (wkM_sp _)])
  · simp only [go_sem, W_cond2, WO_guard3, WE_guard3, WQ_guard3, KB_n, KB_x, Nat.reduceBEq, Nat.reduceAdd, Nat.reduceLT, Nat.reduceLeDiff, Nat.reduceEqDiff, reduceIte, Int.reduceEq, reduceCtorEq]
    exact ⟨0, .nsl, by omega, (Hp.begin hw).addFull 2 30 true .nil, rfl, rfl, rfl⟩
end Go.Proofs.Ytgloinighjdhlaa

/-
  The document's Same of facts with themselves.
-/
set_option maxRecDepth 100000
set_option maxHeartbeats 4000000
set_option linter.unusedSimpArgs false
set_option linter.constructorNameAsVariable false
namespace Go.Proofs.Ytgloinighjdhlaa
open Go.Proofs.Ytgloinighjdhlaa.Am
attribute [local irreducible] W WO WE WQ WD Tr.get Tr.set
theorem beqAL_texts : ∀ L : List (List Nat), beqAL (L.map AV.s) (L.map AV.s) = true
  | [] => rfl
  | z :: L => by simp [List.map_cons, beqAL, beqA, beqAL_texts L, beqN_self]
theorem still_F (f : FT) : still (.agg f.cells) = true := by
  have h : beqAL f.cells f.cells = true := by
    simp [FT.cells, tx, zx, beqAL, beqA, beqAL_ints, beqAL_texts]
  have h1 : f.cells.all noTok = true := rfl
  simp only [still, h1, pub_cells6, h, Bool.and_self]
theorem same20_ok (l : List FT) (ho : ∀ f ∈ l, f.Ok) (hl : l.length < 2 ^ 34) (hsame : ∀ f ∈ l, sameP f.names f.names = true) (s : St) (hw : Wf s) : (lim prog).call f_touchstoneref20_Same [fx l, fx l] s = some (.b true, s) := by
  refine fn_W p_touchstoneref20_Same rfl rfl ?_
  have hz0 : wkZ c_touchstoneref20_Same.cin [fx l, fx l] = [fx l, fx l] := by simp only [c_touchstoneref20_Same, wkZ, fx, wk]
  rw [hz0]
  have e0 : ((l.length : Int) ≠ (l.length : Int)) = False := by simp
  simp only [c_touchstoneref20_Same, go_sem, W_cond2, WO_guard3, WE_guard3, WQ_guard3, KB_n, KB_x, Nat.reduceBEq, Nat.reduceAdd, Nat.reduceLT, Nat.reduceLeDiff, Nat.reduceEqDiff, reduceIte, Int.reduceEq, reduceCtorEq, fx, List.length_map, e0]
  refine W_loop (fun x e q => ∃ i : Nat, i + x = l.length ∧ Hp s q s.en [] [] ∧ e.get 0 = fx l ∧ e.get 1 = fx l ∧ e.get 5 = .i .i64 (i : Nat)) ?_ l.length _ _ ?_
  · rintro x e q ⟨i, hix, H, g0, g1, g5⟩
    by_cases h : i < l.length
    · have h1 : ((i : Int) < (l.length : Int)) = True := by simp only [eq_iff_iff, iff_true]; omega
      obtain ⟨f, hf⟩ : ∃ f, l[i]? = some f := ⟨_, List.getElem?_eq_getElem h⟩
      have hg2 := fx_get hf
      have hw1 := wrap_succ (show i + 1 < 2 ^ 63 by omega)
      have H1 := H.new (.cells 60 [.b false, .i .u8 0, .nsl, .nsl, .i .i64 0, .i .i64 0])
      obtain ⟨q2, d2, H2, n2⟩ := H1.adp (T := 60) (m := 6) (z := [.b false, .i .u8 0, .nsl, .nsl, .i .i64 0, .i .i64 0]) (v := .agg f.cells) rfl ⟨rfl, rfl⟩
      have hnb : (q.new (.cells 60 [.b false, .i .u8 0, .nsl, .nsl, .i .i64 0, .i .i64 0])).nb = q.nb + 1 := rfl
      rw [hnb] at d2 H2
      have hnt : f.cells.all noTok = true := rfl
      obtain ⟨q3, d3, H3, n3, _⟩ := H2.stw 1 (m := 6) (v := .agg f.cells) rfl rfl ⟨rfl, rfl⟩
      simp only [go_sem, W_cond2, WO_guard3, WE_guard3, WQ_guard3, KB_n, KB_x, Nat.reduceBEq, Nat.reduceAdd, Nat.reduceLT, Nat.reduceLeDiff, Nat.reduceEqDiff, reduceIte, Int.reduceEq, reduceCtorEq, g0, g1, g5, fx, List.length_map, h1]
      refine W_regE rfl ?_
      simp only [go_sem, W_cond2, WO_guard3, WE_guard3, WQ_guard3, KB_n, KB_x, Nat.reduceBEq, Nat.reduceAdd, Nat.reduceLT, Nat.reduceLeDiff, Nat.reduceEqDiff, reduceIte, Int.reduceEq, reduceCtorEq, g0, g1, g5, fx, natOf_nat, hg2, cl_agg, ld_cells6, pub_cells6, d2, d3]
      refine ⟨hnt, hnt, ?_⟩
      refine KW_ld rfl ?_ (still_F f) ⟨⟨_, rfl, ld_cells6 f _⟩, ⟨_, rfl, ld_cells6 f _⟩, ⟨_, rfl, ld_cells6 f _⟩, ⟨_, rfl, ld_cells6 f _⟩, ⟨_, rfl, ld_cells6 f _⟩, ⟨_, rfl, ld_cells6 f _⟩, ⟨_, rfl, ld_cells6 f _⟩, ⟨_, rfl, ld_cells6 f _⟩, ⟨_, rfl, ld_cells6 f _⟩, trivial⟩ (KW_ld rfl ?_ (still_F f) ⟨⟨_, rfl, ld_cells6 f _⟩, ⟨_, rfl, ld_cells6 f _⟩, ⟨_, rfl, ld_cells6 f _⟩, ⟨_, rfl, ld_cells6 f _⟩, ⟨_, rfl, ld_cells6 f _⟩, ⟨_, rfl, ld_cells6 f _⟩, trivial⟩ (KW_end ?_))
      · simp only [go_sem, W_cond2, WO_guard3, WE_guard3, WQ_guard3, KB_n, KB_x, Nat.reduceBEq, Nat.reduceAdd, Nat.reduceLT, Nat.reduceLeDiff, Nat.reduceEqDiff, reduceIte, Int.reduceEq, reduceCtorEq]
      · simp only [go_sem, W_cond2, WO_guard3, WE_guard3, WQ_guard3, KB_n, KB_x, Nat.reduceBEq, Nat.reduceAdd, Nat.reduceLT, Nat.reduceLeDiff, Nat.reduceEqDiff, reduceIte, Int.reduceEq, reduceCtorEq]
      have H4 : Hp s q3 s.en [] [(q.nb + 1, .cells 60 f.cells), (q.nb, .cells 60 f.cells)] := H3
      have a0 := H4.ld 0 (off := 0) (v := .b f.known) rfl rfl
      have a1 := H4.ld 0 (off := 1) (v := .i .u8 (f.kind : Nat)) rfl rfl
      have a2 := H4.ld 0 (off := 2) (v := tx f.names) rfl rfl
      have a3 := H4.ld 0 (off := 3) (v := zx f.kids) rfl rfl
      have a4 := H4.ld 0 (off := 4) (v := .i .i64 f.rest) rfl rfl
      have a5 := H4.ld 0 (off := 5) (v := .i .i64 f.beside) rfl rfl
      have b0 := H4.ld 1 (off := 0) (v := .b f.known) rfl rfl
      have b1 := H4.ld 1 (off := 1) (v := .i .u8 (f.kind : Nat)) rfl rfl
      have b2 := H4.ld 1 (off := 2) (v := tx f.names) rfl rfl
      have b3 := H4.ld 1 (off := 3) (v := zx f.kids) rfl rfl
      have b4 := H4.ld 1 (off := 4) (v := .i .i64 f.rest) rfl rfl
      have b5 := H4.ld 1 (off := 5) (v := .i .i64 f.beside) rfl rfl
      have hfo := ho f (List.mem_of_getElem? hf)
      have hsm := ref_same_ok f.names f.names (by have := hfo.nlen; omega) q3
      rw [hsame f (List.mem_of_getElem? hf)] at hsm
      unfold tx at a2 b2 hsm
      unfold zx at a3 b3
      have k1 : ((f.kind : Int) ≠ (f.kind : Int)) = False := by simp
      have k2 : (f.rest ≠ f.rest) = False := by simp
      have k3 : (f.beside ≠ f.beside) = False := by simp
      have k4 : ((f.kids.length : Int) ≠ (f.kids.length : Int)) = False := by simp
      generalize hkn : f.known = kn at a0 b0
      cases kn <;> simp only [go_sem, W_cond2, WO_guard3, WE_guard3, WQ_guard3, KB_n, KB_x, Nat.reduceBEq, Nat.reduceAdd, Nat.reduceLT, Nat.reduceLeDiff, Nat.reduceEqDiff, reduceIte, Int.reduceEq, reduceCtorEq, g0, g1, g5, fx, List.length_map, Nat.zero_add, a0, a1, a2, a3, a4, a5, b0, b1, b2, b3, b4, b5, hsm, k1, k2, k3, k4]
      all_goals
        refine W_loop (fun y e q' => ∃ c : Nat, c + y = f.kids.length ∧ q' = q3 ∧ e.get 0 = fx l ∧ e.get 1 = fx l ∧ e.get 5 = .i .i64 (i : Nat) ∧ e.get 6 = .p (q.nb + 1) 0 ∧ e.get 7 = .p q.nb 0 ∧ e.get 8 = .i .i64 (c : Nat)) ?_ f.kids.length _ _ ?_
        · clear g0 g1 g5
          rintro y e q' ⟨c, hcy, rfl, g0, g1, g5, g6, g7, g8⟩
          by_cases hc : c < f.kids.length
          · have c1 : ((c : Int) < (f.kids.length : Int)) = True := by simp only [eq_iff_iff, iff_true]; omega
            obtain ⟨k, hk⟩ : ∃ k, f.kids[c]? = some k := ⟨_, List.getElem?_eq_getElem hc⟩
            have hk2 := iv_get hk
            have hw2 := wrap_succ (show c + 1 < 2 ^ 63 by have := hfo.klen; omega)
            have c2 : (k ≠ k) = False := by simp
            simp only [go_sem, W_cond2, WO_guard3, WE_guard3, WQ_guard3, KB_n, KB_x, Nat.reduceBEq, Nat.reduceAdd, Nat.reduceLT, Nat.reduceLeDiff, Nat.reduceEqDiff, reduceIte, Int.reduceEq, reduceCtorEq, g0, g1, g5, g6, g7, g8, a3, b3, Nat.zero_add, List.length_map, c1, natOf_nat, hk2, cells_iv, ldA_1, c2, hw2]
            exact ⟨y - 1, by omega, c + 1, by omega, rfl⟩
          · have c1 : ((c : Int) < (f.kids.length : Int)) = False := by simp only [eq_iff_iff, iff_false]; omega
            simp only [go_sem, W_cond2, WO_guard3, WE_guard3, WQ_guard3, KB_n, KB_x, Nat.reduceBEq, Nat.reduceAdd, Nat.reduceLT, Nat.reduceLeDiff, Nat.reduceEqDiff, reduceIte, Int.reduceEq, reduceCtorEq, g0, g1, g5, g6, g7, g8, a3, b3, Nat.zero_add, List.length_map, c1, hw1]
            exact ⟨x - 1, by omega, i + 1, by omega, H4.sel [] [] (by simp) (by simp), rfl, rfl, rfl⟩
        · simp only [go_sem, W_cond2, WO_guard3, WE_guard3, WQ_guard3, KB_n, KB_x, Nat.reduceBEq, Nat.reduceAdd, Nat.reduceLT, Nat.reduceLeDiff, Nat.reduceEqDiff, reduceIte, Int.reduceEq, reduceCtorEq]
          exact ⟨0, by omega, g0, g1, g5, rfl⟩
    · have h1 : ((i : Int) < (l.length : Int)) = False := by simp only [eq_iff_iff, iff_false]; omega
      simp only [go_sem, W_cond2, WO_guard3, WE_guard3, WQ_guard3, KB_n, KB_x, Nat.reduceBEq, Nat.reduceAdd, Nat.reduceLT, Nat.reduceLeDiff, Nat.reduceEqDiff, reduceIte, Int.reduceEq, reduceCtorEq, g0, g1, g5, fx, List.length_map, h1]
      exact KR_some H.over rfl rfl
  · simp only [go_sem, W_cond2, WO_guard3, WE_guard3, WQ_guard3, KB_n, KB_x, Nat.reduceBEq, Nat.reduceAdd, Nat.reduceLT, Nat.reduceLeDiff, Nat.reduceEqDiff, reduceIte, Int.reduceEq, reduceCtorEq]
    exact ⟨0, by omega, Hp.begin hw, rfl, rfl, rfl⟩
end Go.Proofs.Ytgloinighjdhlaa

/-
  ForkFollows, out of the calls' contract.
-/
set_option maxRecDepth 100000
set_option maxHeartbeats 4000000
set_option linter.unusedSimpArgs false
set_option linter.constructorNameAsVariable false
namespace Go.Proofs.Ytgloinighjdhlaa
open Go.Proofs.Ytgloinighjdhlaa.Am
attribute [local irreducible] W WO WE WQ WD Tr.get Tr.set
theorem FOk.fol (links : Bool) (choices : List Int) : ∀ (row : List (Int × Bool)) (i : Nat) (out : List FT), FOk out → FOk (folF links choices i out row).1
  | [], i, out, h => by rw [folF]; exact h
  | s :: row, i, out, h => by
    rw [folF]
    split
    · split
      · exact FOk.nil
      · rename_i c _
        split
        · exact FOk.nil
        · rename_i hc
          refine FOk.fol links choices row (i + 1) _ ?_
          have hlt : c.toNat < (waysP out s.1 s.2 links).1.length := by omega
          rw [List.getD_eq_getElem?_getD, List.getElem?_eq_getElem hlt]
          exact h.ways s.1 s.2 links _ (List.getElem_mem hlt)
    · exact FOk.nil
theorem FOk.follow {l : List FT} (h : FOk l) (row : List (Int × Bool)) (choices : List Int) (links : Bool) : FOk (followP l row choices links).1 := by
  unfold followP
  split
  · split
    · exact FOk.nil
    · exact FOk.fol links choices row 0 l h
  · exact FOk.fol links choices row 0 l h
theorem flatK_short : ∀ {l : List FT}, (∀ f ∈ l, f.kids.length ≤ 50) → (flatK l).length ≤ 50 * l.length
  | [], _ => by simp [flatK]
  | f :: l, h => by
    have h1 := flatK_short (l := l) fun x hx => h x (List.mem_cons_of_mem _ hx)
    have h2 := h f List.mem_cons_self
    have h3 : flatK (f :: l) = f.kids ++ flatK l := by simp [flatK]
    rw [h3, List.length_append, List.length_cons]
    omega
theorem longF_FOk {l : List FT} (ho : ∀ f ∈ l, f.Ok) (h : longF l = false) : FOk l := by
  unfold longF at h
  simp only [Bool.not_eq_false', Bool.and_eq_true, decide_eq_true_eq, List.all_eq_true] at h
  have hk : ∀ f ∈ l, f.kids.length ≤ 50 := fun f hf => by
    have := h.2 f hf
    unfold fineF at this
    simp only [Bool.and_eq_true, decide_eq_true_eq] at this
    exact this.2.1
  have := flatK_short hk
  exact ⟨ho, by omega, by omega⟩
theorem forkFollows_ok (l : List FT) (ho : ∀ f ∈ l, f.Ok) (row : List (Int × Bool)) (choices : List Int) (links : Bool) (hcalls : ∀ l, FOk l → ∀ n em, CallsOk l n em links) (s : St) (hw : Wf s) :
    (lim prog).call f_touchstonelaw24_ForkFollows [fx l, sx row, zx choices, .b links] s = some (.b true, s) := by
  refine fn_W p_touchstonelaw24_ForkFollows rfl rfl ?_
  have hz0 : wkZ c_touchstonelaw24_ForkFollows.cin [fx l, sx row, zx choices, .b links] = [fx l, sx row, zx choices, .b links] := by
    simp only [c_touchstonelaw24_ForkFollows, wkZ, fx, sx, zx, wk]
  have hbr : KR s [.id] (.b true) (some ([.b true], s.enter)) := KR_some (Over.enter s) rfl rfl
  have hawake : ∀ u : St, (lim prog).call f_touchstonelaw24_awake [] u = some (.b true, u) := fun u => prim_call p_touchstonelaw24_awake rfl rfl
  have hlong := longF_ok l ho s.enter hw.enter
  rw [hz0]
  unfold fx at hlong
  cases hlg : longF l
  · rw [hlg] at hlong
    have hok := longF_FOk ho hlg
    by_cases r1 : 30 < row.length
    · have e1 : ((30 : Int) < (row.length : Int)) = True := by simp only [eq_iff_iff, iff_true]; omega
      simp only [c_touchstonelaw24_ForkFollows, go_sem, W_cond2, WO_guard3, WE_guard3, WQ_guard3, KB_n, KB_x, Nat.reduceBEq, Nat.reduceAdd, Nat.reduceLT, Nat.reduceLeDiff, Nat.reduceEqDiff, reduceIte, Int.reduceEq, reduceCtorEq, fx, sx, List.length_map, hlong, e1, hawake]
      exact hbr
    · have e1 : ((30 : Int) < (row.length : Int)) = False := by simp only [eq_iff_iff, iff_false]; omega
      by_cases r2 : 60 < choices.length
      · have e2 : ((60 : Int) < (choices.length : Int)) = True := by simp only [eq_iff_iff, iff_true]; omega
        simp only [c_touchstonelaw24_ForkFollows, go_sem, W_cond2, WO_guard3, WE_guard3, WQ_guard3, KB_n, KB_x, Nat.reduceBEq, Nat.reduceAdd, Nat.reduceLT, Nat.reduceLeDiff, Nat.reduceEqDiff, reduceIte, Int.reduceEq, reduceCtorEq, fx, sx, zx, List.length_map, hlong, e1, e2, hawake]
        exact hbr
      · have e2 : ((60 : Int) < (choices.length : Int)) = False := by simp only [eq_iff_iff, iff_false]; omega
        have hg := given_ok row (by omega) s.enter hw.enter
        have h1 := forkfollow_ok l hok row (by omega) choices (by omega) links hcalls s.enter hw.enter
        have h2 := ref24follow_ok l hok row (by omega) choices (by omega) links s.enter hw.enter
        have hfo := hok.follow row choices links
        have hsm := same20_ok (followP l row choices links).1 hfo.ok hfo.len (fun f _ => by simp [sameP]) s.enter hw.enter
        simp only [tupR, fx, sx, zx] at hg h1 h2 hsm
        have e3 : ((followP l row choices links).2 = (followP l row choices links).2) = True := by simp
        simp only [c_touchstonelaw24_ForkFollows, go_sem, W_cond2, WO_guard3, WE_guard3, WQ_guard3, KB_n, KB_x, Nat.reduceBEq, Nat.reduceAdd, Nat.reduceLT, Nat.reduceLeDiff, Nat.reduceEqDiff, reduceIte, Int.reduceEq, reduceCtorEq, fx, sx, zx, List.length_map, hlong, e1, e2, hawake, hg, h1, h2, hsm, e3]
        exact hbr
  · rw [hlg] at hlong
    simp only [c_touchstonelaw24_ForkFollows, go_sem, W_cond2, WO_guard3, WE_guard3, WQ_guard3, KB_n, KB_x, Nat.reduceBEq, Nat.reduceAdd, Nat.reduceLT, Nat.reduceLeDiff, Nat.reduceEqDiff, reduceIte, Int.reduceEq, reduceCtorEq, fx, hlong, hawake]
    exact hbr
end Go.Proofs.Ytgloinighjdhlaa

/-
  The calls of a split that asks for empty: their contract.
-/
set_option maxRecDepth 100000
set_option maxHeartbeats 4000000
set_option linter.unusedSimpArgs false
set_option linter.constructorNameAsVariable false
namespace Go.Proofs.Ytgloinighjdhlaa
open Go.Proofs.Ytgloinighjdhlaa.Am
theorem callsOk_empty (l : List FT) (ho : FOk l) (n : Int) (links : Bool) : CallsOk l n true links := by
  intro s q B0 H
  have H1 := H.new (.cells 30 [.i .i64 n, .b true])
  have hlo : min q.lo q.nb ≤ s.en.lo := Nat.le_trans (Nat.min_le_left _ _) H.lo
  have hnb : s.nb ≤ min q.lo q.nb := by have := H.over.lo; have := H.over.nb; omega
  have H2 := H1.setLo (m := min q.lo q.nb) hlo hnb
  refine ⟨_, _, s.en, _, callsE_ok n links q, H2, by simp [answers], fun j r hr => ?_⟩
  have hans : answers l n true links = [wholeP l n, moreP l n] := by simp [answers]
  rw [hans] at hr
  cases j with
  | zero =>
    simp only [List.getElem?_cons_zero, Option.some.injEq] at hr
    subst hr
    refine ⟨_, _, rfl, fun u a0 ha hB hw => ?_⟩
    have hb := hB (q.nb, .cells 30 [.i .i64 n, .b true]) List.mem_cons_self
    exact calls1_ok l ho ha hw hb.1 hb.2
  | succ j => cases j with
    | zero =>
      simp only [List.getElem?_cons_succ, List.getElem?_cons_zero, Option.some.injEq] at hr
      subst hr
      refine ⟨_, _, rfl, fun u a0 ha hB hw => ?_⟩
      have hb := hB (q.nb, .cells 30 [.i .i64 n, .b true]) List.mem_cons_self
      exact calls2_ok l ho ha hw hb.1 hb.2
    | succ j => simp at hr
end Go.Proofs.Ytgloinighjdhlaa

/-
  The calls of a split, a Kind each: what is left behind the iterator; the yield's codes.
-/
set_option maxRecDepth 100000
set_option maxHeartbeats 4000000
set_option linter.unusedSimpArgs false
set_option linter.constructorNameAsVariable false
namespace Go.Proofs.Ytgloinighjdhlaa
open Go.Proofs.Ytgloinighjdhlaa.Am
theorem leave_low {s s1 : St} {v : AV} (h : s1.lo < s.nb) : Am.leave s s1 v = { s1 with lo := min s.lo s1.lo } := by
  unfold Am.leave
  have : Nat.ble s.nb s1.lo = false := by
    rw [Bool.eq_false_iff]
    intro hh
    rw [Nat.ble_eq] at hh
    omega
  rw [this, Bool.false_and, if_neg (by simp)]
end Go.Proofs.Ytgloinighjdhlaa

/-
  The calls of a split, a Kind each: one round of fork.kinds with the yield of Split.calls.
-/
set_option maxRecDepth 100000
set_option maxHeartbeats 4000000
set_option linter.unusedSimpArgs false
set_option linter.constructorNameAsVariable false
namespace Go.Proofs.Ytgloinighjdhlaa
open Go.Proofs.Ytgloinighjdhlaa.Am
attribute [local irreducible] W WO WE WQ WD Tr.get Tr.set
abbrev kA : C := subC c_fork_Split_calls.body [1, 1, 1, 0, 1, 0, 0]
abbrev kC : C := subC c_fork_Split_calls.body [1, 1, 1, 0, 1, 0, 1]
theorem set3 {α : Type} {B : List α} {i1 i2 : Nat} {y l0 l1 : α} (h : i1 ≠ i2) (h2 : B[i2]? = some l0) : ((B.set i2 l1).set i1 y).set i2 l0 = B.set i1 y := by
  rw [List.set_comm _ _ h.symm, List.set_set, List.set_comm _ _ h, set_same h2]
theorem kround {s q : St} {n : En} {B : List (Nat × Box)} {i1 i2 k ido b j : Nat} {e : Tr} {a : AV} {xs : List AV}
    (H : Hp s q n [⟨1, 64, a, xs, true⟩] B) (hi1 : B[i1]? = some (ido, .cells 62 [a])) (hi2 : B[i2]? = some (k, .loop 0 none e [14] kA kC)) (hx : xs.length < 8) (g2 : e.get 2 = .p b 0) (g5 : e.get 5 = .p ido 0) :
    ∃ q' a' kb, callV (lim prog) (.yld k) [.i .u8 (j : Nat)] q = some (.b true, q') ∧ Hp s q' n [⟨1, 64, a', xs ++ [.fn f_fork_Split_calls_3 [.p b 0, .p kb 0]], true⟩] ((kb, .cells 5 [.i .u8 (j : Nat)]) :: B.set i1 (ido, .cells 62 [a'])) ∧ q'.lo ≤ ido := by
  have hne : i1 ≠ i2 := by
    rintro rfl
    rw [hi1] at hi2
    simp at hi2
  have hk := (H.box hi2).1
  simp only at hk
  obtain ⟨o, q', hc, hK⟩ := callY_W (K := fun o q' => o = none ∧ ∃ a' kb, Hp s q' n [⟨1, 64, a', xs ++ [.fn f_fork_Split_calls_3 [.p b 0, .p kb 0]], true⟩] ((kb, .cells 5 [.i .u8 (j : Nat)]) :: B.set i1 (ido, .cells 62 [a'])) ∧ q'.lo ≤ ido) (t := e.set 10 14 (.i .u8 (j : Nat))) (args := [.i .u8 (j : Nat)]) hk rfl (by
    simp only [kA, c_fork_Split_calls, subC, go_sem, W_cond2, WO_guard3, WE_guard3, WQ_guard3, KB_n, KB_x, Nat.reduceBEq, Nat.reduceAdd, Nat.reduceLT, Nat.reduceLeDiff, Nat.reduceEqDiff, reduceIte, Int.reduceEq, reduceCtorEq]
    have H1 := H.new (.cells 5 [.i .u8 0])
    obtain ⟨q1, d1, H2, n1, _⟩ := H1.st 0 (off := 0) (v := .i .u8 (j : Nat)) rfl (by simp) ⟨rfl, rfl⟩
    simp only [List.set_cons_zero] at H2
    have hk1 := (H2.box (i := i2 + 1) (by simpa using hi2)).1
    have H3 := H2.setBox (i := i2 + 1) (id := k) (by simpa using hi2) (.loop 1 none e [14] kA kC)
    obtain ⟨q2, hq2⟩ : ∃ q2, q1.setBox k (.loop 1 none e [14] kA kC) = q2 := ⟨_, rfl⟩
    rw [hq2] at H3
    simp only [List.set_cons_succ] at H3
    have hb1 : (B.set i2 (k, Box.loop 1 none e [14] kA kC))[i1]? = some (ido, .cells 62 [a]) := by rw [List.getElem?_set_ne hne.symm]; exact hi1
    have la := H3.ld (i1 + 1) (off := 0) (v := a) (by simpa using hb1) rfl
    obtain ⟨a2, q4, d4, H4, n4, p4⟩ := H3.app 0 (y := .sl 1 [.fn f_fork_Split_calls_3 [.p b 0, .p q.nb 0]] .full) (ys := [.fn f_fork_Split_calls_3 [.p b 0, .p q.nb 0]]) rfl (by simp [elems, St.ok]) (by simp; omega)
    have lr := (H3.rld 0 rfl).1
    have p4 := p4 (by simp)
    have rc := H4.rcells 0 rfl
    obtain ⟨q5, d5, H5, n5, lo5⟩ := H4.st (i1 + 1) (id := ido) (T := 62) (cs := [a]) (off := 0) (v := a2) (by simpa using hb1) (by simp) ⟨rc.1, rc.2.1⟩
    simp only [List.set_cons_succ, List.set_cons_zero] at H5
    have hb2 : ((B.set i2 (k, Box.loop 1 none e [14] kA kC)).set i1 (ido, .cells 62 [a2]))[i2]? = some (k, Box.loop 1 none e [14] kA kC) := by
      rw [List.getElem?_set_ne hne, List.getElem?_set, if_pos rfl, if_pos (by rw [List.getElem?_eq_some_iff] at hi2; exact hi2.1)]
    have hk5 := (H5.box (i := i2 + 1) (p := (k, Box.loop 1 none e [14] kA kC)) (by simpa using hb2)).1
    have H6 := H5.setBox (i := i2 + 1) (id := k) (X := Box.loop 1 none e [14] kA kC) (by simpa using hb2) (.loop 0 none e [14] kA kC)
    rw [List.set_cons_succ, set3 hne hi2] at H6
    have hal : allLen 1 [AV.fn f_fork_Split_calls_3 [.p b 0, .p q.nb 0]] = true := rfl
    simp only [go_sem, W_cond2, WO_guard3, WE_guard3, WQ_guard3, KB_n, KB_x, Nat.reduceBEq, Nat.reduceAdd, Nat.reduceLT, Nat.reduceLeDiff, Nat.reduceEqDiff, reduceIte, Int.reduceEq, reduceCtorEq, d1]
    refine ⟨_, _, _, _, hk1, ?_⟩
    rw [hq2]
    simp only [kC, c_fork_Split_calls, subC, go_sem, W_cond2, WO_guard3, WE_guard3, WQ_guard3, KB_n, KB_x, Nat.reduceBEq, Nat.reduceAdd, Nat.reduceLT, Nat.reduceLeDiff, Nat.reduceEqDiff, reduceIte, Int.reduceEq, reduceCtorEq, g2, g5, la, lr, hal, d4, d5]
    exact ⟨_, _, _, _, hk5, rfl, a2, q.nb, H6, lo5 p4.2⟩)
  obtain ⟨rfl, a', kb, H', hlo⟩ := hK
  exact ⟨q', a', kb, hc, H', hlo⟩
def KI (s q : St) (n : En) (e : Tr) (ido k b : Nat) (Bf : List (Nat × Box)) (J : Nat) : Prop :=
  ∃ a xs B, Hp s q n [⟨1, 64, a, xs, true⟩] B ∧ (ido, Box.cells 62 [a]) ∈ B ∧ (k, Box.loop 0 none e [14] kA kC) ∈ B ∧ (∀ p ∈ Bf, p ∈ B) ∧ (J ≠ 0 → q.lo ≤ ido) ∧ xs.length = J ∧
    ∀ j, j < J → ∃ kb, xs[j]? = some (.fn f_fork_Split_calls_3 [.p b 0, .p kb 0]) ∧ (kb, Box.cells 5 [.i .u8 (j : Nat)]) ∈ B
theorem mem_set {α : Type} {l : List α} {i : Nat} {a b x : α} (hi : l[i]? = some b) (hx : x ∈ l) (hne : x ≠ b) : x ∈ l.set i a := by
  obtain ⟨j, hj⟩ := List.mem_iff_getElem?.1 hx
  refine List.mem_iff_getElem?.2 ⟨j, ?_⟩
  rw [List.getElem?_set_ne, hj]
  rintro rfl
  rw [hi] at hj
  exact hne (Option.some.inj hj).symm
theorem kround2 {s q : St} {n : En} {e : Tr} {ido k b J : Nat} {Bf : List (Nat × Box)} (hbf : ∀ p ∈ Bf, ∀ c, p.2 ≠ Box.cells 62 c) (h : KI s q n e ido k b Bf J) (hJ : J < 8) (g2 : e.get 2 = .p b 0) (g5 : e.get 5 = .p ido 0) :
    ∃ q', callV (lim prog) (.yld k) [.i .u8 (J : Nat)] q = some (.b true, q') ∧ KI s q' n e ido k b Bf (J + 1) := by
  obtain ⟨a, xs, B, H, h1, h2, h3, h4, h5, h6⟩ := h
  obtain ⟨i1, hi1⟩ := List.mem_iff_getElem?.1 h1
  obtain ⟨i2, hi2⟩ := List.mem_iff_getElem?.1 h2
  obtain ⟨q', a', kb, hc, H', hlo⟩ := kround (j := J) H hi1 hi2 (by omega) g2 g5
  refine ⟨q', hc, a', _, _, H', ?_, ?_, ?_, fun _ => hlo, by simp [h5], fun j hj => ?_⟩
  · exact List.mem_cons_of_mem _ (List.mem_iff_getElem?.2 ⟨i1, by rw [List.getElem?_set, if_pos rfl, if_pos (by rw [List.getElem?_eq_some_iff] at hi1; exact hi1.1)]⟩)
  · exact List.mem_cons_of_mem _ (mem_set hi1 h2 (by simp))
  · exact fun p hp => List.mem_cons_of_mem _ (mem_set hi1 (h3 p hp) fun he => hbf p hp [a] (by rw [he]))
  · by_cases hjj : j < J
    · obtain ⟨kb', k1, k2⟩ := h6 j hjj
      refine ⟨kb', ?_, List.mem_cons_of_mem _ (mem_set hi1 k2 (by simp))⟩
      rw [List.getElem?_append_left (by omega), k1]
    · obtain rfl : j = J := by omega
      refine ⟨kb, ?_, List.mem_cons_self⟩
      rw [List.getElem?_append_right (by omega), h5]
      simp
theorem KI.box {s q : St} {n : En} {e : Tr} {ido k b J : Nat} {Bf : List (Nat × Box)} (h : KI s q n e ido k b Bf J) {p : Nat × Box} (hp : p ∈ Bf) : q.box? p.1 = some p.2 ∧ p.1 < q.nb := by
  obtain ⟨a, xs, B, H, h1, h2, h3, _⟩ := h
  obtain ⟨i, hi⟩ := List.mem_iff_getElem?.1 (h3 p hp)
  exact ⟨(H.box hi).1, (H.box hi).2.2⟩
end Go.Proofs.Ytgloinighjdhlaa

/-
  The calls of a split, a Kind each: fork.kinds' iterator, and the calls' contract.
-/
set_option maxRecDepth 100000
set_option maxHeartbeats 4000000
set_option linter.unusedSimpArgs false
set_option linter.constructorNameAsVariable false
namespace Go.Proofs.Ytgloinighjdhlaa
open Go.Proofs.Ytgloinighjdhlaa.Am
attribute [local irreducible] W WO WE WQ WD Tr.get Tr.set
theorem _root_.Go.Proofs.Ytgloinighjdhlaa.Am.Hp.leaveL {s0 s s1 : St} {n : En} {lo1 : Nat} {R R1 : List RA} {B B1 : List (Nat × Box)} (H : Hp s0 s n R B) (K : Hp s0 s1 ⟨lo1, s.nb, s.nt⟩ R1 B1) : Hp s0 { s1 with lo := min s.lo s1.lo } n R1 B1 := by
  have hnb : s.nb ≤ s1.nb := K.nb
  have hnt : s.nt ≤ s1.nt := K.nt
  refine { wf := K.wf.lo _, over := K.over.setLo ?_, lo := by have := H.lo; simp only; omega, nb := by have := H.nb; simp only; omega, nt := by have := H.nt; simp only; omega, rows := fun hr => (K.rows hr).mono (Nat.le_refl _) fun _ _ => rfl, apart := K.apart, box := K.box, bapart := K.bapart }
  have := H.over.lo
  have := K.over.lo
  omega
theorem _root_.Go.Proofs.Ytgloinighjdhlaa.Am.W_rf3 {prog : Nat → Option Fun} {f : X} {ps : List Nat} {a b : C} {e : Tr} {s : St} {Q : Ex → Tr → St → Prop} {g : Nat} {caps : List AV} (hf : f.ev e = .fn g caps)
    (h : ∀ e', e' = e → ∃ r s', (lim prog).call g (.yld s.nb :: caps) (s.new (.loop 0 none e' ps a b)) = some (r, s') ∧ ∃ st p tm ps' a' b', s'.box? s.nb = some (.loop st p tm ps' a' b') ∧ st ≠ 1 ∧ match p with
      | none => Q .n e' (s'.setBox s.nb .used)
      | some (.exit i) => Q (.x i) e' (s'.setBox s.nb .used)
      | some .ret => Q .r e' (s'.setBox s.nb .used)
      | _ => False) : W (lim prog) (.rf f ps a b) e s Q := by
  obtain ⟨r, s', h1, h2⟩ := h e rfl
  exact W_rf hf h1 h2
theorem kinds1_ok {s q : St} {n : En} {e0 : Tr} {ido k b kb : Nat} {links : Bool} {Bf : List (Nat × Box)} (hbf : ∀ p ∈ Bf, ∀ c, p.2 ≠ Box.cells 62 c) (h : KI s q n e0 ido k b Bf 0) (hkb : (kb, Box.cells 4 [.b links]) ∈ Bf) (g2 : e0.get 2 = .p b 0) (g5 : e0.get 5 = .p ido 0) :
    ∃ q', (lim prog).call f_fork_kinds_1 [.yld k, .p kb 0] q = some (.tup [], q') ∧ KI s q' n e0 ido k b Bf (mostK links + 1) := by
  have hmk : mostK links = 2 ∧ links = false ∨ mostK links = 3 ∧ links = true := by cases links <;> simp [mostK]
  have hido : ido < q.nb := by
    obtain ⟨a, xs, B, H, h1, _⟩ := h
    obtain ⟨i, hi⟩ := List.mem_iff_getElem?.1 h1
    exact (H.box hi).2.2
  obtain ⟨r, q', hcall, rfl, hres⟩ := fn_G (f := f_fork_kinds_1) (args := [.yld k, .p kb 0]) (s := q) (Post := fun r q' => r = .tup [] ∧ KI s q' n e0 ido k b Bf (mostK links + 1)) p_fork_kinds_1 rfl rfl (by
    have hend : ∀ q1, KI s q1 q.en e0 ido k b Bf (mostK links + 1) → KH q [] (fun r q' => r = .tup [] ∧ KI s q' n e0 ido k b Bf (mostK links + 1)) (some ([], q1)) := fun q1 hq1 => by
      obtain ⟨a, xs, B, H, h1, h2, h3, h4, h5, h6⟩ := hq1
      have hlo := h4 (by omega)
      refine ⟨_, _, rfl, rfl, ?_⟩
      rw [leave_low (by omega)]
      obtain ⟨_, _, _, H0, _⟩ := h
      exact ⟨a, xs, B, H0.leaveL H, h1, h2, h3, fun _ => by simp only; omega, h5, h6⟩
    have hz0 : wkZ c_fork_kinds_1.cin [.yld k, .p kb 0] = [.yld k, .p kb 0] := by simp [c_fork_kinds_1, wkZ, wk]
    rw [hz0]
    simp only [c_fork_kinds_1, go_sem, W_cond2, WO_guard3, WE_guard3, WQ_guard3, KB_n, KB_x, Nat.reduceBEq, Nat.reduceAdd, Nat.reduceLT, Nat.reduceLeDiff, Nat.reduceEqDiff, reduceIte, Int.reduceEq, reduceCtorEq]
    refine W_loop (fun x e q1 => ∃ j : Nat, j + x = 4 ∧ KI s q1 q.en e0 ido k b Bf (min j (mostK links + 1)) ∧ e.get 0 = .yld k ∧ e.get 1 = .p kb 0 ∧ e.get 4 = .i .u8 (j : Nat)) ?_ 4 _ _ ?_
    · rintro x e q1 ⟨j, hn, hK, g0, g1, g4⟩
      have lda := ld_box (s := q1) (v := .b links) (off := 0) (hK.box hkb).1 rfl
      by_cases hj : j < 4
      · have h1 : ((j : Int) < 4) = True := by simp only [eq_iff_iff, iff_true]; omega
        have hw1 := wrap_u8 (show j ≤ 3 by omega)
        by_cases hjk : j < mostK links + 1
        · rw [Nat.min_eq_left (by omega)] at hK
          obtain ⟨q2, hstep, hK2⟩ := kround2 hbf hK (by omega) g2 g5
          by_cases j3 : j = 3
          · have e1 : ((j : Int) ≠ 3) = False := by simp [j3]
            have hlt : links = true := by
              rcases hmk with ⟨h2, _⟩ | ⟨_, h3⟩
              · omega
              · exact h3
            rw [hlt] at lda
            simp only [go_sem, W_cond2, WO_guard3, WE_guard3, WQ_guard3, KB_n, KB_x, Nat.reduceBEq, Nat.reduceAdd, Nat.reduceLT, Nat.reduceLeDiff, Nat.reduceEqDiff, reduceIte, Int.reduceEq, reduceCtorEq, g0, g1, g4, h1, e1, lda, hstep, hw1]
            exact ⟨x - 1, by omega, j + 1, by omega, by rw [Nat.min_eq_left (by omega)]; exact hK2, rfl⟩
          · have e1 : ((j : Int) ≠ 3) = True := by simp only [ne_eq, eq_iff_iff, iff_true]; omega
            simp only [go_sem, W_cond2, WO_guard3, WE_guard3, WQ_guard3, KB_n, KB_x, Nat.reduceBEq, Nat.reduceAdd, Nat.reduceLT, Nat.reduceLeDiff, Nat.reduceEqDiff, reduceIte, Int.reduceEq, reduceCtorEq, g0, g1, g4, h1, e1, hstep, hw1]
            exact ⟨x - 1, by omega, j + 1, by omega, by rw [Nat.min_eq_left (by omega)]; exact hK2, rfl⟩
        · rw [Nat.min_eq_right (by omega)] at hK
          have j3 : j = 3 := by omega
          have e1 : ((j : Int) ≠ 3) = False := by simp [j3]
          have hlf : links = false := by
            rcases hmk with ⟨_, h3⟩ | ⟨h2, _⟩
            · exact h3
            · omega
          rw [hlf] at lda
          simp only [go_sem, W_cond2, WO_guard3, WE_guard3, WQ_guard3, KB_n, KB_x, Nat.reduceBEq, Nat.reduceAdd, Nat.reduceLT, Nat.reduceLeDiff, Nat.reduceEqDiff, reduceIte, Int.reduceEq, reduceCtorEq, g0, g1, g4, h1, e1, lda, hw1]
          exact ⟨x - 1, by omega, j + 1, by omega, by rw [Nat.min_eq_right (by omega)]; exact hK, rfl⟩
      · have h1 : ((j : Int) < 4) = False := by simp only [eq_iff_iff, iff_false]; omega
        rw [Nat.min_eq_right (by rcases hmk with ⟨h2, _⟩ | ⟨h2, _⟩ <;> omega)] at hK
        simp only [go_sem, W_cond2, WO_guard3, WE_guard3, WQ_guard3, KB_n, KB_x, Nat.reduceBEq, Nat.reduceAdd, Nat.reduceLT, Nat.reduceLeDiff, Nat.reduceEqDiff, reduceIte, Int.reduceEq, reduceCtorEq, g0, g1, g4, h1]
        exact hend q1 hK
    · simp only [go_sem, W_cond2, WO_guard3, WE_guard3, WQ_guard3, KB_n, KB_x, Nat.reduceBEq, Nat.reduceAdd, Nat.reduceLT, Nat.reduceLeDiff, Nat.reduceEqDiff, reduceIte, Int.reduceEq, reduceCtorEq]
      obtain ⟨a, xs, B, H, h1, h2, h3, h4, h5, h6⟩ := h
      refine ⟨0, by omega, ⟨a, xs, B, H.enter, h1, h2, h3, fun h => absurd (Nat.zero_min _) h, by simpa using h5, fun j hj => absurd hj (by simp)⟩, rfl⟩)
  exact ⟨q', hcall, hres⟩
theorem wkM_id : ∀ xs : List AV, wkM .id xs = xs
  | [] => by simp only [wkM]
  | x :: xs => by
    simp only [wkM, wkM_id xs, List.cons.injEq, and_true]
    rw [wk]
theorem callsOk_kinds (l : List FT) (ho : FOk l) (n : Int) (links : Bool) : CallsOk l n false links := by
  intro s q B0 H
  obtain ⟨r, q1, hcall, vs, n1, B1, rfl, H1, hvl, hspec⟩ := fn_G (f := f_fork_Split_calls) (args := [.agg [.i .i64 n, .b false], .b links]) (s := q) (Post := fun r q1 => ∃ vs n1 B1, r = .ws false 1 vs ∧ Hp s q1 n1 [] B1 ∧ vs.length = mostK links + 1 ∧ ∃ b, (b, Box.cells 30 [.i .i64 n, .b false]) ∈ B1 ∧ ∀ j, j < mostK links + 1 → ∃ kb, vs[j]? = some (.fn f_fork_Split_calls_3 [.p b 0, .p kb 0]) ∧ (kb, Box.cells 5 [.i .u8 (j : Nat)]) ∈ B1) p_fork_Split_calls rfl rfl (by
    have hz0 : wkZ c_fork_Split_calls.cin [.agg [.i .i64 n, .b false], .b links] = [.agg [.i .i64 n, .b false], .b links] := by simp [c_fork_Split_calls, wkZ, wk]
    rw [hz0]
    have H1 := H.enter.new (.cells 30 [.i .i64 n, .b false])
    have l1 := H1.ld 0 (off := 1) (v := .b false) rfl rfl
    have H2 := H1.new (.cells 62 [.nsl])
    have hb1 : (q.enter.new (.cells 30 [.i .i64 n, .b false])).nb = q.enter.nb + 1 := rfl
    obtain ⟨u, hu⟩ : ∃ u, (q.enter.new (.cells 30 [.i .i64 n, .b false])).new (.cells 62 [.nsl]) = u := ⟨_, rfl⟩
    rw [hu] at H2
    have hk := kinds_ok links u
    have hub : u.nb = q.enter.nb + 2 := by rw [← hu]; rfl
    have hlo : u.lo ≤ u.nb := by rw [← hu]; show q.nb ≤ q.nb + 2; omega
    have H3 := (H2.new (.cells 4 [.b links])).setLo (m := min u.lo u.nb) (Nat.le_trans (Nat.min_le_left _ _) H2.lo) (by have := H2.over.lo; have := H2.over.nb; omega)
    obtain ⟨u3, hu3⟩ : ∃ u3, { u.new (.cells 4 [.b links]) with lo := min u.lo u.nb } = u3 := ⟨_, rfl⟩
    rw [hu3] at H3 hk
    have hu3b : u3.nb = u.nb + 1 := by rw [← hu3]; rfl
    rw [hb1] at H3
    simp only [c_fork_Split_calls, go_sem, W_cond2, WO_guard3, WE_guard3, WQ_guard3, KB_n, KB_x, Nat.reduceBEq, Nat.reduceAdd, Nat.reduceLT, Nat.reduceLeDiff, Nat.reduceEqDiff, reduceIte, Int.reduceEq, reduceCtorEq, List.length_cons, List.length_nil, Nat.zero_add, l1, hu, hk]
    refine W_rf3 (g := f_fork_kinds_1) (caps := [.p u.nb 0]) (by simp only [go_sem, W_cond2, WO_guard3, WE_guard3, WQ_guard3, KB_n, KB_x, Nat.reduceBEq, Nat.reduceAdd, Nat.reduceLT, Nat.reduceLeDiff, Nat.reduceEqDiff, reduceIte, Int.reduceEq, reduceCtorEq]) fun e he => ?_
    have g2 : e.get 2 = .p q.enter.nb 0 := by rw [he]; simp only [go_sem, W_cond2, WO_guard3, WE_guard3, WQ_guard3, KB_n, KB_x, Nat.reduceBEq, Nat.reduceAdd, Nat.reduceLT, Nat.reduceLeDiff, Nat.reduceEqDiff, reduceIte, Int.reduceEq, reduceCtorEq]
    have g5 : e.get 5 = .p (q.enter.nb + 1) 0 := by rw [he]; simp only [go_sem, W_cond2, WO_guard3, WE_guard3, WQ_guard3, KB_n, KB_x, Nat.reduceBEq, Nat.reduceAdd, Nat.reduceLT, Nat.reduceLeDiff, Nat.reduceEqDiff, reduceIte, Int.reduceEq, reduceCtorEq]
    have H4 := (H3.new (.loop 0 none e [14] kA kC)).addFull 1 64 true .nil
    have hKI : KI s (u3.new (.loop 0 none e [14] kA kC)) q.en e (q.enter.nb + 1) u3.nb q.enter.nb [(u.nb, .cells 4 [.b links]), (q.enter.nb, .cells 30 [.i .i64 n, .b false])] 0 :=
      ⟨.nsl, [], _, H4, by simp, by simp, by simp, fun h => absurd rfl h, rfl, fun j hj => absurd hj (by omega)⟩
    obtain ⟨q', hc, a, xs, B, H5, k1, k2, k3, k4, k5, k6⟩ := kinds1_ok (kb := u.nb) (links := links) (by simp) hKI (by simp) g2 g5
    obtain ⟨i2, hi2⟩ := List.mem_iff_getElem?.1 k2
    refine ⟨_, _, hc, _, _, _, _, _, _, (H5.box hi2).1, by decide, ?_⟩
    have H6 := H5.setBox hi2 .used
    obtain ⟨q6, hq6⟩ : ∃ q6, q'.setBox u3.nb .used = q6 := ⟨_, rfl⟩
    rw [hq6] at H6
    obtain ⟨i1, hi1⟩ := List.mem_iff_getElem?.1 (mem_set (a := (u3.nb, Box.used)) hi2 k1 (by simp))
    have la := H6.ld i1 (off := 0) (v := a) hi1 rfl
    obtain ⟨a3, q7, d3, t3, H7, n3⟩ := H6.pub 0 rfl
    have d4 : pubA q6 a = some (a3, q7) := by
      rw [pubA_row (H6.rows (i := 0) rfl)]; exact d3
    have lr := (H6.rld 0 rfl).1
    simp only [hq6, go_sem, W_cond2, WO_guard3, WE_guard3, WQ_guard3, KB_n, KB_x, Nat.reduceBEq, Nat.reduceAdd, Nat.reduceLT, Nat.reduceLeDiff, Nat.reduceEqDiff, reduceIte, Int.reduceEq, reduceCtorEq, g2, g5, la, lr, d4]
    simp only at t3
    obtain ⟨kb0, k60, _⟩ := k6 0 (by omega)
    have hgo : AV.refs.go xs = true := by
      cases xs with
      | nil => simp at k60
      | cons v vs =>
        simp only [List.getElem?_cons_zero, Option.some.injEq] at k60
        subst k60
        rfl
    have hrf : (tupOf [a3]).refs = true := by
      simp only [tupOf]
      rcases t3 with ⟨_, rfl⟩ | ⟨_, rfl⟩ | rfl | rfl | rfl | rfl <;> first | exact hgo | cases hgo
    have hwk : tupOf (wkZ [.sl 1 .id] [a3]) = .ws false 1 xs := by
      simp only [wkZ, tupOf]
      exact t3.wk (wkM_id xs)
    have H8 := (H.leaveR (n1 := q.en) (v := tupOf [a3]) H7.dropR hrf)
    refine ⟨_, _, rfl, xs, _, _, hwk, H8, k5, q.enter.nb, mem_set hi2 (k3 _ (by simp)) (by simp), fun j hj => ?_⟩
    obtain ⟨kb, z1, z2⟩ := k6 j hj
    exact ⟨kb, z1, mem_set hi2 z2 (by simp)⟩)
  obtain ⟨b, hb, hspec⟩ := hspec
  have hans : answers l n false links = (List.range (mostK links + 1)).map fun k => knowP l n k := by simp [answers]
  refine ⟨vs, q1, n1, B1, hcall, H1, by rw [hans]; simpa using hvl, fun j r hr => ?_⟩
  rw [hans, List.getElem?_map] at hr
  by_cases hj : j < mostK links + 1
  · rw [List.getElem?_range hj] at hr
    simp only [Option.map_some, Option.some.injEq] at hr
    subst hr
    obtain ⟨kb, z1, z2⟩ := hspec j hj
    refine ⟨_, _, z1, fun u a0 ha hB hw => ?_⟩
    have h1 := hB _ hb
    have h2 := hB _ z2
    exact calls3_ok l ho ha hw h1.1 h1.2 h2.1 h2.2
  · rw [List.getElem?_eq_none (by simpa using hj)] at hr
    simp at hr
theorem callsOk (l : List FT) (ho : FOk l) (n : Int) (em links : Bool) : CallsOk l n em links := by
  cases em
  · exact callsOk_kinds l ho n links
  · exact callsOk_empty l ho n links
end Go.Proofs.Ytgloinighjdhlaa

/-
  ForkFollows: the law.
-/
set_option maxRecDepth 100000
namespace Go.Proofs.Ytgloinighjdhlaa
open Go.Proofs.Ytgloinighjdhlaa.Am
theorem forkFollows_law (l : List FT) (ho : ∀ f ∈ l, f.Ok) (row : List (Int × Bool)) (choices : List Int) (links : Bool) (s : St) (hw : Wf s) :
    (lim prog).call f_touchstonelaw24_ForkFollows [fx l, sx row, zx choices, .b links] s = some (.b true, s) :=
  forkFollows_ok l ho row choices links (fun l h n em => callsOk l h n em links) s hw
end Go.Proofs.Ytgloinighjdhlaa
