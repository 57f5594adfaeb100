/-
  ground.names: the names of two lists, in their order, as an iterator.
-/
import Derived.Test.YtbfgoopcnkeblaaGreatLTerm9
import Derived.Test.YtbfgoopcnkeblaaGreatAmRg
import Derived.Test.YtbfgoopcnkeblaaGreatAmKeep
set_option linter.all false
set_option linter.unusedVariables false
set_option linter.unusedSimpArgs false
set_option linter.unusedSectionVars false
set_option maxRecDepth 100000
set_option maxHeartbeats 4000000
namespace Go.Proofs.YtbfgoopcnkeblaaGreat
open Go.Proofs.YtbfgoopcnkeblaaGreat.Am
attribute [local irreducible] W WO WE WQ WD Tr.get Tr.set
theorem MT {s s1 : St} {v : AV} (h : v.refs = true) : leave s s1 v = { s1 with lo := min s.lo s1.lo } := by
 unfold Am.leave
 rw [h, Bool.not_true, Bool.and_false, if_neg (by simp)]
theorem Ss (L : List (List Nat)) (s : St) : (lim prog).call A5 [tx L] s =
    some (.fn AH [.p s.nb 0], { s.new (.cells 23 [tx L]) with lo := min s.lo s.nb }) := by
 obtain ⟨r, s', h, rfl, rfl⟩ := fn_G (f := A5) (args := [tx L]) (s := s) (Post := fun r s' => r = .fn AH [.p s.nb 0] ∧ s' = { s.new (.cells 23 [tx L]) with lo := min s.lo s.nb }) DV rfl rfl (by
  have hz0 : wkZ AW.cin [tx L] = [tx L] := by simp [AW, wkZ, wk, tx]
  rw [hz0]
  have c1 : (tx L).cells = [tx L] := rfl
  have hl1 : ∀ a : AV, [a].length = 1 := fun _ => rfl
  simp only [AW, go_sem, AD, AA, AC, AB, KB_n, KB_x, Nat.reduceBEq, Nat.reduceAdd, Nat.reduceLT, Nat.reduceLeDiff, Nat.reduceEqDiff, reduceIte, Int.reduceEq, reduceCtorEq, c1, hl1]
  exact ⟨_, _, rfl, rfl, MT rfl⟩)
 exact h
theorem Q2 (id : Nat) (s : St) : (lim prog).call Ao [.m id] s =
    some (.fn AQ [.p s.nb 0], { s.new (.cells 83 [.m id]) with lo := min s.lo s.nb }) := by
 obtain ⟨r, s', h, rfl, rfl⟩ := fn_G (f := Ao) (args := [.m id]) (s := s) (Post := fun r s' => r = .fn AQ [.p s.nb 0] ∧ s' = { s.new (.cells 83 [.m id]) with lo := min s.lo s.nb }) EB rfl rfl (by
  have hl1 : ∀ a : AV, [a].length = 1 := fun _ => rfl
  simp only [Aq, go_sem, AD, AA, AC, AB, KB_n, KB_x, Nat.reduceBEq, Nat.reduceAdd, Nat.reduceLT, Nat.reduceLeDiff, Nat.reduceEqDiff, reduceIte, Int.reduceEq, reduceCtorEq, hl1]
  exact ⟨_, _, rfl, rfl, MT rfl⟩)
 exact h
def oneM (L : List (List Nat)) : List (AV × AV) := L.map fun y => (.s y, .i .i64 1)
theorem XE {L : List (List Nat)} {y : List Nat} (h : y ∉ L) : Jl 1 (.s y) (oneM L) = some none := by
 induction L with
 | nil => rfl
 | cons a L ih =>
   simp only [List.mem_cons, not_or] at h
   have := ih h.2
   unfold oneM at this
   simp only [oneM, List.map_cons, Jl, Lw, decide_eq_false h.1, this]
theorem ZK {L : List (List Nat)} {y : List Nat} (h : y ∉ L) : updM 1 (.s y) (.i .i64 1) (oneM L) = some (oneM (L ++ [y])) := by
 induction L with
 | nil => rfl
 | cons a L ih =>
   simp only [List.mem_cons, not_or] at h
   have := ih h.2
   unfold oneM at this
   simp only [oneM, List.map_cons, updM, Lw, decide_eq_false h.1, this, List.cons_append]
theorem R2 : ∀ L : List (List Nat), On (oneM L) = some L
 | [] => rfl
 | a :: L => by
   have := R2 L
   unfold oneM at this
   simp only [oneM, List.map_cons, On, this]
theorem P7 : ∀ {L : List (List Nat)}, L.Pairwise (fun a b => leN a b = true) → sortF L = L
 | [], _ => rfl
 | a :: L, h => by
   rw [List.pairwise_cons] at h
   rw [sortF, P7 h.2]
   cases L with
   | nil => rfl
   | cons b L => rw [insN, h.1 b (by simp)]; rfl
theorem Q3 {args : List AV} {s : St} : (lim prog).call B7 args s = IH 87 args s := by
 rw [E8]
 unfold GY
 rw [Ha]
 rfl
theorem Su {L : List (List Nat)} (hp : L.Pairwise fun a b => leN a b = true) (hl : L.length ≤ 2 ^ 40) (hs : ∀ l ∈ L, l.length ≤ 2 ^ 47 - 4096) {q : St} {b id T : Nat} (hb : q.box? b = some (.cells T [.m id])) (hm : q.box? id = some (.map (oneM L))) :
    (lim prog).call B7 [.fn AQ [.p b 0]] q = some (if L.isEmpty then .nsl else .sl 1 (L.map .s) .shut, q) := by
 rw [Q3]
 have hc : L.length ≤ 2 ^ 40 ∧ (L.all fun l => decide (l.length ≤ 2 ^ 47 - 4096)) = true := ⟨hl, by
  rw [List.all_eq_true]; intro l h; rw [decide_eq_true_eq]; exact hs l h⟩
 unfold IH
 simp only [show AQ = 87 from rfl, if_true, hb, hm, R2, if_pos hc, P7 hp]
theorem XF {s0 s : St} {n : En} {R : List RA} {B : List (Nat × Box)} (H : Hp s0 s n R B) {L : List (List Nat)} (hp : L.Pairwise fun a b => leN a b = true) (hd : L.Nodup) (hl : L.length < 2 ^ 34) (hs : ∀ l ∈ L, l.length ≤ 2 ^ 47 - 4096) :
    ∃ b q, (lim prog).call FB [.nsl, tx L] s = some (.fn AH [.p b 0], q) ∧ Hp s0 q n R ((b, .cells 23 [tx L]) :: B) ∧ s.nb ≤ b := by
 obtain ⟨r, q, hc, b, rfl, hH, hb⟩ := fn_G (f := FB) (args := [.nsl, tx L]) (s := s) (Post := fun r q => ∃ b, r = .fn AH [.p b 0] ∧ Hp s0 q n R ((b, .cells 23 [tx L]) :: B) ∧ s.nb ≤ b) Mm rfl rfl (by
  have hz0 : wkZ Cf.cin [.nsl, tx L] = [tx [], tx L] := by simp [Cf, wkZ, wk, tx]
  rw [hz0]
  have H1 := H.enter.new (.map [])
  obtain ⟨q1, hq1⟩ : ∃ q1, s.enter.new (.map []) = q1 := ⟨_, rfl⟩
  have e0 : s.enter.nb = s.nb := rfl
  rw [hq1, e0] at H1
  have hcl := Pf q1
  have H2 := H1.setLo (m := min q1.lo q1.nb) (Nat.le_trans (Nat.min_le_left _ _) H1.lo) (by have := H1.over.lo; have := H1.over.nb; omega)
  obtain ⟨q2, hq2⟩ : ∃ q2, { q1 with lo := min q1.lo q1.nb } = q2 := ⟨_, rfl⟩
  have hq2' : ({ nb := q1.nb, boxes := q1.boxes, nt := q1.nt, toks := q1.toks, lo := min q1.lo q1.nb } : St) = q2 := hq2
  rw [hq2] at H2
  have hmb : s.nb < q2.nb := (H2.box (i := 0) rfl).2.2
  have hend : ∀ (q' : St), Hp s0 q' s.en R ((s.nb, .map (oneM L)) :: B) → s.nb ≤ q'.nb → ∃ (q4 q5 : St) (a : AV),
      (lim prog).call Ao [.m s.nb] q' = some (.fn AQ [.p q'.nb 0], q4) ∧
      (lim prog).call B7 [.fn AQ [.p q'.nb 0]] q4 = some (a, q4) ∧ (∀ u, Am.pub u a = some (a, u)) ∧
      (lim prog).call A5 [a] q4 = some (.fn AH [.p q4.nb 0], q5) ∧
      ∃ b, AV.fn AH [.p q4.nb 0] = .fn AH [.p b 0] ∧ Hp s0 (Am.leave s q5 (BW [AV.fn AH [.p q4.nb 0]])) n R ((b, .cells 23 [tx L]) :: B) ∧ s.nb ≤ b := by
   intro q' H' hn'
   have hk := Q2 s.nb q'
   have K1 := (H'.new (.cells 83 [.m s.nb])).setLo (m := min q'.lo q'.nb) (Nat.le_trans (Nat.min_le_left _ _) H'.lo) (by have := H'.over.lo; have := H'.over.nb; omega)
   obtain ⟨q4, hq4⟩ : ∃ q4, { q'.new (.cells 83 [.m s.nb]) with lo := min q'.lo q'.nb } = q4 := ⟨_, rfl⟩
   rw [hq4] at K1 hk
   have hso := Su hp (by omega) hs (K1.box (i := 0) rfl).1 (K1.box (i := 1) rfl).1
   have hv : (lim prog).call A5 [if L.isEmpty then .nsl else .sl 1 (L.map .s) .shut] q4 = some (.fn AH [.p q4.nb 0], { q4.new (.cells 23 [tx L]) with lo := min q4.lo q4.nb }) := by
    refine (Qz (args := [if L.isEmpty then .nsl else .sl 1 (L.map .s) .shut]) (args' := [tx L]) DV rfl rfl ?_).trans (Ss L q4)
    cases L with
    | nil => simp [AW, wkZ, wk, tx]
    | cons a L => 
      have := LZ (a :: L)
      simp [AW, wkZ, wk, tx] at this ⊢
      exact this
   have K2 := (K1.new (.cells 23 [tx L])).setLo (m := min q4.lo q4.nb) (Nat.le_trans (Nat.min_le_left _ _) K1.lo) (by have := K1.over.lo; have := K1.over.nb; omega)
   have hpa : ∀ u, Am.pub u (if L.isEmpty then AV.nsl else .sl 1 (L.map .s) .shut) = some (if L.isEmpty then AV.nsl else .sl 1 (L.map .s) .shut, u) := fun u => by cases L <;> rfl
   generalize (if L.isEmpty then AV.nsl else .sl 1 (L.map .s) .shut) = a at hso hv hpa
   refine ⟨q4, _, a, hk, hso, hpa, hv, q4.nb, rfl, ?_, ?_⟩
   · have H5 := K2.sel (List.range R.length) (0 :: (List.range' 3 B.length)) List.nodup_range (by
      refine List.nodup_cons.2 ⟨by simp, List.nodup_range'⟩)
     rw [Dx] at H5
     have hpk : ∀ (x y z : Nat × Box), pick (x :: y :: z :: B) (0 :: List.range' 3 B.length) = x :: B := fun x y z => by
      have : pick (x :: y :: z :: B) (List.range' 3 B.length) = B := by
       have h1 : List.range' 3 B.length = (((List.range B.length).map (· + 1)).map (· + 1)).map (· + 1) := by
        apply List.ext_getElem <;> simp; omega
       rw [h1, Dj, Dj, Dj, Dx]
      simp only [pick, List.getElem?_cons_zero, List.getElem?_cons_succ, this]
     rw [hpk] at H5
     exact H.leaveR (n1 := s.en) (v := BW [AV.fn AH [.p q4.nb 0]]) H5 rfl
   · have : q4.nb = q'.nb + 1 := by rw [← hq4]; rfl
     omega
  have hmm : Hp s0 q2 s.en R ((s.nb, .map (oneM [])) :: B) := H2
  have hw01 : IntKind.i64.wrap (0 + 1) = 1 := rfl
  by_cases hL : L = []
  · subst hL
    have ha : appA q2 1 9 (.ws true 1 []) (tx []) = some (.ws true 1 [], q2) := rfl
    have h00 : ((0 : Int) < ((0 : Nat) : Int)) = False := by simp
    simp only [Cf, go_sem, AD, AA, AC, AB, KB_n, KB_x, Nat.reduceBEq, Nat.reduceAdd, Nat.reduceLT, Nat.reduceLeDiff, Nat.reduceEqDiff, reduceIte, Int.reduceEq, reduceCtorEq, hq1, e0, hcl, hq2', ha, List.length_nil]
    refine CI (fun x e q => q = q2 ∧ e.get 5 = .m s.nb ∧ e.get 13 = .i .i64 ((0 : Nat) : Int) ∧ e.get 14 = .i .i64 0) ?_ 0 _ _ ?_
    · rintro x e q ⟨rfl, g5, g13, g14⟩
      obtain ⟨q4, q5, a, x1, x2, x3, x4, x5⟩ := hend _ hmm (by omega)
      simp only [go_sem, AD, AA, AC, AB, KB_n, KB_x, Nat.reduceBEq, Nat.reduceAdd, Nat.reduceLT, Nat.reduceLeDiff, Nat.reduceEqDiff, reduceIte, Int.reduceEq, reduceCtorEq, g5, g13, g14, h00, x1, x2, x3, x4]
      exact ⟨_, _, rfl, x5⟩
    · simp only [go_sem, AD, AA, AC, AB, KB_n, KB_x, Nat.reduceBEq, Nat.reduceAdd, Nat.reduceLT, Nat.reduceLeDiff, Nat.reduceEqDiff, reduceIte, Int.reduceEq, reduceCtorEq]
  · have ha : appA q2 1 9 (.ws true 1 []) (tx L) = some (.sl 1 (L.map .s) (.tok q2.nt 0), q2.newTok (L.map AV.s).length (some 9)) := by
     cases L with
     | nil => exact absurd rfl hL
     | cons y0 L' =>
       simp only [tx, List.map_cons, appA, elems, if_true, List.nil_append, List.length_nil, Nat.zero_add, true_and]
       rw [if_pos (by simp only [List.length_cons, List.length_map, Nat.mul_one] at hl ⊢; omega)]
    have H3 := hmm.newTok 1 9 (L.map .s)
    obtain ⟨q3, hq3⟩ : ∃ q3, q2.newTok (L.map AV.s).length (some 9) = q3 := ⟨_, rfl⟩
    rw [hq3] at ha H3
    have hn3 : q3.nb = q2.nb := by rw [← hq3]; rfl
    simp only [Cf, go_sem, AD, AA, AC, AB, KB_n, KB_x, Nat.reduceBEq, Nat.reduceAdd, Nat.reduceLT, Nat.reduceLeDiff, Nat.reduceEqDiff, reduceIte, Int.reduceEq, reduceCtorEq, hq1, e0, hcl, hq2', ha, List.length_map]
    refine CI (fun x e q => ∃ i : Nat, i + x = L.length ∧ Hp s0 q s.en (⟨1, 9, .sl 1 (L.map .s) (.tok q2.nt 0), L.map .s, true⟩ :: R) ((s.nb, .map (oneM (L.take i))) :: B) ∧ s.nb ≤ q.nb ∧ e.get 5 = .m s.nb ∧ e.get 12 = .sl 1 (L.map .s) (.tok q2.nt 0) ∧ e.get 13 = .i .i64 (L.length : Nat) ∧ e.get 14 = .i .i64 (i : Nat)) ?_ L.length _ _ ?_
    · rintro x e q ⟨i, hi, K, hnb, g5, g12, g13, g14⟩
      by_cases h : i < L.length
      · have e1 : ((i : Int) < (L.length : Int)) = True := eq_true (by omega)
        obtain ⟨y, hy⟩ : ∃ y, L[i]? = some y := ⟨_, List.getElem?_eq_getElem h⟩
        have hy2 : (L.map AV.s)[i]? = some (.s y) := by rw [List.getElem?_map, hy]; rfl
        have hok : q.ok (.tok q2.nt 0) = true := by
         rcases K.rows (i := 0) rfl with hf | ⟨k', v, t, h1, _, _, h4, h5, _⟩
         · rcases hf with ⟨h, _⟩ | ⟨h, _⟩ | h | h <;> cases h
         · cases h1
           exact GH.2 ⟨t, h4, h5⟩
        have hld : ldA q false 1 (.ep [.s y] 0 (.tok q2.nt 0)) = some (.s y) := by
         simp only [ldA, hok, if_true]
         rfl
        have hnd : y ∉ L.take i := by
         intro hh
         obtain ⟨j, hj, hjy⟩ := List.mem_iff_getElem.1 hh
         rw [List.getElem_take] at hjy
         rw [List.length_take] at hj
         rw [List.getElem?_eq_some_iff] at hy
         obtain ⟨hi2, hy⟩ := hy
         exact (List.pairwise_iff_getElem.1 hd) j i (by omega) hi2 (by omega) (by rw [hjy, hy])
        have hbm := (K.box (i := 0) rfl).1
        have hf := XE hnd
        have hu := ZK hnd
        have K2 := K.setBox (i := 0) rfl (.map (oneM (L.take (i + 1))))
        have htk : L.take (i + 1) = L.take i ++ [y] := by rw [List.take_add_one, hy]; rfl
        have hw1 := Ax (show i + 1 < 2 ^ 63 by omega)
        simp only at hbm
        simp only [go_sem, AD, AA, AC, AB, KB_n, KB_x, Nat.reduceBEq, Nat.reduceAdd, Nat.reduceLT, Nat.reduceLeDiff, Nat.reduceEqDiff, reduceIte, Int.reduceEq, reduceCtorEq, g5, g12, g13, g14, e1, AK, hy2, Bi, hld, hbm, hf, hw01, hu, hw1]
        rw [← htk]
        exact ⟨x - 1, by omega, i + 1, by omega, K2, hnb, rfl⟩
      · have e1 : ((i : Int) < (L.length : Int)) = False := eq_false (by omega)
        rw [List.take_of_length_le (by omega)] at K
        obtain ⟨q4, q5, a, x1, x2, x3, x4, x5⟩ := hend _ K.dropR hnb
        simp only [go_sem, AD, AA, AC, AB, KB_n, KB_x, Nat.reduceBEq, Nat.reduceAdd, Nat.reduceLT, Nat.reduceLeDiff, Nat.reduceEqDiff, reduceIte, Int.reduceEq, reduceCtorEq, g5, g12, g13, g14, e1, x1, x2, x3, x4]
        exact ⟨_, _, rfl, x5⟩
    · simp only [go_sem, AD, AA, AC, AB, KB_n, KB_x, Nat.reduceBEq, Nat.reduceAdd, Nat.reduceLT, Nat.reduceLeDiff, Nat.reduceEqDiff, reduceIte, Int.reduceEq, reduceCtorEq]
      exact ⟨0, by omega, H3, by omega, rfl⟩)
 exact ⟨b, q, hc, hH, hb⟩
end Go.Proofs.YtbfgoopcnkeblaaGreat

namespace Go.Proofs.YtbfgoopcnkeblaaGreat
open Go.Proofs.YtbfgoopcnkeblaaGreat.Am
theorem lt_le : ∀ {a b : List Nat}, ltN a b = true → leN a b = true
 | _, [], h => by cases ‹List Nat› <;> cases h
 | [], _ :: _, _ => rfl
 | a :: x, b :: y, h => by
   simp only [ltN, Bool.or_eq_true, Bool.and_eq_true] at h
   simp only [leN, Bool.or_eq_true, Bool.and_eq_true]
   exact h.imp_right fun h => ⟨h.1, lt_le h.2⟩
theorem asc_le {L : List (List Nat)} (h : Asc L) : L.Pairwise fun a b => leN a b = true := by
 rw [List.pairwise_iff_getElem]
 intro i j hi hj hij
 exact lt_le (h hij (List.getElem?_eq_getElem hi) (List.getElem?_eq_getElem hj))
theorem Vd {L : List (List Nat)} (h : Asc L) : L.Nodup := by
 show L.Pairwise _
 rw [List.pairwise_iff_getElem]
 intro i j hi hj hij he
 have := h hij (List.getElem?_eq_getElem hi) (List.getElem?_eq_getElem hj)
 rw [he, MN] at this
 cases this
theorem bs_at {L : List (List Nat)} (hasc : Asc L) (hl : L.length < 2 ^ 62) {j : Nat} {y : List Nat} (hy : L[j]? = some y) (s : St) : (lim prog).call AX [tx L, .s y] s = some (.tup [.i .i64 (j : Nat), .b true], s) := by
 obtain ⟨p, hp, hc⟩ := KU L y hasc hl s
 have hpj : p = j := by
  rcases Nat.lt_trichotomy p j with h | h | h
  · exfalso
    obtain ⟨z, hz⟩ : ∃ z, L[p]? = some z := ⟨_, List.getElem?_eq_getElem (by rw [List.getElem?_eq_some_iff] at hy; have := hy.1; omega)⟩
    have h1 := hp.hi (Nat.le_refl _) hz
    have h2 := hasc h hz hy
    rw [h1] at h2; cases h2
  · exact h
  · have := hp.lo h hy
    rw [MN] at this; cases this
 subst hpj
 rw [hc, hy]
 simp

attribute [local irreducible] W WO WE WQ WD Tr.get Tr.set
theorem ZL {L : List (List Nat)} (hl : L.length < 2 ^ 40) {s : St} {b ky : Nat} (hb : s.box? b = some (.cells 23 [tx L])) (J : Nat → St → Prop) (h0 : J 0 s.enter)
    (hs : ∀ (j : Nat) (y : List Nat) (q : St), L[j]? = some y → J j q → ∃ q', Ej (lim prog) (.yld ky) [.s y] q = some (.b true, q') ∧ J (j + 1) q') :
    ∃ q, (lim prog).call AH [.yld ky, .p b 0] s = some (.tup [], leave s q (.tup [])) ∧ J L.length q := by
 obtain ⟨r, s', hcall, rfl, q, rfl, hJ⟩ := fn_G (f := AH) (args := [.yld ky, .p b 0]) (s := s) (Post := fun r s' => r = .tup [] ∧ ∃ q, s' = leave s q (.tup []) ∧ J L.length q) E7 rfl rfl (by
  have lda := D4 (s := s.enter) (v := tx L) (off := 0) hb rfl
  unfold tx at lda
  have hz0 : wkZ Aj.cin [.yld ky, .p b 0] = [.yld ky, .p b 0] := by simp [Aj, wkZ, wk]
  rw [hz0]
  simp only [Aj, go_sem, AD, AA, AC, AB, KB_n, KB_x, Nat.reduceBEq, Nat.reduceAdd, Nat.reduceLT, Nat.reduceLeDiff, Nat.reduceEqDiff, reduceIte, Int.reduceEq, reduceCtorEq, lda, List.length_map]
  refine CI (fun n e q => ∃ j : Nat, j + n = L.length ∧ J j q ∧ e.get 0 = .yld ky ∧ e.get 5 = tx L ∧ e.get 6 = .i .i64 (L.length : Nat) ∧ e.get 7 = .i .i64 (j : Nat)) ?_ L.length _ _ ?_
  · rintro n e q ⟨j, hn, hj, g0, g5, g6, g7⟩
    by_cases h : j < L.length
    · have h1 : ((j : Int) < (L.length : Int)) = True := eq_true (by omega)
      obtain ⟨y, hy⟩ : ∃ y, L[j]? = some y := ⟨_, List.getElem?_eq_getElem h⟩
      have hy2 : (L.map AV.s)[j]? = some (.s y) := by rw [List.getElem?_map, hy]; rfl
      have hw1 := Ax (show j + 1 < 2 ^ 63 by omega)
      obtain ⟨q', hstep, hj'⟩ := hs j y q hy hj
      simp only [go_sem, AD, AA, AC, AB, KB_n, KB_x, Nat.reduceBEq, Nat.reduceAdd, Nat.reduceLT, Nat.reduceLeDiff, Nat.reduceEqDiff, reduceIte, Int.reduceEq, reduceCtorEq, g0, g5, g6, g7, h1, AK, hy2, Bi, DW, hstep, hw1]
      exact ⟨n - 1, by omega, j + 1, by omega, hj', rfl⟩
    · have h1 : ((j : Int) < (L.length : Int)) = False := eq_false (by omega)
      obtain rfl : j = L.length := by omega
      simp only [go_sem, AD, AA, AC, AB, KB_n, KB_x, Nat.reduceBEq, Nat.reduceAdd, Nat.reduceLT, Nat.reduceLeDiff, Nat.reduceEqDiff, reduceIte, Int.reduceEq, reduceCtorEq, g0, g5, g6, g7, h1]
      exact ⟨_, _, rfl, rfl, q, rfl, hj⟩
  · simp only [go_sem, AD, AA, AC, AB, KB_n, KB_x, Nat.reduceBEq, Nat.reduceAdd, Nat.reduceLT, Nat.reduceLeDiff, Nat.reduceEqDiff, reduceIte, Int.reduceEq, reduceCtorEq]
    exact ⟨0, by omega, h0, rfl⟩)
 exact ⟨q, hcall, hJ⟩

abbrev nA : C := subC AZ.body [1, 1, 1, 1, 1, 0, 1, 0, 0]
abbrev nB : C := subC AZ.body [1, 1, 1, 1, 1, 0, 1, 0, 1]
theorem XG (n : ND) : still (.agg n.cells) = true := by
 have h1 : n.cells.all noTok = true := rfl
 have h2 : Di n.cells n.cells = true := by
  have := bN n
  rw [ND.av_eq] at this
  simpa only [beqA] using this
 simp only [still, h1, AU, h2, Bool.and_self]
theorem Sv {n : TD} (hasc : Asc n.names) (hl : n.names.length < 2 ^ 34) (hkl : n.kids.length < 2 ^ 34) {gb : Nat} {s0 q : St} {en : En} {a b : AV} {e : Tr} {k m5 m4 m3 m2 j : Nat} {y : List Nat} {x : TD}
    (ih : ∀ u, Wf u → (lim prog).call BI [.p gb 0, .agg x.cells] u = some (.agg x.nd.cells, u)) (hx : n.kids[j]? = some x) (hx0 : x.kind ≠ 0) (hy : n.names[j]? = some y)
    (K : Hp s0 q en [⟨4, 30, a, ((n.kids.map TD.nd).take j).map ND.av, true⟩, ⟨1, 9, b, (n.names.take j).map .s, true⟩] [(k, .loop 0 none e [38] nA nB), (m5, .cells 30 [.i .u8 (n.kind : Nat), .s n.text, b, a]), (m3, .cells 34 n.cells), (m2, .cells 54 [.p gb 0]), (m4, .cells 30 [.i .u8 0, .s [], .nsl, .nsl])])
    (g2 : e.get 2 = .p m2 0) (g3 : e.get 3 = .p m3 0) (g5 : e.get 5 = .p m5 0) :
    ∃ q', Ej (lim prog) (.yld k) [.s y] q = some (.b true, q') ∧ ∃ a' b', Hp s0 q' en [⟨4, 30, a', ((n.kids.map TD.nd).take (j + 1)).map ND.av, true⟩, ⟨1, 9, b', (n.names.take (j + 1)).map .s, true⟩] [(k, .loop 0 none e [38] nA nB), (m5, .cells 30 [.i .u8 (n.kind : Nat), .s n.text, b', a']), (m3, .cells 34 n.cells), (m2, .cells 54 [.p gb 0]), (m4, .cells 30 [.i .u8 0, .s [], .nsl, .nsl])] ∧ q'.lo ≤ m5 := by
 have hbk := (K.box (i := 0) rfl).1
 suffices h : ∃ o q', Ej (lim prog) (.yld k) [.s y] q = some (.b o.isNone, q') ∧ (fun (o : Option C) (q' : St) => o = none ∧ ∃ a' b', Hp s0 q' en [⟨4, 30, a', ((n.kids.map TD.nd).take (j + 1)).map ND.av, true⟩, ⟨1, 9, b', (n.names.take (j + 1)).map .s, true⟩] [(k, .loop 0 none e [38] nA nB), (m5, .cells 30 [.i .u8 (n.kind : Nat), .s n.text, b', a']), (m3, .cells 34 n.cells), (m2, .cells 54 [.p gb 0]), (m4, .cells 30 [.i .u8 0, .s [], .nsl, .nsl])] ∧ q'.lo ≤ m5) o q' by
  obtain ⟨o, q', h1, rfl, h2⟩ := h
  exact ⟨q', h1, h2⟩
 refine N5 (t := e.set 10 38 (.s y)) hbk rfl ?_
 simp only [nA, AZ, subC, go_sem, AD, AA, AC, AB, KB_n, KB_x, Nat.reduceBEq, Nat.reduceAdd, Nat.reduceLT, Nat.reduceLeDiff, Nat.reduceEqDiff, reduceIte, Int.reduceEq, reduceCtorEq]
 refine ⟨_, _, _, _, hbk, ?_⟩
 have K1 := K.setBox (i := 0) rfl (.loop 1 none e [38] nA nB)
 obtain ⟨q1, hq1⟩ : ∃ q1, q.setBox k (.loop 1 none e [38] nA nB) = q1 := ⟨_, rfl⟩
 rw [hq1] at K1 ⊢
 have K2 := K1.new (.cells 30 [.i .u8 0, .s [], .nsl, .nsl])
 obtain ⟨q2, hq2⟩ : ∃ q2, q1.new (.cells 30 [.i .u8 0, .s [], .nsl, .nsl]) = q2 := ⟨_, rfl⟩
 rw [hq2] at K2
 obtain ⟨m8, hm8⟩ : ∃ m8, q1.nb = m8 := ⟨_, rfl⟩
 rw [hm8] at K2
 have l4 := K2.ld 3 (off := 4) (v := tx n.names) rfl rfl
 have lp := K2.ld 4 (off := 0) (v := .p gb 0) rfl rfl
 have l5 := K2.ld 3 (off := 5) (v := .ws false 6 (n.kids.map TD.av)) rfl rfl
 have hbs := bs_at hasc (by omega) hy q2
 have hk2 := Rz hx
 have hc := ih q2 K2.wf
 obtain ⟨q3, d3, K3, _⟩ := K2.stw 0 (v := .agg x.nd.cells) (m := 4) rfl rfl ⟨Af _, GU _⟩
 have lk := K3.ld 0 (off := 0) (v := .i .u8 (x.nd.kind : Nat)) rfl rfl
 have hxk : ((x.nd.kind : Int) ≠ 0) = True := by rw [MS]; simp only [ne_eq, eq_iff_iff, iff_true]; omega
 have l2 := K3.ld 2 (off := 2) rfl rfl
 have l3a := K3.ld 2 (off := 3) rfl rfl
 have lwa := K3.ldw 0 (m := 4) rfl rfl
 have r1 := K3.rld 1 rfl
 have hst := K3.still 0 rfl (Q0 _ fun k _ => bN k)
 have hjl : j < n.names.length := (List.getElem?_eq_some_iff.1 hy).1
 obtain ⟨b', q4, d4, K4, _, p4⟩ := K3.app 1 (y := .sl 1 [.s y] .full) (ys := [.s y]) rfl (by simp [elems, St.ok]) (by simp [List.length_take]; omega)
 have l3 := K4.ld 2 (off := 3) rfl rfl
 have lw := K4.ldw 0 (m := 4) rfl rfl
 have r0 := K4.rld 0 rfl
 obtain ⟨a', q5, d5, K5, _, p5⟩ := K4.app 0 (y := .sl 4 [.agg x.nd.cells] .full) (ys := [.agg x.nd.cells]) rfl (by simp [elems, St.ok]) (by simp [List.length_take]; omega)
 obtain ⟨q6, d6, K6, _⟩ := K5.st 2 (off := 2) (v := b') rfl (by simp) ⟨(K5.rcells 1 rfl).1, (K5.rcells 1 rfl).2.1⟩
 obtain ⟨q7, d7, K7, _, p7⟩ := K6.st 2 (off := 3) (v := a') rfl (by simp) ⟨(K6.rcells 0 rfl).1, (K6.rcells 0 rfl).2.1⟩
 have alS : Ar 1 [AV.s y] = true := rfl
 have hnt : x.nd.cells.all noTok = true := rfl
 simp only [nB, AZ, subC, go_sem, AD, AA, AC, AB, KB_n, KB_x, Nat.reduceBEq, Nat.reduceAdd, Nat.reduceLT, Nat.reduceLeDiff, Nat.reduceEqDiff, reduceIte, Int.reduceEq, reduceCtorEq, g2, g3, g5, hq2, hm8, l4, lp, l5, hbs, AK, hk2, F6, A2, Eh, hc, d3, lk, hxk, Nat.zero_add]
 refine JS rfl ?_
 simp only [go_sem, AD, AA, AC, AB, KB_n, KB_x, Nat.reduceBEq, Nat.reduceAdd, Nat.reduceLT, Nat.reduceLeDiff, Nat.reduceEqDiff, reduceIte, Int.reduceEq, reduceCtorEq, g5, l2, r1, alS, Yz, d4, l3, r0, lw, AU, hnt, al4n, le14, d5, d6, d7, Nat.zero_add]
 refine SR rfl ?_ hst ⟨⟨_, rfl, l3⟩, ⟨_, rfl, l3a⟩, ⟨_, rfl, l3⟩, ⟨_, rfl, l3⟩, trivial⟩ ?_
 · simp only [go_sem, AD, AA, AC, AB, KB_n, KB_x, Nat.reduceBEq, Nat.reduceAdd, Nat.reduceLT, Nat.reduceLeDiff, Nat.reduceEqDiff, reduceIte, Int.reduceEq, reduceCtorEq]
 refine SR rfl ?_ (XG _) ⟨⟨_, rfl, lw⟩, ⟨_, rfl, lwa⟩, ⟨_, rfl, lw⟩, ⟨_, rfl, lw⟩, ⟨_, rfl, lw⟩, trivial⟩ (JT ?_)
 · simp only [go_sem, AD, AA, AC, AB, KB_n, KB_x, Nat.reduceBEq, Nat.reduceAdd, Nat.reduceLT, Nat.reduceLeDiff, Nat.reduceEqDiff, reduceIte, Int.reduceEq, reduceCtorEq]
 have hkn : (n.kids.map TD.nd)[j]? = some x.nd := by rw [List.getElem?_map, hx]; rfl
 have ht1 : ((n.kids.map TD.nd).take (j + 1)).map ND.av = ((n.kids.map TD.nd).take j).map ND.av ++ [.agg x.nd.cells] := by
  rw [List.take_add_one, hkn]; simp [ND.av_eq]
 have ht2 : (n.names.take (j + 1)).map AV.s = (n.names.take j).map AV.s ++ [.s y] := by
  rw [List.take_add_one, hy]; simp
 rw [ht1, ht2]
 exact ⟨_, _, _, _, (K7.box (i := 1) rfl).1, rfl, a', b', (K7.setBox (i := 1) rfl (.loop 0 none e [38] nA nB)).sel [0, 1] [1, 2, 3, 4, 5] (by simp) (by simp), p7 (p5 (by simp)).2⟩
theorem Ve : ∀ n : TD, n.Ok → EV n = true → C8 n.nd = true → ∀ gb s, Wf s → (lim prog).call BI [.p gb 0, .agg n.cells] s = some (.agg n.nd.cells, s) := by
 refine TD.ind fun n ih ho hwh hwn gb s hw => ?_
 obtain ⟨hr, hb, hkw⟩ := HR hwh
 have hD := wellD hwn
 have hlen := hD.len
 have hasc : Asc n.names := by intro i j a b h1 h2 h3; exact hD.asc h1 (by rw [IU]; exact h2) (by rw [IU]; exact h3)
 have hnm : ∀ {i : Nat} {l : List Nat}, n.names[i]? = some l → HQ l = true := fun h => hD.name (by rw [IU]; exact h)
 rw [IU, OQ, List.length_map] at hlen
 have hks := (NS hwn).2.1
 rw [OQ] at hks
 have hks : ∀ k ∈ n.kids, C8 k.nd = true := fun k hk => hks _ (List.mem_map.2 ⟨k, hk, rfl⟩)
 have hnl := ho.names.2
 have hkl := ho.kids.2
 refine fn_W FQ rfl rfl ?_
 have H0 := (Hp.begin hw).new (.cells 54 [.p gb 0])
 obtain ⟨q0, hq0⟩ : ∃ q0, s.enter.new (.cells 54 [.p gb 0]) = q0 := ⟨_, rfl⟩
 obtain ⟨m2, hm2⟩ : ∃ m2, s.enter.nb = m2 := ⟨_, rfl⟩
 rw [hq0, hm2] at H0
 have H1 := H0.new (.cells 34 n.cells)
 obtain ⟨q1, hq1⟩ : ∃ q1, q0.new (.cells 34 n.cells) = q1 := ⟨_, rfl⟩
 obtain ⟨m3, hm3⟩ : ∃ m3, q0.nb = m3 := ⟨_, rfl⟩
 rw [hq1, hm3] at H1
 have H2 := H1.new (.cells 30 [.i .u8 0, .s [], .nsl, .nsl])
 obtain ⟨q2, hq2⟩ : ∃ q2, q1.new (.cells 30 [.i .u8 0, .s [], .nsl, .nsl]) = q2 := ⟨_, rfl⟩
 obtain ⟨m4, hm4⟩ : ∃ m4, q1.nb = m4 := ⟨_, rfl⟩
 rw [hq2, hm4] at H2
 have l0 : ldA q2 false 1 (.p m3 0) = some (.i .i64 (-1)) := by rw [← hr]; exact H2.ld 1 (off := 0) (v := .i .i64 n.ref) rfl rfl
 have l1 := H2.ld 1 (off := 1) (v := .i .u8 (n.kind : Nat)) rfl rfl
 have l2 := H2.ld 1 (off := 2) (v := .s n.text) rfl rfl
 have H3 := H2.new (.cells 30 [.i .u8 0, .s [], .nsl, .nsl])
 obtain ⟨q3, hq3⟩ : ∃ q3, q2.new (.cells 30 [.i .u8 0, .s [], .nsl, .nsl]) = q3 := ⟨_, rfl⟩
 obtain ⟨m5, hm5⟩ : ∃ m5, q2.nb = m5 := ⟨_, rfl⟩
 rw [hq3, hm5] at H3
 obtain ⟨q4, d4, H4, _⟩ := H3.stw 0 (v := .agg [.i .u8 (n.kind : Nat), .s n.text, .nsl, .nsl]) (m := 4) rfl rfl ⟨rfl, rfl⟩
 have H5 := H4.new (.cells 30 [.i .u8 0, .s [], .nsl, .nsl])
 obtain ⟨q5, hq5⟩ : ∃ q5, q4.new (.cells 30 [.i .u8 0, .s [], .nsl, .nsl]) = q5 := ⟨_, rfl⟩
 obtain ⟨m6, hm6⟩ : ∃ m6, q4.nb = m6 := ⟨_, rfl⟩
 rw [hq5, hm6] at H5
 obtain ⟨q6, d6, H6, _⟩ := H5.stw 0 (v := .agg [.i .u8 0, .s [], .nsl, .nsl]) (m := 4) rfl rfl ⟨rfl, rfl⟩
 have l3 : ldA q6 false 1 (.p m3 3) = some (.i .i64 (-1)) := by rw [← hb]; exact H6.ld 3 (off := 3) (v := .i .i64 n.base) rfl rfl
 have lz := H6.ld 0 (off := 2) (v := .nsl) rfl rfl
 have l4 := H6.ld 3 (off := 4) (v := tx n.names) rfl rfl
 obtain ⟨b, q7, d7, H7, _⟩ := XF H6 (asc_le hasc) (Vd hasc) hnl (fun l hl => by
  obtain ⟨i, hi⟩ := List.mem_iff_getElem?.1 hl
  have := hnm hi
  simp only [HQ, Bool.and_eq_true, decide_eq_true_eq] at this
  omega)
 have hz0 : wkZ AZ.cin [.p gb 0, .agg n.cells] = [.p gb 0, .agg n.cells] := by simp [AZ, wkZ, wk, TD.cells]
 have cp : (AV.p gb 0).cells = [.p gb 0] := rfl
 have hl1 : ∀ a : AV, [a].length = 1 := fun _ => rfl
 rw [hz0]
 simp only [AZ, go_sem, AD, AA, AC, AB, KB_n, KB_x, Nat.reduceBEq, Nat.reduceAdd, Nat.reduceLT, Nat.reduceLeDiff, Nat.reduceEqDiff, reduceIte, Int.reduceEq, reduceCtorEq, Bf, cp, hl1, hq0, hm2, hq1, hm3, hq2, hm4, l0, P5, l1, l2, hq3, hm5, d4, hq5, hm6, d6, l3, lz, l4, d7, Nat.zero_add]
 refine YG (g := AH) (caps := [.p b 0]) (by simp only [go_sem, AD, AA, AC, AB, KB_n, KB_x, Nat.reduceBEq, Nat.reduceAdd, Nat.reduceLT, Nat.reduceLeDiff, Nat.reduceEqDiff, reduceIte, Int.reduceEq, reduceCtorEq]) fun e' he' => ?_
 have z2 : e'.get 2 = .p m2 0 := by rw [he']; simp only [go_sem, AD, AA, AC, AB, KB_n, KB_x, Nat.reduceBEq, Nat.reduceAdd, Nat.reduceLT, Nat.reduceLeDiff, Nat.reduceEqDiff, reduceIte, Int.reduceEq, reduceCtorEq]
 have z3 : e'.get 3 = .p m3 0 := by rw [he']; simp only [go_sem, AD, AA, AC, AB, KB_n, KB_x, Nat.reduceBEq, Nat.reduceAdd, Nat.reduceLT, Nat.reduceLeDiff, Nat.reduceEqDiff, reduceIte, Int.reduceEq, reduceCtorEq]
 have z4 : e'.get 4 = .p m4 0 := by rw [he']; simp only [go_sem, AD, AA, AC, AB, KB_n, KB_x, Nat.reduceBEq, Nat.reduceAdd, Nat.reduceLT, Nat.reduceLeDiff, Nat.reduceEqDiff, reduceIte, Int.reduceEq, reduceCtorEq]
 have z5 : e'.get 5 = .p m5 0 := by rw [he']; simp only [go_sem, AD, AA, AC, AB, KB_n, KB_x, Nat.reduceBEq, Nat.reduceAdd, Nat.reduceLT, Nat.reduceLeDiff, Nat.reduceEqDiff, reduceIte, Int.reduceEq, reduceCtorEq]
 clear he'
 have H8 := H7.new (.loop 0 none e' [38] nA nB)
 obtain ⟨q8, hq8⟩ : ∃ q8, q7.new (.loop 0 none e' [38] nA nB) = q8 := ⟨_, rfl⟩
 rw [hq8] at H8
 have b8 := (H8.box (i := 1) rfl).1
 have m5lt := (H8.box (i := 3) rfl).2.2
 have hlt : ∀ (i : Nat) (p : Nat × Box), ([(q7.nb, Box.loop 0 none e' [38] nA nB), (m5, .cells 30 [.i .u8 (n.kind : Nat), .s n.text, .nsl, .nsl]), (m3, .cells 34 n.cells), (m2, .cells 54 [.p gb 0]), (m4, .cells 30 [.i .u8 0, .s [], .nsl, .nsl])] : List (Nat × Box))[i]? = some p → p.1 < q8.nb := fun i p hp =>
  ((H8.sel [] [0, 3, 5, 6, 4] (by simp) (by simp)).box hp).2.2
 obtain ⟨u, hcall, a, b', K, hz⟩ := ZL (L := n.names) (by omega) (s := q8) (b := b) (ky := q7.nb) b8
  (fun j u => ∃ a b', Hp s u ⟨if j = 0 then q8.nb else m5, q8.nb, q8.nt⟩ [⟨4, 30, a, ((n.kids.map TD.nd).take j).map ND.av, true⟩, ⟨1, 9, b', (n.names.take j).map .s, true⟩] [(q7.nb, .loop 0 none e' [38] nA nB), (m5, .cells 30 [.i .u8 (n.kind : Nat), .s n.text, b', a]), (m3, .cells 34 n.cells), (m2, .cells 54 [.p gb 0]), (m4, .cells 30 [.i .u8 0, .s [], .nsl, .nsl])] ∧ (j = 0 → a = .nsl ∧ b' = .nsl))
  ⟨.nsl, .nsl, ((H8.enter.sel [] [0, 3, 5, 6, 4] (by simp) (by simp)).addFull 1 9 true .nil).addFull 4 30 true .nil, fun _ => ⟨rfl, rfl⟩⟩
  (by
   rintro j y u hy ⟨a, b', K, _⟩
   obtain ⟨x, hx⟩ : ∃ x, n.kids[j]? = some x := ⟨_, List.getElem?_eq_getElem (by rw [List.getElem?_eq_some_iff] at hy; have := hy.1; omega)⟩
   have hxm := List.mem_of_getElem? hx
   have hx0 := (NS (hks x hxm)).2.2
   rw [MS] at hx0
   obtain ⟨u', h1, a2, b2, K2, hlo⟩ := Sv hasc hnl hkl (fun v hv => ih x hxm (ho.kids.1 x hxm) (hkw x hxm) (hks x hxm) gb v hv) hx hx0 hy K z2 z3 z5
   exact ⟨u', h1, a2, b2, K2.lower hlo, fun h => absurd h (by omega)⟩)
 have K9 := H8.leave (n1 := ⟨if n.names.length = 0 then q8.nb else m5, q8.nb, q8.nt⟩) K (.tup []) (@fun (i : Nat) (p : Nat × Box) hp => by
  match i, hp with
  | 0, hp => exact hlt 0 p hp
  | 1, hp => simp at hp; rw [← hp]; exact m5lt
  | 2, hp => exact hlt 2 p hp
  | 3, hp => exact hlt 3 p hp
  | 4, hp => exact hlt 4 p hp
  | i + 5, hp => simp at hp) (by
  by_cases h0 : n.names.length = 0
  · refine .inr @fun (i : Nat) (r : RA) (k : Nat) hr hk => ?_
    obtain ⟨rfl, rfl⟩ := hz h0
    match i, hr with
    | 0, hr => simp at hr; rw [← hr] at hk; simp [BO] at hk
    | 1, hr => simp at hr; rw [← hr] at hk; simp [BO] at hk
    | i + 2, hr => simp at hr
  · refine .inl ?_
    rw [if_neg h0]
    exact m5lt)
 rw [← hq8] at hcall
 refine ⟨_, _, hcall, 0, none, e', [38], nA, nB, by rw [hq8]; exact (K9.box (i := 0) rfl).1, by decide, ?_⟩
 rw [hq8]
 have K10 := K9.setBox (i := 0) rfl .used
 obtain ⟨v0, hv0⟩ : ∃ v0, (leave q8 u (.tup [])).setBox q7.nb .used = v0 := ⟨_, rfl⟩
 rw [hv0] at K10 ⊢
 have l6 : ldA v0 true 4 (.p m5 0) = some (.agg [.i .u8 (n.kind : Nat), .s n.text, b', a]) := K10.ldw 1 (m := 4) rfl rfl
 obtain ⟨b2, v1, x5, t5, K11, _⟩ := K10.pub 1 rfl
 obtain ⟨a2, v2, x6, t6, K12, _⟩ := K11.pub 0 rfl
 obtain ⟨v3, x7, K13, _⟩ := K12.stw 4 (v := .agg [.i .u8 (n.kind : Nat), .s n.text, b2, a2]) (m := 4) rfl rfl ⟨rfl, by simp only [B4, Am.ones, t5.ones, t6.ones]⟩
 have l7 := K13.ldw 4 (m := 4) rfl rfl
 have hT1 : (n.kids.map TD.nd).take n.names.length = n.kids.map TD.nd := List.take_of_length_le (by rw [List.length_map]; omega)
 have hT2 : n.names.take n.names.length = n.names := List.take_of_length_le (Nat.le_refl _)
 rw [hT1] at t6
 rw [hT2] at t5
 simp only [go_sem, AD, AA, AC, AB, KB_n, KB_x, Nat.reduceBEq, Nat.reduceAdd, Nat.reduceLT, Nat.reduceLeDiff, Nat.reduceEqDiff, reduceIte, Int.reduceEq, reduceCtorEq, z4, z5, l6, x5, x6, x7, l7, t5.frz, t6.frz, Nat.zero_add]
 refine AI K13.over ?_ ?_
 · simp only [BW, AV.refs, AV.refs.go, t5.refs (Ea _), t6.refs (Ru _), Bool.or_self]
 · have hc : ∀ (c : CT), ∀ k ∈ n.kids.map TD.nd, wk (.agg [.id, .id, .sl 1 .id, .sl 4 c]) k.av = k.av := fun c k _ => by
    rw [ND.av_eq]; simp [wk, wkZ, ND.cells]
   simp only [BW, wkZ, wk, t5.wk (LZ _), t6.wk (Xd _ _ (hc _))]
   rw [TD.nd_eq]
   rfl

theorem OS (n : TD) : still (.agg n.cells) = true := by
 have h1 : n.cells.all noTok = true := rfl
 have h2 : Di n.cells n.cells = true := by
  have := bT n
  rw [TD.av_eq] at this
  simpa only [beqA] using this
 simp only [still, h1, A2, h2, Bool.and_self]
theorem R3 (n : ND) : AV.refs.go n.cells = false := by
 have := ML n
 rw [ND.av_eq] at this
 simpa only [AV.refs] using this
theorem refs_t (n : TD) : AV.refs.go n.cells = false := by
 have := R0 n
 rw [TD.av_eq] at this
 simpa only [AV.refs] using this
def P8 (n : TD) : ND × Int := if EV n && F7 n then (n.nd, 0) else (noN, 4)
def noT : TD := .mk 0 0 [] 0 [] []
def MU (n : ND) : TD × Int := if decide (n.kind = 2) && C8 n then (n.td, 0) else (noT, 4)
theorem Mq (n : TD) (ho : n.Ok) (s : St) (hw : Wf s) : (lim prog).call GQ [.agg n.cells] s = some (.tup [.agg (P8 n).1.cells, .i .i64 (P8 n).2], s) := by
 refine fn_W Mk rfl rfl ?_
 have H0 := (Hp.begin hw).new (.cells 34 n.cells)
 generalize hq : s.enter.new (.cells 34 n.cells) = q at H0
 generalize hm : s.enter.nb = m at H0
 have H1 := H0.new (.cells 30 [.i .u8 0, .s [], .nsl, .nsl])
 generalize hq1 : q.new (.cells 30 [.i .u8 0, .s [], .nsl, .nsl]) = q1 at H1
 generalize hm1 : q.nb = m1 at H1
 have lw := H1.ldw 1 (m := 6) rfl rfl
 have hW := XB n ho q1 H1.wf
 obtain ⟨q2, d2, H2, _⟩ := H1.stw 0 (v := .agg [.i .u8 0, .s [], .nsl, .nsl]) (m := 4) rfl rfl ⟨rfl, rfl⟩
 have l7 := H2.ldw 0 (m := 4) rfl rfl
 have hz0 : wkZ Cd.cin [.agg n.cells] = [.agg n.cells] := by simp [Cd, wkZ, wk, TD.cells]
 rw [hz0]
 unfold P8
 cases hwh : EV n with
 | false =>
   rw [hwh] at hW
   simp only [Cd, go_sem, AD, AA, AC, AB, KB_n, KB_x, Nat.reduceBEq, Nat.reduceAdd, Nat.reduceLT, Nat.reduceLeDiff, Nat.reduceEqDiff, reduceIte, Int.reduceEq, reduceCtorEq, Bf, hq, hm, hq1, hm1]
   refine JS rfl ?_
   simp only [go_sem, AD, AA, AC, AB, KB_n, KB_x, Nat.reduceBEq, Nat.reduceAdd, Nat.reduceLT, Nat.reduceLeDiff, Nat.reduceEqDiff, reduceIte, Int.reduceEq, reduceCtorEq, lw, A2, Eh, hW]
   refine Uh rfl (b := true) ?_ rfl ⟨_, rfl⟩ (JT ?_)
   · simp only [go_sem, AD, AA, AC, AB, KB_n, KB_x, Nat.reduceBEq, Nat.reduceAdd, Nat.reduceLT, Nat.reduceLeDiff, Nat.reduceEqDiff, reduceIte, Int.reduceEq, reduceCtorEq]
   simp only [go_sem, AD, AA, AC, AB, KB_n, KB_x, Nat.reduceBEq, Nat.reduceAdd, Nat.reduceLT, Nat.reduceLeDiff, Nat.reduceEqDiff, reduceIte, Int.reduceEq, reduceCtorEq, d2, l7]
   exact AI H2.over rfl rfl
 | true =>
   rw [hwh] at hW
   have hM := Vb n ho hwh q1 H1.wf
   have hP := Sr q1
   cases hr : F7 n with
   | false =>
     rw [hr] at hM
     simp only [Cd, go_sem, AD, AA, AC, AB, KB_n, KB_x, Nat.reduceBEq, Nat.reduceAdd, Nat.reduceLT, Nat.reduceLeDiff, Nat.reduceEqDiff, reduceIte, Int.reduceEq, reduceCtorEq, Bf, hq, hm, hq1, hm1]
     refine JS rfl ?_
     simp only [go_sem, AD, AA, AC, AB, KB_n, KB_x, Nat.reduceBEq, Nat.reduceAdd, Nat.reduceLT, Nat.reduceLeDiff, Nat.reduceEqDiff, reduceIte, Int.reduceEq, reduceCtorEq, lw, A2, Eh, hW, hP, Hx, hM]
     refine Rh rfl ?_ (OS n) ⟨⟨_, rfl, lw⟩, ⟨_, rfl, lw⟩, ⟨_, rfl, lw⟩, trivial⟩ (JT ?_)
     · simp only [go_sem, AD, AA, AC, AB, KB_n, KB_x, Nat.reduceBEq, Nat.reduceAdd, Nat.reduceLT, Nat.reduceLeDiff, Nat.reduceEqDiff, reduceIte, Int.reduceEq, reduceCtorEq]
     simp only [go_sem, AD, AA, AC, AB, KB_n, KB_x, Nat.reduceBEq, Nat.reduceAdd, Nat.reduceLT, Nat.reduceLeDiff, Nat.reduceEqDiff, reduceIte, Int.reduceEq, reduceCtorEq, d2, l7]
     exact AI H2.over rfl rfl
   | true =>
     have hwn : C8 n.nd = true := by
      unfold F7 at hr
      simp only [Bool.and_eq_true] at hr
      exact hr.1
     rw [hr] at hM
     have H3 := H1.new (.cells 56 [.nsl, .i .u8 0, .s [], .nsl, .nsl])
     generalize hq3 : q1.new (.cells 56 [.nsl, .i .u8 0, .s [], .nsl, .nsl]) = q3 at H3
     generalize hm3 : q1.nb = m3 at H3
     have lw3 := H3.ldw 2 (m := 6) rfl rfl
     have hN := Ve n ho hwh hwn m3 q3 H3.wf
     obtain ⟨q4, d4, H4, _⟩ := H3.stw 1 (v := .agg n.nd.cells) (m := 4) rfl rfl ⟨Af _, GU _⟩
     have l9 := H4.ldw 1 (m := 4) rfl rfl
     have hl5 : ∀ a b c d e : AV, [a, b, c, d, e].length = 5 := fun _ _ _ _ _ => rfl
     simp only [Cd, go_sem, AD, AA, AC, AB, KB_n, KB_x, Nat.reduceBEq, Nat.reduceAdd, Nat.reduceLT, Nat.reduceLeDiff, Nat.reduceEqDiff, reduceIte, Int.reduceEq, reduceCtorEq, Bf, hq, hm, hq1, hm1]
     refine JS rfl ?_
     simp only [go_sem, AD, AA, AC, AB, KB_n, KB_x, Nat.reduceBEq, Nat.reduceAdd, Nat.reduceLT, Nat.reduceLeDiff, Nat.reduceEqDiff, reduceIte, Int.reduceEq, reduceCtorEq, lw, A2, Eh, hW, hP, Hx, hM]
     refine Rh rfl ?_ (OS n) ⟨⟨_, rfl, lw⟩, ⟨_, rfl, lw⟩, ⟨_, rfl, lw⟩, trivial⟩ (JT ?_)
     · simp only [go_sem, AD, AA, AC, AB, KB_n, KB_x, Nat.reduceBEq, Nat.reduceAdd, Nat.reduceLT, Nat.reduceLeDiff, Nat.reduceEqDiff, reduceIte, Int.reduceEq, reduceCtorEq]
     simp only [go_sem, AD, AA, AC, AB, KB_n, KB_x, Nat.reduceBEq, Nat.reduceAdd, Nat.reduceLT, Nat.reduceLeDiff, Nat.reduceEqDiff, reduceIte, Int.reduceEq, reduceCtorEq, hl5, hq3, hm3, lw3, A2, hN, d4, l9, AU, FI]
     refine AI H4.over ?_ ?_
     · simp only [BW, AV.refs.go, AV.refs, R3, Bool.or_self]
     · simp [BW, wkZ, wk, ND.cells, tx]
theorem OT (n : ND) (ho : n.Ok) (s : St) (hw : Wf s) : (lim prog).call HI [.agg n.cells] s = some (.tup [.agg (MU n).1.cells, .i .i64 (MU n).2], s) := by
 refine fn_W N8 rfl rfl ?_
 have H0 := (Hp.begin hw).new (.cells 30 n.cells)
 generalize hq : s.enter.new (.cells 30 n.cells) = q at H0
 generalize hm : s.enter.nb = m at H0
 have H1 := H0.new (.cells 34 [.i .i64 0, .i .u8 0, .s [], .i .i64 0, .nsl, .nsl])
 generalize hq1 : q.new (.cells 34 [.i .i64 0, .i .u8 0, .s [], .i .i64 0, .nsl, .nsl]) = q1 at H1
 generalize hm1 : q.nb = m1 at H1
 have lw := H1.ldw 1 (m := 4) rfl rfl
 have l0 := H1.ld 1 (off := 0) (v := .i .u8 (n.kind : Nat)) rfl rfl
 have hW := ON n ho q1 H1.wf
 obtain ⟨q2, d2, H2, _⟩ := H1.stw 0 (v := .agg [.i .i64 0, .i .u8 0, .s [], .i .i64 0, .nsl, .nsl]) (m := 6) rfl rfl ⟨rfl, rfl⟩
 have l7 := H2.ldw 0 (m := 6) rfl rfl
 have hz0 : wkZ Cw.cin [.agg n.cells] = [.agg n.cells] := by simp [Cw, wkZ, wk, ND.cells]
 rw [hz0]
 unfold MU
 by_cases c2 : n.kind = 2
 · have e2 : ((n.kind : Int) ≠ 2) = False := by simp only [ne_eq, eq_iff_iff, iff_false]; omega
   rw [decide_eq_true c2]
   cases hwn : C8 n with
   | false =>
     rw [hwn] at hW
     simp only [Cw, go_sem, AD, AA, AC, AB, KB_n, KB_x, Nat.reduceBEq, Nat.reduceAdd, Nat.reduceLT, Nat.reduceLeDiff, Nat.reduceEqDiff, reduceIte, Int.reduceEq, reduceCtorEq, Af, hq, hm, hq1, hm1, l0, lw, AU, e2, hW, d2, l7, Nat.zero_add]
     exact AI H2.over rfl rfl
   | true =>
     rw [hwn] at hW
     have hN := ZJ n ho q1 H1.wf
     obtain ⟨q4, d4, H4, _⟩ := H1.stw 0 (v := .agg n.td.cells) (m := 6) rfl rfl ⟨Bf _, Xi _⟩
     have l9 := H4.ldw 0 (m := 6) rfl rfl
     simp only [Cw, go_sem, AD, AA, AC, AB, KB_n, KB_x, Nat.reduceBEq, Nat.reduceAdd, Nat.reduceLT, Nat.reduceLeDiff, Nat.reduceEqDiff, reduceIte, Int.reduceEq, reduceCtorEq, Af, hq, hm, hq1, hm1, l0, lw, AU, e2, hW, hN, d4, l9, A2, Sp, Nat.zero_add]
     refine AI H4.over ?_ ?_
     · simp only [BW, AV.refs.go, AV.refs, refs_t, Bool.or_self]
     · simp [BW, wkZ, wk, TD.cells, tx]
 · have e2 : ((n.kind : Int) ≠ 2) = True := by simp only [ne_eq, eq_iff_iff, iff_true]; omega
   rw [decide_eq_false c2]
   simp only [Cw, go_sem, AD, AA, AC, AB, KB_n, KB_x, Nat.reduceBEq, Nat.reduceAdd, Nat.reduceLT, Nat.reduceLeDiff, Nat.reduceEqDiff, reduceIte, Int.reduceEq, reduceCtorEq, Af, hq, hm, hq1, hm1, l0, e2, d2, l7, Nat.zero_add]
   exact AI H2.over rfl rfl
theorem td_ok : ∀ n : ND, n.Ok → n.td.Ok := by
 refine ND.ind fun n ih ho => ?_
 rw [ND.td_eq]
 exact .mk ho.kind ho.text.1 ho.text.2 ho.names.1 ho.names.2 (by rw [List.length_map]; exact ho.kids.2) fun x hx => by
  obtain ⟨k, hk, rfl⟩ := List.mem_map.1 hx
  exact ih k hk (ho.kids.1 k hk)
theorem noT_ok : noT.Ok := .mk (by simp) ⟨by simp, by simp⟩ (by simp) (by simp) (by simp) (by simp) (by simp)
theorem XH {n : ND} (ho : n.Ok) : (MU n).1.Ok := by
 unfold MU
 split
 · exact td_ok n ho
 · exact noT_ok
end Go.Proofs.YtbfgoopcnkeblaaGreat

namespace Go.Proofs.YtbfgoopcnkeblaaGreat
open Go.Proofs.YtbfgoopcnkeblaaGreat.Am
def belowF (l : List FT) : Nat → Nat → List (List Nat) → List (Nat × List (List Nat))
 | 0, _, _ => []
 | d + 1, n, p => (n, p) :: (match l[n]? with
   | some f => ((f.kids.zip f.names).map fun x => belowF l d x.1.toNat (p ++ [x.2])).flatten
   | none => [])
def W7 (f : FT) (k : Int) : List Nat := match f.kids.findIdx? (· == k) with
 | some i => f.names.getD i []
 | none => []
def Kq (l : List FT) : Nat → Nat → List (List Nat)
 | 0, _ => []
 | d + 1, n => if n = 0 then [] else match HU l (n : Int) with
   | some u => match l[u]? with
     | some f => Kq l d u ++ [W7 f (n : Int)]
     | none => []
   | none => []
structure MayD (l : List FT) : Prop where
 one : ∀ f ∈ l, f.one = true
 pos : 0 < l.length
 up : ∀ j : Nat, 1 ≤ j → j < l.length → ∃ u f, HU l (j : Int) = some u ∧ u < j ∧ l[u]? = some f ∧ (j : Int) ∈ f.kids
 kid : ∀ (i : Nat) (f : FT), l[i]? = some f → ∀ k ∈ f.kids, (i : Int) < k ∧ k < (l.length : Int) ∧ HU l k = some i
theorem Gv {f : FT} (h : f.one = true) : f.names.length = f.kids.length := by
 unfold FT.one FT.bad at h
 simp only [Bool.and_eq_true, Bool.not_eq_true', Bool.or_eq_false_iff, decide_eq_false_iff_not] at h
 omega
theorem mayD {l : List FT} (h : mayP l = true) : MayD l := by
 cases l with
 | nil => simp [mayP] at h
 | cons f t =>
   have h2 := h
   rw [Ws] at h2
   simp only [Bool.and_eq_true, List.all_eq_true, decide_eq_true_eq] at h2
   obtain ⟨hd, hone, hfl, hup⟩ := h2
   have h3 := Ur (f :: t) (by simp)
   rw [show (decide ((flatK (f :: t)).length = (f :: t).length - 1) && upB (f :: t)) = true by simp [hfl, hup]] at h3
   simp only [Bool.and_eq_true, Gq, Ri] at h3
   obtain ⟨hbe, hon⟩ := h3
   refine ⟨hone, by simp, fun j h1 h2 => ?_, fun i x hi k hk => ?_⟩
   · obtain ⟨u, f', k1, k2, k3⟩ := KJ (hon j h1 (by omega))
     have := hbe u f' k2 _ k3
     exact ⟨u, f', k1, by omega, k2, k3⟩
   · have := hbe i x hi k hk
     obtain ⟨j, rfl⟩ : ∃ j : Nat, k = (j : Int) := ⟨k.toNat, by omega⟩
     exact ⟨by omega, by omega, Rk (hon j (by omega) (by omega)) hi hk⟩
theorem Sl {l : List FT} (h : MayD l) : ∀ (n d : Nat), n < l.length → n < d → Kq l d n = Kq l (n + 1) n := by
 intro n
 induction n using Nat.strongRecOn with
 | _ n ih =>
   intro d hn hd
   cases d with
   | zero => omega
   | succ d =>
     rw [Kq, Kq]
     by_cases h0 : n = 0
     · rw [if_pos h0, if_pos h0]
     · rw [if_neg h0, if_neg h0]
       obtain ⟨u, f, h1, h2, h3, h4⟩ := h.up n (by omega) hn
       rw [h1]
       simp only [h3]
       rw [ih u h2 d (by omega) (by omega), ih u h2 n (by omega) (by omega)]
def climb (l : List FT) (n : Nat) : List (List Nat) := Kq l (n + 1) n
theorem IT (l : List FT) : climb l 0 = [] := by simp [climb, Kq]
theorem NN {l : List FT} (h : MayD l) {n : Nat} (h1 : 1 ≤ n) (h2 : n < l.length) {u : Nat} {f : FT} (hu : HU l (n : Int) = some u) (hlt : u < n) (hf : l[u]? = some f) : climb l n = climb l u ++ [W7 f (n : Int)] := by
 unfold climb
 rw [Kq, if_neg (by omega), hu]
 simp only [hf]
 rw [Sl h u n (by omega) hlt]
theorem Sn {l : List FT} (h : mayP l = true) {i : Nat} {f : FT} (hf : l[i]? = some f) : f.kids.Nodup := by
 rw [List.nodup_iff_count]
 intro k
 by_cases hk : k ∈ f.kids
 · have hd := mayD h
   have h1 := hd.kid i f hf k hk
   have h2 : cntK l k = 1 := by
    have := h1.2.2
    unfold HU at this
    split at this
    · assumption
    · cases this
   have h3 : (flatK (l.take (i + 1))).count k ≤ (flatK l).count k := by
    have : flatK l = flatK (l.take (i + 1)) ++ flatK (l.drop (i + 1)) := by
     unfold flatK
     rw [← List.flatten_append, ← List.map_append, List.take_append_drop]
    rw [this, List.count_append]; omega
   rw [IQ hf, List.count_append] at h3
   unfold cntK at h2
   omega
 · rw [List.count_eq_zero_of_not_mem hk]; omega
theorem OP {L : List Int} (h : L.Nodup) {i : Nat} {k : Int} (hk : L[i]? = some k) : L.findIdx? (· == k) = some i := by
 rw [List.findIdx?_eq_some_iff_getElem]
 rw [List.getElem?_eq_some_iff] at hk
 obtain ⟨hi, hk⟩ := hk
 refine ⟨hi, by simp [hk], fun j hj => ?_⟩
 simp only [beq_iff_eq, Bool.not_eq_true, beq_eq_false_iff_ne]
 intro he
 have := List.pairwise_iff_getElem.1 h j i (by omega) hi hj
 exact this (by rw [he, hk])
theorem ZH {l : List FT} (h : mayP l = true) {u : Nat} {f : FT} (hf : l[u]? = some f) {i : Nat} {k : Int} {s : List Nat} (hk : f.kids[i]? = some k) (hs : f.names[i]? = some s) : W7 f k = s := by
 unfold W7
 rw [OP (Sn h hf) hk]
 simp [hs]
theorem P0 {l : List FT} (h : mayP l = true) {u : Nat} {f : FT} (hf : l[u]? = some f) {i : Nat} {k : Int} {s : List Nat} (hk : f.kids[i]? = some k) (hs : f.names[i]? = some s) : climb l k.toNat = climb l u ++ [s] := by
 have hd := mayD h
 have h1 := hd.kid u f hf k (List.mem_of_getElem? hk)
 obtain ⟨j, rfl⟩ : ∃ j : Nat, k = (j : Int) := ⟨k.toNat, by omega⟩
 rw [Int.toNat_natCast, NN hd (by omega) (by omega) h1.2.2 (by omega) hf, ZH h hf hk hs]
theorem Qy {α β : Type} {a : List α} {b : List β} {x : α × β} (h : x ∈ a.zip b) : ∃ i : Nat, a[i]? = some x.1 ∧ b[i]? = some x.2 := by
 obtain ⟨i, hi⟩ := List.mem_iff_getElem?.1 h
 rw [List.getElem?_zip_eq_some] at hi
 exact ⟨i, hi⟩
theorem MO {l : List FT} (h : mayP l = true) : ∀ (d n : Nat) {x : Nat × List (List Nat)}, n < l.length → x ∈ belowF l d n (climb l n) → x.1 < l.length ∧ x.2 = climb l x.1
 | 0, n, x, _, hx => by simp [belowF] at hx
 | d + 1, n, x, hn, hx => by
   rw [belowF] at hx
   rcases List.mem_cons.1 hx with rfl | hx
   · exact ⟨hn, rfl⟩
   · obtain ⟨f, hf⟩ : ∃ f, l[n]? = some f := ⟨_, List.getElem?_eq_getElem hn⟩
     rw [hf] at hx
     simp only [List.mem_flatten, List.mem_map] at hx
     obtain ⟨L, ⟨⟨k, s⟩, hz, rfl⟩, hx⟩ := hx
     obtain ⟨i, hk, hs⟩ := Qy hz
     have h1 := (mayD h).kid n f hf k (List.mem_of_getElem? hk)
     simp only at hk hs hx
     rw [← P0 h hf hk hs] at hx
     exact MO h d k.toNat (by omega) hx
theorem VN {l : List FT} (h : mayP l = true) : ∀ m, m < l.length → ∃ d, l.length - m ≤ d ∧ ∀ x ∈ belowF l d m (climb l m), x ∈ belowF l l.length 0 (climb l 0) := by
 intro m
 induction m using Nat.strongRecOn with
 | _ m ih =>
   intro hm
   by_cases h0 : m = 0
   · subst h0
     exact ⟨l.length, by omega, fun x hx => hx⟩
   · have hd := mayD h
     obtain ⟨u, f, h1, h2, h3, h4⟩ := hd.up m (by omega) hm
     obtain ⟨d, k1, k2⟩ := ih u h2 (by omega)
     obtain ⟨i, hi⟩ := List.mem_iff_getElem?.1 h4
     have hnk := Gv (hd.one f (List.mem_of_getElem? h3))
     have hil : i < f.kids.length := by rw [List.getElem?_eq_some_iff] at hi; exact hi.1
     obtain ⟨s, hs⟩ : ∃ s, f.names[i]? = some s := ⟨_, List.getElem?_eq_getElem (by omega)⟩
     cases d with
     | zero => omega
     | succ d =>
       refine ⟨d, by omega, fun x hx => k2 x ?_⟩
       rw [belowF, h3]
       refine List.mem_cons_of_mem _ ?_
       simp only [List.mem_flatten, List.mem_map]
       refine ⟨_, ⟨((m : Int), s), ?_, rfl⟩, ?_⟩
       · refine List.mem_iff_getElem?.2 ⟨i, ?_⟩
         rw [List.getElem?_zip_eq_some]
         exact ⟨hi, hs⟩
       · simp only [Int.toNat_natCast]
         have := P0 h h3 hi hs
         rw [Int.toNat_natCast] at this
         rw [← this]
         exact hx
theorem VP {l : List FT} (h : mayP l = true) {m : Nat} (hm : m < l.length) : ∃ j : Nat, (belowF l l.length 0 [])[j]? = some (m, climb l m) := by
 obtain ⟨d, k1, k2⟩ := VN h m hm
 rw [IT] at k2
 cases d with
 | zero => omega
 | succ d =>
   exact List.mem_iff_getElem?.1 (k2 _ (by rw [belowF]; exact List.mem_cons_self))







def CF (f : FT) (c : List AV) : Prop := ∃ a b, CN 1 a (f.names.map .s) ∧ CN 1 b (f.kids.map iv) ∧ c = [.b f.known, .i .u8 (f.kind : Nat), a, b, .i .i64 f.rest, .i .i64 f.beside]
def GF (l : List FT) (G : List (List AV)) : Prop := G.length = l.length ∧ ∀ (i : Nat) (f : FT), l[i]? = some f → ∃ c, G[i]? = some c ∧ CF f c
theorem CF.self (f : FT) : CF f f.cells := ⟨tx f.names, zx f.kids, .ws, .ws, rfl⟩
theorem GF.self (l : List FT) : GF l (l.map FT.cells) := ⟨by simp, fun i f h => ⟨f.cells, by rw [List.getElem?_map, h]; rfl, CF.self f⟩⟩
theorem GF.mem {l : List FT} {G : List (List AV)} (h : GF l G) {c : List AV} (hc : c ∈ G) : ∃ f, f ∈ l ∧ CF f c := by
 obtain ⟨i, hi, rfl⟩ := List.mem_iff_getElem.1 hc
 have hl : i < l.length := by rw [← h.1]; exact hi
 obtain ⟨c, hc, hf⟩ := h.2 i l[i] (List.getElem?_eq_getElem hl)
 rw [List.getElem?_eq_getElem hi] at hc
 cases hc
 exact ⟨l[i], List.getElem_mem hl, hf⟩
theorem SZ {a b : AV} {xs ys : List AV} (ha : CN 1 a xs) (hb : CN 1 b ys) (l : List AV) : ones (a :: b :: l) = ones l := by
 rcases ha with ⟨rfl, _⟩ | ⟨rfl, _⟩ | rfl | rfl | rfl | rfl <;> rcases hb with ⟨rfl, _⟩ | ⟨rfl, _⟩ | rfl | rfl | rfl | rfl <;> rfl
theorem GF.ones {l : List FT} {G : List (List AV)} (h : GF l G) : ∀ c ∈ G, Am.ones c = true := fun c hc => by
 obtain ⟨f, _, a, b, ha, hb, rfl⟩ := h.mem hc
 show Am.ones (a :: b :: _) = true
 rw [SZ ha hb]
 rfl
theorem CF.wk {f : FT} {c : List AV} (h : CF f c) : wkZ [CT.id, .id, (.sl 1 .id), (.sl 1 .id), .id, .id] c = f.cells := by
 obtain ⟨a, b, ha, hb, rfl⟩ := h
 have h1 := ha.wk (c := .id) (LZ f.names)
 have h2 := hb.wk (c := .id) (TO f.kids)
 simp only [wkZ, h1, h2]
 simp only [Am.wk, FT.cells, tx, zx]
theorem GF.wk {l : List FT} {G : List (List AV)} (h : GF l G) : G.map (fun c => wkZ [CT.id, .id, (.sl 1 .id), (.sl 1 .id), .id, .id] c) = l.map FT.cells := by
 apply List.ext_getElem?
 intro i
 rw [List.getElem?_map, List.getElem?_map]
 by_cases hi : i < l.length
 · obtain ⟨c, hc, hf⟩ := h.2 i l[i] (List.getElem?_eq_getElem hi)
   rw [hc, List.getElem?_eq_getElem hi]
   simp only [Option.map_some, hf.wk]
 · rw [List.getElem?_eq_none (by have := h.1; omega), List.getElem?_eq_none (by omega)]; rfl
theorem GF.set {l : List FT} {G : List (List AV)} (h : GF l G) {i : Nat} {g : FT} {c : List AV} (hi : i < l.length) (hc : CF g c) : GF (l.set i g) (G.set i c) := by
 refine ⟨by rw [List.length_set, List.length_set]; exact h.1, fun j f hj => ?_⟩
 have hG := h.1
 rw [List.getElem?_set] at hj ⊢
 by_cases hij : i = j
 · rw [if_pos hij, if_pos hi] at hj
   cases hj
   rw [if_pos hij, if_pos (by omega)]
   exact ⟨c, rfl, hc⟩
 · rw [if_neg hij] at hj ⊢
   exact h.2 j f hj
theorem CF.refs {f : FT} {c : List AV} (h : CF f c) : AV.refs.go c = false := by
 obtain ⟨a, b, ha, hb, rfl⟩ := h
 simp only [AV.refs.go, ha.refs (Ea _), hb.refs (LG _)]
 rfl
theorem GF.refs {l : List FT} {G : List (List AV)} (h : GF l G) : AV.refs.go (G.map AV.agg) = false := by
 have : ∀ G : List (List AV), (∀ c ∈ G, AV.refs.go c = false) → AV.refs.go (G.map AV.agg) = false := by
  intro G
  induction G with
  | nil => intro _; rfl
  | cons c G ih =>
    intro hG
    simp only [List.map_cons, AV.refs.go, ih fun x hx => hG x (List.mem_cons_of_mem _ hx), AV.refs, hG c List.mem_cons_self]
    rfl
 exact this G fun c hc => by
  obtain ⟨f, _, hf⟩ := h.mem hc
  exact hf.refs
def RowO (s0 q : St) (n : En) (v : AV) (l : List FT) (G : List (List AV)) : Prop := (Hp s0 q n [⟨6, 60, v, l.map FT.av, true⟩] [] ∧ BO v ≠ none ∧ G = l.map FT.cells) ∨ (∃ id, v = .bl id 6 0 l.length (l.length * 6, false) ∧ Hp s0 q n [] [(id, .row 60 G.flatten false 0)])
theorem RowO.thaw {s0 q : St} {n : En} {v : AV} {l : List FT} {G : List (List AV)} (h : RowO s0 q n v l G) (f : FT) :
    ∃ q1, stA (q.new (.cells 60 [.b false, .i .u8 0, .nsl, .nsl, .i .i64 0, .i .i64 0])) 6 (.p q.nb 0) (.agg f.cells) = some q1 ∧ ∃ id q2, Ig q1 v = some (.bl id 6 0 l.length (l.length * 6, false), q2) ∧ Hp s0 q2 n [] [(id, .row 60 G.flatten false 0), (q.nb, .cells 60 f.cells)] := by
 rcases h with ⟨H, hv, rfl⟩ | ⟨id, rfl, H⟩
 · obtain ⟨q1, d1, H1, n1⟩ := H.adp (T := 60) (m := 6) (z := [.b false, .i .u8 0, .nsl, .nsl, .i .i64 0, .i .i64 0]) (v := .agg f.cells) rfl ⟨rfl, rfl⟩
   obtain ⟨q2, d2, H2, n2⟩ := H1.thaw 0 rfl hv [] (by simp) (by simp)
   rw [← Y3, Po] at H2
   rw [List.length_map] at d2
   exact ⟨q1, d1, _, q2, d2, H2⟩
 · obtain ⟨q1, d1, H1, n1⟩ := H.adp (T := 60) (m := 6) (z := [.b false, .i .u8 0, .nsl, .nsl, .i .i64 0, .i .i64 0]) (v := .agg f.cells) rfl ⟨rfl, rfl⟩
   exact ⟨q1, d1, id, q1, rfl, H1.sel [] [1, 0] (by simp) (by simp)⟩



abbrev apAI : C := subC Ai.body [1, 0, 1, 0, 0]
abbrev apCI : C := subC Ai.body [1, 0, 1, 0, 1]
def AII (L : List Int) (s : St) (k ido : Nat) (e : Tr) (j : Nat) (q : St) : Prop :=
 q.box? k = some (.loop 0 none e [7] apAI apCI) ∧ RP 1 (k + 1) s.nt s.nt 3 24 ido ((L.take j).map iv) q ∧ (j = 0 → q.box? ido = some (.cells 24 [.nsl]))
theorem Y5 {L : List Int} {s : St} {k ido : Nat} {e : Tr} (hido : ido < k) (hs : s.nb ≤ ido) (hl : L.length < 2 ^ 37) (g2 : e.get 2 = .p ido 0) :
    Body prog (fun _ => False) s (k + 1) s.nt (.yld k) (L.map iv) (AII L s k ido e) (fun _ => False) where
 stab := fun j q q' ⟨h1, h2, h3⟩ f => ⟨by rw [f.box k (by omega) (by simp)]; exact h1, h2.fr (by omega) (by simp) f, fun hj => by rw [f.box ido (by omega) (by simp)]; exact h3 hj⟩
 stab0 := fun q q' h f => ⟨by rw [f.box k (by omega) (by simp)]; exact h.1, h.2.1.fr0 (fun a k' h1 h2 => by rw [h.2.2 rfl] at h1; cases h1; simp [BO] at h2) (by omega) (by simp) f, fun hj => by rw [f.box ido (by omega) (by simp)]; exact h.2.2 hj⟩
 stabR := fun _ _ h _ => h
 step := by
  intro j hj q ⟨hk, hI, _⟩ hov hw hh ht
  have hj' : j < L.length := by simpa using hj
  have hLj : (L.map iv)[j] = .i .i64 L[j] := by simp [iv]
  rw [hLj]
  obtain ⟨x, hx⟩ : ∃ x, L[j] = x := ⟨_, rfl⟩
  rw [hx]
  have hst : L.take (j + 1) = L.take j ++ [x] := by rw [List.take_succ_eq_append_getElem hj', hx]
  have hylen : (L.take j).length ≤ L.length := by simp; omega
  obtain ⟨Y, hY⟩ : ∃ Y, L.take j = Y := ⟨_, rfl⟩
  rw [hY] at hI hst hylen
  obtain ⟨q1, hq1⟩ : ∃ q1, q.setBox k (.loop 1 none e [7] apAI apCI) = q1 := ⟨_, rfl⟩
  have w1 : Wf q1 := by rw [← hq1]; exact hw.setBox _ _
  have nb1 : q1.nb = q.nb ∧ q1.nt = q.nt ∧ q1.lo = q.lo := by rw [← hq1]; exact ⟨rfl, rfl, rfl⟩
  have bx1 : ∀ i, q1.box? i = if i = k then some (.loop 1 none e [7] apAI apCI) else q.box? i := fun i => by rw [← hq1]; exact setBox_box? hw.b (by omega) i
  have ov1 : Over s q1 := by rw [← hq1]; exact Over.setBox hov (by omega) (by omega) _
  obtain ⟨a, hb, hr, htok⟩ := hI
  have hb1 : q1.box? ido = some (.cells 24 [a]) := by rw [bx1, if_neg (by omega)]; exact hb
  have hr1 : RowP 1 s.nt q1 3 a (Y.map iv) := hr.mono (by omega) fun k _ => by rw [← hq1]; rfl
  have lda := D4 (s := q1) (v := a) (off := 0) hb1 rfl
  have b1k := bx1 k
  rw [if_pos rfl] at b1k
  have hel : elems q1 1 (.sl 1 [.i .i64 x] .full) = some [.i .i64 x] := by simp [elems, St.ok]
  have al : Ar 1 [AV.i .i64 x] = true := rfl
  obtain ⟨a', q2, e2, hr2, hg, href, hc⟩ := WF w1 (by omega) hr1 hel (by simp) (by simp; omega)
  have hm : Y.map iv ++ [AV.i .i64 x] = (Y ++ [x]).map iv := by simp [iv]
  rw [hm] at hr2
  obtain ⟨q3, e3, r3, nb3, nt3, w3, bx3, ov3⟩ := RP.store (h := k + 1) (tB := s.nt) hb1 hg hr2 hc href w1 (by omega) (by omega)
  have b3k : q3.box? k = some (.loop 1 none e [7] apAI apCI) := by rw [bx3 k (by omega)]; exact b1k
  have hfin : ∀ e' : Tr, YK k (Ts (fun _ => False) (k + 1) s q (AII L s k ido e (j + 1)) (fun _ => False)) .n e' q3 := fun e' => by
   refine Hm b3k (by omega) w3 (ov3 s hs (Nat.le_refl _) (by omega) ov1) (by omega) (by omega) (by omega) (by simp) (fun i hi hlt => by have hi' : k + 1 ≤ i := hi.resolve_left id; rw [bx3 i (by omega), bx1, if_neg (by omega)]) (fun _ => ⟨?_, ?_, fun hh => by simp at hh⟩) (fun hh => by simp at hh) (fun i hh => by simp at hh)
   · rw [setBox_box? w3.b (by omega), if_pos rfl]
   · rw [hst]
     exact r3.fr (O := fun i => i = k) (by omega) (show ¬ (ido = k) by omega) (Fr.setBox (O := fun i => i = k) (tB := s.nt) (h := k + 1) (id := k) w3 (by omega) (.inr rfl) (by omega) _)
  refine J0 ?_
  refine N5 (t := e.set 10 7 (.i .i64 x)) hk rfl ?_
  simp only [apAI, Ai, subC, go_sem, Az, AL, AM, AN, Au, KB_n, KB_x, Nat.reduceBEq, Nat.reduceAdd, Nat.reduceLT, Nat.reduceLeDiff, Nat.reduceEqDiff, reduceIte, Int.reduceEq, reduceCtorEq]
  refine ⟨_, _, _, _, hk, ?_⟩
  rw [hq1]
  have hz : a = .nsl ∨ ∃ k v, a = .sl 1 (Y.map iv) (.tok k v) := by
   rcases hr with ⟨rfl, _⟩ | ⟨k, v, t, rfl, _⟩
   · exact .inl rfl
   · exact .inr ⟨k, v, rfl⟩
  rcases hz with rfl | ⟨k', v, rfl⟩ <;>
   (simp only [apCI, Ai, subC, go_sem, Az, AL, AM, AN, Au, KB_n, KB_x, Nat.reduceBEq, Nat.reduceAdd, Nat.reduceLT, Nat.reduceLeDiff, Nat.reduceEqDiff, reduceIte, Int.reduceEq, reduceCtorEq, g2, Nat.zero_add, lda, al, e2, e3]
    exact hfin _)
theorem Pp {L : List Int} (hl : L.length < 2 ^ 37) {g : Nat} {caps : List AV} {s : St} (hw : Wf s) (hit : ∀ q, (∀ i, i < s.nb → q.box? i = s.box? i) → s.nb ≤ q.nb → Tq prog (fun _ => False) q.nb g caps (L.map iv) q) :
    ∃ r s', (lim prog).call Cr [.nsl, .fn g caps] s = some (r, s') ∧ RowP 1 s.nt s' 3 r (L.map iv) ∧ Up s s' := by
 refine fn_K (t := 4) (Post := fun r s' => RowP 1 s.nt s' 3 r (L.map iv) ∧ Up s s') GD rfl rfl rfl rfl ?_
 obtain ⟨q2, hq2⟩ : ∃ q2, s.enter.new (.cells 24 [.nsl]) = q2 := ⟨_, rfl⟩
 have w2 : Wf q2 := by rw [← hq2]; exact hw.enter.new _
 have n2 : q2.nb = s.nb + 1 ∧ q2.nt = s.nt ∧ q2.lo = s.nb := by rw [← hq2]; exact ⟨rfl, rfl, rfl⟩
 have ov2 : Over s q2 := by rw [← hq2]; exact (Over.enter s).new _
 have bo2 : q2.box? s.nb = some (.cells 24 [.nsl]) := by rw [← hq2]; exact Ay s.enter _
 have bx2 : ∀ i, i < s.nb → q2.box? i = s.box? i := fun i hi => by rw [← hq2]; exact Ba (s := s.enter) hi
 have hnb : s.enter.nb = s.nb := rfl
 have c1 : AV.nsl.cells = [.nsl] := rfl
 have hl1 : ∀ a : AV, [a].length = 1 := fun _ => rfl
 simp only [Ai, go_sem, Az, AL, AM, AN, Au, KB_n, KB_x, Nat.reduceBEq, Nat.reduceAdd, Nat.reduceLT, Nat.reduceLeDiff, Nat.reduceEqDiff, reduceIte, Int.reduceEq, reduceCtorEq, hnb, c1, hl1, hq2]
 refine W_cut (fun e => e.get 2 = .p s.nb 0 ∧ e.get 6 = .fn g caps) ⟨?_, ?_⟩ ?_
 · simp only [go_sem, Az, AL, AM, AN, Au, KB_n, KB_x, Nat.reduceBEq, Nat.reduceAdd, Nat.reduceLT, Nat.reduceLeDiff, Nat.reduceEqDiff, reduceIte, Int.reduceEq, reduceCtorEq]
 · simp only [go_sem, Az, AL, AM, AN, Au, KB_n, KB_x, Nat.reduceBEq, Nat.reduceAdd, Nat.reduceLT, Nat.reduceLeDiff, Nat.reduceEqDiff, reduceIte, Int.reduceEq, reduceCtorEq]
 rintro e ⟨g2, g6⟩
 obtain ⟨q3, hq3⟩ : ∃ q3, q2.new (.loop 0 none e [7] apAI apCI) = q3 := ⟨_, rfl⟩
 have w3 : Wf q3 := by rw [← hq3]; exact w2.new _
 have n3 : q3.nb = s.nb + 2 ∧ q3.nt = s.nt := by rw [← hq3]; exact ⟨by show q2.nb + 1 = _; omega, n2.2.1⟩
 have ov3 : Over s q3 := by rw [← hq3]; exact ov2.new _
 have bx3 : ∀ i, i < q2.nb → q3.box? i = q2.box? i := fun i hi => by rw [← hq3]; exact Ba hi
 have bk3 : q3.box? q2.nb = some (.loop 0 none e [7] apAI apCI) := by rw [← hq3]; exact Ay _ _
 obtain ⟨q4, hc4, ov4, w4, n4, t4, hI4⟩ := hit q3 (fun i hi => by rw [bx3 i (by omega), bx2 i hi]) (by omega) s (q2.nb + 1) s.nt q2.nb _ _
  (Y5 (k := q2.nb) (ido := s.nb) (e := e) (by omega) (Nat.le_refl _) hl g2)
  ⟨bk3, ⟨.nsl, by rw [bx3 _ (by omega)]; exact bo2, .inl ⟨rfl, rfl⟩, fun k hk => by simp [BO] at hk⟩, fun _ => by rw [bx3 _ (by omega)]; exact bo2⟩ ov3 w3 (by omega) (by omega) (by omega) (by omega)
 rw [← hq3] at hc4
 refine W_rf g6 hc4 ?_
 rcases hI4 with ⟨k1, ⟨a, k2, k3, k4⟩, _⟩ | h
 · refine ⟨_, _, _, _, _, _, k1, by decide, ?_⟩
   have b5 : (q4.setBox q2.nb .used).box? s.nb = some (.cells 24 [a]) := by rw [setBox_box? w4.b (by omega), if_neg (by omega)]; exact k2
   have lda := D4 (s := q4.setBox q2.nb .used) (v := a) (off := 0) b5 rfl
   have ov5 : Over s (q4.setBox q2.nb .used) := Over.setBox ov4 (by omega) (by omega) _
   have w5 : Wf (q4.setBox q2.nb .used) := w4.setBox _ _
   rw [List.length_map, List.take_length] at k3
   have hfin : RowP 1 s.nt { q4.setBox q2.nb .used with lo := min s.lo (q4.setBox q2.nb .used).lo } 3 a (L.map iv) := k3.mono (Nat.le_refl _) fun _ _ => rfl
   rcases So k3 with ⟨rfl, _⟩ | ⟨k, v, rfl⟩ <;>
    (simp only [go_sem, Az, AL, AM, AN, Au, KB_n, KB_x, Nat.reduceBEq, Nat.reduceAdd, Nat.reduceLT, Nat.reduceLeDiff, Nat.reduceEqDiff, reduceIte, Int.reduceEq, reduceCtorEq, KK_n, KK_r, g2, lda, Nat.zero_add]
     exact ⟨hfin, Up.of ov5 w5⟩)
 · exact h.elim
theorem Sa {L : List Int} (hl : L.length < 2 ^ 37) {g : Nat} {caps : List AV} {s : St} (hw : Wf s) (hit : ∀ q, (∀ i, i < s.nb → q.box? i = s.box? i) → s.nb ≤ q.nb → Tq prog (fun _ => False) q.nb g caps (L.map iv) q) :
    ∃ r s', (lim prog).call EA [.fn g caps] s = some (r, s') ∧ RowP 1 s.nt s' 3 r (L.map iv) ∧ Up s s' := by
 refine fn_K (t := 2) (Post := fun r s' => RowP 1 s.nt s' 3 r (L.map iv) ∧ Up s s') IW rfl rfl rfl rfl ?_
 obtain ⟨r, s', h, hr, hu⟩ := Pp (s := s.enter) hl hw.enter hit
 have hov : Over s s' := hu.over s (Over.enter s)
 have hfin : RowP 1 s.nt { s' with lo := min s.lo s'.lo } 3 r (L.map iv) := hr.mono (Nat.le_refl _) fun _ _ => rfl
 simp only [CU, go_sem, Az, AL, AM, AN, Au, KB_n, KB_x, Nat.reduceBEq, Nat.reduceAdd, Nat.reduceLT, Nat.reduceLeDiff, Nat.reduceEqDiff, reduceIte, Int.reduceEq, reduceCtorEq, KK_n, KK_r, h]
 exact ⟨hfin, Up.of hov hu.wf⟩

attribute [local irreducible] W WO WE WQ WD Tr.get Tr.set
theorem Sb {m a : Nat} {L : List Int} (hl : L.length < 2 ^ 40) {s : St} (ha : s.box? a = some (.cells 24 [zx L])) (la : a < s.nb) :
    Tq prog (fun _ => False) m Ae [.p a 0] (L.map iv) s := by
 intro s0 h tB ky I R B hI hov hw hh ht h0 _
 obtain ⟨r, s', hcall, rfl, hres⟩ := fn_G (f := Ae) (args := [.yld ky, .p a 0]) (s := s) (Post := fun r s' => r = .tup [] ∧ Over s0 s' ∧ Wf s' ∧ s.nb ≤ s'.nb ∧ s.nt ≤ s'.nt ∧ (I L.length s' ∨ R s')) GS rfl rfl (by
  have hend : ∀ q, Over s0 q → Wf q → s.nb ≤ q.nb → s.nt ≤ q.nt → (I L.length q ∨ R q) → KH s [] (fun r s' => r = .tup [] ∧ Over s0 s' ∧ Wf s' ∧ s.nb ≤ s'.nb ∧ s.nt ≤ s'.nt ∧ (I L.length s' ∨ R s')) (some ([], q)) := fun q k1 k2 k3 k4 k5 => by
   obtain ⟨f1, f2, f3, f4, f5⟩ := WC (O := fun _ => False) (h := h) (tB := tB) (v := .tup []) k2 hh k3 k4 ht rfl
   refine ⟨_, _, rfl, rfl, f5 s0 hov k1, f2, f3, f4, k5.imp (fun k => B.stab _ _ _ k f1) fun k => B.stabR _ _ k f1⟩
  have lda := D4 (s := s.enter) (v := zx L) (off := 0) ha rfl
  unfold zx at lda
  have hz0 : wkZ A9.cin [.yld ky, .p a 0] = [.yld ky, .p a 0] := by simp [A9, wkZ, wk]
  rw [hz0]
  simp only [A9, go_sem, AD, AA, AC, AB, KB_n, KB_x, Nat.reduceBEq, Nat.reduceAdd, Nat.reduceLT, Nat.reduceLeDiff, Nat.reduceEqDiff, reduceIte, Int.reduceEq, reduceCtorEq, lda, List.length_map]
  refine CI (fun n e q => ∃ j : Nat, j + n = L.length ∧ I j q ∧ Over s0 q ∧ Wf q ∧ s.nb ≤ q.nb ∧ s.nt ≤ q.nt ∧ e.get 0 = .yld ky ∧ e.get 5 = zx L ∧ e.get 6 = .i .i64 (L.length : Nat) ∧ e.get 7 = .i .i64 (j : Nat)) ?_ L.length _ _ ?_
  · rintro n e q ⟨j, hn, hIj, hovq, hwq, hnb, hnt, g0, g5, g6, g7⟩
    by_cases hj : j < L.length
    · have h1 : ((j : Int) < (L.length : Int)) = True := eq_true (by omega)
      obtain ⟨z, hz⟩ : ∃ z, L[j]? = some z := ⟨_, List.getElem?_eq_getElem hj⟩
      have hz2 := Pn hz
      have hw1 := Ax (show j + 1 < 2 ^ 63 by omega)
      have hLj : (L.map iv)[j]'(by simpa using hj) = .i .i64 z := by
       rw [List.getElem_map, (List.getElem?_eq_some_iff.1 hz).2]; rfl
      obtain ⟨bb, q', hstep, ht1, hf1, hov1, hw2, hnb1, hnt1, hkeep⟩ := B.step j (by simpa using hj) q hIj hovq hwq (by omega) (by omega)
      rw [hLj] at hstep
      cases bb with
      | true =>
        simp only [go_sem, AD, AA, AC, AB, KB_n, KB_x, Nat.reduceBEq, Nat.reduceAdd, Nat.reduceLT, Nat.reduceLeDiff, Nat.reduceEqDiff, reduceIte, Int.reduceEq, reduceCtorEq, g0, g5, g6, g7, zx, h1, AK, hz2, Fe, DW, hstep, hw1]
        exact ⟨n - 1, by omega, j + 1, by omega, ht1 rfl, hov1, hw2, by omega, by omega, rfl⟩
      | false =>
        simp only [go_sem, AD, AA, AC, AB, KB_n, KB_x, Nat.reduceBEq, Nat.reduceAdd, Nat.reduceLT, Nat.reduceLeDiff, Nat.reduceEqDiff, reduceIte, Int.reduceEq, reduceCtorEq, g0, g5, g6, g7, zx, h1, AK, hz2, Fe, DW, hstep]
        exact hend q' hov1 hw2 (by omega) (by omega) (.inr (hf1 rfl))
    · have h1 : ((j : Int) < (L.length : Int)) = False := eq_false (by omega)
      simp only [go_sem, AD, AA, AC, AB, KB_n, KB_x, Nat.reduceBEq, Nat.reduceAdd, Nat.reduceLT, Nat.reduceLeDiff, Nat.reduceEqDiff, reduceIte, Int.reduceEq, reduceCtorEq, g0, g5, g6, g7, h1]
      exact hend q hovq hwq hnb hnt (.inl (by have : j = L.length := by omega
                                              rw [← this]; exact hIj))
  · simp only [go_sem, AD, AA, AC, AB, KB_n, KB_x, Nat.reduceBEq, Nat.reduceAdd, Nat.reduceLT, Nat.reduceLeDiff, Nat.reduceEqDiff, reduceIte, Int.reduceEq, reduceCtorEq]
    exact ⟨0, by omega, B.stab0 _ _ hI (Fr0.enter hh), hov.toEnter, hw.enter, Nat.le_refl _, Nat.le_refl _, rfl, rfl⟩)
 obtain ⟨k1, k2, k3, k4, k5⟩ := hres
 exact ⟨s', hcall, k1, k2, k3, k4, by simpa using k5⟩

theorem Pq : ∀ {n : Nat} {l : List AV}, l.length = n → HW 1 n l = l
 | 0, [], _ => rfl
 | n + 1, a :: l, h => by
   simp only [List.length_cons, Nat.add_right_cancel_iff] at h
   rw [HW, if_pos rfl, List.take_succ_cons, List.take_zero, List.drop_succ_cons, List.drop_zero, Pq h]
   rfl
theorem Pr : ∀ L : List Int, ones (L.map iv) = true
 | [] => rfl
 | z :: L => Pr L
theorem Wt {s : St} {L : List Int} {id T rm : Nat} {fz : Bool} {p : Nat × Bool} (hb : s.box? id = some (.row T (L.map iv) fz rm)) :
    frz s (.bl id 1 0 L.length p) = some (.sl 1 (L.map iv) .shut, s.setBox id (.row T (L.map iv) true rm)) := by
 have hc : cut (L.map iv) 0 (L.length * 1) = some (L.map iv) := by
  unfold cut
  rw [List.drop_zero, Nat.mul_one, List.take_of_length_le (by simp), if_pos (by simp)]
 simp only [frz, hb, hc]
 rw [if_pos ⟨Nat.zero_le _, Pr L, by decide⟩, Pq (by simp)]
theorem Uv {L : List Int} (hl : L.length < 2 ^ 36) {s : St} (hw : Wf s) {a : Nat} (ha : s.box? a = some (.cells 24 [zx L])) (la : a < s.nb) :
    (lim prog).call EM [.fn Ae [.p a 0]] s = some (zx (HF L), s) := by
 refine fn_W Is rfl rfl ?_
 have hz0 : wkZ BQ.cin [.fn Ae [.p a 0]] = [.fn Ae [.p a 0]] := by simp [BQ, wkZ, wk]
 rw [hz0]
 obtain ⟨r, s1, hc, hr, hu⟩ := Sa (L := L) (by omega) hw.enter (s := s.enter) (g := Ae) (caps := [.p a 0]) fun q h1 h2 => Sb (by omega) (by rw [h1 a la]; exact ha) (Nat.lt_of_lt_of_le la h2)
 have hov : Over s s1 := hu.over s (Over.enter s)
 rcases hr with ⟨rfl, hL⟩ | ⟨k, v, t, rfl, k1, k2, k3, k4, k5, k6, k7⟩
 · rw [List.map_eq_nil_iff] at hL
   subst hL
   have hp : (lim prog).call Cv [.nsl] s1 = some (.tup [], s1) := (M9 FH rfl).trans rfl
   have hth : Ig s1 .nsl = some (.nsl, s1) := rfl
   simp only [BQ, go_sem, AD, AA, AC, AB, KB_n, KB_x, Nat.reduceBEq, Nat.reduceAdd, Nat.reduceLT, Nat.reduceLeDiff, Nat.reduceEqDiff, reduceIte, Int.reduceEq, reduceCtorEq, hc, hth, hp]
   exact AI hov rfl (by simp [HF, BW, wkZ, wk, zx])
 · have K : Hp s s1 ⟨s1.lo, s.nb, s.nt⟩ [⟨1, 3, .sl 1 (L.map iv) (.tok k v), L.map iv, true⟩] [] := {
    wf := hu.wf
    over := hov
    lo := Nat.le_refl _
    nb := hov.nb
    nt := hov.nt
    rows := fun {i r} hi => by
     cases i with
     | zero =>
       simp only [List.getElem?_cons_zero, Option.some.injEq] at hi
       subst hi
       exact .inr ⟨k, v, t, rfl, k1, k2, k3, k4, k5, k6, fun _ => k7⟩
     | succ i => simp at hi
    apart := fun {i j r r' k} hij hi hj => by
     cases i with
     | zero => cases j with
       | zero => exact absurd rfl hij
       | succ j => simp at hj
     | succ i => simp at hi
    box := fun {i p} hi => by simp at hi
    bapart := fun {i j p q} _ hi _ => by simp at hi }
   obtain ⟨q2, d2, H2, n2⟩ := K.thaw 0 rfl (by simp [BO]) [] (by simp) (by simp)
   rw [TN] at H2
   rw [List.length_map, Nat.mul_one] at d2
   obtain ⟨q3, d3, H3, n3⟩ := H2.sortI 0 rfl (by omega) (L.length, false)
   have hp : (lim prog).call Cv [.bl s1.nb 1 0 L.length (L.length, false)] q2 = some (.tup [], q3) := (M9 FH rfl).trans d3
   have hbx := (H3.box (i := 0) rfl).1
   have hfz := Wt (L := HF L) (p := (L.length, false)) hbx
   rw [JM] at hfz
   have hpa : pubA q3 (.bl s1.nb 1 0 L.length (L.length, false)) = _ := hfz
   have H4 := H3.setBox (i := 0) rfl (.row 3 ((HF L).map iv) true 0)
   simp only [BQ, go_sem, AD, AA, AC, AB, KB_n, KB_x, Nat.reduceBEq, Nat.reduceAdd, Nat.reduceLT, Nat.reduceLeDiff, Nat.reduceEqDiff, reduceIte, Int.reduceEq, reduceCtorEq, hc, d2, hp, hpa]
   refine AI H4.over (by simp only [BW, AV.refs, LG]) ?_
   simp only [BW, wkZ, wk, TO]
   rfl
theorem Uw (L : List Int) (s : St) : (lim prog).call Cb [zx L] s = some (.fn Ae [.p s.nb 0], { s.new (.cells 24 [zx L]) with lo := min s.lo s.nb }) := by
 obtain ⟨r, s', h, rfl, rfl⟩ := fn_G (f := Cb) (args := [zx L]) (s := s) (Post := fun r s' => r = .fn Ae [.p s.nb 0] ∧ s' = { s.new (.cells 24 [zx L]) with lo := min s.lo s.nb }) HN rfl rfl (by
  have hz0 : wkZ BG.cin [zx L] = [zx L] := by simp only [BG, wkZ, zx, wk]
  have hl1 : ∀ a : AV, [a].length = 1 := fun _ => rfl
  rw [hz0]
  simp only [BG, go_sem, AD, AA, AC, AB, KB_n, KB_x, Nat.reduceBEq, Nat.reduceAdd, Nat.reduceLT, Nat.reduceLeDiff, Nat.reduceEqDiff, reduceIte, Int.reduceEq, reduceCtorEq, zx, hl1]
  exact ⟨_, _, rfl, rfl, NM rfl⟩)
 exact h

abbrev bA : C := subC BV.body [1, 1, 1, 1, 0, 0, 1, 1, 0, 0, 1, 1, 0, 0]
abbrev bC : C := subC BV.body [1, 1, 1, 1, 0, 0, 1, 1, 0, 0, 1, 1, 0, 1]
def tdV (x : Nat × List (List Nat)) : AV := .agg [.i .i64 (x.1 : Nat), tx x.2]
def tdL (L : List (Nat × List (List Nat))) : List (List AV) := L.map fun x => [tdV x]
theorem VQ {O O1 Kp : Nat → Prop} {s0 qr : St} {hc h k1 idy ky c : Nat} {Lt L1 : List (Nat × List (List Nat))} {I : (Nat → St → Prop) → Nat → St → Prop} {R : St → Prop} {e : Tr}
    (B : BodyG prog O s0 hc h (.yld ky) (tdL Lt) I R) (hk1 : h ≤ k1) (hO1 : ∀ j, O1 j → h ≤ j ∧ j < k1 ∧ ¬ Kp j) (hKp : ∀ j, Kp j → j < k1 ∧ (O j ∨ h ≤ j)) (hidy : Kp idy) (hyb : qr.box? idy = some (.cells 122 [.yld ky]))
    (h0 : s0.nb ≤ k1) (g3 : e.get 3 = .p idy 0) (hL : ∀ j x, L1[j]? = some x → Lt[c + j]? = some x) :
    BodyG prog O1 s0 hc (k1 + 1) (.yld k1) (tdL L1) (fun C j q => I C (c + j) q ∧ q.box? k1 = some (.loop 0 none e [45] bA bC) ∧ ∀ i, Kp i → q.box? i = qr.box? i) (fun q => R q ∧ ∃ tm ps a b, q.box? k1 = some (.loop 2 (some .ret) tm ps a b)) where
 stab := fun C j q q' hC ⟨h1, h2, h3⟩ f => ⟨B.stab _ _ _ _ hC h1 (f.weaken (by omega) fun j hj ho => absurd (hO1 j ho).1 (by omega)), by rw [f.box k1 (by omega) fun ho => absurd (hO1 _ ho).2.1 (by omega)]; exact h2, fun i hi => by rw [f.box i (by have := (hKp i hi).1; omega) fun ho => (hO1 i ho).2.2 hi]; exact h3 i hi⟩
 enter := fun C j q hC ⟨h1, h2, h3⟩ hq => ⟨B.enter _ _ _ hC h1 (by omega), h2, h3⟩
 leave := fun C j s q v hC ⟨h1, h2, h3⟩ hs hn ht hw hv => ⟨B.leave _ _ _ _ _ hC h1 (by omega) hn ht hw hv, by rw [EC hw hn (by omega)]; exact h2, fun i hi => by rw [EC hw hn (by have := (hKp i hi).1; omega)]; exact h3 i hi⟩
 stabR := fun q q' ⟨h1, tm, ps, a, b, h2⟩ f => ⟨B.stabR _ _ h1 (f.weaken (by omega) fun j hj ho => absurd (hO1 j ho).1 (by omega)), tm, ps, a, b, by rw [f.box k1 (by omega) fun ho => absurd (hO1 _ ho).2.1 (by omega)]; exact h2⟩
 leaveR := fun s q v ⟨h1, tm, ps, a, b, h2⟩ hs hn ht hw hv => ⟨B.leaveR _ _ _ h1 (by omega) hn ht hw hv, tm, ps, a, b, by rw [EC hw hn (by omega)]; exact h2⟩
 step := by
  intro C j hj q hC ⟨hI, hk, hkp⟩ hov hw hh
  have hj' : j < L1.length := by simpa [tdL] using hj
  obtain ⟨x, hx⟩ : ∃ x, L1[j]? = some x := ⟨_, List.getElem?_eq_getElem hj'⟩
  have hLj : (tdL L1)[j] = [tdV x] := by
   rw [List.getElem?_eq_getElem hj'] at hx
   simp only [tdL, List.getElem_map]
   rw [Option.some.inj hx]
  have hLt := hL j x hx
  have hjt : c + j < (tdL Lt).length := by
   rw [List.getElem?_eq_some_iff] at hLt
   simpa [tdL] using hLt.1
  have hLtj : (tdL Lt)[c + j] = [tdV x] := by
   rw [List.getElem?_eq_some_iff] at hLt
   simp only [tdL, List.getElem_map]
   rw [hLt.2]
  rw [hLj]
  have hv2 : (tdV x).cells.length = 2 ∧ ones (tdV x).cells = true := ⟨rfl, rfl⟩
  have wn : Wf (q.new (.cells 105 [.i .i64 0, .nsl])) := hw.new _
  obtain ⟨q0, hq0⟩ : ∃ q0, (q.new (.cells 105 [.i .i64 0, .nsl])).setBox q.nb (.cells 105 (tdV x).cells) = q0 := ⟨_, rfl⟩
  obtain ⟨q1, hq1⟩ : ∃ q1, q0.setBox k1 (.loop 1 none e [45] bA bC) = q1 := ⟨_, rfl⟩
  have w0 : Wf q0 := by rw [← hq0]; exact wn.setBox _ _
  have w1 : Wf q1 := by rw [← hq1]; exact w0.setBox _ _
  have nb0 : q0.nb = q.nb + 1 ∧ q0.nt = q.nt := by rw [← hq0]; exact ⟨rfl, rfl⟩
  have nb1 : q1.nb = q.nb + 1 ∧ q1.nt = q.nt := by rw [← hq1]; exact nb0
  have bx0 : ∀ i, i < q.nb → q0.box? i = q.box? i := fun i hi => by
   rw [← hq0, setBox_box? wn.b (by simp [St.new]), if_neg (by omega), Ba hi]
  have bx0n : q0.box? q.nb = some (.cells 105 (tdV x).cells) := by
   rw [← hq0, setBox_box? wn.b (by simp [St.new]), if_pos rfl]
  have bx1 : ∀ i, q1.box? i = if i = k1 then some (.loop 1 none e [45] bA bC) else q0.box? i := fun i => by rw [← hq1]; exact setBox_box? w0.b (by omega) i
  have fr1 : Fq O h q q1 := by
   have f1 : Fq O h q (q.new (.cells 105 [.i .i64 0, .nsl])) := Fq.new (by omega) _
   have f2 : Fq O h (q.new (.cells 105 [.i .i64 0, .nsl])) q0 := by rw [← hq0]; exact Fq.setBox wn (by simp [St.new]; omega) (.inl (by omega)) (by simp [St.new]) _
   have f3 : Fq O h q0 q1 := by rw [← hq1]; exact Fq.setBox w0 (by omega) (.inl hk1) (by omega) _
   exact (f1.trans f2).trans f3
  have ov0 : Over s0 q0 := by rw [← hq0]; exact Over.setBox (hov.new _) (by omega) (by simp [St.new]) _
  have ov1 : Over s0 q1 := by rw [← hq1]; exact Over.setBox ov0 h0 (by omega) _
  have b1k := bx1 k1
  rw [if_pos rfl] at b1k
  have hkp1 : ∀ i, Kp i → q1.box? i = qr.box? i := fun i hi => by
   have := (hKp i hi).1
   rw [bx1, if_neg (by omega), bx0 i (by omega)]
   exact hkp i hi
  have ldy := D4 (s := q1) (v := .yld ky) (off := 0) (by rw [hkp1 idy hidy]; exact hyb) rfl
  have b1n : q1.box? q.nb = some (.cells 105 (tdV x).cells) := by rw [bx1, if_neg (by omega)]; exact bx0n
  have ldx : ldA q1 true 2 (.p q.nb 0) = some (tdV x) := by
   simp only [ldA, St.cells?, b1n]; rfl
  have hO1k : ¬ O1 k1 := fun ho => absurd (hO1 _ ho).2.1 (by omega)
  have st0 : stA (q.new (.cells 105 [.i .i64 0, .nsl])) 2 (.p q.nb 0) (tdV x) = some q0 := by
   have hb : (q.new (.cells 105 [.i .i64 0, .nsl])).box? q.nb = some (.cells 105 [.i .i64 0, .nsl]) := Ay q _
   have ho : over [.i .i64 0, .nsl] 0 (tdV x).cells = some (tdV x).cells := rfl
   have hrf : (tdV x).refs = false := by simp [tdV, tx, AV.refs, AV.refs.go, Ea]
   simp only [stA, hb, hv2, and_self, if_true, ho, Am.esc, hrf]
   rw [← hq0]
   rfl
  have lr : ldR q1 (some (tdV x)) = some (tdV x, q1) := rfl
  have pv : ∀ u : St, Am.pub u (tdV x) = some (tdV x, u) := fun _ => rfl
  refine J0 ?_
  refine N5 (t := e.set 10 45 (tdV x)) hk rfl ?_
  simp only [bA, BV, subC, go_sem, AD, AA, AC, AB, KB_n, KB_x, Nat.reduceBEq, Nat.reduceAdd, Nat.reduceLT, Nat.reduceLeDiff, Nat.reduceEqDiff, reduceIte, Int.reduceEq, reduceCtorEq, st0]
  refine ⟨_, _, _, _, by rw [bx0 k1 (by omega)]; exact hk, ?_⟩
  rw [hq1]
  obtain ⟨bb, q2, hstep, ht2, hf2, hov2, hw2, hnb2, hnt2, hkeep2⟩ := B.step C (c + j) hjt q1 hC (B.stab _ _ _ _ hC hI fr1) ov1 w1 (by omega)
  rw [hLtj] at hstep
  have b2k : q2.box? k1 = q1.box? k1 := hkeep2 k1 (.inr hk1) (by omega)
  rw [b1k] at b2k
  have hkp2 : ∀ i, Kp i → q2.box? i = qr.box? i := fun i hi => by
   rw [hkeep2 i (hKp i hi).2 (by have := (hKp i hi).1; omega)]
   exact hkp1 i hi
  have bx3 : ∀ B i, (q2.setBox k1 B).box? i = if i = k1 then some B else q2.box? i := fun B i => setBox_box? hw2.b (by omega) i
  have frs2 : ∀ B, Fq O h q2 (q2.setBox k1 B) := fun B => Fq.setBox hw2 (by omega) (.inl hk1) (by omega) _
  have keep2 : ∀ i, (O1 i ∨ k1 + 1 ≤ i) → i < q.nb → q2.box? i = q.box? i := fun i hi hlt => by
   rw [hkeep2 i (.inr (by rcases hi with hi | hi; exact (hO1 i hi).1; omega)) (by omega), bx1, if_neg, bx0 i hlt]
   rintro rfl
   rcases hi with hi | hi
   · exact hO1k hi
   · omega
  cases bb with
  | true =>
    simp only [bC, BV, subC, go_sem, AD, AA, AC, AB, KB_n, KB_x, Nat.reduceBEq, Nat.reduceAdd, Nat.reduceLT, Nat.reduceLeDiff, Nat.reduceEqDiff, reduceIte, Int.reduceEq, reduceCtorEq, g3, ldy, ldx, lr, pv, hstep]
    refine Hm b2k (by omega) hw2 hov2 h0 (by omega) (by omega) hO1k keep2 (fun _ => ⟨?_, by rw [bx3, if_pos rfl]; rfl, fun i hi => by rw [bx3, if_neg (by have := (hKp i hi).1; omega)]; exact hkp2 i hi⟩) (fun hh => by simp at hh) (fun i hh => by simp at hh)
    exact B.stab _ _ _ _ hC (ht2 rfl) (frs2 _)
  | false =>
    simp only [bC, BV, subC, go_sem, AD, AA, AC, AB, KB_n, KB_x, Nat.reduceBEq, Nat.reduceAdd, Nat.reduceLT, Nat.reduceLeDiff, Nat.reduceEqDiff, reduceIte, Int.reduceEq, reduceCtorEq, g3, ldy, ldx, lr, pv, hstep]
    exact Hm b2k (by omega) hw2 hov2 h0 (by omega) (by omega) hO1k keep2 (fun hh => by simp at hh) (fun _ => ⟨B.stabR _ _ (hf2 rfl) (frs2 _), _, _, _, _, by rw [bx3, if_pos rfl]⟩) (fun i hh => by simp at hh)

theorem W8 {l : List FT} {x : Nat × List (List Nat)} {a0 a1 : AV} (ha : CN 6 a0 (l.map FT.av)) (hp : CN 1 a1 (x.2.map .s)) (q : St) :
    (lim prog).call E4 [a0, .agg [.i .i64 (x.1 : Nat), a1]] q = some (.fn Bs [.p (q.nb + 1) 0, .p q.nb 0], { (q.new (.cells 27 [fx l])).new (.cells 105 (tdV x).cells) with lo := min q.lo q.nb }) := by
 obtain ⟨r, s', h, rfl, rfl⟩ := fn_G (f := E4) (args := [a0, .agg [.i .i64 (x.1 : Nat), a1]]) (s := q) (Post := fun r s' => r = .fn Bs [.p (q.nb + 1) 0, .p q.nb 0] ∧ s' = { (q.new (.cells 27 [fx l])).new (.cells 105 (tdV x).cells) with lo := min q.lo q.nb }) Qk rfl rfl (by
  have hz0 : wkZ EN.cin [a0, .agg [.i .i64 (x.1 : Nat), a1]] = [fx l, .agg [.i .i64 (x.1 : Nat), tx x.2]] := by
   simp only [EN, wkZ, Iu ha, wk, hp.wk (LZ _)]
  rw [hz0]
  have c1 : (fx l).cells = [fx l] := rfl
  have h1 : q.enter.nb = q.nb := rfl
  simp only [EN, go_sem, AD, AA, AC, AB, KB_n, KB_x, Nat.reduceBEq, Nat.reduceAdd, Nat.reduceLT, Nat.reduceLeDiff, Nat.reduceEqDiff, reduceIte, Int.reduceEq, reduceCtorEq, c1, h1, List.length_cons, List.length_nil]
  exact ⟨_, _, rfl, rfl, NM rfl⟩)
 exact h
theorem NO : ∀ L : List (List Nat), Di (L.map AV.s) (L.map AV.s) = true
 | [] => rfl
 | z :: L => by simp [List.map_cons, Di, beqA, NO L, Gj]
theorem VR : ∀ l : List FT, Di (l.map FT.av) (l.map FT.av) = true
 | [] => rfl
 | f :: l => by
   have h : Di f.cells f.cells = true := by
    simp [FT.cells, tx, zx, Di, beqA, Mv, NO]
   simp only [List.map_cons, Di, FT.av, beqA, h, Bool.true_and]
   exact VR l
theorem W9 (l : List FT) : still (fx l) = true := by
 simp [still, fx, beqA, VR]
theorem Ry {l : List FT} {x : Nat × List (List Nat)} {a0 a1 : AV} (ha : CN 6 a0 (l.map FT.av)) (hp : CN 1 a1 (x.2.map .s)) {q : St} (hw : Wf q) :
    ∃ q', (lim prog).call E4 [a0, .agg [.i .i64 (x.1 : Nat), a1]] q = some (.fn Bs [.p (q.nb + 1) 0, .p q.nb 0], q') ∧ Wf q' ∧ q'.nb = q.nb + 2 ∧ q'.nt = q.nt ∧ q'.box? q.nb = some (.cells 27 [fx l]) ∧ q'.box? (q.nb + 1) = some (.cells 105 (tdV x).cells) ∧ (∀ i, i < q.nb → q'.box? i = q.box? i) ∧ (∀ s0 : St, Over s0 q → Over s0 q') ∧ ∀ (O : Nat → Prop) (h : Nat), h ≤ q.nb → Fq O h q q' := by
 have w1 := hw.new (.cells 27 [fx l])
 refine ⟨_, W8 ha hp q, (w1.new _).lo _, rfl, rfl, ?_, ?_, fun i hi => ?_, fun s0 h => ?_, fun O h hq => ?_⟩
 · have h1 : ((q.new (.cells 27 [fx l])).new (.cells 105 (tdV x).cells)).box? q.nb = (q.new (.cells 27 [fx l])).box? q.nb := Ba (by simp [St.new])
   exact h1.trans (Ay q _)
 · exact Ay (q.new (.cells 27 [fx l])) _
 · have h1 : ((q.new (.cells 27 [fx l])).new (.cells 105 (tdV x).cells)).box? i = (q.new (.cells 27 [fx l])).box? i := Ba (by simp [St.new]; omega)
   exact h1.trans (Ba hi)
 · refine ((h.new _).new _).setLo ?_
   have := h.lo
   have := h.nb
   omega
 · refine ((Fq.new hq _).trans (Fq.new (by simp [St.new]; omega) _)).trans (Fq.lo' (by simp [St.new]; omega) ?_)
   exact Nat.min_le_left _ _
def KV (l : List FT) (d : Nat) (f : FT) (p : List (List Nat)) : List (List (Nat × List (List Nat))) := (f.kids.zip f.names).map fun x => belowF l d x.1.toNat (p ++ [x.2])
theorem VS {l : List FT} {d n : Nat} {f : FT} (hf : l[n]? = some f) (p : List (List Nat)) : belowF l (d + 1) n p = (n, p) :: (KV l d f p).flatten := by
 rw [belowF, hf]; rfl
theorem flat_take {α : Type} {L : List (List α)} {i : Nat} {x : List α} (h : L[i]? = some x) : (L.take (i + 1)).flatten.length = (L.take i).flatten.length + x.length := by
 rw [List.getElem?_eq_some_iff] at h
 obtain ⟨hi, rfl⟩ := h
 rw [List.take_succ_eq_append_getElem hi, List.flatten_append, List.length_append]
 simp
theorem VU {α : Type} {L : List (List α)} {i j : Nat} {x : List α} {a : α} (h : L[i]? = some x) (hj : x[j]? = some a) : L.flatten[(L.take i).flatten.length + j]? = some a := by
 rw [List.getElem?_eq_some_iff] at h
 obtain ⟨hi, rfl⟩ := h
 have : L.flatten = (L.take i).flatten ++ (L[i] ++ (L.drop (i + 1)).flatten) := by
  conv => lhs; rw [← List.take_append_drop i L, List.drop_eq_getElem_cons hi, List.flatten_append, List.flatten_cons]
 rw [this, List.getElem?_append_right (by omega), Nat.add_sub_cancel_left, List.getElem?_append_left]
 · exact hj
 · rw [List.getElem?_eq_some_iff] at hj; exact hj.1
theorem P1 {l : List FT} (hm : mayP l = true) (ho : ∀ f ∈ l, f.Ok) (hl : l.length < 2 ^ 34) : ∀ (d n : Nat) (p : List (List Nat)), n < l.length → p.length + d < 2 ^ 36 → ∀ {s : St} {xb lb : Nat}, s.box? xb = some (.cells 105 (tdV (n, p)).cells) → s.box? lb = some (.cells 27 [fx l]) → xb < s.nb → lb < s.nb →
    l.length - n ≤ d → IterG prog (fun j => j = xb ∨ j = lb) Bs [.p xb 0, .p lb 0] (tdL (belowF l d n p)) s
 | 0, n, p, hn, _, s, xb, lb, hx, hlb, lx, ll, hd => by omega
 | d + 1, n, p, hn, hpd, s, xb, lb, hx, hlb, lx, ll, hd => by
   intro s0 hc h ky I R C hC hch B hI hov hw hh h0
   obtain ⟨f, hf⟩ : ∃ f, l[n]? = some f := ⟨_, List.getElem?_eq_getElem hn⟩
   have hfm := List.mem_of_getElem? hf
   have hfo := ho f hfm
   have hone := Ut hm hfm
   have hnk := Gv hone
   have hbel := VS (d := d) hf p
   rw [hbel] at B ⊢
   obtain ⟨r, s', hcall, rfl, hres⟩ := fn_G (f := Bs) (args := [.yld ky, .p xb 0, .p lb 0]) (s := s) (Post := fun r s' => r = .tup [] ∧ Over s0 s' ∧ Wf s' ∧ s.nb ≤ s'.nb ∧ s.nt ≤ s'.nt ∧ (I C (tdL ((n, p) :: (KV l d f p).flatten)).length s' ∨ R s')) OF rfl rfl (by
    have hend : ∀ q, Over s0 q → Wf q → s.nb ≤ q.nb → s.nt ≤ q.nt → (I (Cin hc C s) (tdL ((n, p) :: (KV l d f p).flatten)).length q ∨ R q) → KH s [] (fun r s' => r = .tup [] ∧ Over s0 s' ∧ Wf s' ∧ s.nb ≤ s'.nb ∧ s.nt ≤ s'.nt ∧ (I C (tdL ((n, p) :: (KV l d f p).flatten)).length s' ∨ R s')) (some ([], q)) := fun q k1 k2 k3 k4 k5 => by
     refine ⟨_, _, rfl, rfl, SK hov k1 k3 k4 _, WI k2 k3 k4 _, WG k3 _, WH k4 _, ?_⟩
     exact k5.imp (fun k => B.leave _ _ _ _ _ hC k hh k3 k4 k2 rfl) fun k => B.leaveR _ _ _ k hh k3 k4 k2 rfl
    have hCi : TokSafe hc (Cin hc C s) := Cin.safe s
    have hIi := B.enter _ _ _ hC hI hh
    have hz0 : wkZ BV.cin [.yld ky, .p xb 0, .p lb 0] = [.yld ky, .p xb 0, .p lb 0] := by simp [BV, wkZ, wk]
    have c1 : (AV.yld ky).cells = [.yld ky] := rfl
    have e0 : s.enter.nb = s.nb := rfl
    rw [hz0]
    obtain ⟨q1, hq1⟩ : ∃ q1, s.enter.new (.cells 122 [.yld ky]) = q1 := ⟨_, rfl⟩
    have w1 : Wf q1 := by rw [← hq1]; exact hw.enter.new _
    have nb1 : q1.nb = s.nb + 1 := by rw [← hq1]; rfl
    have nt1 : q1.nt = s.nt := by rw [← hq1]; rfl
    have ov1 : Over s0 q1 := by rw [← hq1]; exact hov.toEnter.new _
    have bx1 : ∀ i, i < s.nb → q1.box? i = s.box? i := fun i hi => by rw [← hq1, Ba (by exact hi)]; rfl
    have by1 : q1.box? s.nb = some (.cells 122 [.yld ky]) := by rw [← hq1]; exact Ay s.enter _
    have I1 := B.stab _ _ _ q1 hCi hIi (by rw [← hq1]; exact Fq.new (show h ≤ s.enter.nb from hh) _)
    have ldy1 := D4 (s := q1) (v := .yld ky) (off := 0) by1 rfl
    have ldx1 : ldA q1 true 2 (.p xb 0) = some (tdV (n, p)) := by
     simp only [ldA, St.cells?, bx1 xb lx, hx]; rfl
    have lr1 : ∀ u, ldR u (some (tdV (n, p))) = some (tdV (n, p), u) := fun _ => rfl
    have pv : ∀ u : St, Am.pub u (tdV (n, p)) = some (tdV (n, p), u) := fun _ => rfl
    obtain ⟨bb, q2, hstep, ht2, hf2, ov2, w2, nb2, nt2, keep2⟩ := B.step (Cin hc C s) 0 (by simp [tdL]) q1 hCi I1 ov1 w1 (by omega)
    have hL0 : (tdL ((n, p) :: (KV l d f p).flatten))[0]'(by simp [tdL]) = [tdV (n, p)] := rfl
    rw [hL0] at hstep
    have by2 : q2.box? s.nb = some (.cells 122 [.yld ky]) := by rw [keep2 s.nb (.inr hh) (by omega)]; exact by1
    have bxx2 : q2.box? xb = some (.cells 105 (tdV (n, p)).cells) := by rw [keep2 xb (.inl (.inl rfl)) (by omega), bx1 xb lx]; exact hx
    have bxl2 : q2.box? lb = some (.cells 27 [fx l]) := by rw [keep2 lb (.inl (.inr rfl)) (by omega), bx1 lb ll]; exact hlb
    cases bb with
    | false =>
      simp only [BV, go_sem, AD, AA, AC, AB, KB_n, KB_x, Nat.reduceBEq, Nat.reduceAdd, Nat.reduceLT, Nat.reduceLeDiff, Nat.reduceEqDiff, reduceIte, Int.reduceEq, reduceCtorEq, c1, e0, hq1, List.length_cons, List.length_nil, ldy1, ldx1, lr1, pv, hstep]
      exact hend q2 ov2 w2 (by omega) (by omega) (.inr (hf2 rfl))
    | true =>
      have I2 := ht2 rfl
      have ldl2 := D4 (s := q2) (v := fx l) (off := 0) bxl2 rfl
      have ldn2 := D4 (s := q2) (v := .i .i64 (n : Nat)) (off := 0) bxx2 rfl
      have hg := NE hf
      have ldf := Gr f
      have pvf := DF f
      obtain ⟨q3, d3, w3, nb3, nt3, bf3, bx3, ov3, fq3⟩ := XV (q := q2) w2 (T := 26) (m := 6) (z := [.b false, .i .u8 0, .nsl, .nsl, .i .i64 0, .i .i64 0]) (v := .agg f.cells) rfl ⟨rfl, rfl⟩ (by simp [FT.cells, tx, zx, AV.refs, AV.refs.go, Ea, LG])
      have ov3 := ov3 s0 ov2
      have ldk3 := D4 (s := q3) (v := zx f.kids) (off := 3) bf3 rfl
      simp only [BV, go_sem, AD, AA, AC, AB, KB_n, KB_x, Nat.reduceBEq, Nat.reduceAdd, Nat.reduceLT, Nat.reduceLeDiff, Nat.reduceEqDiff, reduceIte, Int.reduceEq, reduceCtorEq, c1, e0, hq1, List.length_cons, List.length_nil, ldy1, ldx1, lr1, pv, hstep, ldl2, ldn2, AK, fx, hg, ldf, pvf, Nat.zero_add, B4, d3, ldk3, zx, List.length_map]
      refine CI (fun x e q => ∃ i : Nat, i + x = f.kids.length ∧ I (Cin hc C s) (1 + (((KV l d f p).take i).flatten).length) q ∧ Over s0 q ∧ Wf q ∧ q3.nb ≤ q.nb ∧ s.nt ≤ q.nt ∧ q.box? s.nb = some (.cells 122 [.yld ky]) ∧ q.box? q2.nb = some (.cells 26 f.cells) ∧ q.box? xb = some (.cells 105 (tdV (n, p)).cells) ∧ q.box? lb = some (.cells 27 [fx l]) ∧
       e.get 1 = .p xb 0 ∧ e.get 2 = .p lb 0 ∧ e.get 3 = .p s.nb 0 ∧ e.get 4 = .p q2.nb 0 ∧ e.get 18 = zx f.kids ∧ e.get 19 = .i .i64 (f.kids.length : Nat) ∧ e.get 20 = .i .i64 (i : Nat)) ?_ f.kids.length _ _ ?_
      · rintro x e q ⟨i, hix, hIq, ovq, wq, nbq, ntq, bq1, bq2, bq3, bq4, g1, g2, g3, g4, g18, g19, g20⟩
        by_cases hi : i < f.kids.length
        · have h1 : ((i : Int) < (f.kids.length : Int)) = True := eq_true (by omega)
          obtain ⟨k, hk⟩ : ∃ k, f.kids[i]? = some k := ⟨_, List.getElem?_eq_getElem hi⟩
          have hkid := (mayD hm).kid n f hf k (List.mem_of_getElem? hk)
          obtain ⟨kn, rfl⟩ : ∃ kn : Nat, k = (kn : Int) := ⟨k.toNat, by omega⟩
          obtain ⟨nm, hnm⟩ : ∃ nm, f.names[i]? = some nm := ⟨_, List.getElem?_eq_getElem (by omega)⟩
          have hk2 := Pn hk
          have ldk : ∀ u : St, ldA u false 1 (.ep [.i .i64 (kn : Int)] 0 .shut) = some (.i .i64 (kn : Int)) := fun _ => rfl
          simp only [go_sem, AD, AA, AC, AB, KB_n, KB_x, Nat.reduceBEq, Nat.reduceAdd, Nat.reduceLT, Nat.reduceLeDiff, Nat.reduceEqDiff, reduceIte, Int.reduceEq, reduceCtorEq, g1, g2, g3, g4, g18, g19, g20, zx, h1, AK, hk2, ldk, Fe]
          have ll0 := D4 (s := q) (v := fx l) (off := 0) bq4 rfl
          have lp0 := D4 (s := q) (v := tx p) (off := 1) bq3 rfl
          have ln0 := D4 (s := q) (v := tx f.names) (off := 2) bq2 rfl
          have hnm2 : (f.names.map AV.s)[i]? = some (.s nm) := by rw [List.getElem?_map, hnm]; rfl
          have ldn : ∀ u : St, ldA u false 1 (.ep [.s nm] 0 .shut) = some (.s nm) := fun _ => rfl
          have hsl : Bj q false 1 (.ws false 1 (p.map .s)) none (some (.i .i64 (p.length : Nat))) (some (.i .i64 (p.length : Nat))) = some (.ws true 1 (p.map .s), q) := by
           have ht : List.take p.length (p.map AV.s) = p.map .s := List.take_of_length_le (by simp)
           unfold Bj Ch
           simp [Cg, ht]
          obtain ⟨q4, d4, w4, nb4, nt4, bx4, ov4, fq4⟩ := YF (q := q) (es := 1) (T := 9) (a := .ws true 1 (p.map .s)) (xs := p.map .s) (y := .sl 1 [.s nm] .full) (ys := [.s nm]) wq .ws (by simp [elems, St.ok]) (by simp) (by simp; omega)
          have ov4 := ov4 s0 ovq
          obtain ⟨q5, d5, w5, nb5, nt5, bl5, bt5, bx5, ov5, fq5⟩ := Ry (l := l) (x := (kn, p ++ [nm])) (a0 := fx l) (a1 := .sl 1 (p.map .s ++ [.s nm]) .shut) .ws (.inr (.inr (.inr (.inl (by simp))))) w4
          have ov5 := ov5 s0 ov4
          simp only [fx] at d5
          have hal : Ar 1 [AV.s nm] = true := rfl
          have hsh : ∀ u : St, QO false u (.fn Bs [.p (q4.nb + 1) 0, .p q4.nb 0]) = some (.fn Bs [.p (q4.nb + 1) 0, .p q4.nb 0], u) := fun _ => rfl
          have ll4 := D4 (s := q4) (v := fx l) (off := 0) (by rw [bx4]; exact bq4) rfl
          refine JS rfl ?_
          simp only [go_sem, AD, AA, AC, AB, KB_n, KB_x, Nat.reduceBEq, Nat.reduceAdd, Nat.reduceLT, Nat.reduceLeDiff, Nat.reduceEqDiff, reduceIte, Int.reduceEq, reduceCtorEq, g1, g2, g3, g4, ll0, lp0, ln0, tx, fx, AK, hnm2, ldn, List.length_map, hsl, hal, d4, d5, hsh]
          refine SR rfl (by simp only [go_sem, AD, AA, AC, AB, KB_n, KB_x, Nat.reduceBEq, Nat.reduceAdd, Nat.reduceLT, Nat.reduceLeDiff, Nat.reduceEqDiff, reduceIte, Int.reduceEq, reduceCtorEq, g2]) (W9 l) ⟨⟨_, rfl, ll0⟩, ⟨_, rfl, ll0⟩, ⟨_, rfl, ll0⟩, ⟨_, rfl, ll0⟩, ⟨_, rfl, ll0⟩, ⟨_, rfl, ll0⟩, ⟨_, rfl, ll0⟩, ⟨_, rfl, ll0⟩, ⟨_, rfl, ll0⟩, ⟨_, rfl, ll0⟩, ⟨_, rfl, ll0⟩, ⟨_, rfl, ll0⟩, ⟨_, rfl, ll0⟩, ⟨_, rfl, ll0⟩, ⟨_, rfl, ll0⟩, ⟨_, rfl, ll0⟩, ⟨_, rfl, ll0⟩, ⟨_, rfl, ll0⟩, ⟨_, rfl, ll0⟩, ⟨_, rfl, ll4⟩, trivial⟩ (JT ?_)
          have Isub : (KV l d f p)[i]? = some (belowF l d kn (p ++ [nm])) := by
           unfold KV
           rw [List.getElem?_map]
           have : (f.kids.zip f.names)[i]? = some ((kn : Int), nm) := by rw [List.getElem?_zip_eq_some]; exact ⟨hk, hnm⟩
           rw [this]; simp
          have by5 : q5.box? s.nb = some (.cells 122 [.yld ky]) := by rw [bx5 _ (by omega), bx4]; exact bq1
          have bf5 : q5.box? q2.nb = some (.cells 26 f.cells) := by rw [bx5 _ (by omega), bx4]; exact bq2
          have bxx5 : q5.box? xb = some (.cells 105 (tdV (n, p)).cells) := by rw [bx5 _ (by omega), bx4]; exact bq3
          have bxl5 : q5.box? lb = some (.cells 27 [fx l]) := by rw [bx5 _ (by omega), bx4]; exact bq4
          have I5 := B.stab _ _ _ _ hCi hIq ((fq4 _ _ (by omega)).trans (fq5 _ _ (by omega)))
          simp only [go_sem, AD, AA, AC, AB, KB_n, KB_x, Nat.reduceBEq, Nat.reduceAdd, Nat.reduceLT, Nat.reduceLeDiff, Nat.reduceEqDiff, reduceIte, Int.reduceEq, reduceCtorEq]
          refine YG (g := Bs) (caps := [.p (q4.nb + 1) 0, .p q4.nb 0]) (by simp only [go_sem, AD, AA, AC, AB, KB_n, KB_x, Nat.reduceBEq, Nat.reduceAdd, Nat.reduceLT, Nat.reduceLeDiff, Nat.reduceEqDiff, reduceIte, Int.reduceEq, reduceCtorEq]) fun e' he' => ?_
          have z1 : e'.get 1 = .p xb 0 := by rw [he']; simp only [go_sem, AD, AA, AC, AB, KB_n, KB_x, Nat.reduceBEq, Nat.reduceAdd, Nat.reduceLT, Nat.reduceLeDiff, Nat.reduceEqDiff, reduceIte, Int.reduceEq, reduceCtorEq, g1]
          have z2 : e'.get 2 = .p lb 0 := by rw [he']; simp only [go_sem, AD, AA, AC, AB, KB_n, KB_x, Nat.reduceBEq, Nat.reduceAdd, Nat.reduceLT, Nat.reduceLeDiff, Nat.reduceEqDiff, reduceIte, Int.reduceEq, reduceCtorEq, g2]
          have z3 : e'.get 3 = .p s.nb 0 := by rw [he']; simp only [go_sem, AD, AA, AC, AB, KB_n, KB_x, Nat.reduceBEq, Nat.reduceAdd, Nat.reduceLT, Nat.reduceLeDiff, Nat.reduceEqDiff, reduceIte, Int.reduceEq, reduceCtorEq, g3]
          have z4 : e'.get 4 = .p q2.nb 0 := by rw [he']; simp only [go_sem, AD, AA, AC, AB, KB_n, KB_x, Nat.reduceBEq, Nat.reduceAdd, Nat.reduceLT, Nat.reduceLeDiff, Nat.reduceEqDiff, reduceIte, Int.reduceEq, reduceCtorEq, g4]
          have z18 : e'.get 18 = zx f.kids := by rw [he']; simp only [go_sem, AD, AA, AC, AB, KB_n, KB_x, Nat.reduceBEq, Nat.reduceAdd, Nat.reduceLT, Nat.reduceLeDiff, Nat.reduceEqDiff, reduceIte, Int.reduceEq, reduceCtorEq, g18]
          have z19 : e'.get 19 = .i .i64 (f.kids.length : Nat) := by rw [he']; simp only [go_sem, AD, AA, AC, AB, KB_n, KB_x, Nat.reduceBEq, Nat.reduceAdd, Nat.reduceLT, Nat.reduceLeDiff, Nat.reduceEqDiff, reduceIte, Int.reduceEq, reduceCtorEq, g19]
          have z20 : e'.get 20 = .i .i64 (i : Nat) := by rw [he']; simp only [go_sem, AD, AA, AC, AB, KB_n, KB_x, Nat.reduceBEq, Nat.reduceAdd, Nat.reduceLT, Nat.reduceLeDiff, Nat.reduceEqDiff, reduceIte, Int.reduceEq, reduceCtorEq, g20]
          clear he'
          obtain ⟨q6, hq6⟩ : ∃ q6, q5.new (.loop 0 none e' [45] bA bC) = q6 := ⟨_, rfl⟩
          have w6 : Wf q6 := by rw [← hq6]; exact w5.new _
          have nb6 : q6.nb = q5.nb + 1 := by rw [← hq6]; rfl
          have nt6 : q6.nt = q5.nt := by rw [← hq6]; rfl
          have ov6 : Over s0 q6 := by rw [← hq6]; exact ov5.new _
          have bx6 : ∀ i, i < q5.nb → q6.box? i = q5.box? i := fun i hi => by rw [← hq6]; exact Ba hi
          have bk6 : q6.box? q5.nb = some (.loop 0 none e' [45] bA bC) := by rw [← hq6]; exact Ay q5 _
          have fq6 : Fq (fun j => j = xb ∨ j = lb) h q5 q6 := by rw [← hq6]; exact Fq.new (by omega) _
          have B6 := VQ (O1 := fun j => j = q4.nb + 1 ∨ j = q4.nb) (Kp := fun j => j = s.nb ∨ j = q2.nb ∨ j = xb ∨ j = lb) (qr := q5) (k1 := q5.nb) (idy := s.nb) (c := 1 + (((KV l d f p).take i).flatten).length) (L1 := belowF l d kn (p ++ [nm])) (e := e') B (by omega)
           (fun j hj => ⟨by omega, by omega, by omega⟩) (fun j hj => ⟨by omega, by
            rcases hj with rfl | rfl | rfl | rfl
            · exact .inr hh
            · exact .inr (by omega)
            · exact .inl (.inl rfl)
            · exact .inl (.inr rfl)⟩) (.inl rfl) by5 (by omega) z3 (fun j x hx => by
            rw [Nat.add_assoc, Nat.add_comm 1, List.getElem?_cons_succ]
            exact VU Isub hx)
          obtain ⟨q7, d7, ov7, w7, nb7, nt7, hres7⟩ := P1 hm ho hl d kn (p ++ [nm]) (by omega) (by simp; omega) (s := q6) (xb := q4.nb + 1) (lb := q4.nb) (by rw [bx6 _ (by omega)]; exact bt5) (by rw [bx6 _ (by omega)]; exact bl5) (by omega) (by omega) (by omega)
           s0 hc (q5.nb + 1) q5.nb _ _ (Cin hc C s) hCi (by omega) B6 ⟨B.stab _ _ _ _ hCi I5 fq6, bk6, fun i hi => by
            rw [bx6 i (by rcases hi with rfl | rfl | rfl | rfl <;> omega)]⟩ ov6 w6 (by omega) (by omega)
          have bx7 : ∀ B i, (q7.setBox q5.nb B).box? i = if i = q5.nb then some B else q7.box? i := fun B i => setBox_box? w7.b (by omega) i
          have fq7 : ∀ B, Fq (fun j => j = xb ∨ j = lb) h q7 (q7.setBox q5.nb B) := fun B => Fq.setBox w7 (by omega) (.inl (by omega)) (by omega) _
          have ov8 : ∀ B, Over s0 (q7.setBox q5.nb B) := fun B => Over.setBox ov7 (by omega) (by omega) _
          rw [← hq6] at d7
          rcases hres7 with ⟨hI7, hk7, hkp7⟩ | ⟨hR7, tm, ps, a, b, hk7⟩
          · refine ⟨_, q7, d7, _, _, _, _, _, _, hk7, by decide, ?_⟩
            have hw1 := Ax (show i + 1 < 2 ^ 63 by have := hfo.klen; omega)
            simp only [go_sem, AD, AA, AC, AB, KB_n, KB_x, Nat.reduceBEq, Nat.reduceAdd, Nat.reduceLT, Nat.reduceLeDiff, Nat.reduceEqDiff, reduceIte, Int.reduceEq, reduceCtorEq, z20, hw1]
            refine ⟨x - 1, by omega, i + 1, by omega, ?_, ov8 _, w7.setBox _ _, by show q3.nb ≤ q7.nb; omega, by show s.nt ≤ q7.nt; omega, by rw [bx7, if_neg (by omega), hkp7 _ (.inl rfl)]; exact by5, by rw [bx7, if_neg (by omega), hkp7 _ (.inr (.inl rfl))]; exact bf5, by rw [bx7, if_neg (by omega), hkp7 _ (.inr (.inr (.inl rfl)))]; exact bxx5, by rw [bx7, if_neg (by omega), hkp7 _ (.inr (.inr (.inr rfl)))]; exact bxl5, z1, z2, z3, z4, z18, z19, rfl⟩
            have : 1 + ((KV l d f p).take (i + 1)).flatten.length = 1 + ((KV l d f p).take i).flatten.length + (tdL (belowF l d kn (p ++ [nm]))).length := by
             rw [flat_take Isub]; simp [tdL, Nat.add_assoc]
            rw [this]
            exact B.stab _ _ _ _ hCi hI7 (fq7 _)
          · refine ⟨_, q7, d7, _, _, _, _, _, _, hk7, by decide, ?_⟩
            simp only [go_sem, AD, AA, AC, AB, KB_n, KB_x, Nat.reduceBEq, Nat.reduceAdd, Nat.reduceLT, Nat.reduceLeDiff, Nat.reduceEqDiff, reduceIte, Int.reduceEq, reduceCtorEq]
            exact hend _ (ov8 _) (w7.setBox _ _) (by show s.nb ≤ q7.nb; omega) (by show s.nt ≤ q7.nt; omega) (.inr (B.stabR _ _ hR7 (fq7 _)))
        · have h1 : ((i : Int) < (f.kids.length : Int)) = False := eq_false (by omega)
          simp only [go_sem, AD, AA, AC, AB, KB_n, KB_x, Nat.reduceBEq, Nat.reduceAdd, Nat.reduceLT, Nat.reduceLeDiff, Nat.reduceEqDiff, reduceIte, Int.reduceEq, reduceCtorEq, g19, g20, h1]
          refine hend q ovq wq (by omega) (by omega) (.inl ?_)
          have : (KV l d f p).length ≤ i := by simp [KV]; omega
          rw [List.take_of_length_le this] at hIq
          rw [Nat.add_comm] at hIq
          simpa only [tdL, List.length_map, List.length_cons] using hIq
      · simp only [go_sem, AD, AA, AC, AB, KB_n, KB_x, Nat.reduceBEq, Nat.reduceAdd, Nat.reduceLT, Nat.reduceLeDiff, Nat.reduceEqDiff, reduceIte, Int.reduceEq, reduceCtorEq]
        refine ⟨0, by omega, ?_, ov3, w3, Nat.le_refl _, by omega, by rw [bx3 _ (by omega)]; exact by2, bf3, by rw [bx3 _ (by omega)]; exact bxx2, by rw [bx3 _ (by omega)]; exact bxl2, rfl, rfl⟩
        exact B.stab _ _ _ _ hCi I2 (fq3 _ _ (by omega)))
   exact ⟨s', hcall, hres⟩

def F5 (l : List FT) (n : Int) : List (List Nat) × Int := if mayP l then (if 0 ≤ n ∧ n < (l.length : Int) then (climb l n.toNat, 0) else ([], 1)) else ([], 4)
abbrev pA : C := subC Bh.body [1, 1, 0, 1, 0, 0]
abbrev pC : C := subC Bh.body [1, 1, 0, 1, 0, 1]
def PI (L : List (Nat × List (List Nat))) (n : Int) (b0 k1 : Nat) (e : Tr) (j : Nat) (q : St) : Prop :=
 (∀ (i : Nat) (x : Nat × List (List Nat)), i < j → L[i]? = some x → (x.1 : Int) ≠ n) ∧ q.box? k1 = some (.loop 0 none e [23] pA pC) ∧ q.box? b0 = some (.cells 3 [.i .i64 n]) ∧ q.box? (b0 + 1) = some (.cells 23 [.nsl]) ∧ q.box? (b0 + 2) = some (.cells 37 [.i .i64 0])
def PR (p : List (List Nat)) (t0 b0 k1 : Nat) (q : St) : Prop :=
 (∃ tm ps a b, q.box? k1 = some (.loop 2 (some .ret) tm ps a b)) ∧ RG 1 t0 9 23 (b0 + 1) (p.map .s) true (CLow (k1 + 1)) q ∧ q.box? (b0 + 2) = some (.cells 37 [.i .i64 0])
theorem VV {s : St} {L : List (Nat × List (List Nat))} {n : Int} {p : List (List Nat)} {b0 k1 : Nat} {e : Tr} (hk1 : b0 + 5 = k1) (hs : s.nb = b0) (g3 : e.get 3 = .p b0 0) (g4 : e.get 4 = .p (b0 + 1) 0) (g5 : e.get 5 = .p (b0 + 2) 0)
    (hL : ∀ (i : Nat) (x : Nat × List (List Nat)), L[i]? = some x → (x.1 : Int) = n → x.2 = p) (hp : p.length < 2 ^ 36) :
    BodyG prog (fun j => j = b0 + 3 + 1 ∨ j = b0 + 3) s (k1 + 1) (k1 + 1) (.yld k1) (tdL L) (fun _ j q => PI L n b0 k1 e j q) (PR p s.nt b0 k1) where
 stab := fun C j q q' _ ⟨h1, h2, h3, h4, h5⟩ f => ⟨h1, by rw [f.box _ (by omega) (by omega)]; exact h2, by rw [f.box _ (by omega) (by omega)]; exact h3, by rw [f.box _ (by omega) (by omega)]; exact h4, by rw [f.box _ (by omega) (by omega)]; exact h5⟩
 enter := fun C j q _ h _ => h
 leave := fun C j s q v _ ⟨h1, h2, h3, h4, h5⟩ hs hn ht hw hv => ⟨h1, by rw [EC hw hn (by omega)]; exact h2, by rw [EC hw hn (by omega)]; exact h3, by rw [EC hw hn (by omega)]; exact h4, by rw [EC hw hn (by omega)]; exact h5⟩
 stabR := fun q q' ⟨⟨tm, ps, a, b, h1⟩, h2, h3⟩ f => ⟨⟨tm, ps, a, b, by rw [f.box _ (by omega) (by omega)]; exact h1⟩, h2.stab (CLow.safe _) (by omega) (by omega) (Nat.le_refl _) f, by rw [f.box _ (by omega) (by omega)]; exact h3⟩
 leaveR := fun s q v ⟨⟨tm, ps, a, b, h1⟩, h2, h3⟩ hs hn ht hw hv => ⟨⟨tm, ps, a, b, by rw [EC hw hn (by omega)]; exact h1⟩, h2.leaveL (by omega) hs hn ht hw hv, by rw [EC hw hn (by omega)]; exact h3⟩
 step := by
  intro C j hj q hC ⟨hI, hk, hb0, hb1, hb2⟩ hov hw hh
  have hj' : j < L.length := by simpa [tdL] using hj
  obtain ⟨x, hx⟩ : ∃ x, L[j]? = some x := ⟨_, List.getElem?_eq_getElem hj'⟩
  have hLj : (tdL L)[j] = [tdV x] := by
   rw [List.getElem?_eq_getElem hj'] at hx
   simp only [tdL, List.getElem_map]
   rw [Option.some.inj hx]
  rw [hLj]
  obtain ⟨q0, st0, w0, nb0, nt0, bn0, bx0, ov0, fq0⟩ := XV (q := q) hw (T := 105) (m := 2) (z := [.i .i64 0, .nsl]) (v := tdV x) rfl ⟨rfl, rfl⟩ (by simp [tdV, tx, AV.refs, AV.refs.go, Ea])
  have ov0 := ov0 s hov
  obtain ⟨q1, hq1⟩ : ∃ q1, q0.setBox k1 (.loop 1 none e [23] pA pC) = q1 := ⟨_, rfl⟩
  have w1 : Wf q1 := by rw [← hq1]; exact w0.setBox _ _
  have nb1 : q1.nb = q.nb + 1 ∧ q1.nt = q.nt := by rw [← hq1]; exact ⟨nb0, nt0⟩
  have bx1 : ∀ i, q1.box? i = if i = k1 then some (.loop 1 none e [23] pA pC) else q0.box? i := fun i => by rw [← hq1]; exact setBox_box? w0.b (by omega) i
  have ov1 : Over s q1 := by rw [← hq1]; exact Over.setBox ov0 (by omega) (by omega) _
  have b1k := bx1 k1
  rw [if_pos rfl] at b1k
  have b10 : q1.box? b0 = some (.cells 3 [.i .i64 n]) := by rw [bx1, if_neg (by omega), bx0 _ (by omega)]; exact hb0
  have b11 : q1.box? (b0 + 1) = some (.cells 23 [.nsl]) := by rw [bx1, if_neg (by omega), bx0 _ (by omega)]; exact hb1
  have b12 : q1.box? (b0 + 2) = some (.cells 37 [.i .i64 0]) := by rw [bx1, if_neg (by omega), bx0 _ (by omega)]; exact hb2
  have b1n : q1.box? q.nb = some (.cells 105 (tdV x).cells) := by rw [bx1, if_neg (by omega)]; exact bn0
  have ldn := D4 (s := q1) (v := .i .i64 n) (off := 0) b10 rfl
  have ldx := D4 (s := q1) (v := .i .i64 (x.1 : Nat)) (off := 0) b1n rfl
  have ldp := D4 (s := q1) (v := tx x.2) (off := 1) b1n rfl
  have hkO : ¬ (k1 = b0 + 3 + 1 ∨ k1 = b0 + 3) := by omega
  refine J0 ?_
  refine N5 (t := e.set 10 23 (tdV x)) hk rfl ?_
  simp only [pA, Bh, subC, go_sem, AD, AA, AC, AB, KB_n, KB_x, Nat.reduceBEq, Nat.reduceAdd, Nat.reduceLT, Nat.reduceLeDiff, Nat.reduceEqDiff, reduceIte, Int.reduceEq, reduceCtorEq, st0]
  refine ⟨_, _, _, _, by rw [bx0 k1 (by omega)]; exact hk, ?_⟩
  rw [hq1]
  by_cases hxn : (x.1 : Int) = n
  · have e1 : ((x.1 : Int) = n) = True := by simp [hxn]
    have hpl := hL j x hx hxn
    obtain ⟨rest, H, hrest⟩ := XU w1 ov1 [(b0 + 1, .cells 23 [.nsl]), (b0 + 2, .cells 37 [.i .i64 0]), (k1, .loop 1 none e [23] pA pC)] (by
     intro p hp
     simp only [List.mem_cons, List.not_mem_nil, or_false] at hp
     rcases hp with rfl | rfl | rfl
     · exact ⟨b11, by simp only; omega⟩
     · exact ⟨b12, by simp only; omega⟩
     · exact ⟨b1k, by simp only; omega⟩) (by simp; omega)
    obtain ⟨r, q2, d2, H2, n2⟩ := OG H x.2 (by rw [hpl]; omega)
    have rc := H2.rcells 0 rfl
    obtain ⟨q3, d3, H3, n3, lo3⟩ := H2.st 0 (off := 0) (v := r) rfl (by simp) ⟨rc.1, rc.2.1⟩
    obtain ⟨q4, d4, H4, n4, _⟩ := H3.st 1 (off := 0) (v := .i .i64 0) rfl (by simp) ⟨rfl, rfl⟩
    have lr : ldR q1 (some (tx x.2)) = some (tx x.2, q1) := rfl
    simp only [tx] at d2
    simp only [pC, Bh, subC, go_sem, AD, AA, AC, AB, KB_n, KB_x, Nat.reduceBEq, Nat.reduceAdd, Nat.reduceLT, Nat.reduceLeDiff, Nat.reduceEqDiff, reduceIte, Int.reduceEq, reduceCtorEq, g3, g4, g5, ldn, ldx, ldp, lr, e1, d2, d3, d4]
    simp only [List.cons_append, List.nil_append, List.set_cons_zero, List.set_cons_succ] at H4
    have H5 := H4.setBox (i := 2) rfl (.loop 2 (some .ret) e [23] pA pC)
    simp only [List.set_cons_zero, List.set_cons_succ] at H5
    refine Hm (H4.box (i := 2) rfl).1 (by omega) H4.wf H4.over (by omega) (by omega) (by have := H4.nt; simp only at this; omega) hkO (fun i hi hlt => ?_) (fun hh => by simp at hh) (fun _ => ⟨⟨_, _, _, _, (H5.box (i := 2) rfl).1⟩, ⟨r, (H5.box (i := 0) rfl).1, by rw [← hpl]; exact H5.rows (i := 0) rfl, fun k hk => ?_⟩, (H5.box (i := 1) rfl).1⟩) (fun i hh => by simp at hh)
    · rw [Hp.keep (M := [_, _, _]) hrest w1 H4 (by omega) (by omega) (fun p hp => by
       simp only [List.mem_cons, List.not_mem_nil, or_false] at hp
       rcases hp with rfl | rfl | rfl <;> simp only <;> omega), bx1, if_neg (by omega), bx0 i hlt]
    · have hrf : r.refs = true := by
       rcases H2.rows (i := 0) rfl with h | ⟨k', v, t, h, _⟩
       · rw [GG h] at hk; cases hk
       · simp only at h; rw [h]; rfl
      have h1 := lo3 hrf
      have h2 : q4.lo ≤ q3.lo := by
       have := st_lo d4; omega
      show (q4.setBox k1 _).lo < k1 + 1
      have : (q4.setBox k1 (.loop 2 (some .ret) e [23] pA pC)).lo = q4.lo := rfl
      omega
  · have e1 : ((x.1 : Int) = n) = False := by simp [hxn]
    simp only [pC, Bh, subC, go_sem, AD, AA, AC, AB, KB_n, KB_x, Nat.reduceBEq, Nat.reduceAdd, Nat.reduceLT, Nat.reduceLeDiff, Nat.reduceEqDiff, reduceIte, Int.reduceEq, reduceCtorEq, g3, g4, g5, ldn, ldx, e1]
    have bx3 : ∀ B i, (q1.setBox k1 B).box? i = if i = k1 then some B else q1.box? i := fun B i => setBox_box? w1.b (by omega) i
    refine Hm b1k (by omega) w1 ov1 (by omega) (by omega) (by omega) hkO (fun i hi hlt => by rw [bx1, if_neg (by omega)]; exact bx0 i hlt) (fun _ => ⟨fun i y hi hy => ?_, by rw [bx3, if_pos rfl], by rw [bx3, if_neg (by omega)]; exact b10, by rw [bx3, if_neg (by omega)]; exact b11, by rw [bx3, if_neg (by omega)]; exact b12⟩) (fun hh => by simp at hh) (fun i hh => by simp at hh)
    by_cases hij : i < j
    · exact hI i y hij hy
    · obtain rfl : i = j := by omega
      rw [hx] at hy
      cases hy
      exact hxn
theorem LO {a : AV} {p : List (List Nat)} (h : CN 1 a (p.map .s)) (e : Int) {s q : St} (ov : Over s q) : KR s [(.sl 1 .id), .id] (.tup [tx p, .i .i64 e]) (some ([a, .i .i64 e], q)) := by
 refine AI ov ?_ ?_
 · simp only [BW, AV.refs, AV.refs.go, h.refs (Ea p)]; rfl
 · simp only [wkZ, h.wk (LZ p), BW, wk, tx]
theorem P2 {l : List FT} (h : MayD l) : ∀ n, n < l.length → (climb l n).length ≤ n := by
 intro n
 induction n using Nat.strongRecOn with
 | _ n ih =>
   intro hn
   by_cases h0 : n = 0
   · subst h0; rw [IT]; simp
   · obtain ⟨u, f, h1, h2, h3, _⟩ := h.up n (by omega) hn
     rw [NN h (by omega) hn h1 h2 h3, List.length_append]
     have := ih u h2 (by omega)
     simp only [List.length_cons, List.length_nil]
     omega
theorem XA (l : List FT) (ho : FOk l) (n : Int) (s : St) (hw : Wf s) : (lim prog).call Iq [fx l, .i .i64 n] s = some (.tup [tx (F5 l n).1, .i .i64 (F5 l n).2], s) := by
 refine fn_W Qj rfl rfl ?_
 have hz0 : wkZ Bh.cin [fx l, .i .i64 n] = [fx l, .i .i64 n] := by
  simp only [Bh, wkZ, Iu .ws, wk]
  rfl
 rw [hz0]
 have H1 := (((Hp.begin hw).new (.cells 3 [.i .i64 n])).new (.cells 23 [.nsl])).new (.cells 37 [.i .i64 0])
 obtain ⟨q3, hq3⟩ : ∃ q3, ((s.enter.new (.cells 3 [.i .i64 n])).new (.cells 23 [.nsl])).new (.cells 37 [.i .i64 0]) = q3 := ⟨_, rfl⟩
 have nb3 : q3.nb = s.nb + 3 := by rw [← hq3]; rfl
 have e1 : (s.enter.new (.cells 3 [.i .i64 n])).nb = s.nb + 1 := rfl
 have e2 : ((s.enter.new (.cells 3 [.i .i64 n])).new (.cells 23 [.nsl])).nb = s.nb + 2 := rfl
 have e3 : s.enter.nb = s.nb := rfl
 have c1 : (AV.i .i64 n).cells = [.i .i64 n] := rfl
 rw [hq3, e1, e2, e3] at H1
 have hmay := NF l ho.ok ho.len ho.fl q3 H1.wf
 unfold fx at hmay
 have ldn := H1.ld 2 (off := 0) (v := .i .i64 n) rfl rfl
 cases hm : mayP l
 · rw [hm] at hmay
   obtain ⟨q4, d4, H4, n4, _⟩ := H1.st 1 (off := 0) (v := .nsl) rfl (by simp) ⟨rfl, rfl⟩
   obtain ⟨q5, d5, H5, n5, _⟩ := H4.st 0 (off := 0) (v := .i .i64 4) rfl (by simp) ⟨rfl, rfl⟩
   have la := H5.ld 1 (off := 0) (v := .nsl) rfl rfl
   have lb := H5.ld 0 (off := 0) (v := .i .i64 4) rfl rfl
   simp only [Bh, go_sem, AD, AA, AC, AB, KB_n, KB_x, Nat.reduceBEq, Nat.reduceAdd, Nat.reduceLT, Nat.reduceLeDiff, Nat.reduceEqDiff, reduceIte, Int.reduceEq, reduceCtorEq, fx, hq3, e1, e2, e3, c1, List.length_cons, List.length_nil, hmay, d4, d5, la, lb]
   unfold F5
   rw [hm, if_neg (by simp)]
   exact LO (p := []) (.inl ⟨rfl, rfl⟩) 4 H5.over
 · rw [hm] at hmay
   unfold F5
   rw [hm, if_pos rfl]
   by_cases hr : 0 ≤ n ∧ n < (l.length : Int)
   · have r1 : (n < 0) = False := eq_false (by omega)
     have r2 : ((l.length : Int) ≤ n) = False := eq_false (by omega)
     rw [if_pos hr]
     obtain ⟨q5, d5, w5, nb5, nt5, bl5, bt5, bx5, ov5, fq5⟩ := Ry (l := l) (x := (0, [])) (a0 := fx l) (a1 := .nsl) .ws (.inl ⟨rfl, rfl⟩) H1.wf
     have ov5 := ov5 s H1.over
     simp only [fx, Int.natCast_zero] at d5
     simp only [Bh, go_sem, AD, AA, AC, AB, KB_n, KB_x, Nat.reduceBEq, Nat.reduceAdd, Nat.reduceLT, Nat.reduceLeDiff, Nat.reduceEqDiff, reduceIte, Int.reduceEq, reduceCtorEq, fx, hq3, e1, e2, e3, c1, List.length_cons, List.length_nil, hmay, ldn, r1, r2, List.length_map, d5]
     refine YG (g := Bs) (caps := [.p (q3.nb + 1) 0, .p q3.nb 0]) (by simp only [go_sem, AD, AA, AC, AB, KB_n, KB_x, Nat.reduceBEq, Nat.reduceAdd, Nat.reduceLT, Nat.reduceLeDiff, Nat.reduceEqDiff, reduceIte, Int.reduceEq, reduceCtorEq]) fun e' he' => ?_
     have z3 : e'.get 3 = .p s.nb 0 := by rw [he']; simp only [go_sem, AD, AA, AC, AB, KB_n, KB_x, Nat.reduceBEq, Nat.reduceAdd, Nat.reduceLT, Nat.reduceLeDiff, Nat.reduceEqDiff, reduceIte, Int.reduceEq, reduceCtorEq]
     have z4 : e'.get 4 = .p (s.nb + 1) 0 := by rw [he']; simp only [go_sem, AD, AA, AC, AB, KB_n, KB_x, Nat.reduceBEq, Nat.reduceAdd, Nat.reduceLT, Nat.reduceLeDiff, Nat.reduceEqDiff, reduceIte, Int.reduceEq, reduceCtorEq]
     have z5 : e'.get 5 = .p (s.nb + 2) 0 := by rw [he']; simp only [go_sem, AD, AA, AC, AB, KB_n, KB_x, Nat.reduceBEq, Nat.reduceAdd, Nat.reduceLT, Nat.reduceLeDiff, Nat.reduceEqDiff, reduceIte, Int.reduceEq, reduceCtorEq]
     clear he'
     obtain ⟨q6, hq6⟩ : ∃ q6, q5.new (.loop 0 none e' [23] pA pC) = q6 := ⟨_, rfl⟩
     have w6 : Wf q6 := by rw [← hq6]; exact w5.new _
     have nb6 : q6.nb = q5.nb + 1 := by rw [← hq6]; rfl
     have ov6 : Over s q6 := by rw [← hq6]; exact ov5.new _
     have bx6 : ∀ i, i < q5.nb → q6.box? i = q5.box? i := fun i hi => by rw [← hq6]; exact Ba hi
     have bk6 : q6.box? q5.nb = some (.loop 0 none e' [23] pA pC) := by rw [← hq6]; exact Ay q5 _
     have hd := mayD hm
     have hnl : n.toNat < l.length := by omega
     have B := VV (s := s) (L := belowF l l.length 0 []) (n := n) (p := climb l n.toNat) (b0 := s.nb) (k1 := q5.nb) (e := e') (by omega) rfl z3 z4 z5 (fun i x hx hxn => by
      have hx := List.mem_of_getElem? hx
      rw [← IT l] at hx
      have := (MO hm l.length 0 hd.pos hx).2
      rw [this, ← hxn, Int.toNat_natCast]) (by have := P2 hd n.toNat hnl; have := ho.len; omega)
     have b0 := (H1.box (i := 2) rfl).1
     have b1 := (H1.box (i := 1) rfl).1
     have b2 := (H1.box (i := 0) rfl).1
     simp only at b0 b1 b2
     obtain ⟨q7, d7, ov7, w7, nb7, nt7, hres7⟩ := P1 hm ho.ok ho.len l.length 0 [] hd.pos (by have := ho.len; simp; omega) (s := q6) (xb := q3.nb + 1) (lb := q3.nb) (by rw [bx6 _ (by omega)]; exact bt5) (by rw [bx6 _ (by omega)]; exact bl5) (by omega) (by omega) (by omega)
      s (q5.nb + 1) (q5.nb + 1) q5.nb _ _ (C0 (q5.nb + 1) 0) (C0.safe _ _) (Nat.le_refl _) (by rw [nb3]; exact B)
      (show PI (belowF l l.length 0 []) n s.nb q5.nb e' 0 q6 from ⟨fun i x hi => by omega, bk6, by rw [bx6 _ (by omega), bx5 _ (by omega)]; exact b0, by rw [bx6 _ (by omega), bx5 _ (by omega)]; exact b1, by rw [bx6 _ (by omega), bx5 _ (by omega)]; exact b2⟩) ov6 w6 (by omega) (by omega)
     rw [← hq6] at d7
     rcases hres7 with ⟨hI7, _⟩ | ⟨⟨tm, ps, a, b, hk7⟩, hrg, hb2⟩
     · obtain ⟨j, hj⟩ := VP hm hnl
       have hjl : j < (tdL (belowF l l.length 0 [])).length := by
        rw [List.getElem?_eq_some_iff] at hj
        simpa [tdL] using hj.1
       exact absurd (by simp only; omega) (hI7 j _ hjl hj)
     · refine ⟨_, q7, d7, _, _, _, _, _, _, hk7, by decide, ?_⟩
       have fq7 : Fq (fun j => j = s.nb + 3 + 1 ∨ j = s.nb + 3) q5.nb q7 (q7.setBox q5.nb .used) := Fq.setBox w7 (by omega) (.inl (Nat.le_refl _)) (by omega) _
       obtain ⟨q8, hq8⟩ : ∃ q8, q7.setBox q5.nb .used = q8 := ⟨_, rfl⟩
       rw [hq8] at fq7
       have w8 : Wf q8 := by rw [← hq8]; exact w7.setBox _ _
       have ov8 : Over s q8 := by rw [← hq8]; exact Over.setBox ov7 (by omega) (by omega) _
       obtain ⟨r, k1, k2, _⟩ := hrg
       have k1 : q8.box? (s.nb + 1) = some (.cells 23 [r]) := by rw [fq7.box _ (by omega) (by omega)]; exact k1
       have k3 : q8.box? (s.nb + 2) = some (.cells 37 [.i .i64 0]) := by rw [fq7.box _ (by omega) (by omega)]; exact hb2
       have k2 := k2.mono fq7.tok.1 fun k hk => fq7.tok.2 k (k2.tok_lt hk)
       obtain ⟨rest, H8, _⟩ := XU w8 ov8 [] (by simp) (by simp)
       have H8 := H8.addRow k2
       obtain ⟨r', q9, d9, t9, H9, n9⟩ := H8.pub 0 rfl
       have d9A : pubA q8 r = some (r', q9) := by
        rw [Nq (H8.rows (i := 0) rfl)]; exact d9
       have la := D4 (s := q8) (v := r) (off := 0) k1 rfl
       have hbb : q9.box? (s.nb + 2) = q8.box? (s.nb + 2) := YH d9 _
       have lb := D4 (s := q9) (v := .i .i64 0) (off := 0) (by rw [hbb]; exact k3) rfl
       simp only [hq8, go_sem, AD, AA, AC, AB, KB_n, KB_x, Nat.reduceBEq, Nat.reduceAdd, Nat.reduceLT, Nat.reduceLeDiff, Nat.reduceEqDiff, reduceIte, Int.reduceEq, reduceCtorEq, z4, z5, la, lb, d9A]
       exact LO t9 0 H9.over
   · rw [if_neg hr]
     obtain ⟨q4, d4, H4, n4, _⟩ := H1.st 1 (off := 0) (v := .nsl) rfl (by simp) ⟨rfl, rfl⟩
     obtain ⟨q5, d5, H5, n5, _⟩ := H4.st 0 (off := 0) (v := .i .i64 1) rfl (by simp) ⟨rfl, rfl⟩
     have la := H5.ld 1 (off := 0) (v := .nsl) rfl rfl
     have lb := H5.ld 0 (off := 0) (v := .i .i64 1) rfl rfl
     by_cases r1 : n < 0
     · have r1' : (n < 0) = True := by simp [r1]
       simp only [Bh, go_sem, AD, AA, AC, AB, KB_n, KB_x, Nat.reduceBEq, Nat.reduceAdd, Nat.reduceLT, Nat.reduceLeDiff, Nat.reduceEqDiff, reduceIte, Int.reduceEq, reduceCtorEq, fx, hq3, e1, e2, e3, c1, List.length_cons, List.length_nil, hmay, ldn, r1', d4, d5, la, lb]
       exact LO (p := []) (.inl ⟨rfl, rfl⟩) 1 H5.over
     · have r1' : (n < 0) = False := by simp [r1]
       have r2' : ((l.length : Int) ≤ n) = True := eq_true (by omega)
       simp only [Bh, go_sem, AD, AA, AC, AB, KB_n, KB_x, Nat.reduceBEq, Nat.reduceAdd, Nat.reduceLT, Nat.reduceLeDiff, Nat.reduceEqDiff, reduceIte, Int.reduceEq, reduceCtorEq, fx, hq3, e1, e2, e3, c1, List.length_cons, List.length_nil, hmay, ldn, r1', r2', List.length_map, d4, d5, la, lb]
       exact LO (p := []) (.inl ⟨rfl, rfl⟩) 1 H5.over
end Go.Proofs.YtbfgoopcnkeblaaGreat

namespace Go.Proofs.YtbfgoopcnkeblaaGreat
open Go.Proofs.YtbfgoopcnkeblaaGreat.Am
theorem Se {t0 : Nat} {s : St} {r : RA} (h : RowH t0 s r) : elems s r.es r.a = some r.xs := by
 rcases h with h | ⟨k, v, t, h, h1, h2, h3, h4, _⟩
 · exact h.told.elems s
 · rw [h]
   simp [elems, St.ok, h3, h4]
def OutR (es T : Nat) (a : AV) (xs : List AV) (R : List RA) : Prop := Ij es a xs ∨ ∃ fr, R[0]? = some ⟨es, T, a, xs, fr⟩
theorem OutR.elems {es T : Nat} {a : AV} {xs : List AV} {R : List RA} {B : List (Nat × Box)} {s0 s : St} {n : En} (h : OutR es T a xs R) (H : Hp s0 s n R B) : Am.elems s es a = some xs := by
 rcases h with h | ⟨fr, h⟩
 · exact h.told.elems s
 · exact Se (H.rows h)
theorem OutR.pubA {es T : Nat} {a : AV} {xs : List AV} {R : List RA} {B : List (Nat × Box)} {s0 s : St} {n : En} (h : OutR es T a xs R) (H : Hp s0 s n R B) : ∃ a' s' R', Am.pubA s a = some (a', s') ∧ CN es a' xs ∧ Hp s0 s' n R' B := by
 rcases h with h | ⟨fr, h⟩
 · exact ⟨a, s, R, h.told.pubA s, h.told, H⟩
 · obtain ⟨a', s', d, t, H', _⟩ := H.pub 0 h
   exact ⟨a', s', _, by rw [Nq (H.rows h)]; exact d, t, H'⟩

attribute [local irreducible] W WO WE WQ WD Tr.get Tr.set
def Gu (o : Option ND) : ND := o.getD noN
theorem ZD (n : ND) (ho : n.Ok) (hwl : C8 n = true) (pl : List (List Nat)) (hl : pl.length < 2 ^ 62) (s : St) (hw : Wf s) :
    (lim prog).call Hr [.agg n.cells, tx pl] s = some (.tup [.agg (Gu (IY n pl)).cells, .b (IY n pl).isSome], s) := by
 refine fn_W Pe rfl rfl ?_
 have H0 := (Hp.begin hw).new (.cells 30 n.cells)
 generalize hq : s.enter.new (.cells 30 n.cells) = q at H0
 generalize hm : s.enter.nb = m at H0
 have H1 := H0.new (.cells 30 [.i .u8 0, .s [], .nsl, .nsl])
 generalize hq1 : q.new (.cells 30 [.i .u8 0, .s [], .nsl, .nsl]) = q1 at H1
 generalize hm1 : q.nb = m1 at H1
 have hz0 : wkZ Dq.cin [.agg n.cells, tx pl] = [.agg n.cells, tx pl] := by simp [Dq, wkZ, wk, ND.cells]
 rw [hz0]
 simp only [Dq, go_sem, AD, AA, AC, AB, KB_n, KB_x, Nat.reduceBEq, Nat.reduceAdd, Nat.reduceLT, Nat.reduceLeDiff, Nat.reduceEqDiff, reduceIte, Int.reduceEq, reduceCtorEq, Af, hq, hm, hq1, hm1, List.length_map]
 refine CI (fun x e q => ∃ (i : Nat) (c : ND), i + x = pl.length ∧ c.Ok ∧ C8 c = true ∧ IY n pl = IY c (pl.drop i) ∧ Hp s q s.en [] [(m1, .cells 30 [.i .u8 0, .s [], .nsl, .nsl]), (m, .cells 30 c.cells)] ∧
  e.get 2 = .p m 0 ∧ e.get 4 = .p m1 0 ∧ e.get 10 = tx pl ∧ e.get 11 = .i .i64 (pl.length : Nat) ∧ e.get 12 = .i .i64 (i : Nat)) ?_ pl.length _ _ ?_
 · rintro x e q' ⟨i, c, hi, hco, hcw, hf, H, g2, g4, g10, g11, g12⟩
   have l0 := H.ld 1 (off := 0) (v := .i .u8 (c.kind : Nat)) rfl rfl
   have l2 := H.ld 1 (off := 2) (v := tx c.names) rfl rfl
   have l3 := H.ld 1 (off := 3) (v := .ws false 4 (c.kids.map ND.av)) rfl rfl
   by_cases h : i < pl.length
   · have e1 : ((i : Int) < (pl.length : Int)) = True := eq_true (by omega)
     obtain ⟨y, hy⟩ : ∃ y, pl[i]? = some y := ⟨_, List.getElem?_eq_getElem h⟩
     have hy2 : (pl.map AV.s)[i]? = some (.s y) := by rw [List.getElem?_map, hy]; rfl
     have hd : pl.drop i = y :: pl.drop (i + 1) := by
      rw [List.drop_eq_getElem_cons h]
      rw [List.getElem?_eq_getElem h] at hy
      cases hy; rfl
     have hD := wellD hcw
     obtain ⟨p, hp, hb⟩ := KU c.names y hD.asc (by have := hco.names.2; omega) q'
     have hidx := U7 hD.asc hp
     have hw1 := Ax (show i + 1 < 2 ^ 63 by omega)
     obtain ⟨q3, d3, H3, _⟩ := H.stw 0 (v := .agg [.i .u8 0, .s [], .nsl, .nsl]) (m := 4) rfl rfl ⟨rfl, rfl⟩
     have l4 := H3.ldw 0 (m := 4) rfl rfl
     have bad : kidN c y = none → IY n pl = none := fun hk => by rw [hf, hd]; simp only [IY, hk]
     have hend : KR s [(.agg [.id, .id, (.sl 1 .id), (.sl 4 (.agg [.id, .id, (.sl 1 .id), (.sl 4 (.agg [.id, .id, (.sl 1 .id), (.sl 4 .id)]))]))]), .id] (.tup [.agg noN.cells, .b false]) (some ([.agg [.i .u8 0, .s [], .nsl, .nsl], .b false], q3)) := AI H3.over rfl rfl
     by_cases c2 : c.kind = 2
     · have e2 : ((c.kind : Int) ≠ 2) = False := by simp only [ne_eq, eq_iff_iff, iff_false]; omega
       by_cases c3 : c.names[p]? = some y
       · rw [decide_eq_true c3] at hb
         rw [if_pos c3] at hidx
         have hpl : p < c.names.length := (List.getElem?_eq_some_iff.1 c3).1
         obtain ⟨k, hk⟩ : ∃ k, c.kids[p]? = some k := ⟨_, List.getElem?_eq_getElem (by rw [← hD.len]; exact hpl)⟩
         have hkid : kidN c y = some k := by unfold kidN; rw [if_pos c2, hidx]; exact hk
         have hget := Hw hk
         obtain ⟨q4, d4, H4, _⟩ := H.stw 1 (v := .agg k.cells) (m := 4) rfl rfl ⟨Af k, GU k⟩
         have hld : ldA q' true 4 (.ep k.cells 0 .shut) = some (.agg k.cells) := rfl
         simp only [go_sem, AD, AA, AC, AB, KB_n, KB_x, Nat.reduceBEq, Nat.reduceAdd, Nat.reduceLT, Nat.reduceLeDiff, Nat.reduceEqDiff, reduceIte, Int.reduceEq, reduceCtorEq, g2, g4, g10, g11, g12, e1, AK, hy2, Bi, DW, l0, l2, l3, hb, e2, hget, hld, AU, d4, hw1, Nat.zero_add]
         exact ⟨x - 1, by omega, i + 1, k, by omega, hco.kids.1 k (List.mem_of_getElem? hk), hD.kid hk, by rw [hf, hd]; simp only [IY, hkid], H4, rfl⟩
       · rw [decide_eq_false c3] at hb
         rw [if_neg c3] at hidx
         have hkid : kidN c y = none := by unfold kidN; rw [if_pos c2, hidx]
         rw [bad hkid]
         simp only [go_sem, AD, AA, AC, AB, KB_n, KB_x, Nat.reduceBEq, Nat.reduceAdd, Nat.reduceLT, Nat.reduceLeDiff, Nat.reduceEqDiff, reduceIte, Int.reduceEq, reduceCtorEq, g2, g4, g10, g11, g12, e1, AK, hy2, Bi, DW, l0, l2, l3, hb, e2, d3, l4, Nat.zero_add]
         exact hend
     · have e2 : ((c.kind : Int) ≠ 2) = True := by simp only [ne_eq, eq_iff_iff, iff_true]; omega
       have hkid : kidN c y = none := by unfold kidN; rw [if_neg c2]
       rw [bad hkid]
       simp only [go_sem, AD, AA, AC, AB, KB_n, KB_x, Nat.reduceBEq, Nat.reduceAdd, Nat.reduceLT, Nat.reduceLeDiff, Nat.reduceEqDiff, reduceIte, Int.reduceEq, reduceCtorEq, g2, g4, g10, g11, g12, e1, AK, hy2, Bi, DW, l0, l2, l3, hb, e2, d3, l4, Nat.zero_add]
       exact hend
   · have e1 : ((i : Int) < (pl.length : Int)) = False := eq_false (by omega)
     rw [List.drop_of_length_le (by omega)] at hf
     rw [hf]
     have l4 := H.ldw 1 (m := 4) rfl rfl
     obtain ⟨q4, d4, H4, _⟩ := H.stw 0 (v := .agg c.cells) (m := 4) rfl rfl ⟨Af c, GU c⟩
     have l5 := H4.ldw 0 (m := 4) rfl rfl
     simp only [go_sem, AD, AA, AC, AB, KB_n, KB_x, Nat.reduceBEq, Nat.reduceAdd, Nat.reduceLT, Nat.reduceLeDiff, Nat.reduceEqDiff, reduceIte, Int.reduceEq, reduceCtorEq, g2, g4, g10, g11, g12, e1, l4, AU, FI, d4, l5]
     refine AI H4.over ?_ ?_
     · have := ML c
       rw [ND.av_eq] at this
       simp only [BW, AV.refs.eq_8, AV.refs.go, this]
       rfl
     · have hwk : wkZ [(.agg [.id, .id, (.sl 1 .id), (.sl 4 (.agg [.id, .id, (.sl 1 .id), (.sl 4 (.agg [.id, .id, (.sl 1 .id), (.sl 4 .id)]))]))]), .id] [.agg c.cells, .b true] = [.agg c.cells, .b true] := by simp [wkZ, wk, ND.cells]
       rw [hwk]
       rfl
 · simp only [go_sem, AD, AA, AC, AB, KB_n, KB_x, Nat.reduceBEq, Nat.reduceAdd, Nat.reduceLT, Nat.reduceLeDiff, Nat.reduceEqDiff, reduceIte, Int.reduceEq, reduceCtorEq]
   exact ⟨0, n, by omega, ho, hwl, rfl, H1, rfl⟩

abbrev ctN : CT := .agg [.id, .id, (.sl 1 .id), (.sl 4 (.agg [.id, .id, (.sl 1 .id), (.sl 4 (.agg [.id, .id, (.sl 1 .id), (.sl 4 .id)]))]))]
theorem Xc : noN.Ok := .mk (by decide) ⟨by simp, by simp⟩ (by decide) (fun _ h => by simp at h) (by decide) (by decide) (fun _ h => by simp at h)
theorem OK {n : ND} (ho : n.Ok) : ∀ (pl : List (List Nat)), (Gu (IY n pl)).Ok
 | [] => ho
 | y :: pl => by
   unfold IY
   cases hk : kidN n y with
   | none => exact Xc
   | some k =>
     simp only
     have hm : k ∈ n.kids := by
      unfold kidN at hk
      split at hk
      · split at hk
        · exact List.mem_of_getElem? hk
        · cases hk
      · cases hk
     exact OK (ho.kids.1 k hm) pl
theorem KR_N {s q : St} (ov : Over s q) (x : ND) (b : Bool) : KR s [ctN, .id] (.tup [.agg x.cells, .b b]) (some ([.agg x.cells, .b b], q)) := by
 refine AI ov ?_ ?_
 · have := ML x
   rw [ND.av_eq] at this
   simp only [BW, AV.refs, AV.refs.go, this]
   simp only [AV.refs] at this
   rw [this]; rfl
 · rfl
theorem Sf (n : ND) (ho : n.Ok) (hwl : C8 n = true) (pl : List (List Nat)) (hl : pl.length < 2 ^ 62) (s : St) (hw : Wf s) :
    (lim prog).call J8 [.agg n.cells, tx pl] s = some (.tup [.agg (Gu (IY n pl)).cells, .b (IY n pl).isSome], s) := by
 refine fn_W SV rfl rfl ?_
 have hz0 : wkZ E6.cin [.agg n.cells, tx pl] = [.agg n.cells, tx pl] := by simp [E6, wkZ, wk, ND.cells]
 rw [hz0]
 have e0 : s.enter.nb = s.nb := rfl
 have H1 := ((Hp.begin hw).new (.cells 30 n.cells)).new (.cells 30 [.i .u8 0, .s [], .nsl, .nsl])
 have e1 : (s.enter.new (.cells 30 n.cells)).nb = s.nb + 1 := rfl
 obtain ⟨q1, hq1⟩ : ∃ q1, (s.enter.new (.cells 30 n.cells)).new (.cells 30 [.i .u8 0, .s [], .nsl, .nsl]) = q1 := ⟨_, rfl⟩
 rw [hq1, e1, e0] at H1
 have lw := H1.ldw (m := 4) 1 rfl rfl
 have hwf := ON n ho q1 H1.wf
 rw [hwl] at hwf
 have hf := ZD n ho hwl pl hl q1 H1.wf
 obtain ⟨x, hx⟩ : ∃ x, Gu (IY n pl) = x := ⟨_, rfl⟩
 have hxo := OK ho pl
 rw [hx] at hf hxo
 obtain ⟨q2, d2, H2, n2⟩ := H1.adp (T := 30) (m := 4) (z := [.i .u8 0, .s [], .nsl, .nsl]) (v := .agg x.cells) rfl ⟨Af x, GU x⟩
 have lx := H2.ldw (m := 4) 0 rfl rfl
 have ho := own_ok x hxo q2 H2.wf
 obtain ⟨q3, d3, H3, n3, _⟩ := H2.stw 1 (m := 4) (v := .agg x.cells) rfl rfl ⟨Af x, GU x⟩
 have lr := H3.ldw (m := 4) 1 rfl rfl
 rw [hx]
 simp only [B4] at lx lr
 simp only [tx] at hf
 simp only [E6, go_sem, AD, AA, AC, AB, KB_n, KB_x, Nat.reduceBEq, Nat.reduceAdd, Nat.reduceLT, Nat.reduceLeDiff, Nat.reduceEqDiff, reduceIte, Int.reduceEq, reduceCtorEq, Af, tx, hq1, e1, e0, lw, hwf, hf, d2, lx, ho, d3, lr, AU, FI]
 exact KR_N H3.over x _

def Qq (P : List Nat → Bool) (L : List (List Nat)) : Int := match L.findIdx? P with
 | some i => (i : Int)
 | none => -1
theorem U1 (P : List Nat → Bool) (L : List (List Nat)) : (0 ≤ Qq P L) = (L.any P = true) := by
 unfold Qq
 cases h : L.findIdx? P with
 | none =>
   rw [List.findIdx?_eq_none_iff] at h
   simp only [eq_iff_iff]
   constructor
   · intro hh; omega
   · intro hh
     obtain ⟨x, hx, hp⟩ := List.any_eq_true.1 hh
     rw [h x hx] at hp; cases hp
 | some i =>
   rw [List.findIdx?_eq_some_iff_getElem] at h
   obtain ⟨hi, hp, _⟩ := h
   simp only [eq_iff_iff]
   constructor
   · intro _; exact List.any_eq_true.2 ⟨_, List.getElem_mem hi, hp⟩
   · intro _; omega
theorem OL (L : List (List Nat)) (hL : L.length < 2 ^ 62) (g : Nat) (caps : List AV) (P : List Nat → Bool) (s : St) (hw : Wf s) (hP : ∀ z ∈ L, Ej (lim prog) (.fn g caps) [.s z] s.enter = some (.b (P z), s.enter)) :
    (lim prog).call Bz [tx L, .fn g caps] s = some (.i .i64 (Qq P L), s) := by
 refine fn_W El rfl rfl ?_
 have hz0 : wkZ Ag.cin [tx L, .fn g caps] = [tx L, .fn g caps] := by simp [Ag, wkZ, wk, tx, LZ]
 rw [hz0]
 simp only [Ag, go_sem, AD, AA, AC, AB, KB_n, KB_x, Nat.reduceBEq, Nat.reduceAdd, Nat.reduceLT, Nat.reduceLeDiff, Nat.reduceEqDiff, reduceIte, Int.reduceEq, reduceCtorEq, tx, List.length_map]
 refine CI (fun x e q => ∃ i : Nat, i + x = L.length ∧ q = s.enter ∧ (∀ j, j < i → ∀ y, L[j]? = some y → P y = false) ∧ e.get 0 = tx L ∧ e.get 1 = .fn g caps ∧ e.get 7 = .i .i64 (L.length : Nat) ∧ e.get 8 = .i .i64 (i : Nat)) ?_ L.length _ _ ?_
 · rintro x e q ⟨i, hi, rfl, hb, g0, g1, g7, g8⟩
   by_cases h : i < L.length
   · have h1 : ((i : Int) < (L.length : Int)) = True := eq_true (by omega)
     obtain ⟨z, hz⟩ : ∃ z, L[i]? = some z := ⟨_, List.getElem?_eq_getElem h⟩
     have hz2 : (L.map AV.s)[i]? = some (.s z) := by rw [List.getElem?_map, hz]; rfl
     have hc := hP z (List.mem_of_getElem? hz)
     have hw1 := Ax (show i + 1 < 2 ^ 63 by omega)
     cases hp : P z with
     | true =>
       rw [hp] at hc
       have hix : Qq P L = (i : Int) := by
        unfold Qq
        have : L.findIdx? P = some i := by
         rw [List.findIdx?_eq_some_iff_getElem]
         rw [List.getElem?_eq_some_iff] at hz
         obtain ⟨h1, hz⟩ := hz
         exact ⟨h1, by rw [hz]; exact hp, fun j hj => by simpa using hb j hj _ (List.getElem?_eq_getElem (by omega))⟩
        rw [this]
       rw [hix]
       simp only [go_sem, AD, AA, AC, AB, KB_n, KB_x, Nat.reduceBEq, Nat.reduceAdd, Nat.reduceLT, Nat.reduceLeDiff, Nat.reduceEqDiff, reduceIte, Int.reduceEq, reduceCtorEq, g0, g1, g7, g8, tx, h1, AK, hz2, Bi, DW, hc]
       exact AI (Over.enter s) rfl rfl
     | false =>
       rw [hp] at hc
       simp only [go_sem, AD, AA, AC, AB, KB_n, KB_x, Nat.reduceBEq, Nat.reduceAdd, Nat.reduceLT, Nat.reduceLeDiff, Nat.reduceEqDiff, reduceIte, Int.reduceEq, reduceCtorEq, g0, g1, g7, g8, tx, h1, AK, hz2, Bi, DW, hc, hw1]
       refine ⟨x - 1, by omega, i + 1, by omega, fun j hj y hy => ?_, rfl⟩
       rcases Nat.lt_or_ge j i with hlt | hge
       · exact hb j hlt y hy
       · obtain rfl : j = i := by omega
         rw [hz] at hy; cases hy; exact hp
   · have h1 : ((i : Int) < (L.length : Int)) = False := eq_false (by omega)
     have hix : Qq P L = -1 := by
      unfold Qq
      have : L.findIdx? P = none := by
       rw [List.findIdx?_eq_none_iff]
       intro z hz
       obtain ⟨j, hj⟩ := List.mem_iff_getElem?.1 hz
       exact hb j (by rw [List.getElem?_eq_some_iff] at hj; have := hj.1; omega) z hj
      rw [this]
     rw [hix]
     simp only [go_sem, AD, AA, AC, AB, KB_n, KB_x, Nat.reduceBEq, Nat.reduceAdd, Nat.reduceLT, Nat.reduceLeDiff, Nat.reduceEqDiff, reduceIte, Int.reduceEq, reduceCtorEq, g0, g1, g7, g8, h1]
     exact AI (Over.enter s) rfl rfl
 · simp only [go_sem, AD, AA, AC, AB, KB_n, KB_x, Nat.reduceBEq, Nat.reduceAdd, Nat.reduceLT, Nat.reduceLeDiff, Nat.reduceEqDiff, reduceIte, Int.reduceEq, reduceCtorEq]
   exact ⟨0, by omega, fun j hj => by omega, rfl⟩
theorem HV (L : List (List Nat)) (hL : L.length < 2 ^ 62) (g : Nat) (caps : List AV) (P : List Nat → Bool) (s : St) (hw : Wf s) (hP : ∀ z ∈ L, Ej (lim prog) (.fn g caps) [.s z] s.enter.enter = some (.b (P z), s.enter.enter)) :
    (lim prog).call BF [tx L, .fn g caps] s = some (.b (L.any P), s) := by
 refine fn_W EQ rfl rfl ?_
 have hz0 : wkZ AY.cin [tx L, .fn g caps] = [tx L, .fn g caps] := by simp [AY, wkZ, wk, tx, LZ]
 have h1 := OL L hL g caps P s.enter hw.enter hP
 rw [hz0]
 unfold tx at h1
 simp only [AY, go_sem, AD, AA, AC, AB, KB_n, KB_x, Nat.reduceBEq, Nat.reduceAdd, Nat.reduceLT, Nat.reduceLeDiff, Nat.reduceEqDiff, reduceIte, Int.reduceEq, reduceCtorEq, h1, tx, U1]
 exact AI (Over.enter s) rfl (by cases h : L.any P <;> rfl)
theorem U2 (L : List Int) (hL : L.length < 2 ^ 62) (k : Int) {a : AV} (ha : CN 1 a (L.map iv)) (s : St) (hw : Wf s) :
    (lim prog).call Db [a, .i .i64 k] s = some (.i .i64 (Pl (fun z => decide (k = z)) L), s) := by
 refine fn_W Hc rfl rfl ?_
 have hz0 : wkZ BM.cin [a, .i .i64 k] = [zx L, .i .i64 k] := by simp [BM, wkZ, wk, ha.wk (TO L), zx]
 rw [hz0]
 simp only [BM, go_sem, AD, AA, AC, AB, KB_n, KB_x, Nat.reduceBEq, Nat.reduceAdd, Nat.reduceLT, Nat.reduceLeDiff, Nat.reduceEqDiff, reduceIte, Int.reduceEq, reduceCtorEq, zx, List.length_map]
 refine CI (fun x e q => ∃ i : Nat, i + x = L.length ∧ q = s.enter ∧ (∀ j, j < i → ∀ y, L[j]? = some y → decide (k = y) = false) ∧ e.get 0 = zx L ∧ e.get 1 = .i .i64 k ∧ e.get 7 = .i .i64 (L.length : Nat) ∧ e.get 8 = .i .i64 (i : Nat)) ?_ L.length _ _ ?_
 · rintro x e q ⟨i, hi, rfl, hb, g0, g1, g7, g8⟩
   by_cases h : i < L.length
   · have h1 : ((i : Int) < (L.length : Int)) = True := eq_true (by omega)
     obtain ⟨z, hz⟩ : ∃ z, L[i]? = some z := ⟨_, List.getElem?_eq_getElem h⟩
     have hz2 := Pn hz
     have hw1 := Ax (show i + 1 < 2 ^ 63 by omega)
     by_cases hp : k = z
     · have e1 : (k = z) = True := by simp [hp]
       rw [Rl hz (by simp [hp]) hb]
       simp only [go_sem, AD, AA, AC, AB, KB_n, KB_x, Nat.reduceBEq, Nat.reduceAdd, Nat.reduceLT, Nat.reduceLeDiff, Nat.reduceEqDiff, reduceIte, Int.reduceEq, reduceCtorEq, g0, g1, g7, g8, zx, h1, AK, hz2, Fe, DW, e1]
       exact AI (Over.enter s) rfl rfl
     · have e1 : (k = z) = False := by simp [hp]
       simp only [go_sem, AD, AA, AC, AB, KB_n, KB_x, Nat.reduceBEq, Nat.reduceAdd, Nat.reduceLT, Nat.reduceLeDiff, Nat.reduceEqDiff, reduceIte, Int.reduceEq, reduceCtorEq, g0, g1, g7, g8, zx, h1, AK, hz2, Fe, DW, e1, hw1]
       refine ⟨x - 1, by omega, i + 1, by omega, fun j hj y hy => ?_, rfl⟩
       rcases Nat.lt_or_ge j i with hlt | hge
       · exact hb j hlt y hy
       · obtain rfl : j = i := by omega
         rw [hz] at hy; cases hy; simpa using hp
   · have h1 : ((i : Int) < (L.length : Int)) = False := eq_false (by omega)
     rw [Rm fun j hj => hb j (by omega)]
     simp only [go_sem, AD, AA, AC, AB, KB_n, KB_x, Nat.reduceBEq, Nat.reduceAdd, Nat.reduceLT, Nat.reduceLeDiff, Nat.reduceEqDiff, reduceIte, Int.reduceEq, reduceCtorEq, g0, g1, g7, g8, h1]
     exact AI (Over.enter s) rfl rfl
 · simp only [go_sem, AD, AA, AC, AB, KB_n, KB_x, Nat.reduceBEq, Nat.reduceAdd, Nat.reduceLT, Nat.reduceLeDiff, Nat.reduceEqDiff, reduceIte, Int.reduceEq, reduceCtorEq]
   exact ⟨0, by omega, fun j hj => by omega, rfl, rfl⟩
theorem Pt (L : List Int) (hL : L.length < 2 ^ 62) (k : Int) {a : AV} (ha : CN 1 a (L.map iv)) (s : St) (hw : Wf s) :
    (lim prog).call C5 [a, .i .i64 k] s = some (.b (decide (k ∈ L)), s) := by
 refine fn_W GR rfl rfl ?_
 have hz0 : wkZ A7.cin [a, .i .i64 k] = [zx L, .i .i64 k] := by simp [A7, wkZ, wk, ha.wk (TO L), zx]
 have h1 := U2 L hL k (a := zx L) .ws s.enter hw.enter
 rw [hz0]
 unfold zx at h1
 have hany : (L.any (fun z => decide (k = z)) = true) = (k ∈ L) := by simp [List.any_eq_true]
 simp only [A7, go_sem, AD, AA, AC, AB, KB_n, KB_x, Nat.reduceBEq, Nat.reduceAdd, Nat.reduceLT, Nat.reduceLeDiff, Nat.reduceEqDiff, reduceIte, Int.reduceEq, reduceCtorEq, h1, zx, Pm, hany]
 exact AI (Over.enter s) rfl rfl
def Gs (f : FT) (m : Nat) (x : List Nat) : Bool := match f.names.findIdx? (· == x) with
 | some i => match f.kids[i]? with
   | some k => decide (k ∈ (HF f.kids).take m)
   | none => false
 | none => false
theorem Rr : ∀ (p : Option (List Nat)) (L : List (List Nat)), ascN p L = true → Asc L ∧ ∀ q, p = some q → ∀ x ∈ L, ltN q x = true
 | p, [], _ => ⟨fun _ h => by simp at h, fun _ _ x hx => by simp at hx⟩
 | p, s :: ns, h => by
   simp only [ascN, Bool.and_eq_true] at h
   obtain ⟨h1, h2, h3⟩ := h
   obtain ⟨k1, k2⟩ := Rr (some s) ns h3
   refine ⟨fun {i j a b} hij ha hb => ?_, fun q hq x hx => ?_⟩
   · cases j with
     | zero => omega
     | succ j =>
       simp only [List.getElem?_cons_succ] at hb
       cases i with
       | zero =>
         simp only [List.getElem?_cons_zero, Option.some.injEq] at ha
         subst ha
         exact k2 s rfl b (List.mem_of_getElem? hb)
       | succ i =>
         simp only [List.getElem?_cons_succ] at ha
         exact k1 (by omega) ha hb
   · subst hq
     simp only at h2
     rcases List.mem_cons.1 hx with rfl | hx
     · exact h2
     · exact Jb h2 (k2 s rfl x hx)
theorem U3 {f : FT} (h : f.one = true) : Asc f.names := by
 unfold FT.one at h
 simp only [Bool.and_eq_true] at h
 split at h
 · simp only [Bool.and_eq_true] at h
   exact (Rr none _ h.2.1).1
 · simp only [Bool.and_eq_true, decide_eq_true_eq, List.length_eq_zero_iff] at h
   rw [h.2.1]
   exact fun _ h => by simp at h
theorem Pu {f : FT} (ho : f.Ok) (h1 : f.one = true) {m : Nat} {q : St} (hw : Wf q) {b b2 : Nat} (hb : q.box? b = some (.cells 26 f.cells)) (lb : b < q.nb) {a : AV} (ha : CN 1 a (((HF f.kids).take m).map iv)) (hb2 : q.box? b2 = some (.cells 24 [a])) (lb2 : b2 < q.nb) (x : List Nat) :
    Ej (lim prog) (.fn Av [.p b 0, .p b2 0]) [.s x] q = some (.b (Gs f m x), q) := by
 show (lim prog).call Av [.s x, .p b 0, .p b2 0] q = _
 refine fn_W MH rfl rfl ?_
 have hz0 : wkZ CL.cin [.s x, .p b 0, .p b2 0] = [.s x, .p b 0, .p b2 0] := by simp only [CL, wkZ, wk]
 rw [hz0]
 have ln := KM (Over.enter q) (off := 2) (v := tx f.names) lb hb rfl
 have lk := KM (Over.enter q) (off := 3) (v := zx f.kids) lb hb rfl
 have lr := KM (Over.enter q) (off := 0) (v := a) lb2 hb2 rfl
 obtain ⟨p, hp, hbs⟩ := KU f.names x (U3 h1) (by have := ho.nlen; omega) q.enter
 have hidx := U7 (U3 h1) hp
 have hnk := Gv h1
 unfold tx at hbs
 by_cases hx : f.names[p]? = some x
 · rw [decide_eq_true hx] at hbs
   rw [if_pos hx] at hidx
   obtain ⟨k, hk⟩ : ∃ k, f.kids[p]? = some k := ⟨_, List.getElem?_eq_getElem (by rw [List.getElem?_eq_some_iff] at hx; have := hx.1; omega)⟩
   have hk2 := Pn hk
   have hci := Pt ((HF f.kids).take m) (by have := ho.klen; rw [List.length_take, JM]; omega) k ha q.enter hw.enter
   have hap : Gs f m x = decide (k ∈ (HF f.kids).take m) := by unfold Gs; rw [hidx]; simp only [hk]
   rw [hap]
   have hld := ha.ld
   have hpu := ha.pub q.enter
   have hnt := ha.noTok
   simp only [CL, go_sem, AD, AA, AC, AB, KB_n, KB_x, Nat.reduceBEq, Nat.reduceAdd, Nat.reduceLT, Nat.reduceLeDiff, Nat.reduceEqDiff, reduceIte, Int.reduceEq, reduceCtorEq, Nat.zero_add, tx, zx, ln, lk, lr, hbs, AK, hk2, Fe, DW, hld.1, hld.2, hpu, hnt, hci]
   exact AI (Over.enter q) rfl rfl
 · rw [decide_eq_false hx] at hbs
   rw [if_neg hx] at hidx
   have hap : Gs f m x = false := by unfold Gs; rw [hidx]
   rw [hap]
   simp only [CL, go_sem, AD, AA, AC, AB, KB_n, KB_x, Nat.reduceBEq, Nat.reduceAdd, Nat.reduceLT, Nat.reduceLeDiff, Nat.reduceEqDiff, reduceIte, Int.reduceEq, reduceCtorEq, Nat.zero_add, tx, ln, hbs]
   exact AI (Over.enter q) rfl rfl
theorem slc_zx {L : List Int} {m : Nat} (hm : m ≤ L.length) (q : St) : ∃ a, Bj q false 1 (.ws false 1 (L.map iv)) none (some (.i .i64 (m : Nat))) none = some (a, q) ∧ CN 1 a ((L.take m).map iv) := by
 unfold Bj Ch
 simp only [AK, List.length_map, if_true, Nat.zero_le, hm, and_self, List.drop_zero, Nat.sub_zero]
 split
 · rename_i h
   exact ⟨_, rfl, by rw [h.2, List.take_length]; exact .ws⟩
 · rw [← List.map_take]
   first
    | exact ⟨_, rfl, .ws⟩
    | exact ⟨_, rfl, .inr (.inr (.inr (.inl rfl)))⟩
    | (split <;> first | exact ⟨_, rfl, .ws⟩ | exact ⟨_, rfl, .inr (.inr (.inr (.inl rfl)))⟩ | exact ⟨_, rfl, .inr (.inr (.inl rfl))⟩)
theorem Wu {f : FT} (ho : f.Ok) {m : Nat} (hm : m ≤ f.kids.length) {s0 q : St} {n : En} {R : List RA} {B : List (Nat × Box)} (H : Hp s0 q n R B) :
    ∃ q' a b b2, (lim prog).call D1 [.agg f.cells, .i .i64 (m : Nat)] q = some (.fn Av [.p b 0, .p b2 0], q') ∧ Hp s0 q' n R ((b2, .cells 24 [a]) :: (b, .cells 26 f.cells) :: B) ∧ CN 1 a (((HF f.kids).take m).map iv) := by
 obtain ⟨r, q', h, b, b2, a, rfl, H', ht⟩ := fn_G (f := D1) (args := [.agg f.cells, .i .i64 (m : Nat)]) (s := q) (Post := fun r q' => ∃ b b2 a, r = .fn Av [.p b 0, .p b2 0] ∧ Hp s0 q' n R ((b2, .cells 24 [a]) :: (b, .cells 26 f.cells) :: B) ∧ CN 1 a (((HF f.kids).take m).map iv)) OE rfl rfl (by
  have hz0 : wkZ DP.cin [.agg f.cells, .i .i64 (m : Nat)] = [.agg f.cells, .i .i64 (m : Nat)] := by simp only [DP, wkZ, wk, Y2]
  rw [hz0]
  have c6 : f.cells.length = 6 := rfl
  have H1 := H.enter.new (.cells 26 f.cells)
  obtain ⟨q1, hq1⟩ : ∃ q1, q.enter.new (.cells 26 f.cells) = q1 := ⟨_, rfl⟩
  have e0 : q.enter.nb = q.nb := rfl
  rw [hq1, e0] at H1
  have lk := H1.ld 0 (off := 3) (v := zx f.kids) rfl rfl
  have hv := Uw f.kids q1
  have H2 := (H1.new (.cells 24 [zx f.kids])).setLo (m := min q1.lo q1.nb) (Nat.le_trans (Nat.min_le_left _ _) H1.lo) (by have := H1.over.lo; have := H1.over.nb; omega)
  obtain ⟨q2, hq2⟩ : ∃ q2, { q1.new (.cells 24 [zx f.kids]) with lo := min q1.lo q1.nb } = q2 := ⟨_, rfl⟩
  rw [hq2] at H2 hv
  have hbx := H2.box (i := 0) rfl
  have hs := Uv (L := f.kids) (by have := ho.klen; omega) H2.wf (a := q1.nb) hbx.1 hbx.2.2
  obtain ⟨a, d3, ta⟩ := slc_zx (L := HF f.kids) (m := m) (by rw [JM]; exact hm) q2
  have H3 := H2.new (.cells 24 [.nsl])
  have tc := ta.cells
  obtain ⟨q4, d4, H4, n4, _⟩ := H3.st 0 (off := 0) (v := a) rfl (by simp) ⟨tc.1, tc.2.1⟩
  simp only [zx] at hv hs
  simp only [DP, go_sem, AD, AA, AC, AB, KB_n, KB_x, Nat.reduceBEq, Nat.reduceAdd, Nat.reduceLT, Nat.reduceLeDiff, Nat.reduceEqDiff, reduceIte, Int.reduceEq, reduceCtorEq, B4, c6, hq1, e0, zx, lk, hv, hs, d3, d4]
  simp only [List.set_cons_zero] at H4
  refine ⟨_, _, rfl, q.nb, q2.nb, a, rfl, ?_, ta⟩
  have H5 := H4.sel (List.range R.length) (0 :: 2 :: (List.range' 3 B.length)) List.nodup_range (by
   refine List.nodup_cons.2 ⟨by simp, List.nodup_cons.2 ⟨by simp, List.nodup_range'⟩⟩)
  rw [Dx] at H5
  have hpk : ∀ (x y z : Nat × Box), pick (x :: y :: z :: B) (0 :: 2 :: List.range' 3 B.length) = x :: z :: B := fun x y z => by
   have : pick (x :: y :: z :: B) (List.range' 3 B.length) = B := by
    have h1 : List.range' 3 B.length = (((List.range B.length).map (· + 1)).map (· + 1)).map (· + 1) := by
     apply List.ext_getElem <;> simp; omega
    rw [h1, Dj, Dj, Dj, Dx]
   simp only [pick, List.getElem?_cons_zero, List.getElem?_cons_succ, this]
  rw [hpk] at H5
  exact H.leaveR (n1 := q.en) (v := BW [AV.fn Av [.p q.nb 0, .p q2.nb 0]]) H5 rfl)
 exact ⟨q', a, b, b2, h, H', ht⟩
def FC (f : FT) (L : List (List Nat)) : Bool :=
 if f.rest = 1 then !(L.any fun x => !Gs f f.names.length x) else if f.rest = 2 then L.any fun x => !Gs f f.beside.toNat x else true
theorem Qr {f : FT} (ho : f.Ok) (h1 : f.one = true) {m : Nat} {q : St} (hw : Wf q) {b b2 b3 : Nat} (hb : q.box? b = some (.cells 26 f.cells)) (lb : b < q.nb) {a : AV} (ha : CN 1 a (((HF f.kids).take m).map iv)) (hb2 : q.box? b2 = some (.cells 24 [a])) (lb2 : b2 < q.nb) (hb3 : q.box? b3 = some (.cells 72 [.fn Av [.p b 0, .p b2 0]])) (lb3 : b3 < q.nb) (x : List Nat) :
    Ej (lim prog) (.fn DB [.p b3 0]) [.s x] q = some (.b (!Gs f m x), q) := by
 show (lim prog).call DB [.s x, .p b3 0] q = _
 refine fn_W KA rfl rfl ?_
 have hz0 : wkZ CD.cin [.s x, .p b3 0] = [.s x, .p b3 0] := by simp only [CD, wkZ, wk]
 rw [hz0]
 have l0 := KM (Over.enter q) (off := 0) (v := .fn Av [.p b 0, .p b2 0]) lb3 hb3 rfl
 have hc := Pu ho h1 hw.enter (m := m) (b := b) (b2 := b2) (a := a) (q := q.enter) hb lb ha hb2 lb2 x
 simp only [CD, go_sem, AD, AA, AC, AB, KB_n, KB_x, Nat.reduceBEq, Nat.reduceAdd, Nat.reduceLT, Nat.reduceLeDiff, Nat.reduceEqDiff, reduceIte, Int.reduceEq, reduceCtorEq, Nat.zero_add, l0, hc]
 exact AI (Over.enter q) rfl rfl
theorem Qs {f : FT} (ho : f.Ok) (h1 : f.one = true) {m : Nat} {q : St} (hw : Wf q) {b b2 b3 : Nat} (hb : q.box? b = some (.cells 26 f.cells)) (lb : b < q.nb) {a : AV} (ha : CN 1 a (((HF f.kids).take m).map iv)) (hb2 : q.box? b2 = some (.cells 24 [a])) (lb2 : b2 < q.nb) (hb3 : q.box? b3 = some (.cells 72 [.fn Av [.p b 0, .p b2 0]])) (lb3 : b3 < q.nb) (x : List Nat) :
    Ej (lim prog) (.fn DC [.p b3 0]) [.s x] q = some (.b (!Gs f m x), q) := by
 show (lim prog).call DC [.s x, .p b3 0] q = _
 refine fn_W KI rfl rfl ?_
 have hz0 : wkZ CH.cin [.s x, .p b3 0] = [.s x, .p b3 0] := by simp only [CH, wkZ, wk]
 rw [hz0]
 have l0 := KM (Over.enter q) (off := 0) (v := .fn Av [.p b 0, .p b2 0]) lb3 hb3 rfl
 have hc := Pu ho h1 hw.enter (m := m) (b := b) (b2 := b2) (a := a) (q := q.enter) hb lb ha hb2 lb2 x
 simp only [CH, go_sem, AD, AA, AC, AB, KB_n, KB_x, Nat.reduceBEq, Nat.reduceAdd, Nat.reduceLT, Nat.reduceLeDiff, Nat.reduceEqDiff, reduceIte, Int.reduceEq, reduceCtorEq, Nat.zero_add, l0, hc]
 exact AI (Over.enter q) rfl rfl
theorem Sg {f : FT} (h : f.one = true) (h2 : f.rest = 2) : 0 ≤ f.beside ∧ f.beside ≤ (f.kids.length : Int) := by
 have hnk := Gv h
 unfold FT.one at h
 simp only [Bool.and_eq_true] at h
 split at h
 · simp only [Bool.and_eq_true, FT.restB, if_pos h2, decide_eq_true_eq] at h
   omega
 · simp only [Bool.and_eq_true, decide_eq_true_eq] at h
   omega
theorem Sh (f : FT) (ho : f.Ok) (h1 : f.one = true) (L : List (List Nat)) (hL : L.length < 2 ^ 62) (s : St) (hw : Wf s) : (lim prog).call Fy [.agg f.cells, tx L] s = some (.b (FC f L), s) := by
 refine fn_W MG rfl rfl ?_
 have hz0 : wkZ Bu.cin [.agg f.cells, tx L] = [.agg f.cells, tx L] := by simp only [Bu, wkZ, wk, Y2, tx, LZ]
 rw [hz0]
 have c6 : f.cells.length = 6 := rfl
 have e0 : s.enter.nb = s.nb := rfl
 have H1 := (Hp.begin hw).new (.cells 26 f.cells)
 obtain ⟨q1, hq1⟩ : ∃ q1, s.enter.new (.cells 26 f.cells) = q1 := ⟨_, rfl⟩
 rw [hq1, e0] at H1
 have lw := H1.ldw (m := 6) 0 rfl rfl
 have ln := H1.ld 0 (off := 2) (v := tx f.names) rfl rfl
 have lr := H1.ld 0 (off := 4) (v := .i .i64 f.rest) rfl rfl
 have lbs := H1.ld 0 (off := 5) (v := .i .i64 f.beside) rfl rfl
 have hnk := Gv h1
 have pvf := DF f
 have key : ∀ m : Nat, m ≤ f.kids.length → ∃ q2 q4 b b2 b3 a, (lim prog).call D1 [.agg f.cells, .i .i64 (m : Nat)] q1 = some (.fn Av [.p b 0, .p b2 0], q2) ∧ b3 = q2.nb ∧ stA (q2.new (.cells 72 [.nf])) 1 (.p q2.nb 0) (.fn Av [.p b 0, .p b2 0]) = some q4 ∧ Hp s q4 s.en [] [(b3, .cells 72 [.fn Av [.p b 0, .p b2 0]]), (b2, .cells 24 [a]), (b, .cells 26 f.cells), (s.nb, .cells 26 f.cells)] ∧ CN 1 a (((HF f.kids).take m).map iv) := by
  intro m hm
  obtain ⟨q2, a, b, b2, d2, H2, ta⟩ := Wu ho hm H1
  have H3 := H2.new (.cells 72 [.nf])
  obtain ⟨q4, d4, H4, n4, _⟩ := H3.st 0 (off := 0) (v := .fn Av [.p b 0, .p b2 0]) rfl (by simp) ⟨rfl, rfl⟩
  exact ⟨q2, q4, b, b2, q2.nb, a, d2, rfl, d4, H4, ta⟩
 by_cases r1 : f.rest = 1
 · have e1 : (f.rest = 1) = True := by simp [r1]
   obtain ⟨q2, q4, b, b2, b3, a, d2, rfl, d4, H4, ta⟩ := key f.names.length (by omega)
   have x0 := H4.box (i := 0) rfl
   have x1 := H4.box (i := 1) rfl
   have x2 := H4.box (i := 2) rfl
   have hcf := HV L hL DB [.p q2.nb 0] (fun x => !Gs f f.names.length x) q4 H4.wf fun z hz => Qr ho h1 H4.wf.enter.enter (q := q4.enter.enter) x2.1 x2.2.2 ta x1.1 x1.2.2 x0.1 x0.2.2 z
   have hep : FC f L = !(L.any fun x => !Gs f f.names.length x) := by unfold FC; rw [if_pos r1]
   rw [hep]
   unfold tx at hcf
   simp only [Bu, go_sem, AD, AA, AC, AB, KB_n, KB_x, Nat.reduceBEq, Nat.reduceAdd, Nat.reduceLT, Nat.reduceLeDiff, Nat.reduceEqDiff, reduceIte, Int.reduceEq, reduceCtorEq, B4, c6, hq1, e0, Nat.zero_add, lw, ln, lr, pvf, tx, List.length_map, e1, d2, d4, hcf]
   exact AI H4.over rfl rfl
 · have e1 : (f.rest = 1) = False := by simp [r1]
   by_cases r2 : f.rest = 2
   · have e2 : (f.rest = 2) = True := by simp [r2]
     have hbb := Sg h1 r2
     obtain ⟨m, hm⟩ : ∃ m : Nat, f.beside = (m : Int) := ⟨f.beside.toNat, by omega⟩
     obtain ⟨q2, q4, b, b2, b3, a, d2, rfl, d4, H4, ta⟩ := key m (by omega)
     have x0 := H4.box (i := 0) rfl
     have x1 := H4.box (i := 1) rfl
     have x2 := H4.box (i := 2) rfl
     have hcf := HV L hL DC [.p q2.nb 0] (fun x => !Gs f m x) q4 H4.wf fun z hz => Qs ho h1 H4.wf.enter.enter (q := q4.enter.enter) x2.1 x2.2.2 ta x1.1 x1.2.2 x0.1 x0.2.2 z
     have hep : FC f L = (L.any fun x => !Gs f m x) := by unfold FC; rw [if_neg r1, if_pos r2, hm, Int.toNat_natCast]
     rw [hep]
     unfold tx at hcf
     simp only [Bu, go_sem, AD, AA, AC, AB, KB_n, KB_x, Nat.reduceBEq, Nat.reduceAdd, Nat.reduceLT, Nat.reduceLeDiff, Nat.reduceEqDiff, reduceIte, Int.reduceEq, reduceCtorEq, B4, c6, hq1, e0, Nat.zero_add, lw, lr, lbs, hm, pvf, tx, e1, e2, d2, d4, hcf]
     exact AI H4.over rfl rfl
   · have e2 : (f.rest = 2) = False := by simp [r2]
     have hep : FC f L = true := by unfold FC; rw [if_neg r1, if_neg r2]
     rw [hep]
     simp only [Bu, go_sem, AD, AA, AC, AB, KB_n, KB_x, Nat.reduceBEq, Nat.reduceAdd, Nat.reduceLT, Nat.reduceLeDiff, Nat.reduceEqDiff, reduceIte, Int.reduceEq, reduceCtorEq, B4, c6, hq1, e0, Nat.zero_add, lr, e1, e2]
     exact AI H1.over rfl rfl

def IX (l : List FT) (root : ND) (n : Int) : Option ND := if (F5 l n).2 = 0 then IY root (F5 l n).1 else none
theorem U4 {l : List FT} (ho : FOk l) (n : Int) : (F5 l n).1.length < 2 ^ 34 := by
 unfold F5
 cases hm : mayP l
 · rw [if_neg (by simp)]; simp
 · rw [if_pos rfl]
   split
   · have := P2 (mayD hm) n.toNat (by omega)
     have := ho.len
     simp only; omega
   · simp
theorem Wv {root : ND} (hr : root.Ok) (l : List FT) (n : Int) : (Gu (IX l root n)).Ok := by
 unfold IX
 split
 · exact OK hr _
 · exact Xc
theorem Pv {n : ND} (h : mayN n = true) : C8 n = true := by
 unfold mayN at h
 simp only [Bool.and_eq_true] at h
 exact h.2.1
theorem Rs (l : List FT) (ho : FOk l) (root : ND) (hr : root.Ok) (hwl : C8 root = true) (n : Int) (s : St) (hw : Wf s) :
    (lim prog).call GI [fx l, .agg root.cells, .i .i64 n] s = some (.tup [.agg (Gu (IX l root n)).cells, .b (IX l root n).isSome], s) := by
 refine fn_W Pd rfl rfl ?_
 have hz0 : wkZ DI.cin [fx l, .agg root.cells, .i .i64 n] = [fx l, .agg root.cells, .i .i64 n] := by
  simp only [DI, wkZ, Iu .ws, wk]
  simp [ND.cells, wkZ, wk, fx]
 rw [hz0]
 have e0 : s.enter.nb = s.nb := rfl
 have H1 := ((Hp.begin hw).new (.cells 30 root.cells)).new (.cells 30 [.i .u8 0, .s [], .nsl, .nsl])
 have e1 : (s.enter.new (.cells 30 root.cells)).nb = s.nb + 1 := rfl
 obtain ⟨q1, hq1⟩ : ∃ q1, (s.enter.new (.cells 30 root.cells)).new (.cells 30 [.i .u8 0, .s [], .nsl, .nsl]) = q1 := ⟨_, rfl⟩
 rw [hq1, e1, e0] at H1
 have lw := H1.ldw (m := 4) 1 rfl rfl
 have hp := XA l ho n q1 H1.wf
 unfold fx tx at hp
 by_cases hz : (F5 l n).2 = 0
 · have e2 : ((F5 l n).2 ≠ 0) = False := by simp [hz]
   have hx0 : IX l root n = IY root (F5 l n).1 := by unfold IX; rw [if_pos hz]
   have hat := Sf root hr hwl (F5 l n).1 (by have := U4 ho n; omega) q1 H1.wf
   rw [← hx0] at hat
   obtain ⟨x, hx⟩ : ∃ x, Gu (IX l root n) = x := ⟨_, rfl⟩
   rw [hx] at hat ⊢
   obtain ⟨q3, d3, H3, n3, _⟩ := H1.stw 0 (m := 4) (v := .agg x.cells) rfl rfl ⟨Af x, GU x⟩
   have lr := H3.ldw (m := 4) 0 rfl rfl
   simp only [B4] at lr
   simp only [tx] at hat
   simp only [DI, go_sem, AD, AA, AC, AB, KB_n, KB_x, Nat.reduceBEq, Nat.reduceAdd, Nat.reduceLT, Nat.reduceLeDiff, Nat.reduceEqDiff, reduceIte, Int.reduceEq, reduceCtorEq, Af, hq1, e1, e0, fx, hp, e2, lw, hat, d3, lr, AU, FI]
   exact KR_N H3.over x _
 · have e2 : ((F5 l n).2 ≠ 0) = True := by simp [hz]
   have hx0 : IX l root n = none := by unfold IX; rw [if_neg hz]
   rw [hx0]
   obtain ⟨q3, d3, H3, n3, _⟩ := H1.stw 0 (m := 4) (v := .agg [.i .u8 0, .s [], .nsl, .nsl]) rfl rfl ⟨rfl, rfl⟩
   have lr := H3.ldw (m := 4) 0 rfl rfl
   simp only [B4] at lr
   simp only [DI, go_sem, AD, AA, AC, AB, KB_n, KB_x, Nat.reduceBEq, Nat.reduceAdd, Nat.reduceLT, Nat.reduceLeDiff, Nat.reduceEqDiff, reduceIte, Int.reduceEq, reduceCtorEq, Af, hq1, e1, e0, fx, hp, e2, C2, d3, lr]
   exact AI H3.over rfl rfl
def OM (l : List FT) (root : ND) (i : Nat) : Bool := match l[i]? with
 | some f => f.known && (decide ((Gu (IX l root i)).kind ≠ f.kind) || (decide ((Gu (IX l root i)).kind = 2) && !FC f (Gu (IX l root i)).names))
 | none => false
def FR (l : List FT) (root : ND) : Int × Int := if mayP l && mayN root then (match (List.range l.length).find? (OM l root) with
 | some i => ((i : Int), 0)
 | none => (-1, 0)) else (0, 4)
theorem Si {P : Nat → Bool} {n i : Nat} (hi : i < n) (hp : P i = true) (hno : ∀ j, j < i → P j = false) : (List.range n).find? P = some i := by
 rw [List.find?_range_eq_some]
 exact ⟨hp, by simpa using hi, fun j hj => by simpa using hno j hj⟩
theorem MK {P : Nat → Bool} {n : Nat} (hno : ∀ j, j < n → P j = false) : (List.range n).find? P = none := by
 rw [List.find?_eq_none]
 intro x hx
 rw [List.mem_range] at hx
 simpa using hno x hx
theorem Ww {s q : St} (ov : Over s q) (a b : Int) : KR s [.id, .id] (.tup [.i .i64 a, .i .i64 b]) (some ([.i .i64 a, .i .i64 b], q)) := AI ov rfl rfl
theorem Wx (l : List FT) (ho : FOk l) (root : ND) (hr : root.Ok) (hb : nodesN root < 2 ^ 62) (s : St) (hw : Wf s) :
    (lim prog).call HJ [fx l, .agg root.cells] s = some (.tup [.i .i64 (FR l root).1, .i .i64 (FR l root).2], s) := by
 refine fn_W OB rfl rfl ?_
 have hz0 : wkZ Cc.cin [fx l, .agg root.cells] = [fx l, .agg root.cells] := by
  simp only [Cc, wkZ, Iu .ws, wk]
  simp [ND.cells, wkZ, wk, fx]
 rw [hz0]
 have e0 : s.enter.nb = s.nb := rfl
 have H1 := (Hp.begin hw).new (.cells 30 root.cells)
 obtain ⟨q1, hq1⟩ : ∃ q1, s.enter.new (.cells 30 root.cells) = q1 := ⟨_, rfl⟩
 rw [hq1, e0] at H1
 have lw := H1.ldw (m := 4) 0 rfl rfl
 have hmay := NF l ho.ok ho.len ho.fl q1 H1.wf
 have hmn := Qt root hr hb q1 H1.wf
 unfold fx at hmay
 cases hm : mayP l with
 | false =>
   rw [hm] at hmay
   simp only [Cc, go_sem, AD, AA, AC, AB, KB_n, KB_x, Nat.reduceBEq, Nat.reduceAdd, Nat.reduceLT, Nat.reduceLeDiff, Nat.reduceEqDiff, reduceIte, Int.reduceEq, reduceCtorEq, Af, hq1, e0, fx, hmay]
   unfold FR
   rw [hm, if_neg (by simp)]
   exact Ww H1.over 0 4
 | true =>
   rw [hm] at hmay
   cases hn : mayN root with
   | false =>
     rw [hn] at hmn
     simp only [Cc, go_sem, AD, AA, AC, AB, KB_n, KB_x, Nat.reduceBEq, Nat.reduceAdd, Nat.reduceLT, Nat.reduceLeDiff, Nat.reduceEqDiff, reduceIte, Int.reduceEq, reduceCtorEq, Af, hq1, e0, fx, hmay, lw, AU, hmn]
     unfold FR
     rw [hn, if_neg (by simp)]
     exact Ww H1.over 0 4
   | true =>
     rw [hn] at hmn
     have hwl := Pv hn
     simp only [Cc, go_sem, AD, AA, AC, AB, KB_n, KB_x, Nat.reduceBEq, Nat.reduceAdd, Nat.reduceLT, Nat.reduceLeDiff, Nat.reduceEqDiff, reduceIte, Int.reduceEq, reduceCtorEq, Af, hq1, e0, fx, hmay, lw, AU, hmn, List.length_map]
     refine CI (fun x e q => ∃ (i : Nat) (B : List (Nat × Box)), i + x = l.length ∧ Hp s q s.en [] ((s.nb, .cells 30 root.cells) :: B) ∧ (∀ j, j < i → OM l root j = false) ∧ e.get 0 = fx l ∧ e.get 3 = .p s.nb 0 ∧ e.get 18 = .i .i64 (l.length : Nat) ∧ e.get 19 = .i .i64 (i : Nat)) ?_ l.length _ _ ?_
     · rintro x e q ⟨i, B, hix, H, hno, g0, g3, g18, g19⟩
       by_cases h : i < l.length
       · have h1 : ((i : Int) < (l.length : Int)) = True := eq_true (by omega)
         obtain ⟨f, hf⟩ : ∃ f, l[i]? = some f := ⟨_, List.getElem?_eq_getElem h⟩
         have hfm := List.mem_of_getElem? hf
         have hg := NE hf
         have hth : ∀ u : St, Ig u (.ws false 6 (l.map FT.av)) = some (.ws false 6 (l.map FT.av), u) := fun _ => rfl
         have lk0 : ∀ u : St, ldA u false 1 (.ep f.cells 0 .shut) = some (.b f.known) := fun _ => rfl
         have lk1 : ∀ u : St, ldA u false 1 (.ep f.cells 1 .shut) = some (.i .u8 (f.kind : Nat)) := fun _ => rfl
         have ldf := Gr f
         have pvf := DF f
         have hall6 : f.cells.all noTok = true := rfl
         have hw1 := Ax (show i + 1 < 2 ^ 63 by have := ho.len; omega)
         cases hkn : f.known with
         | false =>
           rw [hkn] at lk0
           have hfb : OM l root i = false := by unfold OM; rw [hf]; simp [hkn]
           simp only [go_sem, AD, AA, AC, AB, KB_n, KB_x, Nat.reduceBEq, Nat.reduceAdd, Nat.reduceLT, Nat.reduceLeDiff, Nat.reduceEqDiff, reduceIte, Int.reduceEq, reduceCtorEq, g0, g3, g18, g19, fx, h1, hth, AK, hg, B4, Nat.zero_add, lk0, hw1]
           refine ⟨x - 1, by omega, i + 1, B, by omega, H, fun j hj => ?_, rfl⟩
           by_cases hji : j < i
           · exact hno j hji
           · obtain rfl : j = i := by omega
             exact hfb
         | true =>
           rw [hkn] at lk0
           have lw2 := H.ldw (m := 4) 0 rfl rfl
           have hnd := Rs l ho root hr hwl (i : Int) q H.wf
           have hxo := Wv hr l (i : Int)
           obtain ⟨x', hx⟩ : ∃ x', Gu (IX l root (i : Int)) = x' := ⟨_, rfl⟩
           have hfb : OM l root i = (decide (x'.kind ≠ f.kind) || (decide (x'.kind = 2) && !FC f x'.names)) := by unfold OM; rw [hf]; simp only [hkn, Bool.true_and, hx]
           rw [hx] at hnd hxo
           obtain ⟨q2, d2, H2, n2⟩ := H.adp (T := 30) (m := 4) (z := [.i .u8 0, .s [], .nsl, .nsl]) (v := .agg x'.cells) rfl ⟨Af x', GU x'⟩
           have lx0 := H2.ld 0 (off := 0) (v := .i .u8 (x'.kind : Nat)) rfl rfl
           have lx2 := H2.ld 0 (off := 2) (v := tx x'.names) rfl rfl
           have hent := Sh f (ho.ok f hfm) (Ut hm hfm) x'.names (by have := hxo.names.2; omega) q2 H2.wf
           simp only [fx] at hnd
           simp only [tx] at hent lx2
           have hsel := H2.sel [] (1 :: 0 :: List.range' 2 B.length) (by simp) (by
            refine List.nodup_cons.2 ⟨by simp, List.nodup_cons.2 ⟨by simp, List.nodup_range'⟩⟩)
           have hpk : ∀ (x y : Nat × Box), pick (x :: y :: B) (1 :: 0 :: List.range' 2 B.length) = y :: x :: B := fun x y => by
            have : pick (x :: y :: B) (List.range' 2 B.length) = B := by
             have h1 : List.range' 2 B.length = ((List.range B.length).map (· + 1)).map (· + 1) := by
              apply List.ext_getElem <;> simp; omega
             rw [h1, Dj, Dj, Dx]
            simp only [pick, List.getElem?_cons_zero, List.getElem?_cons_succ, this]
           rw [hpk] at hsel
           simp only [pick] at hsel
           have hstep : OM l root i = false → ∃ m, m < x ∧ ∃ (i' : Nat) (B' : List (Nat × Box)), i' + m = l.length ∧ Hp s q2 s.en [] ((s.nb, .cells 30 root.cells) :: B') ∧ (∀ j, j < i' → OM l root j = false) ∧ i' = i + 1 := fun hfb => by
            refine ⟨x - 1, by omega, i + 1, _, by omega, hsel, fun j hj => ?_, rfl⟩
            by_cases hji : j < i
            · exact hno j hji
            · obtain rfl : j = i := by omega
              exact hfb
           have hfail : OM l root i = true → KR s [.id, .id] (.tup [.i .i64 (FR l root).1, .i .i64 (FR l root).2]) (some ([.i .i64 (i : Nat), .i .i64 0], q2)) := fun hfb => by
            have hfp : FR l root = ((i : Int), 0) := by
             unfold FR
             rw [hm, hn]
             simp only [Bool.and_self, if_true, Si h hfb hno]
            rw [hfp]
            exact Ww H2.over _ 0
           by_cases hk : x'.kind = f.kind
           · have e1 : ((x'.kind : Int) ≠ (f.kind : Int)) = False := by simp [hk]
             by_cases hk2 : x'.kind = 2
             · have e2 : ((x'.kind : Int) = 2) = True := by simp [hk2]
               cases hen : FC f x'.names with
               | true =>
                 rw [hen] at hent
                 obtain ⟨m, hm1, i', B', k1, k2, k3, rfl⟩ := hstep (by rw [hfb]; simp [hk, hen])
                 simp only [go_sem, AD, AA, AC, AB, KB_n, KB_x, Nat.reduceBEq, Nat.reduceAdd, Nat.reduceLT, Nat.reduceLeDiff, Nat.reduceEqDiff, reduceIte, Int.reduceEq, reduceCtorEq, g0, g3, g18, g19, fx, h1, hth, AK, hg, B4, Nat.zero_add, lk0, lk1, lw2, AU, hnd, Af, d2, lx0, lx2, e1, e2, ldf, pvf, hall6, hent, hw1]
                 exact ⟨m, hm1, i + 1, B', k1, k2, k3, rfl⟩
               | false =>
                 rw [hen] at hent
                 simp only [go_sem, AD, AA, AC, AB, KB_n, KB_x, Nat.reduceBEq, Nat.reduceAdd, Nat.reduceLT, Nat.reduceLeDiff, Nat.reduceEqDiff, reduceIte, Int.reduceEq, reduceCtorEq, g0, g3, g18, g19, fx, h1, hth, AK, hg, B4, Nat.zero_add, lk0, lk1, lw2, AU, hnd, Af, d2, lx0, lx2, e1, e2, ldf, pvf, hall6, hent]
                 exact hfail (by rw [hfb]; simp [hk2, hen])
             · have e2 : ((x'.kind : Int) = 2) = False := eq_false (by omega)
               obtain ⟨m, hm1, i', B', k1, k2, k3, rfl⟩ := hstep (by rw [hfb]; simp [hk, hk2]; intro hh; exact absurd (hk.trans hh) hk2)
               simp only [go_sem, AD, AA, AC, AB, KB_n, KB_x, Nat.reduceBEq, Nat.reduceAdd, Nat.reduceLT, Nat.reduceLeDiff, Nat.reduceEqDiff, reduceIte, Int.reduceEq, reduceCtorEq, g0, g3, g18, g19, fx, h1, hth, AK, hg, B4, Nat.zero_add, lk0, lk1, lw2, AU, hnd, Af, d2, lx0, e1, e2, hw1]
               exact ⟨m, hm1, i + 1, B', k1, k2, k3, rfl⟩
           · have e1 : ((x'.kind : Int) ≠ (f.kind : Int)) = True := by simp only [ne_eq, eq_iff_iff, iff_true]; omega
             simp only [go_sem, AD, AA, AC, AB, KB_n, KB_x, Nat.reduceBEq, Nat.reduceAdd, Nat.reduceLT, Nat.reduceLeDiff, Nat.reduceEqDiff, reduceIte, Int.reduceEq, reduceCtorEq, g0, g3, g18, g19, fx, h1, hth, AK, hg, B4, Nat.zero_add, lk0, lk1, lw2, AU, hnd, Af, d2, lx0, e1]
             exact hfail (by rw [hfb]; simp [hk])
       · have h1 : ((i : Int) < (l.length : Int)) = False := eq_false (by omega)
         simp only [go_sem, AD, AA, AC, AB, KB_n, KB_x, Nat.reduceBEq, Nat.reduceAdd, Nat.reduceLT, Nat.reduceLeDiff, Nat.reduceEqDiff, reduceIte, Int.reduceEq, reduceCtorEq, g18, g19, h1]
         have hfp : FR l root = (-1, 0) := by
          unfold FR
          rw [hm, hn]
          simp only [Bool.and_self, if_true, MK fun j (hj : j < l.length) => hno j (by omega)]
         rw [hfp]
         exact Ww H.over (-1) 0
     · simp only [go_sem, AD, AA, AC, AB, KB_n, KB_x, Nat.reduceBEq, Nat.reduceAdd, Nat.reduceLT, Nat.reduceLeDiff, Nat.reduceEqDiff, reduceIte, Int.reduceEq, reduceCtorEq]
       exact ⟨0, [], by omega, H1, fun j hj => by omega, rfl, rfl⟩
end Go.Proofs.YtbfgoopcnkeblaaGreat

namespace Go.Proofs.YtbfgoopcnkeblaaGreat
open Go.Proofs.YtbfgoopcnkeblaaGreat.Am



attribute [local irreducible] W WO WE WQ WD Tr.get Tr.set
theorem wkFN (l : List FT) (root : ND) : wkZ [(.sl 6 (.agg [.id, .id, (.sl 1 .id), (.sl 1 .id), .id, .id])), ctN] [fx l, .agg root.cells] = [fx l, .agg root.cells] := by
 simp only [wkZ, Iu .ws, wk]
 simp [ND.cells, wkZ, wk, fx]
def Kj (l : List FT) (root : ND) : Bool := decide ((FR l root).2 = 0) && decide ((FR l root).1 < 0)
theorem holds_ok (l : List FT) (ho : FOk l) (root : ND) (hr : root.Ok) (hb : nodesN root < 2 ^ 62) (s : St) (hw : Wf s) :
    (lim prog).call FZ [fx l, .agg root.cells] s = some (.b (Kj l root), s) := by
 refine fn_W N9 rfl rfl ?_
 have hz0 : wkZ DK.cin [fx l, .agg root.cells] = [fx l, .agg root.cells] := wkFN l root
 rw [hz0]
 have e0 : s.enter.nb = s.nb := rfl
 have H1 := (Hp.begin hw).new (.cells 30 root.cells)
 obtain ⟨q1, hq1⟩ : ∃ q1, s.enter.new (.cells 30 root.cells) = q1 := ⟨_, rfl⟩
 rw [hq1, e0] at H1
 have lw := H1.ldw (m := 4) 0 rfl rfl
 have hf := Wx l ho root hr hb q1 H1.wf
 unfold fx at hf
 unfold Kj
 by_cases hz : (FR l root).2 = 0
 · have e1 : ((FR l root).2 = 0) = True := by simp [hz]
   simp only [DK, go_sem, AD, AA, AC, AB, KB_n, KB_x, Nat.reduceBEq, Nat.reduceAdd, Nat.reduceLT, Nat.reduceLeDiff, Nat.reduceEqDiff, reduceIte, Int.reduceEq, reduceCtorEq, Af, hq1, e0, fx, lw, AU, hf, e1]
   exact AI H1.over rfl (by simp [BW, wkZ, wk])
 · have e1 : ((FR l root).2 = 0) = False := by simp [hz]
   simp only [DK, go_sem, AD, AA, AC, AB, KB_n, KB_x, Nat.reduceBEq, Nat.reduceAdd, Nat.reduceLT, Nat.reduceLeDiff, Nat.reduceEqDiff, reduceIte, Int.reduceEq, reduceCtorEq, Af, hq1, e0, fx, lw, AU, hf, e1]
   exact AI H1.over rfl (by simp [BW, wkZ, wk])
def atP (l : List FT) (root : ND) (n : Int) : ND × Int :=
 if mayP l && mayN root then (if 0 ≤ n ∧ n < (l.length : Int) then (match IX l root n with | some x => (x, 0) | none => (noN, 5)) else (noN, 1)) else (noN, 4)
theorem KR_Ni {s q : St} (ov : Over s q) (x : ND) (b : Int) : KR s [ctN, .id] (.tup [.agg x.cells, .i .i64 b]) (some ([.agg x.cells, .i .i64 b], q)) := by
 refine AI ov ?_ ?_
 · have := ML x
   rw [ND.av_eq] at this
   simp only [BW, AV.refs, AV.refs.go, this]
   simp only [AV.refs] at this
   rw [this]; rfl
 · rfl
theorem U5 {s q : St} (ov : Over s q) (b : Int) : KR s [ctN, .id] (.tup [.agg noN.cells, .i .i64 b]) (some ([.agg [.i .u8 0, .s [], .nsl, .nsl], .i .i64 b], q)) := AI ov rfl rfl
theorem Sj (l : List FT) (ho : FOk l) (root : ND) (hr : root.Ok) (hb : nodesN root < 2 ^ 62) (n : Int) (s : St) (hw : Wf s) :
    (lim prog).call J7 [fx l, .agg root.cells, .i .i64 n] s = some (.tup [.agg (atP l root n).1.cells, .i .i64 (atP l root n).2], s) := by
 refine fn_W SU rfl rfl ?_
 have hz0 : wkZ Ct.cin [fx l, .agg root.cells, .i .i64 n] = [fx l, .agg root.cells, .i .i64 n] := by
  simp only [Ct, wkZ, Iu .ws, wk]
  simp [ND.cells, wkZ, wk, fx]
 rw [hz0]
 have e0 : s.enter.nb = s.nb := rfl
 have H1 := ((Hp.begin hw).new (.cells 30 root.cells)).new (.cells 30 [.i .u8 0, .s [], .nsl, .nsl])
 have e1 : (s.enter.new (.cells 30 root.cells)).nb = s.nb + 1 := rfl
 obtain ⟨q1, hq1⟩ : ∃ q1, (s.enter.new (.cells 30 root.cells)).new (.cells 30 [.i .u8 0, .s [], .nsl, .nsl]) = q1 := ⟨_, rfl⟩
 rw [hq1, e1, e0] at H1
 have lw := H1.ldw (m := 4) 1 rfl rfl
 obtain ⟨q3, d3, H3, n3, _⟩ := H1.stw 0 (m := 4) (v := .agg [.i .u8 0, .s [], .nsl, .nsl]) rfl rfl ⟨rfl, rfl⟩
 have lr3 := H3.ldw (m := 4) 0 rfl rfl
 simp only [B4] at lr3
 have hmay := NF l ho.ok ho.len ho.fl q1 H1.wf
 have hmn := Qt root hr hb q1 H1.wf
 unfold fx at hmay
 unfold atP
 cases hm : mayP l with
 | false =>
   rw [hm] at hmay
   simp only [Ct, go_sem, AD, AA, AC, AB, KB_n, KB_x, Nat.reduceBEq, Nat.reduceAdd, Nat.reduceLT, Nat.reduceLeDiff, Nat.reduceEqDiff, reduceIte, Int.reduceEq, reduceCtorEq, Af, hq1, e1, e0, fx, hmay, C2, d3, lr3]
   exact U5 H3.over 4
 | true =>
   rw [hm] at hmay
   cases hn : mayN root with
   | false =>
     rw [hn] at hmn
     simp only [Ct, go_sem, AD, AA, AC, AB, KB_n, KB_x, Nat.reduceBEq, Nat.reduceAdd, Nat.reduceLT, Nat.reduceLeDiff, Nat.reduceEqDiff, reduceIte, Int.reduceEq, reduceCtorEq, Af, hq1, e1, e0, fx, hmay, lw, AU, hmn, C2, d3, lr3]
     exact U5 H3.over 4
   | true =>
     rw [hn] at hmn
     have hwl := Pv hn
     rw [Bool.and_self, if_pos rfl]
     by_cases hrg : 0 ≤ n ∧ n < (l.length : Int)
     · rw [if_pos hrg]
       have r1 : (n < 0) = False := eq_false (by omega)
       have r2 : ((l.length : Int) ≤ n) = False := eq_false (by omega)
       have hnode := Rs l ho root hr hwl n q1 H1.wf
       cases hnp : IX l root n with
       | none =>
         rw [hnp] at hnode
         obtain ⟨q2, d2, H2, n2⟩ := H1.adp (T := 30) (m := 4) (z := [.i .u8 0, .s [], .nsl, .nsl]) (v := .agg noN.cells) rfl ⟨Af noN, GU noN⟩
         obtain ⟨q4, d4, H4, n4, _⟩ := H2.stw 1 (m := 4) (v := .agg [.i .u8 0, .s [], .nsl, .nsl]) rfl rfl ⟨rfl, rfl⟩
         have lr4 := H4.ldw (m := 4) 1 rfl rfl
         simp only [B4] at lr4
         simp only [fx, Gu, Option.getD_none, Option.isSome_none] at hnode
         simp only [Ct, go_sem, AD, AA, AC, AB, KB_n, KB_x, Nat.reduceBEq, Nat.reduceAdd, Nat.reduceLT, Nat.reduceLeDiff, Nat.reduceEqDiff, reduceIte, Int.reduceEq, reduceCtorEq, Af, hq1, e1, e0, fx, hmay, lw, AU, hmn, r1, r2, List.length_map, hnode, d2, C2, d4, lr4]
         exact U5 H4.over 5
       | some x =>
         rw [hnp] at hnode
         obtain ⟨q2, d2, H2, n2⟩ := H1.adp (T := 30) (m := 4) (z := [.i .u8 0, .s [], .nsl, .nsl]) (v := .agg x.cells) rfl ⟨Af x, GU x⟩
         have lx := H2.ldw (m := 4) 0 rfl rfl
         obtain ⟨q4, d4, H4, n4, _⟩ := H2.stw 1 (m := 4) (v := .agg x.cells) rfl rfl ⟨Af x, GU x⟩
         have lr4 := H4.ldw (m := 4) 1 rfl rfl
         simp only [B4] at lr4 lx
         simp only [fx, Gu, Option.getD_some, Option.isSome_some] at hnode
         simp only [Ct, go_sem, AD, AA, AC, AB, KB_n, KB_x, Nat.reduceBEq, Nat.reduceAdd, Nat.reduceLT, Nat.reduceLeDiff, Nat.reduceEqDiff, reduceIte, Int.reduceEq, reduceCtorEq, Af, hq1, e1, e0, fx, hmay, lw, AU, hmn, r1, r2, List.length_map, hnode, d2, lx, d4, lr4, FI]
         exact KR_Ni H4.over x 0
     · rw [if_neg hrg]
       by_cases r1 : n < 0
       · have r1' : (n < 0) = True := by simp [r1]
         simp only [Ct, go_sem, AD, AA, AC, AB, KB_n, KB_x, Nat.reduceBEq, Nat.reduceAdd, Nat.reduceLT, Nat.reduceLeDiff, Nat.reduceEqDiff, reduceIte, Int.reduceEq, reduceCtorEq, Af, hq1, e1, e0, fx, hmay, lw, AU, hmn, r1', C2, d3, lr3]
         exact U5 H3.over 1
       · have r1' : (n < 0) = False := by simp [r1]
         have r2' : ((l.length : Int) ≤ n) = True := eq_true (by omega)
         simp only [Ct, go_sem, AD, AA, AC, AB, KB_n, KB_x, Nat.reduceBEq, Nat.reduceAdd, Nat.reduceLT, Nat.reduceLeDiff, Nat.reduceEqDiff, reduceIte, Int.reduceEq, reduceCtorEq, Af, hq1, e1, e0, fx, hmay, lw, AU, hmn, r1', r2', List.length_map, C2, d3, lr3]
         exact U5 H3.over 1

theorem ZA (l : List FT) (ho : FOk l) (s : St) (hw : Wf s) : ∃ b : Bool, (lim prog).call Cn [fx l] s = some (.b b, s) := by
 obtain ⟨r, s', h, rfl, b, rfl⟩ := fn_G (f := Cn) (args := [fx l]) (s := s) (Post := fun r s' => s' = s ∧ ∃ b : Bool, r = .b b) HZ rfl rfl (by
  have hz0 : wkZ Bb.cin [fx l] = [fx l] := by
   simp only [Bb, wkZ, List.cons.injEq, and_true]
   exact Iu .ws
  rw [hz0]
  simp only [Bb, go_sem, AD, AA, AC, AB, KB_n, KB_x, Nat.reduceBEq, Nat.reduceAdd, Nat.reduceLT, Nat.reduceLeDiff, Nat.reduceEqDiff, reduceIte, Int.reduceEq, reduceCtorEq]
  refine CI (fun x e q => ∃ i n : Nat, i + x = l.length ∧ q = s.enter ∧ n < 2 ^ 60 ∧ e.get 0 = fx l ∧ e.get 3 = .i .i64 (n : Nat) ∧ e.get 4 = .i .i64 (i : Nat)) ?_ l.length _ _ ?_
  · rintro x e q ⟨i, n, hix, rfl, hn, g0, g3, g4⟩
    have hfin : ∀ b : Bool, KH s [.id] (fun r s' => s' = s ∧ ∃ b : Bool, r = .b b) (some ([.b b], s.enter)) := fun b => ⟨_, _, rfl, (Over.enter s).leave rfl, b, rfl⟩
    by_cases h : i < l.length
    · have h1 : ((i : Int) < (l.length : Int)) = True := eq_true (by omega)
      by_cases h5 : n < 300
      · have h2 : ((n : Int) < 300) = True := eq_true (by omega)
        obtain ⟨f, hf⟩ : ∃ f, l[i]? = some f := ⟨_, List.getElem?_eq_getElem h⟩
        have hfo := ho.ok f (List.mem_of_getElem? hf)
        have hg := NE hf
        have hth : ∀ u : St, Ig u (.ws false 6 (l.map FT.av)) = some (.ws false 6 (l.map FT.av), u) := fun _ => rfl
        have l2 : ∀ u : St, ldA u false 1 (.ep f.cells 2 .shut) = some (tx f.names) := fun _ => rfl
        have l3 : ∀ u : St, ldA u false 1 (.ep f.cells 3 .shut) = some (zx f.kids) := fun _ => rfl
        have nl := hfo.nlen
        have kl := hfo.klen
        have w1 : IntKind.i64.wrap ((n : Int) + 1) = ((n + 1 : Nat) : Int) := Ax (by omega)
        have w2 : IntKind.i64.wrap (((n + 1 : Nat) : Int) + (f.names.length : Int)) = ((n + 1 + f.names.length : Nat) : Int) := by
         rw [show (((n + 1 : Nat) : Int) + (f.names.length : Int)) = ((n + 1 + f.names.length : Nat) : Int) by omega]; exact Cz (by omega)
        have w3 : IntKind.i64.wrap (((n + 1 + f.names.length : Nat) : Int) + (f.kids.length : Int)) = ((n + 1 + f.names.length + f.kids.length : Nat) : Int) := by
         rw [show (((n + 1 + f.names.length : Nat) : Int) + (f.kids.length : Int)) = ((n + 1 + f.names.length + f.kids.length : Nat) : Int) by omega]; exact Cz (by omega)
        have w4 := Ax (show i + 1 < 2 ^ 63 by have := ho.len; omega)
        simp only [go_sem, AD, AA, AC, AB, KB_n, KB_x, Nat.reduceBEq, Nat.reduceAdd, Nat.reduceLT, Nat.reduceLeDiff, Nat.reduceEqDiff, reduceIte, Int.reduceEq, reduceCtorEq, g0, g3, g4, fx, List.length_map, h1, h2, hth, AK, hg, B4, Nat.zero_add, l2, l3, tx, zx, w1, w2, w3]
        refine CI (fun y e q => ∃ k m : Nat, k + y = f.names.length ∧ q = s.enter ∧ m < 2 ^ 60 ∧ e.get 0 = fx l ∧ e.get 3 = .i .i64 (m : Nat) ∧ e.get 4 = .i .i64 (i : Nat) ∧ e.get 5 = .i .i64 (k : Nat)) ?_ f.names.length _ _ ?_
        · rintro y e q ⟨k, m, hky, rfl, hm, g0, g3, g4, g5⟩
          by_cases hk : k < f.names.length
          · have k1 : ((k : Int) < (f.names.length : Int)) = True := eq_true (by omega)
            by_cases h6 : m < 300
            · have k2 : ((m : Int) < 300) = True := eq_true (by omega)
              obtain ⟨nm, hnm⟩ : ∃ nm, f.names[k]? = some nm := ⟨_, List.getElem?_eq_getElem hk⟩
              have hnm2 : (f.names.map AV.s)[k]? = some (.s nm) := by rw [List.getElem?_map, hnm]; rfl
              have hnl := (hfo.names nm (List.mem_of_getElem? hnm)).2
              have hq := ZM nm.length hnl
              have w5 : IntKind.i64.wrap ((m : Int) + ((nm.length / 64 : Nat) : Int)) = ((m + nm.length / 64 : Nat) : Int) := by
               rw [show ((m : Int) + ((nm.length / 64 : Nat) : Int)) = ((m + nm.length / 64 : Nat) : Int) by omega]; exact Cz (by omega)
              have w6 := Ax (show k + 1 < 2 ^ 63 by omega)
              simp only [go_sem, AD, AA, AC, AB, KB_n, KB_x, Nat.reduceBEq, Nat.reduceAdd, Nat.reduceLT, Nat.reduceLeDiff, Nat.reduceEqDiff, reduceIte, Int.reduceEq, reduceCtorEq, g0, g3, g4, g5, fx, List.length_map, k1, k2, hth, AK, hg, B4, Nat.zero_add, l2, tx, hnm2, Bi, DW, hq, w5, w6]
              exact ⟨y - 1, by omega, k + 1, m + nm.length / 64, by omega, by omega, rfl, rfl⟩
            · have k2 : ((m : Int) < 300) = False := eq_false (by omega)
              simp only [go_sem, AD, AA, AC, AB, KB_n, KB_x, Nat.reduceBEq, Nat.reduceAdd, Nat.reduceLT, Nat.reduceLeDiff, Nat.reduceEqDiff, reduceIte, Int.reduceEq, reduceCtorEq, g0, g3, g4, g5, fx, List.length_map, k1, k2, hth, AK, hg, B4, Nat.zero_add, l2, tx, w4]
              exact ⟨x - 1, by omega, i + 1, m, by omega, by omega, rfl, rfl⟩
          · have k1 : ((k : Int) < (f.names.length : Int)) = False := eq_false (by omega)
            simp only [go_sem, AD, AA, AC, AB, KB_n, KB_x, Nat.reduceBEq, Nat.reduceAdd, Nat.reduceLT, Nat.reduceLeDiff, Nat.reduceEqDiff, reduceIte, Int.reduceEq, reduceCtorEq, g0, g3, g4, g5, fx, List.length_map, k1, hth, AK, hg, B4, Nat.zero_add, l2, tx, w4]
            exact ⟨x - 1, by omega, i + 1, m, by omega, by omega, rfl, rfl⟩
        · simp only [go_sem, AD, AA, AC, AB, KB_n, KB_x, Nat.reduceBEq, Nat.reduceAdd, Nat.reduceLT, Nat.reduceLeDiff, Nat.reduceEqDiff, reduceIte, Int.reduceEq, reduceCtorEq, g4]
          exact ⟨0, _, by omega, by omega, rfl, rfl, rfl⟩
      · have h2 : ((n : Int) < 300) = False := eq_false (by omega)
        simp only [go_sem, AD, AA, AC, AB, KB_n, KB_x, Nat.reduceBEq, Nat.reduceAdd, Nat.reduceLT, Nat.reduceLeDiff, Nat.reduceEqDiff, reduceIte, Int.reduceEq, reduceCtorEq, g0, g3, g4, fx, List.length_map, h1, h2]
        exact hfin _
    · have h1 : ((i : Int) < (l.length : Int)) = False := eq_false (by omega)
      simp only [go_sem, AD, AA, AC, AB, KB_n, KB_x, Nat.reduceBEq, Nat.reduceAdd, Nat.reduceLT, Nat.reduceLeDiff, Nat.reduceEqDiff, reduceIte, Int.reduceEq, reduceCtorEq, g0, g3, g4, fx, List.length_map, h1]
      exact hfin _
  · simp only [go_sem, AD, AA, AC, AB, KB_n, KB_x, Nat.reduceBEq, Nat.reduceAdd, Nat.reduceLT, Nat.reduceLeDiff, Nat.reduceEqDiff, reduceIte, Int.reduceEq, reduceCtorEq]
    exact ⟨0, 0, by omega, by omega, rfl, rfl⟩)
 exact ⟨b, h⟩

def refT (n : Int) : TD := .mk n 0 [] (-1) [] []
theorem NG (n : Int) : (refT n).cells = [.i .i64 n, .i .u8 0, .s [], .i .i64 (-1), .ws false 1 [], .ws false 6 []] := rfl
theorem Ux (n : Int) (s : St) (hw : Wf s) : (lim prog).call ME [.i .i64 n] s = some (.agg (refT n).cells, s) := by
 refine fn_W Um rfl rfl ?_
 have hz0 : wkZ F1.cin [.i .i64 n] = [.i .i64 n] := by simp [F1, wkZ, wk]
 rw [hz0]
 have e0 : s.enter.nb = s.nb := rfl
 have H1 := (Hp.begin hw).new (.cells 34 [.i .i64 0, .i .u8 0, .s [], .i .i64 0, .nsl, .nsl])
 obtain ⟨q2, d2, H2, n2, _⟩ := H1.stw 0 (m := 6) (v := .agg [.i .i64 n, .i .u8 0, .s [], .i .i64 (-1), .nsl, .nsl]) rfl rfl ⟨rfl, rfl⟩
 rw [e0] at d2 H2
 have l2 := H2.ldw (m := 6) 0 rfl rfl
 simp only [F1, go_sem, AD, AA, AC, AB, KB_n, KB_x, Nat.reduceBEq, Nat.reduceAdd, Nat.reduceLT, Nat.reduceLeDiff, Nat.reduceEqDiff, reduceIte, Int.reduceEq, reduceCtorEq, e0, d2, l2]
 exact AI H2.over rfl rfl
theorem Y6 (s : St) : (lim prog).call Ap [qx [], qx [], .fn ET []] s = some (.b true, s) := by
 refine fn_W CV rfl rfl ?_
 have hz0 : wkZ AJ.cin [qx [], qx [], .fn ET []] = [qx [], qx [], .fn ET []] := by simp [AJ, wkZ, wk, qx]
 rw [hz0]
 have h0 : (((0 : Nat) : Int) ≠ ((0 : Nat) : Int)) = False := by simp
 have h1 : ((0 : Int) < ((0 : Nat) : Int)) = False := by simp
 simp only [AJ, go_sem, AD, AA, AC, AB, KB_n, KB_x, Nat.reduceBEq, Nat.reduceAdd, Nat.reduceLT, Nat.reduceLeDiff, Nat.reduceEqDiff, reduceIte, Int.reduceEq, reduceCtorEq, qx, List.map_nil, List.length_nil, h0]
 refine CI (fun x e q => q = s.enter ∧ e.get 16 = .i .i64 ((0 : Nat) : Int) ∧ e.get 17 = .i .i64 0) ?_ 0 _ _ ?_
 · rintro x e q ⟨rfl, g16, g17⟩
   simp only [go_sem, AD, AA, AC, AB, KB_n, KB_x, Nat.reduceBEq, Nat.reduceAdd, Nat.reduceLT, Nat.reduceLeDiff, Nat.reduceEqDiff, reduceIte, Int.reduceEq, reduceCtorEq, g16, g17, h1]
   exact AI (Over.enter s) rfl rfl
 · simp only [go_sem, AD, AA, AC, AB, KB_n, KB_x, Nat.reduceBEq, Nat.reduceAdd, Nat.reduceLT, Nat.reduceLeDiff, Nat.reduceEqDiff, reduceIte, Int.reduceEq, reduceCtorEq]
theorem Qn (n : Int) (s : St) (hw : Wf s) : (lim prog).call ET [.agg (refT n).cells, .agg (refT n).cells] s = some (.b true, s) := by
 refine fn_W ST rfl rfl ?_
 have hz0 : wkZ E5.cin [.agg (refT n).cells, .agg (refT n).cells] = [.agg (refT n).cells, .agg (refT n).cells] := by simp [E5, wkZ, wk, NG]
 rw [hz0]
 have H1 := ((Hp.begin hw).new (.cells 34 (refT n).cells)).new (.cells 34 (refT n).cells)
 rw [Lv] at H1
 generalize hq : (s.enter.new (.cells 34 (refT n).cells)).new (.cells 34 (refT n).cells) = q at H1
 generalize hm : s.enter.nb = m at H1
 have a0 := H1.ld 1 (off := 0) (v := .i .i64 n) rfl rfl
 have a1 := H1.ld 1 (off := 1) (v := .i .u8 0) rfl rfl
 have a2 := H1.ld 1 (off := 2) (v := .s []) rfl rfl
 have a3 := H1.ld 1 (off := 3) (v := .i .i64 (-1)) rfl rfl
 have a4 := H1.ld 1 (off := 4) (v := tx []) rfl rfl
 have a5 := H1.ld 1 (off := 5) (v := .ws false 6 []) rfl rfl
 have b0 := H1.ld 0 (off := 0) (v := .i .i64 n) rfl rfl
 have b1 := H1.ld 0 (off := 1) (v := .i .u8 0) rfl rfl
 have b2 := H1.ld 0 (off := 2) (v := .s []) rfl rfl
 have b3 := H1.ld 0 (off := 3) (v := .i .i64 (-1)) rfl rfl
 have b4 := H1.ld 0 (off := 4) (v := tx []) rfl rfl
 have b5 := H1.ld 0 (off := 5) (v := .ws false 6 []) rfl rfl
 have e1 := W1 [] [] (by simp) q
 have e2 := Y6 q
 have p1 : U9 [] [] = true := by decide +kernel
 have r0 : (n = n) = True := by simp
 have r1 : ((0 : Int) = 0) = True := by simp
 have r2 : (([] : List Nat) = []) = True := by simp
 have r3 : ((-1 : Int) = -1) = True := by simp
 rw [p1] at e1
 simp only [qx, List.map_nil] at e2
 simp only [E5, go_sem, AD, AA, AC, AB, KB_n, KB_x, Nat.reduceBEq, Nat.reduceAdd, Nat.reduceLT, Nat.reduceLeDiff, Nat.reduceEqDiff, reduceIte, Int.reduceEq, reduceCtorEq, Bf, hq, hm, a0, a1, a2, a3, a4, a5, b0, b1, b2, b3, b4, b5, Nat.zero_add, r0, r1, r2, r3, e1, e2]
 exact AI H1.over rfl rfl
theorem OJ {l : List FT} (h : mayP l = true) : ∃ f, l[0]? = some f ∧ f.kind = 2 ∧ 0 < l.length := by
 cases l with
 | nil => simp [mayP] at h
 | cons f t =>
   simp only [mayP, Bool.and_eq_true, FT.isDir, decide_eq_true_eq] at h
   exact ⟨f, rfl, h.1.2, by simp⟩
theorem Uy (l : List FT) (h : mayP l = true) (s : St) : (lim prog).call JU [fx l, .i .i64 0] s = some (.b true, s) := by
 refine fn_W Uj rfl rfl ?_
 have hz0 : wkZ Fz.cin [fx l, .i .i64 0] = [fx l, .i .i64 0] := by
  simp [Fz, wkZ, wk, fx]
 rw [hz0]
 obtain ⟨f, hf, hk, hl⟩ := OJ h
 have hg := NE hf
 have hth : ∀ u : St, Ig u (.ws false 6 (l.map FT.av)) = some (.ws false 6 (l.map FT.av), u) := fun _ => rfl
 have l1 : ∀ u : St, ldA u false 1 (.ep f.cells 1 .shut) = some (.i .u8 (f.kind : Nat)) := fun _ => rfl
 have r0 : ((0 : Int) ≤ 0) = True := by simp
 have r1 : ((0 : Int) < (l.length : Int)) = True := eq_true (by omega)
 have r2 : ((f.kind : Int) = 2) = True := eq_true (by omega)
 have n0 : Cg (.i .i64 0) = some 0 := rfl
 simp only [Fz, go_sem, AD, AA, AC, AB, KB_n, KB_x, Nat.reduceBEq, Nat.reduceAdd, Nat.reduceLT, Nat.reduceLeDiff, Nat.reduceEqDiff, reduceIte, Int.reduceEq, reduceCtorEq, fx, hth, r0, r1, List.length_map, n0, hg, B4, Nat.zero_add, l1, r2]
 exact AI (Over.enter s) rfl rfl
theorem Qo (l : List FT) (h : mayP l = true) (g : Bool) (s : St) (hw : Wf s) : (lim prog).call Gl [fx l, .agg (refT 0).cells, .b g] s = some (.b true, s) := by
 refine fn_W NB rfl rfl ?_
 have hz0 : wkZ Bn.cin [fx l, .agg (refT 0).cells, .b g] = [fx l, .agg (refT 0).cells, .b g] := by simp [Bn, wkZ, wk, TD.cells, fx]
 rw [hz0]
 have H1 := (Hp.begin hw).new (.cells 34 (refT 0).cells)
 generalize hq : s.enter.new (.cells 34 (refT 0).cells) = q at H1
 generalize hm : s.enter.nb = m at H1
 have l0 := H1.ld 0 (off := 0) (v := .i .i64 0) rfl rfl
 have lw := H1.ldw 0 (m := 6) rfl rfl
 obtain ⟨f, hf, hk, hl⟩ := OJ h
 have r0 : ((0 : Int) ≤ 0) = True := by simp
 have rm : ((0 : Int) ≠ -1) = True := by simp
 have r1 : ((0 : Int) < (l.length : Int)) = True := eq_true (by omega)
 have hR := Ux 0 q H1.wf
 have hS := Qn 0 q H1.wf
 simp only [Bn, go_sem, AD, AA, AC, AB, KB_n, KB_x, Nat.reduceBEq, Nat.reduceAdd, Nat.reduceLT, Nat.reduceLeDiff, Nat.reduceEqDiff, reduceIte, Int.reduceEq, reduceCtorEq, Bf, hq, hm, l0, rm]
 refine JS rfl ?_
 simp only [go_sem, AD, AA, AC, AB, KB_n, KB_x, Nat.reduceBEq, Nat.reduceAdd, Nat.reduceLT, Nat.reduceLeDiff, Nat.reduceEqDiff, reduceIte, Int.reduceEq, reduceCtorEq, l0, r0, fx, List.length_map, r1, lw, A2, hR, hS, Eh]
 refine Rh rfl (by simp only [go_sem, AD, AA, AC, AB, KB_n, KB_x, Nat.reduceBEq, Nat.reduceAdd, Nat.reduceLT, Nat.reduceLeDiff, Nat.reduceEqDiff, reduceIte, Int.reduceEq, reduceCtorEq]) (OS _) ⟨⟨_, rfl, lw⟩, ⟨_, rfl, lw⟩, ⟨_, rfl, lw⟩, ⟨_, rfl, lw⟩, ⟨_, rfl, lw⟩, ⟨_, rfl, lw⟩, trivial⟩ (JT ?_)
 simp only [go_sem, AD, AA, AC, AB, KB_n, KB_x, Nat.reduceBEq, Nat.reduceAdd, Nat.reduceLT, Nat.reduceLeDiff, Nat.reduceEqDiff, reduceIte, Int.reduceEq, reduceCtorEq]
 exact AI H1.over rfl rfl
theorem Ps (l : List FT) (ho : FOk l) (h : mayP l = true) (s : St) (hw : Wf s) : (lim prog).call Fv [fx l, .agg (refT 0).cells] s = some (.b true, s) := by
 refine fn_W MF rfl rfl ?_
 have H1 := (Hp.begin hw).new (.cells 34 (refT 0).cells)
 generalize hq : s.enter.new (.cells 34 (refT 0).cells) = q at H1
 generalize hm : s.enter.nb = m at H1
 have l0 := H1.ld 0 (off := 0) (v := .i .i64 0) rfl rfl
 have lw := H1.ldw 0 (m := 6) rfl rfl
 have hz0 : wkZ Ci.cin [fx l, .agg (refT 0).cells] = [fx l, .agg (refT 0).cells] := by simp [Ci, wkZ, wk, TD.cells, fx]
 have hM := NF l ho.ok ho.len ho.fl q H1.wf
 rw [h] at hM
 have hS := Qo l h false q H1.wf
 have hD := Uy l h q
 have r0 : ((0 : Int) ≤ 0) = True := by simp
 rw [hz0]
 simp only [Ci, go_sem, AD, AA, AC, AB, KB_n, KB_x, Nat.reduceBEq, Nat.reduceAdd, Nat.reduceLT, Nat.reduceLeDiff, Nat.reduceEqDiff, reduceIte, Int.reduceEq, reduceCtorEq, Bf, hq, hm, l0, lw, Hx, A2, hM, hS, hD, r0, Nat.zero_add]
 exact AI H1.over rfl rfl
theorem Sc (l : List FT) (ho : FOk l) (hl : mayP l = true) (n : TD) (hn : n.Ok) (hwh : EV n = true) (hr : F7 n = true) (s : St) (hw : Wf s) : (lim prog).call Fv [fx l, .agg n.cells] s = some (.b true, s) := by
 obtain ⟨hrr, hb, hkw⟩ := HR hwh
 refine fn_W MF rfl rfl ?_
 have H1 := (Hp.begin hw).new (.cells 34 n.cells)
 generalize hq : s.enter.new (.cells 34 n.cells) = q at H1
 generalize hm : s.enter.nb = m at H1
 have l0 : ldA q false 1 (.p m 0) = some (.i .i64 (-1)) := by rw [← hrr]; exact H1.ld 0 (off := 0) (v := .i .i64 n.ref) rfl rfl
 have l1 := H1.ld 0 (off := 1) (v := .i .u8 (n.kind : Nat)) rfl rfl
 have lw := H1.ldw 0 (m := 6) rfl rfl
 have hz0 : wkZ Ci.cin [fx l, .agg n.cells] = [fx l, .agg n.cells] := by simp [Ci, wkZ, wk, TD.cells, fx]
 have hM := NF l ho.ok ho.len ho.fl q H1.wf
 rw [hl] at hM
 have hS := NQ l n hn hwh q H1.wf
 have m1_lt : ((-1 : Int) < 0) = True := by simp
 simp only [F7, Bool.and_eq_true, decide_eq_true_eq] at hr
 rw [hr.1] at hS
 have e2 : ((n.kind : Int) = 2) = True := eq_true (by omega)
 rw [hz0]
 simp only [Ci, go_sem, AD, AA, AC, AB, KB_n, KB_x, Nat.reduceBEq, Nat.reduceAdd, Nat.reduceLT, Nat.reduceLeDiff, Nat.reduceEqDiff, reduceIte, Int.reduceEq, reduceCtorEq, Bf, hq, hm, l0, l1, lw, Hx, A2, hM, hS, Nat.zero_add, P5, m1_lt, e2]
 exact AI H1.over rfl rfl
theorem Y7 {l : List FT} (hl : mayP l = true) {root : ND} (hr : mayN root = true) : atP l root 0 = (root, 0) := by
 obtain ⟨f, hf, hk, hl0⟩ := OJ hl
 have hp : F5 l 0 = ([], 0) := by
  unfold F5
  rw [if_pos hl, if_pos (by omega)]
  simp [IT]
 unfold atP
 rw [hl, hr, Bool.and_self, if_pos rfl, if_pos (by omega)]
 unfold IX
 rw [hp]
 simp [IY]
theorem Uz {l : List FT} {root : ND} (h : Kj l root = true) : mayP l = true ∧ mayN root = true := by
 simp only [Kj, Bool.and_eq_true, decide_eq_true_eq] at h
 have := h.1
 unfold FR at this
 split at this
 · rename_i hh
   simpa using hh
 · simp at this

theorem Qp (l : List FT) (ho : FOk l) (hl : mayP l = true) (root : ND) (hr : root.Ok) (hb : nodesN root < 2 ^ 62) (hm : mayN root = true) {gb : Nat} {s : St} (hw : Wf s)
    (hg : s.box? gb = some (.cells 56 [fx l, .i .u8 (root.kind : Nat), .s root.text, tx root.names, .ws false 4 (root.kids.map ND.av)])) (lg : gb < s.nb) :
    (lim prog).call Dd [.p gb 0, .i .i64 0] s = some (.agg root.cells, s) := by
 refine fn_W JW rfl rfl ?_
 have hz0 : wkZ Bt.cin [.p gb 0, .i .i64 0] = [.p gb 0, .i .i64 0] := by simp [Bt, wkZ, wk]
 rw [hz0]
 have e0 : s.enter.nb = s.nb := rfl
 have H1 := (Hp.begin hw).new (.cells 30 [.i .u8 0, .s [], .nsl, .nsl])
 obtain ⟨q1, hq1⟩ : ∃ q1, s.enter.new (.cells 30 [.i .u8 0, .s [], .nsl, .nsl]) = q1 := ⟨_, rfl⟩
 have bx1 : q1.box? gb = s.box? gb := by rw [← hq1, Ba (by exact lg)]; rfl
 rw [hq1, e0] at H1
 have lf := D4 (s := q1) (v := fx l) (off := 0) (by rw [bx1]; exact hg) rfl
 have lr : ldA q1 true 4 (.p gb 1) = some (.agg root.cells) := by
  simp only [ldA, St.cells?, bx1, hg]; rfl
 have hA := Sj l ho root hr hb 0 q1 H1.wf
 rw [Y7 hl hm] at hA
 simp only [fx] at hA
 obtain ⟨q2, d2, H2, n2⟩ := H1.adp (T := 30) (m := 4) (z := [.i .u8 0, .s [], .nsl, .nsl]) (v := .agg root.cells) rfl ⟨Af root, GU root⟩
 have lx := H2.ldw (m := 4) 0 rfl rfl
 obtain ⟨q4, d4, H4, n4, _⟩ := H2.stw 1 (m := 4) (v := .agg root.cells) rfl rfl ⟨Af root, GU root⟩
 have lr4 := H4.ldw (m := 4) 1 rfl rfl
 simp only [B4] at lr4 lx
 simp only [Bt, go_sem, AD, AA, AC, AB, KB_n, KB_x, Nat.reduceBEq, Nat.reduceAdd, Nat.reduceLT, Nat.reduceLeDiff, Nat.reduceEqDiff, reduceIte, Int.reduceEq, reduceCtorEq, Af, hq1, e0, lf, fx, lr, AU, hA, d2, lx, d4, lr4, FI, P6]
 refine AI H4.over ?_ rfl
 simp only [BW, AV.refs.go, AV.refs, R3, Bool.or_self]
theorem Mn (l : List FT) (ho : FOk l) (hl : mayP l = true) (root : ND) (hr : root.Ok) (hb : nodesN root < 2 ^ 62) (hm : mayN root = true) {gb : Nat} {s : St} (hw : Wf s)
    (hg : s.box? gb = some (.cells 56 [fx l, .i .u8 (root.kind : Nat), .s root.text, tx root.names, .ws false 4 (root.kids.map ND.av)])) (lg : gb < s.nb) :
    (lim prog).call BI [.p gb 0, .agg (refT 0).cells] s = some (.agg root.cells, s) := by
 refine fn_W FQ rfl rfl ?_
 have hz0 : wkZ AZ.cin [.p gb 0, .agg (refT 0).cells] = [.p gb 0, .agg (refT 0).cells] := by simp [AZ, wkZ, wk, NG]
 rw [hz0]
 have e0 : s.enter.nb = s.nb := rfl
 have H1 := (((Hp.begin hw).new (.cells 54 [.p gb 0])).new (.cells 34 (refT 0).cells)).new (.cells 30 [.i .u8 0, .s [], .nsl, .nsl])
 have e1 : (s.enter.new (.cells 54 [.p gb 0])).nb = s.nb + 1 := rfl
 have e2 : ((s.enter.new (.cells 54 [.p gb 0])).new (.cells 34 (refT 0).cells)).nb = s.nb + 2 := rfl
 obtain ⟨q1, hq1⟩ : ∃ q1, ((s.enter.new (.cells 54 [.p gb 0])).new (.cells 34 (refT 0).cells)).new (.cells 30 [.i .u8 0, .s [], .nsl, .nsl]) = q1 := ⟨_, rfl⟩
 have bx1 : q1.box? gb = s.box? gb := by
  rw [← hq1, Ba (by rw [e2]; omega), Ba (by rw [e1]; omega), Ba (by exact lg)]; rfl
 have nb1 : q1.nb = s.nb + 3 := by rw [← hq1]; rfl
 rw [hq1, e2, e1, e0] at H1
 have lg0 := H1.ld 2 (off := 0) (v := .p gb 0) rfl rfl
 have lt0 := H1.ld 1 (off := 0) (v := .i .i64 0) rfl rfl
 have hA := Qp l ho hl root hr hb hm (gb := gb) H1.wf (by rw [bx1]; exact hg) (by omega)
 obtain ⟨q2, d2, H2, n2, _⟩ := H1.stw 0 (m := 4) (v := .agg root.cells) rfl rfl ⟨Af root, GU root⟩
 have lr2 := H2.ldw (m := 4) 0 rfl rfl
 have r0 : ((0 : Int) ≤ 0) = True := by simp
 have c1 : (AV.p gb 0).cells = [.p gb 0] := rfl
 simp only [B4] at lr2
 simp only [AZ, go_sem, AD, AA, AC, AB, KB_n, KB_x, Nat.reduceBEq, Nat.reduceAdd, Nat.reduceLT, Nat.reduceLeDiff, Nat.reduceEqDiff, reduceIte, Int.reduceEq, reduceCtorEq, Bf, Af, c1, List.length_cons, List.length_nil, hq1, e0, e1, e2, lg0, lt0, r0, hA, d2, lr2, FI, Nat.zero_add]
 refine AI H2.over ?_ rfl
 simp only [BW, AV.refs.go, AV.refs, R3, Bool.or_self]
def OverT (t : TD) (root x : ND) : Prop := (t = refT 0 ∧ x = root) ∨ (t.Ok ∧ EV t = true ∧ F7 t = true ∧ x = t.nd)
theorem out_ok (l : List FT) (ho : FOk l) (root : ND) (hr : root.Ok) (hb : nodesN root < 2 ^ 62) (hh : Kj l root = true) {t : TD} {x : ND} (hx : OverT t root x) {s : St} (hw : Wf s) :
    (lim prog).call Hq [fx l, .agg root.cells, .agg t.cells] s = some (.tup [.agg x.cells, .i .i64 0], s) := by
 obtain ⟨hl, hm⟩ := Uz hh
 refine fn_W Pc rfl rfl ?_
 have hz0 : wkZ Dp.cin [fx l, .agg root.cells, .agg t.cells] = [fx l, .agg root.cells, .agg t.cells] := by simp [Dp, wkZ, wk, TD.cells, ND.cells, fx]
 rw [hz0]
 have e0 : s.enter.nb = s.nb := rfl
 have H1 := (((Hp.begin hw).new (.cells 30 root.cells)).new (.cells 34 t.cells)).new (.cells 30 [.i .u8 0, .s [], .nsl, .nsl])
 have e1 : (s.enter.new (.cells 30 root.cells)).nb = s.nb + 1 := rfl
 have e2 : ((s.enter.new (.cells 30 root.cells)).new (.cells 34 t.cells)).nb = s.nb + 2 := rfl
 obtain ⟨q1, hq1⟩ : ∃ q1, ((s.enter.new (.cells 30 root.cells)).new (.cells 34 t.cells)).new (.cells 30 [.i .u8 0, .s [], .nsl, .nsl]) = q1 := ⟨_, rfl⟩
 have nb1 : q1.nb = s.nb + 3 := by rw [← hq1]; rfl
 rw [hq1, e2, e1, e0] at H1
 have lt := H1.ldw (m := 6) 1 rfl rfl
 have lr := H1.ldw (m := 4) 2 rfl rfl
 have hM : (lim prog).call Fv [fx l, .agg t.cells] q1 = some (.b true, q1) := by
  rcases hx with ⟨rfl, rfl⟩ | ⟨h1, h2, h3, rfl⟩
  · exact Ps l ho hl q1 H1.wf
  · exact Sc l ho hl t h1 h2 h3 q1 H1.wf
 have hF := Qt root hr hb q1 H1.wf
 rw [hm] at hF
 have hH := holds_ok l ho root hr hb q1 H1.wf
 rw [hh] at hH
 have H2 := H1.new (.cells 56 [fx l, .i .u8 (root.kind : Nat), .s root.text, tx root.names, .ws false 4 (root.kids.map ND.av)])
 obtain ⟨q2, hq2⟩ : ∃ q2, q1.new (.cells 56 [fx l, .i .u8 (root.kind : Nat), .s root.text, tx root.names, .ws false 4 (root.kids.map ND.av)]) = q2 := ⟨_, rfl⟩
 have bg : q2.box? q1.nb = some (.cells 56 [fx l, .i .u8 (root.kind : Nat), .s root.text, tx root.names, .ws false 4 (root.kids.map ND.av)]) := by rw [← hq2]; exact Ay q1 _
 have nb2 : q2.nb = q1.nb + 1 := by rw [← hq2]; rfl
 rw [hq2] at H2
 have lt2 := H2.ldw (m := 6) 2 rfl rfl
 have hN : (lim prog).call BI [.p q1.nb 0, .agg t.cells] q2 = some (.agg x.cells, q2) := by
  rcases hx with ⟨rfl, rfl⟩ | ⟨h1, h2, h3, rfl⟩
  · exact Mn l ho hl x hr hb hm (gb := q1.nb) H2.wf bg (by omega)
  · simp only [F7, Bool.and_eq_true] at h3
    exact Ve t h1 h2 h3.1 q1.nb q2 H2.wf
 obtain ⟨q3, d3, H3, n3, _⟩ := H2.stw 1 (m := 4) (v := .agg x.cells) rfl rfl ⟨Af x, GU x⟩
 have lx := H3.ldw (m := 4) 1 rfl rfl
 have hl5 : ∀ a b c d e : AV, [a, b, c, d, e].length = 5 := fun _ _ _ _ _ => rfl
 simp only [B4] at lx
 simp only [fx] at hM hH hq2
 have hov : over [.ws false 6 (l.map FT.av), .i .u8 0, .s [], .nsl, .nsl] 1 root.cells = some [.ws false 6 (l.map FT.av), .i .u8 (root.kind : Nat), .s root.text, tx root.names, .ws false 4 (root.kids.map ND.av)] := rfl
 simp only [Dp, go_sem, AD, AA, AC, AB, KB_n, KB_x, Nat.reduceBEq, Nat.reduceAdd, Nat.reduceLT, Nat.reduceLeDiff, Nat.reduceEqDiff, reduceIte, Int.reduceEq, reduceCtorEq, Bf, Af, hq1, e0, e1, e2, fx, lt, lr, AU, A2, hM, hF, hH, hov, hl5, hq2, lt2, hN, d3, lx, FI]
 refine AI H3.over ?_ ?_
 · simp only [BW, AV.refs.go, AV.refs, R3, Bool.or_self]
 · simp [BW, wkZ, wk, ND.cells, tx]
theorem Y8 (l : List FT) (ho : FOk l) (root : ND) (hr : root.Ok) (hb : nodesN root < 2 ^ 62) (hh : Kj l root = true) {t : TD} {x : ND} (hxo : x.Ok) (hx : OverT t root x) {s : St} (hw : Wf s) :
    (lim prog).call A3 [fx l, .agg root.cells, .agg t.cells, .agg x.cells] s = some (.b true, s) := by
 refine fn_W FP rfl rfl ?_
 have hz0 : wkZ BX.cin [fx l, .agg root.cells, .agg t.cells, .agg x.cells] = [fx l, .agg root.cells, .agg t.cells, .agg x.cells] := by simp [BX, wkZ, wk, TD.cells, ND.cells, fx]
 rw [hz0]
 have e0 : s.enter.nb = s.nb := rfl
 have H1 := (((Hp.begin hw).new (.cells 30 root.cells)).new (.cells 34 t.cells)).new (.cells 30 x.cells)
 have e1 : (s.enter.new (.cells 30 root.cells)).nb = s.nb + 1 := rfl
 have e2 : ((s.enter.new (.cells 30 root.cells)).new (.cells 34 t.cells)).nb = s.nb + 2 := rfl
 obtain ⟨q1, hq1⟩ : ∃ q1, ((s.enter.new (.cells 30 root.cells)).new (.cells 34 t.cells)).new (.cells 30 x.cells) = q1 := ⟨_, rfl⟩
 rw [hq1, e2, e1, e0] at H1
 have lt := H1.ldw (m := 6) 1 rfl rfl
 have lr := H1.ldw (m := 4) 2 rfl rfl
 have hO := out_ok l ho root hr hb hh hx H1.wf
 have H2 := H1.new (.cells 30 [.i .u8 0, .s [], .nsl, .nsl])
 obtain ⟨q2, hq2⟩ : ∃ q2, q1.new (.cells 30 [.i .u8 0, .s [], .nsl, .nsl]) = q2 := ⟨_, rfl⟩
 rw [hq2] at H2
 obtain ⟨q3, d3, H3, n3, _⟩ := H2.stw 0 (m := 4) (v := .agg x.cells) rfl rfl ⟨Af x, GU x⟩
 have l1 := H3.ldw (m := 4) 0 rfl rfl
 have l2 := H3.ldw (m := 4) 1 rfl rfl
 have hS := MP x hxo q3 H3.wf
 have r0 : ((0 : Int) = 0) = True := by simp
 simp only [B4] at l1
 simp only [fx] at hO
 simp only [BX, go_sem, AD, AA, AC, AB, KB_n, KB_x, Nat.reduceBEq, Nat.reduceAdd, Nat.reduceLT, Nat.reduceLeDiff, Nat.reduceEqDiff, reduceIte, Int.reduceEq, reduceCtorEq, Bf, Af, hq1, e0, e1, e2, fx, lt, lr, AU, A2, hO, hq2, d3, r0, l1, l2, hS]
 exact AI H3.over rfl rfl

theorem Rq : ∀ n : ND, EV n.td = true := by
 refine ND.ind fun n ih => ?_
 rw [MQ, ND.td_eq]
 simp only [TD.ref, TD.base, TD.kids, decide_true, Bool.true_and, List.all_eq_true, List.mem_map]
 rintro _ ⟨k, hk, rfl⟩
 exact ih k hk
theorem Y9 : ∀ n : ND, n.td.nd = n := by
 refine ND.ind fun n ih => ?_
 rw [TD.nd_eq, ND.td_eq]
 simp only [TD.kind, TD.text, TD.names, TD.kids, List.map_map]
 have : n.kids.map (TD.nd ∘ ND.td) = n.kids := by
  conv => rhs; rw [← List.map_id n.kids]
  exact List.map_congr_left fun k hk => ih k hk
 rw [this]
 cases n
 rfl
theorem Sd (n : ND) : ((MU n).2 = 0 ∧ (MU n).1 = n.td ∧ n.kind = 2 ∧ C8 n = true) ∨ ((MU n).2 = 4) := by
 unfold MU
 split
 · rename_i h
   simp only [Bool.and_eq_true, decide_eq_true_eq] at h
   exact .inl ⟨rfl, rfl, h.1, h.2⟩
 · exact .inr rfl
theorem NH {n : ND} (h2 : n.kind = 2) (hw : C8 n = true) : F7 n.td = true := by
 unfold F7
 rw [Y9, hw, ND.td_eq]
 simp [TD.kind, h2]
theorem U0 {n : ND} (h2 : n.kind = 2) (hw : C8 n = true) : P8 n.td = (n, 0) := by
 unfold P8
 rw [Rq, NH h2 hw, Y9]
 rfl
theorem MJ (root : ND) (hr : root.Ok) (hbr : Ff root < 2 ^ 60) (l : List FT) (ho : FOk l) (n : ND) (hn : n.Ok) (hbn : Ff n < 2 ^ 60) (s : St) (hw : Wf s) :
    (lim prog).call DT [.agg root.cells, fx l, .agg n.cells] s = some (.b true, s) := by
 refine fn_W FM rfl rfl ?_
 have hz0 : wkZ AO.cin [.agg root.cells, fx l, .agg n.cells] = [.agg root.cells, fx l, .agg n.cells] := by simp [AO, wkZ, wk, ND.cells, fx]
 rw [hz0]
 have hnb : nodesN root < 2 ^ 62 := by have := Sw root; omega
 have e0 : s.enter.nb = s.nb := rfl
 have H1 := ((Hp.begin hw).new (.cells 30 root.cells)).new (.cells 30 n.cells)
 have e1 : (s.enter.new (.cells 30 root.cells)).nb = s.nb + 1 := rfl
 obtain ⟨q1, hq1⟩ : ∃ q1, (s.enter.new (.cells 30 root.cells)).new (.cells 30 n.cells) = q1 := ⟨_, rfl⟩
 rw [hq1, e1, e0] at H1
 have lr := H1.ldw (m := 4) 1 rfl rfl
 have ln := H1.ldw (m := 4) 0 rfl rfl
 have hwk : (lim prog).call CZ [] q1 = some (.b true, q1) := Ud HM rfl rfl
 obtain ⟨b, hmany⟩ := ZA l ho q1 H1.wf
 unfold fx at hmany
 cases b with
 | true =>
   simp only [AO, go_sem, AD, AA, AC, AB, KB_n, KB_x, Nat.reduceBEq, Nat.reduceAdd, Nat.reduceLT, Nat.reduceLeDiff, Nat.reduceEqDiff, reduceIte, Int.reduceEq, reduceCtorEq, Af, hq1, e0, e1, fx, hwk, hmany]
   exact AI H1.over rfl rfl
 | false =>
 obtain ⟨_, s2, hwt, hs2, w, hwb, rfl⟩ := QA root hr hbr q1 H1.wf
 rw [hs2] at hwt
 by_cases h2 : 300 ≤ w
 · have f2 : ((300 : Int) ≤ (w : Int)) = True := eq_true (by omega)
   simp only [AO, go_sem, AD, AA, AC, AB, KB_n, KB_x, Nat.reduceBEq, Nat.reduceAdd, Nat.reduceLT, Nat.reduceLeDiff, Nat.reduceEqDiff, reduceIte, Int.reduceEq, reduceCtorEq, Af, hq1, e0, e1, fx, hwk, hmany, lr, AU, hwt, f2]
   exact AI H1.over rfl rfl
 have f2 : ((300 : Int) ≤ (w : Int)) = False := eq_false (by omega)
 obtain ⟨_, s3, hwn, hs3, w3, hwb3, rfl⟩ := QA n hn hbn q1 H1.wf
 rw [hs3] at hwn
 by_cases h3 : 190 ≤ w3
 · have f3 : ((190 : Int) ≤ (w3 : Int)) = True := eq_true (by omega)
   simp only [AO, go_sem, AD, AA, AC, AB, KB_n, KB_x, Nat.reduceBEq, Nat.reduceAdd, Nat.reduceLT, Nat.reduceLeDiff, Nat.reduceEqDiff, reduceIte, Int.reduceEq, reduceCtorEq, Af, hq1, e0, e1, fx, hwk, hmany, lr, ln, AU, hwt, hwn, f2, f3]
   exact AI H1.over rfl rfl
 have f3 : ((190 : Int) ≤ (w3 : Int)) = False := eq_false (by omega)
 have hM := OT n hn q1 H1.wf
 obtain ⟨t, ht⟩ : ∃ t, (MU n).1 = t := ⟨_, rfl⟩
 obtain ⟨er, her⟩ : ∃ er, (MU n).2 = er := ⟨_, rfl⟩
 have hto : t.Ok := by rw [← ht]; exact XH hn
 have hvals := Sd n
 rw [ht, her] at hM hvals
 have H2 := H1.new (.cells 34 [.i .i64 0, .i .u8 0, .s [], .i .i64 0, .nsl, .nsl])
 obtain ⟨q2, hq2⟩ : ∃ q2, q1.new (.cells 34 [.i .i64 0, .i .u8 0, .s [], .i .i64 0, .nsl, .nsl]) = q2 := ⟨_, rfl⟩
 rw [hq2] at H2
 obtain ⟨q3, d3, H3, n3, _⟩ := H2.stw 0 (m := 6) (v := .agg t.cells) rfl rfl ⟨Bf t, Xi t⟩
 have lt3 := H3.ldw (m := 6) 0 rfl rfl
 have lr3 := H3.ldw (m := 4) 2 rfl rfl
 have hraw : ∀ (q : St), (lim prog).call A3 [fx l, .agg root.cells, .agg [.i .i64 0, .i .u8 0, .s [], .i .i64 (-1), .nsl, .nsl], .agg root.cells] q = (lim prog).call A3 [fx l, .agg root.cells, .agg (refT 0).cells, .agg root.cells] q := fun q =>
  Qz FP rfl rfl rfl
 rcases hvals with ⟨rfl, rfl, hk2, hwl⟩ | rfl
 · have hW := Mq n.td hto q3 H3.wf
   rw [U0 hk2 hwl] at hW
   have H4 := H3.new (.cells 30 [.i .u8 0, .s [], .nsl, .nsl])
   obtain ⟨q4, hq4⟩ : ∃ q4, q3.new (.cells 30 [.i .u8 0, .s [], .nsl, .nsl]) = q4 := ⟨_, rfl⟩
   rw [hq4] at H4
   obtain ⟨q5, d5, H5, n5, _⟩ := H4.stw 0 (m := 4) (v := .agg n.cells) rfl rfl ⟨Af n, GU n⟩
   have lx5 := H5.ldw (m := 4) 0 rfl rfl
   have lt5 := H5.ldw (m := 6) 1 rfl rfl
   have ln5 := H5.ldw (m := 4) 2 rfl rfl
   have lr5 := H5.ldw (m := 4) 3 rfl rfl
   have hS := MP n hn q5 H5.wf
   have hH := holds_ok l ho root hr hnb q5 H5.wf
   have r0 : ((0 : Int) = 0) = True := by simp
   have r1 : ((0 : Int) ≠ 0) = False := by simp
   simp only [B4] at lt3 lx5 lt5
   cases hh : Kj l root with
   | false =>
     rw [hh] at hH
     simp only [fx] at hH
     simp only [AO, go_sem, AD, AA, AC, AB, KB_n, KB_x, Nat.reduceBEq, Nat.reduceAdd, Nat.reduceLT, Nat.reduceLeDiff, Nat.reduceEqDiff, reduceIte, Int.reduceEq, reduceCtorEq, Af, Bf, hq1, e0, e1, fx, hwk, hmany, lr, ln, AU, A2, hwt, hwn, f2, f3, hM, hq2, d3, r0, r1, lt3, hW, hq4, d5, lx5, ln5, hS, lr5, hH]
     exact AI H5.over rfl rfl
   | true =>
     rw [hh] at hH
     have hI1 := hraw q5
     rw [Y8 l ho root hr hnb hh hr (.inl ⟨rfl, rfl⟩) H5.wf] at hI1
     have hI2 := Y8 l ho root hr hnb hh hn (.inr ⟨hto, Rq n, NH hk2 hwl, (Y9 n).symm⟩) H5.wf
     simp only [fx] at hH hI1 hI2
     simp only [AO, go_sem, AD, AA, AC, AB, KB_n, KB_x, Nat.reduceBEq, Nat.reduceAdd, Nat.reduceLT, Nat.reduceLeDiff, Nat.reduceEqDiff, reduceIte, Int.reduceEq, reduceCtorEq, Af, Bf, hq1, e0, e1, fx, hwk, hmany, lr, ln, AU, A2, hwt, hwn, f2, f3, hM, hq2, d3, r0, r1, lt3, hW, hq4, d5, lx5, ln5, lt5, hS, lr5, hH, hI1, hI2]
     exact AI H5.over rfl rfl
 · have hH := holds_ok l ho root hr hnb q3 H3.wf
   have r0 : ((4 : Int) = 0) = False := by simp
   have r1 : ((4 : Int) ≠ 0) = True := by simp
   cases hh : Kj l root with
   | false =>
     rw [hh] at hH
     simp only [fx] at hH
     simp only [AO, go_sem, AD, AA, AC, AB, KB_n, KB_x, Nat.reduceBEq, Nat.reduceAdd, Nat.reduceLT, Nat.reduceLeDiff, Nat.reduceEqDiff, reduceIte, Int.reduceEq, reduceCtorEq, Af, Bf, hq1, e0, e1, fx, hwk, hmany, lr, ln, AU, A2, hwt, hwn, f2, f3, hM, hq2, d3, r0, r1, lt3, lr3, hH]
     exact AI H3.over rfl rfl
   | true =>
     rw [hh] at hH
     have hI1 := hraw q3
     rw [Y8 l ho root hr hnb hh hr (.inl ⟨rfl, rfl⟩) H3.wf] at hI1
     simp only [fx] at hH hI1
     simp only [AO, go_sem, AD, AA, AC, AB, KB_n, KB_x, Nat.reduceBEq, Nat.reduceAdd, Nat.reduceLT, Nat.reduceLeDiff, Nat.reduceEqDiff, reduceIte, Int.reduceEq, reduceCtorEq, Af, Bf, hq1, e0, e1, fx, hwk, hmany, lr, ln, AU, A2, hwt, hwn, f2, f3, hM, hq2, d3, r0, r1, lt3, lr3, hH, hI1]
     exact AI H3.over rfl rfl
end Go.Proofs.YtbfgoopcnkeblaaGreat
