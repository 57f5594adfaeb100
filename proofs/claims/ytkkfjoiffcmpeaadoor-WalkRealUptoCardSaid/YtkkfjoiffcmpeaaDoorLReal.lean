/-
  Steps and Clean, where what they tell is told at the border.
-/
import Derived.Test.YtkkfjoiffcmpeaaDoorLWalkP
set_option linter.all false
set_option linter.unusedVariables false
set_option linter.unusedSimpArgs false
set_option linter.unusedSectionVars false
set_option maxRecDepth 100000
set_option linter.unusedSimpArgs false
set_option linter.constructorNameAsVariable false
namespace Go.Proofs.YtkkfjoiffcmpeaaDoor
open Go.Proofs.YtkkfjoiffcmpeaaDoor.Am

theorem clean_ok (l : List Nat) (hl : Txt l) (hlen : l.length < 2 ^ 36) (s : St) (hw : Wf s) : (lim prog).call f_path_Clean [.s l] s = some (tx (cleanL l), s) := by
  refine fn_W p_path_Clean rfl rfl ?_
  obtain ⟨q1, hq1⟩ : ∃ q1, s.enter.new (.cells 22 [.nsl]) = q1 := ⟨_, rfl⟩
  have w1 : Wf q1 := by rw [← hq1]; exact hw.enter.new _
  have n1 : q1.nb = s.nb + 1 ∧ q1.nt = s.nt ∧ q1.lo = s.nb := by rw [← hq1]; exact ⟨rfl, rfl, rfl⟩
  have ov1 : Over s q1 := by rw [← hq1]; exact (Over.enter s).new _
  have bo1 : q1.box? s.nb = some (.cells 22 [.nsl]) := by rw [← hq1]; exact new_box_self s.enter _
  have hst := steps_ok l q1
  obtain ⟨q2, hq2⟩ : ∃ q2, ({ q1.new (.cells 9 [.s l]) with lo := min q1.lo q1.nb } : St) = q2 := ⟨_, rfl⟩
  rw [hq2] at hst
  have w2 : Wf q2 := by rw [← hq2]; exact (w1.new _).lo _
  have n2 : q2.nb = s.nb + 2 ∧ q2.nt = s.nt := by rw [← hq2]; exact ⟨by show q1.nb + 1 = _; omega, n1.2.1⟩
  have ov2 : Over s q2 := by rw [← hq2]; exact Over.setLo (ov1.new _) (by omega)
  have bo2 : q2.box? s.nb = some (.cells 22 [.nsl]) := by
    rw [← hq2]
    show (q1.new _).box? s.nb = _
    rw [new_box_lt (by omega)]; exact bo1
  have bs2 : q2.box? q1.nb = some (.cells 9 [.s l]) := by rw [← hq2]; exact new_box_self q1 _
  have hnb : s.enter.nb = s.nb := rfl
  simp only [c_path_Clean, go_sem, W_cond, WO_guard2, WE_guard2, WQ_guard2, W_regD, KB_n, KB_x, Nat.reduceBEq, Nat.reduceAdd, Nat.reduceLT, Nat.reduceLeDiff, Nat.reduceEqDiff, reduceIte, Int.reduceEq, reduceCtorEq, hnb, hq1, hst]
  refine W_cut (fun e => e.get 3 = .p s.nb 0 ∧ e.get 6 = .fn f_path_steps_1 [.p q1.nb 0]) ⟨?_, ?_⟩ ?_
  · simp only [go_sem, W_cond, WO_guard2, WE_guard2, WQ_guard2, W_regD, KB_n, KB_x, Nat.reduceBEq, Nat.reduceAdd, Nat.reduceLT, Nat.reduceLeDiff, Nat.reduceEqDiff, reduceIte, Int.reduceEq, reduceCtorEq]
  · simp only [go_sem, W_cond, WO_guard2, WE_guard2, WQ_guard2, W_regD, KB_n, KB_x, Nat.reduceBEq, Nat.reduceAdd, Nat.reduceLT, Nat.reduceLeDiff, Nat.reduceEqDiff, reduceIte, Int.reduceEq, reduceCtorEq]
  rintro e ⟨g3, g6⟩
  obtain ⟨q3, hq3⟩ : ∃ q3, q2.new (.loop 0 none e [7] clA clC) = q3 := ⟨_, rfl⟩
  have w3 : Wf q3 := by rw [← hq3]; exact w2.new _
  have n3 : q3.nb = s.nb + 3 ∧ q3.nt = s.nt := by rw [← hq3]; exact ⟨by show q2.nb + 1 = _; omega, n2.2⟩
  have ov3 : Over s q3 := by rw [← hq3]; exact ov2.new _
  have bx3 : ∀ i, i < q2.nb → q3.box? i = q2.box? i := fun i hi => by rw [← hq3]; exact new_box_lt hi
  have bk3 : q3.box? q2.nb = some (.loop 0 none e [7] clA clC) := by rw [← hq3]; exact new_box_self _ _
  obtain ⟨q4, hc4, ov4, w4, n4, t4, hI4⟩ := stepsIter (O := fun _ => False) (m := q3.nb) hl (s := q3) (a := q1.nb) (by rw [bx3 _ (by omega)]; exact bs2) (by omega) s (q2.nb + 1) s.nt q2.nb _ _
    (cleanBody (k := q2.nb) (ido := s.nb) (e := e) (by omega) (Nat.le_refl _) hlen g3)
    ⟨bk3, ⟨.nsl, by rw [bx3 _ (by omega)]; exact bo2, .inl ⟨rfl, rfl⟩, fun k hk => by simp [rowTok] at hk⟩, fun _ => by rw [bx3 _ (by omega)]; exact bo2⟩ ov3 w3 (by omega) (by omega) (by omega) (by omega)
  rw [← hq3] at hc4
  refine W_rf g6 hc4 ?_
  rcases hI4 with ⟨k1, ⟨a, k2, k3, k4⟩, _⟩ | h
  · refine ⟨_, _, _, _, _, _, k1, by decide, ?_⟩
    have b5 : (q4.setBox q2.nb .used).box? s.nb = some (.cells 22 [a]) := by rw [setBox_box? w4.b (by omega), if_neg (by omega)]; exact k2
    have lda := ld_box (s := q4.setBox q2.nb .used) (v := a) (off := 0) b5 rfl
    have ov5 : Over s (q4.setBox q2.nb .used) := Over.setBox ov4 (by omega) (by omega) _
    rw [List.length_map, List.take_length] at k3
    have hcl : cleanL l = (stepsL l).foldl cleanF [] := rfl
    rw [← hcl] at k3
    have hrf : ∀ L : List (List Nat), AV.refs.go (L.map AV.s) = false := fun L => by
      induction L with
      | nil => rfl
      | cons x L ih => simp only [List.map_cons, AV.refs.go, AV.refs, Bool.false_or]; exact ih
    have hwk : ∀ L : List (List Nat), wkM .id (L.map AV.s) = L.map AV.s := fun L => by
      induction L with
      | nil => simp [wkM]
      | cons x L ih => simp only [List.map_cons, wkM, wk, ih]
    rcases k3 with ⟨rfl, h⟩ | ⟨k, vv, t, rfl, m1, m2, m3, m4, m5, m6, m7⟩
    · have h : cleanL l = [] := by simpa using h
      simp only [go_sem, W_cond, WO_guard2, WE_guard2, WQ_guard2, W_regD, KB_n, KB_x, Nat.reduceBEq, Nat.reduceAdd, Nat.reduceLT, Nat.reduceLeDiff, Nat.reduceEqDiff, reduceIte, Int.reduceEq, reduceCtorEq, g3, lda, Nat.zero_add, pubA, frz]
      exact KR_some ov5 rfl (by rw [h]; rfl)
    · have m3' : (q4.setBox q2.nb .used).tok? k = some t := m3
      simp only [go_sem, W_cond, WO_guard2, WE_guard2, WQ_guard2, W_regD, KB_n, KB_x, Nat.reduceBEq, Nat.reduceAdd, Nat.reduceLT, Nat.reduceLeDiff, Nat.reduceEqDiff, reduceIte, Int.reduceEq, reduceCtorEq, g3, lda, Nat.zero_add, pubA, frz, pub, m3', m4]
      refine KR_some (Over.setTok ov5 m1 m2 _) (by simp only [tupOf, AV.refs]; exact hrf _) ?_
      simp only [tupOf, wkZ]
      rw [wk]
      simp only [Nat.beq_eq, if_true, hwk, Nat.beq_refl]
  · exact h.elim
theorem appendSeq_ok {L : List (List Nat)} (hl : L.length < 2 ^ 37) {g : Nat} {caps : List AV} {s : St} (hw : Wf s) (hit : ∀ q, (∀ i, i < s.nb → q.box? i = s.box? i) → s.nb ≤ q.nb → IterOk prog (fun _ => False) q.nb g caps (L.map .s) q) :
    ∃ r s', (lim prog).call f_slices_AppendSeq_string_string [.nsl, .fn g caps] s = some (r, s') ∧ s' = s ∧ ((r = .nsl ∧ L = []) ∨ r = .sl 1 (L.map .s) .shut) := by
  refine fn_G (Post := fun r s' => s' = s ∧ ((r = .nsl ∧ L = []) ∨ r = .sl 1 (L.map .s) .shut)) p_slices_AppendSeq_string_string rfl rfl ?_
  obtain ⟨q2, hq2⟩ : ∃ q2, s.enter.new (.cells 22 [.nsl]) = q2 := ⟨_, rfl⟩
  have w2 : Wf q2 := by rw [← hq2]; exact hw.enter.new _
  have n2 : q2.nb = s.nb + 1 ∧ q2.nt = s.nt ∧ q2.lo = s.nb := by rw [← hq2]; exact ⟨rfl, rfl, rfl⟩
  have ov2 : Over s q2 := by rw [← hq2]; exact (Over.enter s).new _
  have bo2 : q2.box? s.nb = some (.cells 22 [.nsl]) := by rw [← hq2]; exact new_box_self s.enter _
  have bx2 : ∀ i, i < s.nb → q2.box? i = s.box? i := fun i hi => by rw [← hq2]; exact new_box_lt (s := s.enter) hi
  have hnb : s.enter.nb = s.nb := rfl
  have c1 : AV.nsl.cells = [.nsl] := rfl
  have hl1 : ∀ a : AV, [a].length = 1 := fun _ => rfl
  simp only [c_slices_AppendSeq_string_string, go_sem, W_cond, WO_guard2, WE_guard2, WQ_guard2, W_regD, KB_n, KB_x, Nat.reduceBEq, Nat.reduceAdd, Nat.reduceLT, Nat.reduceLeDiff, Nat.reduceEqDiff, reduceIte, Int.reduceEq, reduceCtorEq, hnb, c1, hl1, hq2]
  refine W_cut (fun e => e.get 2 = .p s.nb 0 ∧ e.get 6 = .fn g caps) ⟨?_, ?_⟩ ?_
  · simp only [go_sem, W_cond, WO_guard2, WE_guard2, WQ_guard2, W_regD, KB_n, KB_x, Nat.reduceBEq, Nat.reduceAdd, Nat.reduceLT, Nat.reduceLeDiff, Nat.reduceEqDiff, reduceIte, Int.reduceEq, reduceCtorEq]
  · simp only [go_sem, W_cond, WO_guard2, WE_guard2, WQ_guard2, W_regD, KB_n, KB_x, Nat.reduceBEq, Nat.reduceAdd, Nat.reduceLT, Nat.reduceLeDiff, Nat.reduceEqDiff, reduceIte, Int.reduceEq, reduceCtorEq]
  rintro e ⟨g2, g6⟩
  obtain ⟨q3, hq3⟩ : ∃ q3, q2.new (.loop 0 none e [7] apA apC) = q3 := ⟨_, rfl⟩
  have w3 : Wf q3 := by rw [← hq3]; exact w2.new _
  have n3 : q3.nb = s.nb + 2 ∧ q3.nt = s.nt := by rw [← hq3]; exact ⟨by show q2.nb + 1 = _; omega, n2.2.1⟩
  have ov3 : Over s q3 := by rw [← hq3]; exact ov2.new _
  have bx3 : ∀ i, i < q2.nb → q3.box? i = q2.box? i := fun i hi => by rw [← hq3]; exact new_box_lt hi
  have bk3 : q3.box? q2.nb = some (.loop 0 none e [7] apA apC) := by rw [← hq3]; exact new_box_self _ _
  obtain ⟨q4, hc4, ov4, w4, n4, t4, hI4⟩ := hit q3 (fun i hi => by rw [bx3 i (by omega), bx2 i hi]) (by omega) s (q2.nb + 1) s.nt q2.nb _ _
    (apBody (k := q2.nb) (ido := s.nb) (e := e) (by omega) (Nat.le_refl _) hl g2)
    ⟨bk3, ⟨.nsl, by rw [bx3 _ (by omega)]; exact bo2, .inl ⟨rfl, rfl⟩, fun k hk => by simp [rowTok] at hk⟩, fun _ => by rw [bx3 _ (by omega)]; exact bo2⟩ ov3 w3 (by omega) (by omega) (by omega) (by omega)
  rw [← hq3] at hc4
  refine W_rf g6 hc4 ?_
  rcases hI4 with ⟨k1, ⟨a, k2, k3, k4⟩, _⟩ | h
  · refine ⟨_, _, _, _, _, _, k1, by decide, ?_⟩
    have b5 : (q4.setBox q2.nb .used).box? s.nb = some (.cells 22 [a]) := by rw [setBox_box? w4.b (by omega), if_neg (by omega)]; exact k2
    have lda := ld_box (s := q4.setBox q2.nb .used) (v := a) (off := 0) b5 rfl
    have ov5 : Over s (q4.setBox q2.nb .used) := Over.setBox ov4 (by omega) (by omega) _
    have w5 : Wf (q4.setBox q2.nb .used) := w4.setBox _ _
    rw [List.length_map, List.take_length] at k3
    rcases k3 with ⟨rfl, h⟩ | ⟨k, vv, t, rfl, m1, m2, m3, m4, m5, m6, m7⟩
    · have h : L = [] := by simpa using h
      simp only [go_sem, W_cond, WO_guard2, WE_guard2, WQ_guard2, W_regD, KB_n, KB_x, Nat.reduceBEq, Nat.reduceAdd, Nat.reduceLT, Nat.reduceLeDiff, Nat.reduceEqDiff, reduceIte, Int.reduceEq, reduceCtorEq, g2, lda, Nat.zero_add, pubA, frz]
      exact ⟨_, _, rfl, ov5.leave rfl, .inl ⟨rfl, h⟩⟩
    · have m3' : (q4.setBox q2.nb .used).tok? k = some t := m3
      simp only [go_sem, W_cond, WO_guard2, WE_guard2, WQ_guard2, W_regD, KB_n, KB_x, Nat.reduceBEq, Nat.reduceAdd, Nat.reduceLT, Nat.reduceLeDiff, Nat.reduceEqDiff, reduceIte, Int.reduceEq, reduceCtorEq, g2, lda, Nat.zero_add, pubA, frz, pub, m3', m4]
      exact ⟨_, _, rfl, (Over.setTok ov5 m1 m2 _).leave (by simp only [tupOf, AV.refs]; exact refs_s' _), .inr rfl⟩
  · exact h.elim

theorem collect_ok {L : List (List Nat)} (hl : L.length < 2 ^ 37) {g : Nat} {caps : List AV} {s : St} (hw : Wf s) (hit : ∀ q, (∀ i, i < s.nb → q.box? i = s.box? i) → s.nb ≤ q.nb → IterOk prog (fun _ => False) q.nb g caps (L.map .s) q) :
    (lim prog).call f_slices_Collect_string [.fn g caps] s = some (tx L, s) := by
  refine fn_W p_slices_Collect_string rfl rfl ?_
  obtain ⟨r, s', h, rfl, hr⟩ := appendSeq_ok (s := s.enter) hl hw.enter hit
  rcases hr with ⟨rfl, rfl⟩ | rfl
  · simp only [c_slices_Collect_string, go_sem, W_cond, WO_guard2, WE_guard2, WQ_guard2, W_regD, KB_n, KB_x, Nat.reduceBEq, Nat.reduceAdd, Nat.reduceLT, Nat.reduceLeDiff, Nat.reduceEqDiff, reduceIte, Int.reduceEq, reduceCtorEq, h, frz]
    exact KR_some (Over.enter s) rfl rfl
  · simp only [c_slices_Collect_string, go_sem, W_cond, WO_guard2, WE_guard2, WQ_guard2, W_regD, KB_n, KB_x, Nat.reduceBEq, Nat.reduceAdd, Nat.reduceLT, Nat.reduceLeDiff, Nat.reduceEqDiff, reduceIte, Int.reduceEq, reduceCtorEq, h, frz]
    refine KR_some (Over.enter s) (by simp only [tupOf, AV.refs]; exact refs_s' _) ?_
    simp only [tupOf, wkZ]
    rw [wk]
    simp only [Nat.beq_eq, if_true, wkM_s', Nat.beq_refl]

theorem pathSteps_ok (l : List Nat) (hl : Txt l) (hlen : l.length < 2 ^ 36) (s : St) (hw : Wf s) : (lim prog).call f_path_Steps [.s l] s = some (tx (stepsL l), s) := by
  refine fn_W p_path_Steps rfl rfl ?_
  have hst := steps_ok l s.enter
  obtain ⟨q, hq⟩ : ∃ q, ({ s.enter.new (.cells 9 [.s l]) with lo := min s.enter.lo s.enter.nb } : St) = q := ⟨_, rfl⟩
  rw [hq] at hst
  have w1 : Wf q := by rw [← hq]; exact (hw.enter.new _).lo _
  have ov : Over s q := by rw [← hq]; exact Over.setLo ((Over.enter s).new _) (by show s.nb ≤ min s.nb s.nb; omega)
  have nq : q.nb = s.nb + 1 := by rw [← hq]; rfl
  have bq : q.box? s.nb = some (.cells 9 [.s l]) := by rw [← hq]; exact new_box_self s.enter _
  have hnb : s.enter.nb = s.nb := rfl
  have hc := collect_ok (L := stepsL l) (by have := stepsL_len l; omega) w1 (g := f_path_steps_1) (caps := [.p s.nb 0]) fun q' h1 h2 => stepsIter (O := fun _ => False) (m := q'.nb) hl (s := q') (a := s.nb) (by rw [h1 _ (by omega)]; exact bq) (by omega)
  simp only [c_path_Steps, go_sem, W_cond, WO_guard2, WE_guard2, WQ_guard2, W_regD, KB_n, KB_x, Nat.reduceBEq, Nat.reduceAdd, Nat.reduceLT, Nat.reduceLeDiff, Nat.reduceEqDiff, reduceIte, Int.reduceEq, reduceCtorEq, hst, hnb, hc]
  exact KR_some ov (by simp only [tupOf, AV.refs]; exact refs_s' _) (by simp only [tupOf, wkZ]; rw [wk])
end Go.Proofs.YtkkfjoiffcmpeaaDoor

/-
  The walker follows a link.
-/
set_option maxRecDepth 100000
set_option maxHeartbeats 2000000
set_option linter.unusedSimpArgs false
set_option linter.constructorNameAsVariable false
namespace Go.Proofs.YtkkfjoiffcmpeaaDoor
open Go.Proofs.YtkkfjoiffcmpeaaDoor.Am
attribute [local irreducible] W WO WE WQ WD Tr.get Tr.set

theorem prefI_ok (l : List Nat) (hl : l.length < 2 ^ 62) (s : St) : (lim prog).call f_internal_stringslite_HasPrefix [.s l, .s [47]] s = some (.b (absP l), s) := by
  refine fn_W p_internal_stringslite_HasPrefix rfl rfl ?_
  cases l with
  | nil =>
    have h1 : ((([47] : List Nat).length : Int) ≤ (([] : List Nat).length : Int)) = False := by simp
    simp only [c_internal_stringslite_HasPrefix, go_sem, W_cond2, WO_guard3, WE_guard3, WQ_guard3, KB_n, KB_x, Nat.reduceBEq, Nat.reduceAdd, Nat.reduceLT, Nat.reduceLeDiff, Nat.reduceEqDiff, reduceIte, Int.reduceEq, reduceCtorEq, h1]
    exact KR_some (Over.enter s) rfl rfl
  | cons c l =>
    have h1 : ((([47] : List Nat).length : Int) ≤ ((c :: l).length : Int)) = True := by simp only [List.length_cons, List.length_nil, eq_iff_iff, iff_true]; omega
    have hb := bounds_oi (len := (c :: l).length) (b := 1) (by simp)
    have hb : bounds (c :: l).length none (some (.i .i64 (([47] : List Nat).length : Int))) = some (0, 1) := hb
    have ht : ((c :: l).drop 0).take (1 - 0) = [c] := by simp
    have h2 : ([c] = [47]) = (c = 47) := by simp
    simp only [c_internal_stringslite_HasPrefix, go_sem, W_cond2, WO_guard3, WE_guard3, WQ_guard3, KB_n, KB_x, Nat.reduceBEq, Nat.reduceAdd, Nat.reduceLT, Nat.reduceLeDiff, Nat.reduceEqDiff, reduceIte, Int.reduceEq, reduceCtorEq, h1, hb, ht, h2]
    refine KR_some (Over.enter s) rfl ?_
    simp [absP, tupOf, wkZ, wk]
theorem pref_ok (l : List Nat) (hl : l.length < 2 ^ 62) (s : St) : (lim prog).call f_strings_HasPrefix [.s l, .s [47]] s = some (.b (absP l), s) := by
  refine fn_W p_strings_HasPrefix rfl rfl ?_
  simp only [c_strings_HasPrefix, go_sem, W_cond2, WO_guard3, WE_guard3, WQ_guard3, KB_n, KB_x, Nat.reduceBEq, Nat.reduceAdd, Nat.reduceLT, Nat.reduceLeDiff, Nat.reduceEqDiff, reduceIte, Int.reduceEq, reduceCtorEq, prefI_ok l hl]
  exact KR_some (Over.enter s) rfl rfl
/-- What is left: told, or a row of its own. -/
def LfIs (R : List RA) (lf : AV) (left : List (List Nat)) : Prop := (R = [] ∧ Told1 1 lf (left.map .s)) ∨ ∃ fr, R = [⟨1, 9, lf, left.map .s, fr⟩]
theorem rowH_elems {t0 : Nat} {s : St} {r : RA} (h : RowH t0 s r) : Am.elems s r.es r.a = some r.xs := by
  rcases h with (⟨h, h2⟩ | ⟨h, h2⟩ | h | h) | ⟨k, v, t, h, k1, k2, k3, k4, k5, _⟩
  · rw [h, h2]; rfl
  · rw [h, h2]; rfl
  · rw [h]; simp [Am.elems, St.ok]
  · rw [h]; simp [Am.elems]
  · rw [h]; simp [Am.elems, St.ok, k3, k4]
theorem rowH_len {t0 : Nat} {s : St} {r : RA} (h : RowH t0 s r) (q : St) : lenA q 1 r.a = some (.i .i64 (r.xs.length : Nat)) := by
  rcases h with (⟨h, h2⟩ | ⟨h, h2⟩ | h | h) | ⟨k, v, t, h, _⟩
  · rw [h, h2]; rfl
  · rw [h, h2]; rfl
  · rw [h]; rfl
  · rw [h]; rfl
  · rw [h]; rfl
theorem LfIs.ok {R : List RA} {lf : AV} {left : List (List Nat)} (h : LfIs R lf left) {s0 s : St} {en : En} {B : List (Nat × Box)} (H : Hp s0 s en R B) :
    elems s 1 lf = some (left.map .s) ∧ (∀ q, lenA q 1 lf = some (.i .i64 (left.length : Nat))) ∧ (∀ q, ldR q (some lf) = some (lf, q)) ∧ ldQ (some lf) = true := by
  rcases h with ⟨rfl, h⟩ | ⟨fr, rfl⟩
  · exact ⟨h.elems s, fun q => by have := h.len q; rw [List.length_map] at this; exact this, h.ld.1, h.ld.2⟩
  · have hr := H.rows (i := 0) rfl
    exact ⟨rowH_elems hr, fun q => by have := rowH_len hr q; rw [List.length_map] at this; exact this, hr.ld.1, hr.ld.2⟩
abbrev wkB (id : Nat) (a lf : AV) (into find : Bool) (links : Nat) : Box := .cells 72 [.ifc 28 (.p id 0), a, lf, .b into, .b find, .i .i64 (links : Nat)]
/-- A walker under way. -/
def Wk (id : Nat) (s0 s : St) (en : En) (iw : Nat) (find : Bool) (b : Nat) (left at_ : List (List Nat)) (into : Bool) : Prop :=
  ∃ R a lf, Hp s0 s en R [(iw, wkB id a lf into find (8 - b))] ∧ Told1 1 a (at_.map .s) ∧ LfIs R lf left ∧ (rowTok lf = none ∨ s.lo ≤ iw)
/-- The tree. -/
structure Tre (n : ND) (id : Nat) (s0 : St) : Prop where
  ok : n.Ok
  well : wellN n = true
  lt : id < s0.nb
  box : s0.box? id = some (.cells 55 n.cells)
theorem Tre.at {n : ND} {id : Nat} {s0 s : St} (h : Tre n id s0) (ho : Over s0 s) : id < s.nb ∧ s.box? id = some (.cells 55 n.cells) :=
  ⟨by have := ho.nb; have := h.lt; omega, by rw [over_box ho h.lt]; exact h.box⟩
theorem Tre.kind {n : ND} {id : Nat} {s0 s : St} (h : Tre n id s0) (ho : Over s0 s) (hw : Wf s) {pl : List (List Nat)} (hl : pl.length < 2 ^ 62) : (lim prog).call f_ftree_Tree_Kind [.p id 0, tx pl] s = some (.i .u8 (kindP n pl : Nat), s) :=
  kind_ok h.ok h.well hl hw (h.at ho).1 (h.at ho).2
theorem Tre.text {n : ND} {id : Nat} {s0 s : St} (h : Tre n id s0) (ho : Over s0 s) (hw : Wf s) {pl : List (List Nat)} (hl : pl.length < 2 ^ 62) : (lim prog).call f_ftree_Tree_Text [.p id 0, tx pl] s = some (.s (textP n pl), s) :=
  textT_ok h.ok h.well hl hw (h.at ho).1 (h.at ho).2
theorem lk28 (f : Nat) (l : List (Nat × Nat)) : List.lookup 28 ((28, f) :: l) = some f := by simp [List.lookup]
theorem tokA_refs {t0 : Nat} {s : St} {r : RA} (h : RowH t0 s r) (hn : rowTok r.a ≠ none) : r.a.refs = true := by
  rcases h with h | ⟨k, v, t, h, _⟩
  · exact absurd (full_tok h) hn
  · rw [h]; rfl
theorem low_row {s0 s : St} {n : En} {R : List RA} {B : List (Nat × Box)} {r : RA} {iw : Nat} (H : Hp s0 s n (r :: R) B) (hl : r.a.refs = true → s.lo ≤ iw) : ∃ m, Hp s0 s { n with lo := m } (r :: R) B ∧ (m = iw ∨ (m = n.lo ∧ rowTok r.a = none)) := by
  by_cases h : rowTok r.a = none
  · exact ⟨n.lo, H, .inr ⟨rfl, h⟩⟩
  · exact ⟨iw, H.lower (hl (tokA_refs (H.rows (i := 0) rfl) h)), .inl rfl⟩
theorem leave_lo {s s1 : St} {iw : Nat} (h : s1.lo ≤ iw) (hiw : iw < s.nb) (v : AV) : (Am.leave s s1 v).lo ≤ iw := by
  unfold Am.leave
  split
  · rename_i hc
    simp only [Bool.and_eq_true, Nat.ble_eq] at hc
    omega
  · simp only; omega
/-- A walker behind a call. -/
theorem Wk.leave {id : Nat} {s0 s s1 : St} {en : En} {R : List RA} {B : List (Nat × Box)} {iw b : Nat} {find into : Bool} {left at_ : List (List Nat)} (H : Hp s0 s en R B) (hiw : iw < s.nb) (h : Wk id s0 s1 s.en iw find b left at_ into) (v : AV) : Wk id s0 (Am.leave s s1 v) en iw find b left at_ into := by
  obtain ⟨R1, a, lf, K, ha, hl, hlo⟩ := h
  have hB : ∀ {i : Nat} {p : Nat × Box}, [(iw, wkB id a lf into find (8 - b))][i]? = some p → p.1 < s.nb := @fun i p hp => by
    cases i with
    | zero => simp only [List.getElem?_cons_zero, Option.some.injEq] at hp; subst hp; exact hiw
    | succ i => simp at hp
  rcases hlo with hn | hlo
  · refine ⟨R1, a, lf, H.leave (n1 := s.en) K v hB (.inr @fun i x k hr hk => ?_), ha, hl, .inl hn⟩
    rcases hl with ⟨rfl, _⟩ | ⟨fr, rfl⟩
    · simp at hr
    · cases i with
      | zero => simp only [List.getElem?_cons_zero, Option.some.injEq] at hr; subst hr; rw [hn] at hk; cases hk
      | succ i => simp at hr
  · exact ⟨R1, a, lf, H.leave (n1 := ⟨iw, s.nb, s.nt⟩) (K.lower hlo) v hB (.inl hiw), ha, hl, .inr (leave_lo hlo hiw v)⟩
/-- What following comes to. -/
def FolP (n : ND) (id : Nat) (s0 : St) (en : En) (iw : Nat) (find : Bool) (b : Nat) (left at_ pl : List (List Nat)) (into : Bool) (r : AV) (s' : St) : Prop :=
  (b = 0 ∧ r = .i .i64 61 ∧ ∃ R B, Hp s0 s' en R B) ∨ ∃ c, b = c + 1 ∧ r = .i .i64 0 ∧ Wk id s0 s' en iw find c (stepsL (textP n pl) ++ left) (if absP (textP n pl) = true then [] else at_) (if left = [] then into || dirP (textP n pl) else into)
/-- A link is followed, or there were too many. -/
theorem follow_hp {n : ND} {id : Nat} {s0 s : St} {en : En} {iw b : Nat} {find into : Bool} {left at_ pl : List (List Nat)} {R : List RA} {a lf : AV} (ht : Tre n id s0) (H : Hp s0 s en R [(iw, wkB id a lf into find (8 - b))]) (ha : Told1 1 a (at_.map .s)) (hl : LfIs R lf left) (hb : b ≤ 8) (hpl : pl.length < 2 ^ 62)
    (htx : Txt (textP n pl) ∧ (textP n pl).length < 2 ^ 30) (hlf : left.length < 2 ^ 36) :
    ∃ r s', (lim prog).call f_walk_walker_follow [.p iw 0, tx pl] s = some (r, s') ∧ FolP n id s0 en iw find b left at_ pl into r s' := by
  refine fn_G (Post := FolP n id s0 en iw find b left at_ pl into) p_walk_walker_follow rfl rfl ?_
  have H0 := H.enter
  have hiw : iw < s.nb := H.boxLt (i := 0) rfl
  have l1 := H0.ld 0 (off := 5) rfl rfl
  have hz0 : wkZ c_walk_walker_follow.cin [.p iw 0, tx pl] = [.p iw 0, tx pl] := by simp [c_walk_walker_follow, wkZ, wk, wkM_s]
  rw [hz0]
  have hw1 : IntKind.i64.wrap (((8 - b : Nat) : Int) + 1) = ((8 - b + 1 : Nat) : Int) := wrap_succ (by omega)
  obtain ⟨q1, d1, H1, n1, _⟩ := H0.st 0 (off := 5) (v := .i .i64 ((8 - b + 1 : Nat) : Int)) rfl (by simp) ⟨rfl, rfl⟩
  have l2 := H1.ld 0 (off := 5) (v := .i .i64 ((8 - b + 1 : Nat) : Int)) rfl rfl
  cases b with
  | zero =>
    have c1 : ((8 : Int) < ((8 - 0 + 1 : Nat) : Int)) = True := by simp
    simp only [c_walk_walker_follow, go_sem, W_cond2, WO_guard3, WE_guard3, WQ_guard3, KB_n, KB_x, Nat.reduceBEq, Nat.reduceAdd, Nat.reduceLT, Nat.reduceLeDiff, Nat.reduceEqDiff, reduceIte, Int.reduceEq, reduceCtorEq, l1, hw1, d1, l2, Nat.zero_add, c1]
    exact ⟨_, _, rfl, .inl ⟨rfl, rfl, _, _, H.leave (n1 := s.en) (H1.sel (List.range R.length) [] List.nodup_range (by simp)) _ (fun hp => by simp [pick] at hp) (.inr fun hr hk => by rw [pick_range] at hr; exact (H.rows hr).tok_lt hk)⟩⟩
  | succ c =>
    have e9 : 8 - (c + 1) + 1 = 8 - c := by omega
    rw [e9] at hw1 d1 l2 H1
    have c1 : ((8 : Int) < ((8 - c : Nat) : Int)) = False := by simp only [eq_iff_iff, iff_false]; omega
    have l3 := H1.ld 0 (off := 0) (v := .ifc 28 (.p id 0)) rfl rfl
    have l4 := H1.ld 0 (off := 2) (v := lf) rfl rfl
    have l6 := H1.ld 0 (off := 3) (v := .b into) rfl rfl
    obtain ⟨b1, b2, b3, b4⟩ := hl.ok H1
    have t1 := ht.text H1.over H1.wf hpl
    have t4 := dir_ok (textP n pl) (by omega) q1
    have hsl := stepsL_len (textP n pl)
    -- behind the question whether a directory is asked for
    have key : ∀ q2 into2, Hp s0 q2 s.en R [(iw, wkB id a lf into2 find (8 - c))] → into2 = (if left = [] then into || dirP (textP n pl) else into) →
        (lim prog).call f_path_Steps [.s (textP n pl)] q2 = some (tx (stepsL (textP n pl)), q2) ∧ ldA q2 false 1 (.p iw 2) = some lf ∧
        ∃ a' r q3 q4, sliceA q2 false 1 (tx (stepsL (textP n pl))) none (some (.i .i64 ((stepsL (textP n pl)).length : Nat))) (some (.i .i64 ((stepsL (textP n pl)).length : Nat))) = some (a', q2) ∧
          appA q2 1 9 a' lf = some (r, q3) ∧ stA q3 1 (.p iw 2) r = some q4 ∧ (lim prog).call f_strings_HasPrefix [.s (textP n pl), .s [47]] q4 = some (.b (absP (textP n pl)), q4) ∧
          if absP (textP n pl) = true then ∃ q6, stA q4 1 (.p iw 1) .nsl = some q6 ∧ FolP n id s0 en iw find (c + 1) left at_ pl into (.i .i64 0) (Am.leave s q6 (.i .i64 0))
          else FolP n id s0 en iw find (c + 1) left at_ pl into (.i .i64 0) (Am.leave s q4 (.i .i64 0)) := by
      intro q2 into2 H2 hi2
      obtain ⟨a', d3, hf⟩ := told_cap (es := 1) (a := tx (stepsL (textP n pl))) (.ws) q2
      rw [List.length_map] at d3
      obtain ⟨b1, b2, b3, b4⟩ := hl.ok H2
      obtain ⟨r, q3, d4, H3, n3, p3⟩ := H2.appN 9 hf b1 (by simp only [List.length_map]; omega)
      have hm : (stepsL (textP n pl)).map AV.s ++ left.map .s = (stepsL (textP n pl) ++ left).map .s := by simp
      rw [hm] at H3
      obtain ⟨q4, d5, H4, n4, p4⟩ := H3.st 0 (off := 2) (v := r) rfl (by simp) ⟨(H3.rcells 0 rfl).1, (H3.rcells 0 rfl).2.1⟩
      obtain ⟨m, H5, hm5⟩ := low_row H4 p4
      have hend : ∀ q6 a6 at6, Hp s0 q6 ⟨m, s.nb, s.nt⟩ (⟨1, 9, r, (stepsL (textP n pl) ++ left).map .s, true⟩ :: R) [(iw, wkB id a6 r into2 find (8 - c))] → Told1 1 a6 (at6.map .s) → at6 = (if absP (textP n pl) = true then [] else at_) →
          FolP n id s0 en iw find (c + 1) left at_ pl into (.i .i64 0) (Am.leave s q6 (.i .i64 0)) := fun q6 a6 at6 H6 t6 h6 => by
        have H7 := H6.sel [0] [0] (by simp) (by simp)
        refine .inr ⟨c, rfl, rfl, ?_⟩
        rw [← h6, ← hi2]
        have hm6 := H7.lo
        refine Wk.leave H hiw ⟨_, a6, r, H7.lower (m := s.nb) ?_, t6, .inr ⟨true, rfl⟩, ?_⟩ _
        · rcases hm5 with rfl | ⟨rfl, _⟩
          · simp only at hm6; omega
          · exact hm6
        · rcases hm5 with rfl | ⟨rfl, hn⟩
          · exact .inr hm6
          · exact .inl hn
      refine ⟨pathSteps_ok (textP n pl) htx.1 (by omega) q2 H2.wf, H2.ld 0 (off := 2) (v := lf) rfl rfl, a', r, q3, q4, d3, d4, d5, pref_ok (textP n pl) (by omega) q4, ?_⟩
      split
      · rename_i hab
        rw [hab] at hend
        obtain ⟨q6, d6, H6, _⟩ := H5.st 0 (off := 1) (v := .nsl) rfl (by simp) ⟨rfl, rfl⟩
        exact ⟨q6, d6, hend _ _ [] H6 (.inl ⟨rfl, rfl⟩) rfl⟩
      · rename_i hab
        exact hend _ _ at_ H5 ha (by rw [if_neg hab])
    by_cases hle : left = []
    · have c2 : ((left.length : Int) = 0) = True := by simp [hle]
      cases hin : into with
      | true =>
        rw [hin] at l6
        obtain ⟨q6, d6, H6, _⟩ := H1.st 0 (off := 3) (v := .b true) rfl (by simp) ⟨rfl, rfl⟩
        obtain ⟨k1, k2, a', r, q3, q4, k3, k4, k5, k6, k7⟩ := key q6 true H6 (by simp [hin])
        rw [hin] at k7
        simp only [c_walk_walker_follow, go_sem, W_cond2, WO_guard3, WE_guard3, WQ_guard3, KB_n, KB_x, Nat.reduceBEq, Nat.reduceAdd, Nat.reduceLT, Nat.reduceLeDiff, Nat.reduceEqDiff, reduceIte, Int.reduceEq, reduceCtorEq, l1, hw1, d1, l2, Nat.zero_add, c1, l3, lk28, t1, l4, b3, b4, b2, c2, l6, d6, k1, k2, List.length_map, k3, k4, k5, k6]
        cases hab : absP (textP n pl) with
        | true =>
          rw [if_pos hab] at k7
          obtain ⟨q6, d6, k7⟩ := k7
          simp only [go_sem, W_cond2, WO_guard3, WE_guard3, WQ_guard3, KB_n, KB_x, Nat.reduceBEq, Nat.reduceAdd, Nat.reduceLT, Nat.reduceLeDiff, Nat.reduceEqDiff, reduceIte, Int.reduceEq, reduceCtorEq, d6, Nat.zero_add]
          exact ⟨_, _, rfl, k7⟩
        | false =>
          rw [if_neg (by rw [hab]; simp)] at k7
          simp only [go_sem, W_cond2, WO_guard3, WE_guard3, WQ_guard3, KB_n, KB_x, Nat.reduceBEq, Nat.reduceAdd, Nat.reduceLT, Nat.reduceLeDiff, Nat.reduceEqDiff, reduceIte, Int.reduceEq, reduceCtorEq]
          exact ⟨_, _, rfl, k7⟩
      | false =>
        rw [hin] at l6
        obtain ⟨q6, d6, H6, _⟩ := H1.st 0 (off := 3) (v := .b (dirP (textP n pl))) rfl (by simp) ⟨rfl, rfl⟩
        obtain ⟨k1, k2, a', r, q3, q4, k3, k4, k5, k6, k7⟩ := key q6 _ H6 (by simp [hin, hle])
        rw [hin] at k7
        simp only [c_walk_walker_follow, go_sem, W_cond2, WO_guard3, WE_guard3, WQ_guard3, KB_n, KB_x, Nat.reduceBEq, Nat.reduceAdd, Nat.reduceLT, Nat.reduceLeDiff, Nat.reduceEqDiff, reduceIte, Int.reduceEq, reduceCtorEq, l1, hw1, d1, l2, Nat.zero_add, c1, l3, lk28, t1, l4, b3, b4, b2, c2, l6, t4, d6, k1, k2, List.length_map, k3, k4, k5, k6]
        cases hab : absP (textP n pl) with
        | true =>
          rw [if_pos hab] at k7
          obtain ⟨q6, d6, k7⟩ := k7
          simp only [go_sem, W_cond2, WO_guard3, WE_guard3, WQ_guard3, KB_n, KB_x, Nat.reduceBEq, Nat.reduceAdd, Nat.reduceLT, Nat.reduceLeDiff, Nat.reduceEqDiff, reduceIte, Int.reduceEq, reduceCtorEq, d6, Nat.zero_add]
          exact ⟨_, _, rfl, k7⟩
        | false =>
          rw [if_neg (by rw [hab]; simp)] at k7
          simp only [go_sem, W_cond2, WO_guard3, WE_guard3, WQ_guard3, KB_n, KB_x, Nat.reduceBEq, Nat.reduceAdd, Nat.reduceLT, Nat.reduceLeDiff, Nat.reduceEqDiff, reduceIte, Int.reduceEq, reduceCtorEq]
          exact ⟨_, _, rfl, k7⟩
    · have c2 : ((left.length : Int) = 0) = False := by have := List.length_pos_iff.2 hle; simp only [eq_iff_iff, iff_false]; omega
      obtain ⟨k1, k2, a', r, q3, q4, k3, k4, k5, k6, k7⟩ := key q1 into H1 (by simp [hle])
      simp only [c_walk_walker_follow, go_sem, W_cond2, WO_guard3, WE_guard3, WQ_guard3, KB_n, KB_x, Nat.reduceBEq, Nat.reduceAdd, Nat.reduceLT, Nat.reduceLeDiff, Nat.reduceEqDiff, reduceIte, Int.reduceEq, reduceCtorEq, l1, hw1, d1, l2, Nat.zero_add, c1, l3, lk28, t1, l4, b3, b4, b2, c2, k1, k2, List.length_map, k3, k4, k5, k6]
      cases hab : absP (textP n pl) with
      | true =>
        rw [if_pos hab] at k7
        obtain ⟨q6, d6, k7⟩ := k7
        simp only [go_sem, W_cond2, WO_guard3, WE_guard3, WQ_guard3, KB_n, KB_x, Nat.reduceBEq, Nat.reduceAdd, Nat.reduceLT, Nat.reduceLeDiff, Nat.reduceEqDiff, reduceIte, Int.reduceEq, reduceCtorEq, d6, Nat.zero_add]
        exact ⟨_, _, rfl, k7⟩
      | false =>
        rw [if_neg (by rw [hab]; simp)] at k7
        simp only [go_sem, W_cond2, WO_guard3, WE_guard3, WQ_guard3, KB_n, KB_x, Nat.reduceBEq, Nat.reduceAdd, Nat.reduceLT, Nat.reduceLeDiff, Nat.reduceEqDiff, reduceIte, Int.reduceEq, reduceCtorEq]
        exact ⟨_, _, rfl, k7⟩
end Go.Proofs.YtkkfjoiffcmpeaaDoor

/-
  The walker goes a name.
-/
set_option maxRecDepth 100000
set_option maxHeartbeats 2000000
set_option linter.unusedSimpArgs false
set_option linter.constructorNameAsVariable false
namespace Go.Proofs.YtkkfjoiffcmpeaaDoor
open Go.Proofs.YtkkfjoiffcmpeaaDoor.Am
attribute [local irreducible] W WO WE WQ WD Tr.get Tr.set

def Gone (s0 s' : St) (en : En) : Prop := ∃ R B, Hp s0 s' en R B
/-- What going a name comes to. -/
def NamP (n : ND) (id : Nat) (s0 : St) (en : En) (iw : Nat) (find : Bool) (b : Nat) (left at_ : List (List Nat)) (nm : List Nat) (into : Bool) (r : AV) (s' : St) : Prop :=
  if kindP n (at_ ++ [nm]) = 3 ∧ (left ≠ [] ∨ into = true ∨ find = true) then ∃ x, r = .tup [.i .u8 0, .b false, x] ∧ FolP n id s0 en iw find b left at_ (at_ ++ [nm]) into x s'
  else if kindP n (at_ ++ [nm]) = 2 then r = .tup [.i .u8 (kindP n (at_ ++ [nm]) : Nat), .b (decide (left = [])), .i .i64 0] ∧ Wk id s0 s' en iw find b left (at_ ++ [nm]) into
  else if kindP n (at_ ++ [nm]) = 1 ∧ (left ≠ [] ∨ into = true) then r = .tup [.i .u8 0, .b false, .i .i64 55] ∧ Gone s0 s' en
  else if kindP n (at_ ++ [nm]) = 0 ∧ left ≠ [] then r = .tup [.i .u8 0, .b false, .i .i64 5] ∧ Gone s0 s' en
  else r = .tup [.i .u8 (kindP n (at_ ++ [nm]) : Nat), .b true, .i .i64 0] ∧ Wk id s0 s' en iw find b left (at_ ++ [nm]) into
section
variable {n : ND} {id : Nat} {s0 : St} {en : En} {iw : Nat} {find : Bool} {b : Nat} {left at_ : List (List Nat)} {nm : List Nat} {into : Bool} {s' : St}
theorem NamP.l {x : AV} (h : kindP n (at_ ++ [nm]) = 3 ∧ (left ≠ [] ∨ into = true ∨ find = true)) (k : FolP n id s0 en iw find b left at_ (at_ ++ [nm]) into x s') : NamP n id s0 en iw find b left at_ nm into (.tup [.i .u8 0, .b false, x]) s' := by
  unfold NamP; rw [if_pos h]; exact ⟨x, rfl, k⟩
theorem NamP.d (h : kindP n (at_ ++ [nm]) = 2) (k : Wk id s0 s' en iw find b left (at_ ++ [nm]) into) : NamP n id s0 en iw find b left at_ nm into (.tup [.i .u8 (kindP n (at_ ++ [nm]) : Nat), .b (decide (left = [])), .i .i64 0]) s' := by
  unfold NamP; rw [if_neg (by omega), if_pos h]; exact ⟨rfl, k⟩
theorem NamP.f (h : kindP n (at_ ++ [nm]) = 1 ∧ (left ≠ [] ∨ into = true)) (k : Gone s0 s' en) : NamP n id s0 en iw find b left at_ nm into (.tup [.i .u8 0, .b false, .i .i64 55]) s' := by
  unfold NamP; rw [if_neg (by omega), if_neg (by omega), if_pos h]; exact ⟨rfl, k⟩
theorem NamP.no (h : kindP n (at_ ++ [nm]) = 0 ∧ left ≠ []) (k : Gone s0 s' en) : NamP n id s0 en iw find b left at_ nm into (.tup [.i .u8 0, .b false, .i .i64 5]) s' := by
  unfold NamP; rw [if_neg (by omega), if_neg (by omega), if_neg (by omega), if_pos h]; exact ⟨rfl, k⟩
theorem NamP.e (h3 : ¬ (kindP n (at_ ++ [nm]) = 3 ∧ (left ≠ [] ∨ into = true ∨ find = true))) (h2 : kindP n (at_ ++ [nm]) ≠ 2) (h1 : ¬ (kindP n (at_ ++ [nm]) = 1 ∧ (left ≠ [] ∨ into = true))) (h0 : ¬ (kindP n (at_ ++ [nm]) = 0 ∧ left ≠ [])) (k : Wk id s0 s' en iw find b left (at_ ++ [nm]) into) :
    NamP n id s0 en iw find b left at_ nm into (.tup [.i .u8 (kindP n (at_ ++ [nm]) : Nat), .b true, .i .i64 0]) s' := by
  unfold NamP; rw [if_neg h3, if_neg h2, if_neg h1, if_neg h0]; exact ⟨rfl, k⟩
end
theorem FolP.leave {n : ND} {id : Nat} {s0 s s1 : St} {en : En} {R : List RA} {B : List (Nat × Box)} {iw b : Nat} {find into : Bool} {left at_ pl : List (List Nat)} {r : AV} (H : Hp s0 s en R B) (hiw : iw < s.nb) (h : FolP n id s0 s.en iw find b left at_ pl into r s1) (v : AV) (hB : ∀ {R B}, Hp s0 s1 s.en R B → Gone s0 (Am.leave s s1 v) en) : FolP n id s0 en iw find b left at_ pl into r (Am.leave s s1 v) := by
  rcases h with ⟨h1, h2, R1, B1, K⟩ | ⟨c, h1, h2, h3⟩
  · exact .inl ⟨h1, h2, hB K⟩
  · exact .inr ⟨c, h1, h2, h3.leave H hiw v⟩
theorem gone_leave {s0 s s1 : St} {en : En} {R R1 : List RA} {B B1 : List (Nat × Box)} (H : Hp s0 s en R B) (K : Hp s0 s1 s.en R1 B1) (v : AV) : Gone s0 (Am.leave s s1 v) en :=
  ⟨[], [], H.leave (n1 := s.en) (K.sel [] [] (by simp) (by simp)) v (fun h => by simp [pick] at h) (.inr fun h => by simp [pick] at h)⟩
theorem leave_le (s s1 : St) (v : AV) : (Am.leave s s1 v).lo ≤ s.lo := by
  unfold Am.leave
  split
  · exact Nat.le_refl _
  · exact Nat.min_le_left _ _
theorem wk_same {id : Nat} {s0 s s1 : St} {en : En} {R : List RA} {B : List (Nat × Box)} {iw b : Nat} {find into : Bool} {left at_ : List (List Nat)} {a lf : AV} (H : Hp s0 s en R B) (hiw : iw < s.nb) (K : Hp s0 s1 s.en R [(iw, wkB id a lf into find (8 - b))]) (ha : Told1 1 a (at_.map .s)) (hl : LfIs R lf left) (hlo : rowTok lf = none ∨ s.lo ≤ iw) (v : AV) :
    Wk id s0 (Am.leave s s1 v) en iw find b left at_ into := by
  refine ⟨R, a, lf, H.leave (n1 := s.en) K v (@fun i p hp => ?_) (.inr fun hr hk => (H.rows hr).tok_lt hk), ha, hl, hlo.imp_right fun h => Nat.le_trans (leave_le s s1 v) h⟩
  cases i with
  | zero => simp only [List.getElem?_cons_zero, Option.some.injEq] at hp; subst hp; exact hiw
  | succ i => simp at hp
theorem name_hp {n : ND} {id : Nat} {s0 s : St} {en : En} {iw b : Nat} {find into : Bool} {left at_ : List (List Nat)} {nm : List Nat} (ht : Tre n id s0) (hwk : Wk id s0 s en iw find b left at_ into) (hb : b ≤ 8) (hat : at_.length < 2 ^ 36)
    (htx : Txt (textP n (at_ ++ [nm])) ∧ (textP n (at_ ++ [nm])).length < 2 ^ 30) (hlf : left.length < 2 ^ 36) :
    ∃ r s', (lim prog).call f_walk_walker_name [.p iw 0, .s nm] s = some (r, s') ∧ NamP n id s0 en iw find b left at_ nm into r s' := by
  have hwk0 := hwk
  obtain ⟨R, a, lf, H, ha, hl, hlo⟩ := hwk
  refine fn_G (Post := NamP n id s0 en iw find b left at_ nm into) p_walk_walker_name rfl rfl ?_
  have H0 := H.enter
  have hiw : iw < s.nb := H.boxLt (i := 0) rfl
  have k1 := below_ok (s := s.enter) H0.wf (H0.boxLt (i := 0) rfl) (H0.box (i := 0) rfl).1 ha (by omega) nm
  have k2 := ht.kind H0.over H0.wf (pl := at_ ++ [nm]) (by simp; omega)
  have l1 := H0.ld 0 (off := 0) (v := .ifc 28 (.p id 0)) rfl rfl
  have l2 := H0.ld 0 (off := 2) (v := lf) rfl rfl
  have l3 := H0.ld 0 (off := 3) (v := .b into) rfl rfl
  have l4 := H0.ld 0 (off := 4) (v := .b find) rfl rfl
  obtain ⟨b1, b2, b3, b4⟩ := hl.ok H0
  have hz0 : wkZ c_walk_walker_name.cin [.p iw 0, .s nm] = [.p iw 0, .s nm] := by simp [c_walk_walker_name, wkZ, wk]
  rw [hz0]
  have lk2 : ∀ f g : Nat, List.lookup 28 [(17, f), (28, g)] = some g := fun f g => by simp [List.lookup]
  obtain ⟨q1, d1, H1, n1, p1⟩ := H0.st 0 (off := 1) (v := tx (at_ ++ [nm])) rfl (by simp) ⟨rfl, rfl⟩
  have wk1 : ∀ v, Wk id s0 (Am.leave s q1 v) en iw find b left (at_ ++ [nm]) into := fun v => wk_same H hiw H1 .ws hl hlo v
  have go : ∀ v, Gone s0 (Am.leave s s.enter v) en := fun v => gone_leave H H0 v
  have dl : ∀ l : List (List Nat), l ≠ [] → ((l.length : Int) = 0) = False := fun l h => by
    have := List.length_pos_iff.2 h
    simp only [eq_iff_iff, iff_false]; omega
  have dl0 : ((([] : List (List Nat)).length : Int) = 0) = True := by simp
  have E : ∀ m : Nat, kindP n (at_ ++ [nm]) = m → ((kindP n (at_ ++ [nm]) : Int) = (m : Int)) = True := fun m h => by rw [h]; simp
  have F : ∀ m : Nat, kindP n (at_ ++ [nm]) ≠ m → ((kindP n (at_ ++ [nm]) : Int) = (m : Int)) = False := fun m h => by simp only [eq_iff_iff, iff_false]; omega
  have fin : (h3 : ¬ (kindP n (at_ ++ [nm]) = 3 ∧ (left ≠ [] ∨ into = true ∨ find = true))) → (h2 : kindP n (at_ ++ [nm]) ≠ 2) → (h1 : ¬ (kindP n (at_ ++ [nm]) = 1 ∧ (left ≠ [] ∨ into = true))) → (h0 : ¬ (kindP n (at_ ++ [nm]) = 0 ∧ left ≠ [])) →
      KH s [.id, .id, .id] (NamP n id s0 en iw find b left at_ nm into) (some ([.i .u8 (kindP n (at_ ++ [nm]) : Nat), .b true, .i .i64 0], q1)) := fun h3 h2 h1 h0 => ⟨_, _, rfl, .e h3 h2 h1 h0 (wk1 _)⟩
  by_cases h3 : kindP n (at_ ++ [nm]) = 3
  · have e3 : ((kindP n (at_ ++ [nm]) : Int) = 3) = True := by simp only [eq_iff_iff, iff_true]; omega
    have e2 : ((kindP n (at_ ++ [nm]) : Int) = 2) = False := by simp only [eq_iff_iff, iff_false]; omega
    have e1 : ((kindP n (at_ ++ [nm]) : Int) = 1) = False := by simp only [eq_iff_iff, iff_false]; omega
    have e0 : ((kindP n (at_ ++ [nm]) : Int) = 0) = False := by simp only [eq_iff_iff, iff_false]; omega
    obtain ⟨r, q2, d2, hf⟩ := follow_hp ht H0 ha hl hb (pl := at_ ++ [nm]) (by simp; omega) htx hlf
    have hr : wk .id r = r := by rcases hf with ⟨_, h, _⟩ | ⟨_, _, h, _⟩ <;> rw [h] <;> simp [wk]
    have hpa : pubA q2 r = some (r, q2) := by rcases hf with ⟨_, h, _⟩ | ⟨_, _, h, _⟩ <;> rw [h] <;> rfl
    have hfin : (left ≠ [] ∨ into = true ∨ find = true) → KH s [.id, .id, .id] (NamP n id s0 en iw find b left at_ nm into) (some ([.i .u8 0, .b false, r], q2)) := fun hc => ⟨_, _, rfl, by simp only [tupOf, wkZ, hr]; exact .l ⟨h3, hc⟩ (hf.leave H hiw _ fun K => gone_leave H K _)⟩
    by_cases c1 : left = []
    · subst c1
      cases c2 : into with
      | true =>
        rw [c2] at l3 hfin
        simp only [c_walk_walker_name, go_sem, W_cond2, WO_guard3, WE_guard3, WQ_guard3, KB_n, KB_x, Nat.reduceBEq, Nat.reduceAdd, Nat.reduceLT, Nat.reduceLeDiff, Nat.reduceEqDiff, reduceIte, Int.reduceEq, reduceCtorEq, k1, k2, lk2, l1, l2, l3, l4, b2, b3, b4, d1, e3, e2, e1, e0, dl0, d2, hpa, Nat.zero_add]
        exact hfin (.inr (.inl rfl))
      | false =>
        rw [c2] at l3 hfin fin
        cases c3 : find with
        | true =>
          rw [c3] at l4 hfin
          simp only [c_walk_walker_name, go_sem, W_cond2, WO_guard3, WE_guard3, WQ_guard3, KB_n, KB_x, Nat.reduceBEq, Nat.reduceAdd, Nat.reduceLT, Nat.reduceLeDiff, Nat.reduceEqDiff, reduceIte, Int.reduceEq, reduceCtorEq, k1, k2, lk2, l1, l2, l3, l4, b2, b3, b4, d1, e3, e2, e1, e0, dl0, d2, hpa, Nat.zero_add]
          exact hfin (.inr (.inr rfl))
        | false =>
          rw [c3] at l4 fin
          simp only [c_walk_walker_name, go_sem, W_cond2, WO_guard3, WE_guard3, WQ_guard3, KB_n, KB_x, Nat.reduceBEq, Nat.reduceAdd, Nat.reduceLT, Nat.reduceLeDiff, Nat.reduceEqDiff, reduceIte, Int.reduceEq, reduceCtorEq, k1, k2, lk2, l1, l2, l3, l4, b2, b3, b4, d1, e3, e2, e1, e0, dl0, Nat.zero_add]
          exact fin (by simp) (by omega) (by simp) (by simp)
    · have c1' := dl _ c1
      simp only [c_walk_walker_name, go_sem, W_cond2, WO_guard3, WE_guard3, WQ_guard3, KB_n, KB_x, Nat.reduceBEq, Nat.reduceAdd, Nat.reduceLT, Nat.reduceLeDiff, Nat.reduceEqDiff, reduceIte, Int.reduceEq, reduceCtorEq, k1, k2, lk2, l1, l2, l3, l4, b2, b3, b4, d1, e3, e2, e1, e0, c1', d2, hpa, Nat.zero_add]
      exact hfin (.inl c1)
  by_cases h2 : kindP n (at_ ++ [nm]) = 2
  · have e3 : ((kindP n (at_ ++ [nm]) : Int) = 3) = False := by simp only [eq_iff_iff, iff_false]; omega
    have e2 : ((kindP n (at_ ++ [nm]) : Int) = 2) = True := by simp only [eq_iff_iff, iff_true]; omega
    have e1 : ((kindP n (at_ ++ [nm]) : Int) = 1) = False := by simp only [eq_iff_iff, iff_false]; omega
    have e0 : ((kindP n (at_ ++ [nm]) : Int) = 0) = False := by simp only [eq_iff_iff, iff_false]; omega
    have hfin : KH s [.id, .id, .id] (NamP n id s0 en iw find b left at_ nm into) (some ([.i .u8 (kindP n (at_ ++ [nm]) : Nat), .b (decide (left = [])), .i .i64 0], q1)) := ⟨_, _, rfl, .d h2 (wk1 _)⟩
    by_cases c1 : left = []
    · subst c1
      simp only [c_walk_walker_name, go_sem, W_cond2, WO_guard3, WE_guard3, WQ_guard3, KB_n, KB_x, Nat.reduceBEq, Nat.reduceAdd, Nat.reduceLT, Nat.reduceLeDiff, Nat.reduceEqDiff, reduceIte, Int.reduceEq, reduceCtorEq, k1, k2, lk2, l1, l2, l3, l4, b2, b3, b4, d1, e3, e2, e1, e0, dl0, Nat.zero_add]
      exact hfin
    · have c1' := dl _ c1
      rw [decide_eq_false c1] at hfin
      simp only [c_walk_walker_name, go_sem, W_cond2, WO_guard3, WE_guard3, WQ_guard3, KB_n, KB_x, Nat.reduceBEq, Nat.reduceAdd, Nat.reduceLT, Nat.reduceLeDiff, Nat.reduceEqDiff, reduceIte, Int.reduceEq, reduceCtorEq, k1, k2, lk2, l1, l2, l3, l4, b2, b3, b4, d1, e3, e2, e1, e0, c1', Nat.zero_add]
      exact hfin
  by_cases h1 : kindP n (at_ ++ [nm]) = 1
  · have e3 : ((kindP n (at_ ++ [nm]) : Int) = 3) = False := by simp only [eq_iff_iff, iff_false]; omega
    have e2 : ((kindP n (at_ ++ [nm]) : Int) = 2) = False := by simp only [eq_iff_iff, iff_false]; omega
    have e1 : ((kindP n (at_ ++ [nm]) : Int) = 1) = True := by simp only [eq_iff_iff, iff_true]; omega
    have e0 : ((kindP n (at_ ++ [nm]) : Int) = 0) = False := by simp only [eq_iff_iff, iff_false]; omega
    have hfin : (left ≠ [] ∨ into = true) → KH s [.id, .id, .id] (NamP n id s0 en iw find b left at_ nm into) (some ([.i .u8 0, .b false, .i .i64 55], s.enter)) := fun hc => ⟨_, _, rfl, .f ⟨h1, hc⟩ (go _)⟩
    by_cases c1 : left = []
    · subst c1
      cases c2 : into with
      | true =>
        rw [c2] at l3 hfin
        simp only [c_walk_walker_name, go_sem, W_cond2, WO_guard3, WE_guard3, WQ_guard3, KB_n, KB_x, Nat.reduceBEq, Nat.reduceAdd, Nat.reduceLT, Nat.reduceLeDiff, Nat.reduceEqDiff, reduceIte, Int.reduceEq, reduceCtorEq, k1, k2, lk2, l1, l2, l3, l4, b2, b3, b4, d1, e3, e2, e1, e0, dl0, Nat.zero_add]
        exact hfin (.inr rfl)
      | false =>
        rw [c2] at l3 fin
        simp only [c_walk_walker_name, go_sem, W_cond2, WO_guard3, WE_guard3, WQ_guard3, KB_n, KB_x, Nat.reduceBEq, Nat.reduceAdd, Nat.reduceLT, Nat.reduceLeDiff, Nat.reduceEqDiff, reduceIte, Int.reduceEq, reduceCtorEq, k1, k2, lk2, l1, l2, l3, l4, b2, b3, b4, d1, e3, e2, e1, e0, dl0, Nat.zero_add]
        exact fin (fun h => by omega) (by omega) (by simp) (by simp)
    · have c1' := dl _ c1
      simp only [c_walk_walker_name, go_sem, W_cond2, WO_guard3, WE_guard3, WQ_guard3, KB_n, KB_x, Nat.reduceBEq, Nat.reduceAdd, Nat.reduceLT, Nat.reduceLeDiff, Nat.reduceEqDiff, reduceIte, Int.reduceEq, reduceCtorEq, k1, k2, lk2, l1, l2, l3, l4, b2, b3, b4, d1, e3, e2, e1, e0, c1', Nat.zero_add]
      exact hfin (.inl c1)
  by_cases h0 : kindP n (at_ ++ [nm]) = 0
  · have e3 : ((kindP n (at_ ++ [nm]) : Int) = 3) = False := by simp only [eq_iff_iff, iff_false]; omega
    have e2 : ((kindP n (at_ ++ [nm]) : Int) = 2) = False := by simp only [eq_iff_iff, iff_false]; omega
    have e1 : ((kindP n (at_ ++ [nm]) : Int) = 1) = False := by simp only [eq_iff_iff, iff_false]; omega
    have e0 : ((kindP n (at_ ++ [nm]) : Int) = 0) = True := by simp only [eq_iff_iff, iff_true]; omega
    have hfin : left ≠ [] → KH s [.id, .id, .id] (NamP n id s0 en iw find b left at_ nm into) (some ([.i .u8 0, .b false, .i .i64 5], s.enter)) := fun hc => ⟨_, _, rfl, .no ⟨h0, hc⟩ (go _)⟩
    by_cases c1 : left = []
    · subst c1
      simp only [c_walk_walker_name, go_sem, W_cond2, WO_guard3, WE_guard3, WQ_guard3, KB_n, KB_x, Nat.reduceBEq, Nat.reduceAdd, Nat.reduceLT, Nat.reduceLeDiff, Nat.reduceEqDiff, reduceIte, Int.reduceEq, reduceCtorEq, k1, k2, lk2, l1, l2, l3, l4, b2, b3, b4, d1, e3, e2, e1, e0, dl0, Nat.zero_add]
      exact fin (fun h => by omega) (by omega) (fun h => by omega) (by simp)
    · have c1' := dl _ c1
      simp only [c_walk_walker_name, go_sem, W_cond2, WO_guard3, WE_guard3, WQ_guard3, KB_n, KB_x, Nat.reduceBEq, Nat.reduceAdd, Nat.reduceLT, Nat.reduceLeDiff, Nat.reduceEqDiff, reduceIte, Int.reduceEq, reduceCtorEq, k1, k2, lk2, l1, l2, l3, l4, b2, b3, b4, d1, e3, e2, e1, e0, c1', Nat.zero_add]
      exact hfin c1
  · have e3 : ((kindP n (at_ ++ [nm]) : Int) = 3) = False := F 3 h3
    have e2 : ((kindP n (at_ ++ [nm]) : Int) = 2) = False := F 2 h2
    have e1 : ((kindP n (at_ ++ [nm]) : Int) = 1) = False := F 1 h1
    have e0 : ((kindP n (at_ ++ [nm]) : Int) = 0) = False := F 0 h0
    have f := fin (fun h => h3 h.1) h2 (fun h => h1 h.1) (fun h => h0 h.1)
    by_cases c1 : left = []
    · subst c1
      simp only [c_walk_walker_name, go_sem, W_cond2, WO_guard3, WE_guard3, WQ_guard3, KB_n, KB_x, Nat.reduceBEq, Nat.reduceAdd, Nat.reduceLT, Nat.reduceLeDiff, Nat.reduceEqDiff, reduceIte, Int.reduceEq, reduceCtorEq, k1, k2, lk2, l1, l2, l3, l4, b2, b3, b4, d1, e3, e2, e1, e0, dl0, Nat.zero_add]
      exact f
    · have c1' := dl _ c1
      simp only [c_walk_walker_name, go_sem, W_cond2, WO_guard3, WE_guard3, WQ_guard3, KB_n, KB_x, Nat.reduceBEq, Nat.reduceAdd, Nat.reduceLT, Nat.reduceLeDiff, Nat.reduceEqDiff, reduceIte, Int.reduceEq, reduceCtorEq, k1, k2, lk2, l1, l2, l3, l4, b2, b3, b4, d1, e3, e2, e1, e0, c1', Nat.zero_add]
      exact f
end Go.Proofs.YtkkfjoiffcmpeaaDoor

/-
  The walker goes a path.
-/
set_option maxRecDepth 100000
set_option maxHeartbeats 2000000
set_option linter.unusedSimpArgs false
set_option linter.constructorNameAsVariable false
namespace Go.Proofs.YtkkfjoiffcmpeaaDoor
open Go.Proofs.YtkkfjoiffcmpeaaDoor.Am
attribute [local irreducible] W WO WE WQ WD Tr.get Tr.set

theorem mem_kidN {n k : ND} {s : List Nat} (h : kidN n s = some k) : k ∈ n.kids := by
  unfold kidN at h
  split at h
  · split at h
    · exact List.mem_of_getElem? h
    · cases h
  · cases h
theorem findP_ok : ∀ {pl : List (List Nat)} {n x : ND}, n.Ok → wellN n = true → findP n pl = some x → x.Ok ∧ wellN x = true
  | [], n, x, h1, h2, h => by simp only [findP, Option.some.injEq] at h; subst h; exact ⟨h1, h2⟩
  | s :: pl, n, x, h1, h2, h => by
    simp only [findP] at h
    cases hk : kidN n s with
    | none => rw [hk] at h; cases h
    | some k =>
      rw [hk] at h
      have hm := mem_kidN hk
      obtain ⟨i, hi, he⟩ := List.mem_iff_getElem.1 hm
      have hg : n.kids[i]? = some k := by rw [List.getElem?_eq_getElem hi, he]
      exact findP_ok (h1.kids.1 k hm) ((wellD h2).kid hg) h
theorem well_text {n : ND} (h : wellN n = true) : n.text.length ≤ 256 := by
  rw [wellN_eq] at h
  split at h
  · simp only [Bool.and_eq_true, decide_eq_true_eq] at h
    exact h.2.2.1
  · split at h
    · simp only [Bool.and_eq_true, decide_eq_true_eq] at h
      rw [h.1]; simp
    · cases h
theorem well_kind {n : ND} (h : wellN n = true) : n.kind = 1 ∨ n.kind = 2 ∨ n.kind = 3 := by
  rw [wellN_eq] at h
  split at h
  · omega
  · split at h
    · omega
    · cases h
theorem text_bound {n : ND} (h1 : n.Ok) (h2 : wellN n = true) (pl : List (List Nat)) : Txt (textP n pl) ∧ (textP n pl).length ≤ 256 := by
  unfold textP foundN
  cases hf : findP n pl with
  | none => exact ⟨⟨by simp [noN, ND.text], by simp [noN, ND.text]⟩, by simp [noN, ND.text]⟩
  | some x =>
    obtain ⟨k1, k2⟩ := findP_ok h1 h2 hf
    exact ⟨k1.text.1, well_text k2⟩
theorem kind_le {n : ND} (h1 : n.Ok) (h2 : wellN n = true) (pl : List (List Nat)) : kindP n pl ≤ 3 := by
  unfold kindP foundN
  cases hf : findP n pl with
  | none => simp [noN, ND.kind]
  | some x => have := well_kind (findP_ok h1 h2 hf).2; simp only [Option.getD_some]; omega
/-- The first of what is left, and the rest. -/
theorem lf_head {R : List RA} {lf : AV} {nm : List Nat} {left : List (List Nat)} (h : LfIs R lf (nm :: left)) {s0 s : St} {en : En} {B : List (Nat × Box)} (H : Hp s0 s en R B) :
    ((∃ c, lf = .sl 1 (.s nm :: left.map .s) c ∧ ldA s false 1 (.ep [.s nm] 0 c) = some (.s nm)) ∨ ∃ f, lf = .ws f 1 (.s nm :: left.map .s)) ∧
    ∃ lf' q, sliceA s false 1 lf (some (.i .i64 1)) none none = some (lf', q) ∧ Hp s0 q en [] B ∧ Told1 1 lf' (left.map .s) := by
  have hb : bounds (AV.s nm :: left.map AV.s).length (some (.i .i64 1)) none = some (1, (AV.s nm :: left.map AV.s).length) := bounds_io (a := 1) (by simp)
  have hd : ((AV.s nm :: left.map AV.s).drop 1).take ((AV.s nm :: left.map AV.s).length - 1) = left.map .s := by
    simp only [List.drop_succ_cons, List.drop_zero, List.length_cons, Nat.add_sub_cancel]
    exact List.take_length
  have key : ∀ {lf : AV}, Told1 1 lf (AV.s nm :: left.map AV.s) → Hp s0 s en [] B →
      ((∃ c, lf = .sl 1 (.s nm :: left.map .s) c ∧ ldA s false 1 (.ep [.s nm] 0 c) = some (.s nm)) ∨ ∃ f, lf = .ws f 1 (.s nm :: left.map .s)) ∧
      ∃ lf' q, sliceA s false 1 lf (some (.i .i64 1)) none none = some (lf', q) ∧ Hp s0 q en [] B ∧ Told1 1 lf' (left.map .s) := by
    intro lf h H
    rcases h with ⟨_, h⟩ | ⟨_, h⟩ | rfl | rfl | rfl | rfl
    · cases h
    · cases h
    · exact ⟨.inl ⟨_, rfl, rfl⟩, .sl 1 (left.map .s) .full, s, by simp only [sliceA, if_true, hb, hd]; simp, H, .inr (.inr (.inl rfl))⟩
    · exact ⟨.inl ⟨_, rfl, rfl⟩, .sl 1 (left.map .s) .shut, s, by simp only [sliceA, if_true, hb, hd]; simp, H, .inr (.inr (.inr (.inl rfl)))⟩
    · exact ⟨.inr ⟨_, rfl⟩, .ws false 1 (left.map .s), s, by simp only [sliceA, if_true, hb, hd]; simp, H, .ws⟩
    · exact ⟨.inr ⟨_, rfl⟩, .ws false 1 (left.map .s), s, by simp only [sliceA, if_true, hb, hd]; simp, H, .ws⟩
  rcases h with ⟨rfl, h⟩ | ⟨fr, rfl⟩
  · exact key h H
  · rcases H.rows (i := 0) rfl with hf | ⟨k, v, t, e, k1, k2, k3, k4, k5, k6, k7⟩
    · exact key hf.told (H.sel [] (List.range B.length) (by simp) List.nodup_range |> fun h => by rw [pick_range] at h; exact h)
    · simp only at e k5
      subst e
      refine ⟨.inl ⟨_, rfl, ?_⟩, .sl 1 (left.map .s) .shut, s.setTok k { t with pub := max t.pub (AV.s nm :: left.map AV.s).length }, ?_, ?_, .inr (.inr (.inr (.inl rfl)))⟩
      · simp [ldA, St.ok, k3, k4, cut, scal]
      · have hne : ¬ (1 = 0 ∧ (AV.s nm :: left.map AV.s).length = (AV.s nm :: left.map AV.s).length) := by simp
        simp only [sliceA, List.map_cons, if_true, hb, hd, k3, k4]
        simp
      · have := H.setTok (i := 0) rfl rfl k3 ((nm :: left).map .s) { t with pub := max t.pub (AV.s nm :: left.map AV.s).length } v false k4 k5 rfl (fun hh => by cases hh)
        exact this.sel [] (List.range B.length) (by simp) List.nodup_range |> fun h => by rw [pick_range] at h; exact h
theorem told_pop {es m : Nat} {a : AV} {xs : List AV} (h : Told1 es a xs) (hm : m ≤ xs.length) (s : St) : ∃ a', sliceA s true es a none (some (.i .i64 (m : Int))) none = some (a', s) ∧ Told1 es a' (xs.take m) := by
  have hb : bounds xs.length none (some (.i .i64 (m : Int))) = some (0, m) := bounds_oi hm
  rcases h with ⟨rfl, rfl⟩ | ⟨rfl, rfl⟩ | rfl | rfl | rfl | rfl
  · obtain rfl : m = 0 := by simpa using hm
    exact ⟨.nsl, rfl, .inl ⟨rfl, rfl⟩⟩
  · obtain rfl : m = 0 := by simpa using hm
    exact ⟨.wz, rfl, .inr (.inl ⟨rfl, rfl⟩)⟩
  all_goals
    unfold sliceA
    simp only [if_true, hb, List.drop_zero, Nat.sub_zero]
    by_cases hx : m = xs.length
    · rw [if_pos ⟨trivial, hx⟩, hx, List.take_length]
      exact ⟨_, rfl, by first | exact .inr (.inr (.inl rfl)) | exact .inr (.inr (.inr (.inl rfl))) | exact .ws⟩
    · rw [if_neg (fun hh => hx hh.2)]
      try rw [if_neg hx]
      exact ⟨_, rfl, by first | exact .inr (.inr (.inr (.inl rfl))) | exact .ws⟩
/-- What a walk tells. -/
def WR.av : WR → AV
  | .ok pl k => .tup [tx pl, .i .u8 (k : Nat), .i .i64 0]
  | .err e => .tup [tx [], .i .u8 0, .i .i64 (e : Nat)]
def RunP (s0 : St) (en : En) (w : WR) (r : AV) (s' : St) : Prop := r = w.av ∧ Gone s0 s' en
theorem n61 : ((61 : Int) ≠ 0) = True := by simp
theorem n55 : ((55 : Int) ≠ 0) = True := by simp
theorem n5 : ((5 : Int) ≠ 0) = True := by simp
theorem n0 : ((0 : Int) ≠ 0) = False := by simp
theorem run_hp {n : ND} {id : Nat} {s0 s : St} {en : En} {iw : Nat} {find into : Bool} {left at_ : List (List Nat)} {R : List RA} {a lf : AV} (ht : Tre n id s0) (H : Hp s0 s en R [(iw, wkB id a lf into find 0)]) (ha : Told1 1 a (at_.map .s)) (hl : LfIs R lf left) (hlen : at_.length + left.length < 2 ^ 34) :
    ∃ r s', (lim prog).call f_walk_walker_run [.p iw 0] s = some (r, s') ∧ RunP s0 en (walkL n find 8 left at_ into) r s' := by
  refine fn_G (Post := RunP s0 en (walkL n find 8 left at_ into)) p_walk_walker_run rfl rfl ?_
  have HH := H
  have H0 := H.enter
  have hiw : iw < s.nb := H.boxLt (i := 0) rfl
  have hz0 : wkZ c_walk_walker_run.cin [.p iw 0] = [.p iw 0] := by simp [c_walk_walker_run, wkZ, wk]
  rw [hz0]
  generalize hw : walkL n find 8 left at_ into = w
  simp only [c_walk_walker_run, go_sem, W_cond2, WO_guard3, WE_guard3, WQ_guard3, KB_n, KB_x, Nat.reduceBEq, Nat.reduceAdd, Nat.reduceLT, Nat.reduceLeDiff, Nat.reduceEqDiff, reduceIte, Int.reduceEq, reduceCtorEq]
  refine W_loop (fun x e q => ∃ (b : Nat) (left at_ : List (List Nat)) (into : Bool) (R : List RA) (a lf : AV), Hp s0 q s.en R [(iw, wkB id a lf into find (8 - b))] ∧ Told1 1 a (at_.map .s) ∧ LfIs R lf left ∧ b ≤ 8 ∧ at_.length + left.length + 300 * b < 2 ^ 35 ∧ walkL n find b left at_ into = w ∧ x = 300 * b + left.length ∧ e.get 0 = .p iw 0) ?_ (300 * 8 + left.length) _ _ ?_
  · rintro x e q ⟨b, left, at_, into, R, a, lf, H, ha, hl, hb, hlen, hw, rfl, g0⟩
    obtain ⟨b1, b2, b3, b4⟩ := hl.ok H
    have l1 := H.ld 0 (off := 2) (v := lf) rfl rfl
    cases left with
    | nil =>
      have c1 : (0 < ((([] : List (List Nat)).length : Nat) : Int)) = False := by simp
      have l2 := H.ld 0 (off := 1) (v := a) rfl rfl
      simp only [go_sem, W_cond2, WO_guard3, WE_guard3, WQ_guard3, KB_n, KB_x, Nat.reduceBEq, Nat.reduceAdd, Nat.reduceLT, Nat.reduceLeDiff, Nat.reduceEqDiff, reduceIte, Int.reduceEq, reduceCtorEq, g0, l1, b2, b3, b4, c1, l2, ha.ld, ha.pubA, Nat.zero_add]
      rw [walkN] at hw
      refine ⟨_, _, rfl, ?_, gone_leave HH H _⟩
      rw [← hw]
      simp only [tupOf, wkZ, ha.wk (wkM_s _), WR.av]
      rfl
    | cons nm left =>
      have c1 : (0 < (((nm :: left).length : Nat) : Int)) = True := by simp only [List.length_cons, eq_iff_iff, iff_true]; omega
      obtain ⟨hlf, lf', q2, d2, H2, t2⟩ := lf_head hl H
      obtain ⟨q3, d3, H3, n3, p3⟩ := H2.st 0 (off := 2) (v := lf') rfl (by simp) ⟨t2.cells.1, t2.cells.2.1⟩
      have hn0 : natOf (.i .i64 0) = some 0 := rfl
      have hg : (AV.s nm :: left.map AV.s)[0]? = some (.s nm) := rfl
      rcases hlf with ⟨c, rfl, hld⟩ | ⟨f, rfl⟩
      · simp only [go_sem, W_cond2, WO_guard3, WE_guard3, WQ_guard3, KB_n, KB_x, Nat.reduceBEq, Nat.reduceAdd, Nat.reduceLT, Nat.reduceLeDiff, Nat.reduceEqDiff, reduceIte, Int.reduceEq, reduceCtorEq, g0, l1, b2, b3, b4, c1, hn0, hg, cells_s, hld, d2, d3, Nat.zero_add]
        by_cases hd : nm = [46, 46]
        · have hd' : (nm = [46, 46]) = True := by simp [hd]
          subst hd
          rw [walk_dd] at hw
          have hw1 : IntKind.i64.wrap ((at_.length : Int) - 1) = (at_.length : Int) - 1 := by
            by_cases h0 : at_.length = 0
            · rw [h0]; rfl
            · rw [show (at_.length : Int) - 1 = ((at_.length - 1 : Nat) : Int) by omega]; exact wrap_nat (by omega)
          have hmx : (if (at_.length : Int) - 1 > 0 then (at_.length : Int) - 1 else 0) = ((at_.length - 1 : Nat) : Int) := by split <;> omega
          obtain ⟨a', d4, t4⟩ := told_pop (m := at_.length - 1) ha (by rw [List.length_map]; omega) q3
          obtain ⟨q5, d5, H5, n5, p5⟩ := H3.st 0 (off := 1) (v := a') rfl (by simp) ⟨t4.cells.1, t4.cells.2.1⟩
          have l5 := H3.ld 0 (off := 1) (v := a) rfl rfl
          have hal : ∀ q, lenA q 1 a = some (.i .i64 (at_.length : Nat)) := fun q => by have := ha.len q; rw [List.length_map] at this; exact this
          simp only [go_sem, W_cond2, WO_guard3, WE_guard3, WQ_guard3, KB_n, KB_x, Nat.reduceBEq, Nat.reduceAdd, Nat.reduceLT, Nat.reduceLeDiff, Nat.reduceEqDiff, reduceIte, Int.reduceEq, reduceCtorEq, hd', g0, l5, ha.ld, hal, hw1, d4, d5, Nat.zero_add, hmx, true_or, true_and]
          exact ⟨_, by simp only [List.length_cons]; omega, b, left, at_.dropLast, into, [], a', lf', H5, by rw [List.dropLast_eq_take, List.map_take]; exact t4, .inl ⟨rfl, t2⟩, hb, by simp only [List.length_dropLast, List.length_cons] at hlen ⊢; omega, hw, rfl⟩
        · have hd' : (nm = [46, 46]) = False := by simp [hd]
          obtain ⟨tb1, tb2⟩ := text_bound ht.ok ht.well (at_ ++ [nm])
          have hlen' : at_.length + left.length + 300 * b + 1 < 2 ^ 35 := by simp only [List.length_cons] at hlen; omega
          obtain ⟨r, q4, d4, hN⟩ := name_hp (nm := nm) ht ⟨[], a, lf', H3, ha, .inl ⟨rfl, t2⟩, .inl t2.cells.2.2⟩ hb (by omega) ⟨tb1, by omega⟩ (by omega)
          have hsl := stepsL_len (textP n (at_ ++ [nm]))
          unfold NamP at hN
          split at hN
          · rename_i hk
            obtain ⟨x, rfl, hf⟩ := hN
            rcases hf with ⟨rfl, rfl, R5, B5, H5⟩ | ⟨c', rfl, rfl, R5, a5, lf5, H5, ha5, hl5, _⟩
            · rw [walk_l0 hd hk] at hw
              simp only [go_sem, W_cond2, WO_guard3, WE_guard3, WQ_guard3, KB_n, KB_x, Nat.reduceBEq, Nat.reduceAdd, Nat.reduceLT, Nat.reduceLeDiff, Nat.reduceEqDiff, reduceIte, Int.reduceEq, reduceCtorEq, hd', g0, d4, n61, n55, n5, n0, Nat.zero_add]
              exact ⟨_, _, rfl, by rw [← hw]; rfl, gone_leave HH H5 _⟩
            · rw [walk_l1 c' hd hk] at hw
              simp only [go_sem, W_cond2, WO_guard3, WE_guard3, WQ_guard3, KB_n, KB_x, Nat.reduceBEq, Nat.reduceAdd, Nat.reduceLT, Nat.reduceLeDiff, Nat.reduceEqDiff, reduceIte, Int.reduceEq, reduceCtorEq, hd', g0, d4, n61, n55, n5, n0, Nat.zero_add]
              exact ⟨300 * c' + (stepsL (textP n (at_ ++ [nm])) ++ left).length, by simp only [List.length_cons, List.length_append]; omega, c', stepsL (textP n (at_ ++ [nm])) ++ left, if absP (textP n (at_ ++ [nm])) = true then [] else at_, _, R5, a5, lf5, H5, ha5, hl5, by omega, by simp only [List.length_append]; split <;> (try simp only [List.length_nil]) <;> omega, hw, rfl⟩
          split at hN
          · rename_i hk2
            obtain ⟨rfl, R5, a5, lf5, H5, ha5, hl5, _⟩ := hN
            rw [walk_d b hd hk2] at hw
            by_cases hle : left = []
            · subst hle
              rw [walkN] at hw
              have l5 := H5.ld 0 (off := 1) (v := a5) rfl rfl
              simp only [go_sem, W_cond2, WO_guard3, WE_guard3, WQ_guard3, KB_n, KB_x, Nat.reduceBEq, Nat.reduceAdd, Nat.reduceLT, Nat.reduceLeDiff, Nat.reduceEqDiff, reduceIte, Int.reduceEq, reduceCtorEq, hd', g0, d4, n61, n55, n5, n0, l5, ha5.ld, ha5.pubA, Nat.zero_add, decide_true]
              refine ⟨_, _, rfl, ?_, gone_leave HH H5 _⟩
              rw [← hw]
              simp only [tupOf, wkZ, ha5.wk (wkM_s _), WR.av, hk2]
              rfl
            · rw [decide_eq_false hle] at d4
              simp only [go_sem, W_cond2, WO_guard3, WE_guard3, WQ_guard3, KB_n, KB_x, Nat.reduceBEq, Nat.reduceAdd, Nat.reduceLT, Nat.reduceLeDiff, Nat.reduceEqDiff, reduceIte, Int.reduceEq, reduceCtorEq, hd', g0, d4, n61, n55, n5, n0, Nat.zero_add]
              exact ⟨_, by simp only [List.length_cons]; omega, b, left, _, into, R5, a5, lf5, H5, ha5, hl5, hb, by simp only [List.length_append, List.length_cons, List.length_nil]; omega, hw, rfl⟩
          split at hN
          · rename_i hk1
            obtain ⟨rfl, R5, B5, H5⟩ := hN
            rw [walk_f b hd hk1] at hw
            simp only [go_sem, W_cond2, WO_guard3, WE_guard3, WQ_guard3, KB_n, KB_x, Nat.reduceBEq, Nat.reduceAdd, Nat.reduceLT, Nat.reduceLeDiff, Nat.reduceEqDiff, reduceIte, Int.reduceEq, reduceCtorEq, hd', g0, d4, n61, n55, n5, n0, Nat.zero_add]
            exact ⟨_, _, rfl, by rw [← hw]; rfl, gone_leave HH H5 _⟩
          split at hN
          · rename_i hk0
            obtain ⟨rfl, R5, B5, H5⟩ := hN
            rw [walk_n b hd hk0] at hw
            simp only [go_sem, W_cond2, WO_guard3, WE_guard3, WQ_guard3, KB_n, KB_x, Nat.reduceBEq, Nat.reduceAdd, Nat.reduceLT, Nat.reduceLeDiff, Nat.reduceEqDiff, reduceIte, Int.reduceEq, reduceCtorEq, hd', g0, d4, n61, n55, n5, n0, Nat.zero_add]
            exact ⟨_, _, rfl, by rw [← hw]; rfl, gone_leave HH H5 _⟩
          · rename_i hk3 hk2 hk1 hk0
            obtain ⟨rfl, R5, a5, lf5, H5, ha5, hl5, _⟩ := hN
            rw [walk_e b hd hk3 hk2 hk1 hk0] at hw
            have l5 := H5.ld 0 (off := 1) (v := a5) rfl rfl
            simp only [go_sem, W_cond2, WO_guard3, WE_guard3, WQ_guard3, KB_n, KB_x, Nat.reduceBEq, Nat.reduceAdd, Nat.reduceLT, Nat.reduceLeDiff, Nat.reduceEqDiff, reduceIte, Int.reduceEq, reduceCtorEq, hd', g0, d4, n61, n55, n5, n0, l5, ha5.ld, ha5.pubA, Nat.zero_add]
            refine ⟨_, _, rfl, ?_, gone_leave HH H5 _⟩
            rw [← hw]
            simp only [tupOf, wkZ, ha5.wk (wkM_s _), WR.av]
            rfl
      · simp only [go_sem, W_cond2, WO_guard3, WE_guard3, WQ_guard3, KB_n, KB_x, Nat.reduceBEq, Nat.reduceAdd, Nat.reduceLT, Nat.reduceLeDiff, Nat.reduceEqDiff, reduceIte, Int.reduceEq, reduceCtorEq, g0, l1, b2, b3, b4, c1, hn0, hg, cells_s, ldA_1, d2, d3, Nat.zero_add]
        by_cases hd : nm = [46, 46]
        · have hd' : (nm = [46, 46]) = True := by simp [hd]
          subst hd
          rw [walk_dd] at hw
          have hw1 : IntKind.i64.wrap ((at_.length : Int) - 1) = (at_.length : Int) - 1 := by
            by_cases h0 : at_.length = 0
            · rw [h0]; rfl
            · rw [show (at_.length : Int) - 1 = ((at_.length - 1 : Nat) : Int) by omega]; exact wrap_nat (by omega)
          have hmx : (if (at_.length : Int) - 1 > 0 then (at_.length : Int) - 1 else 0) = ((at_.length - 1 : Nat) : Int) := by split <;> omega
          obtain ⟨a', d4, t4⟩ := told_pop (m := at_.length - 1) ha (by rw [List.length_map]; omega) q3
          obtain ⟨q5, d5, H5, n5, p5⟩ := H3.st 0 (off := 1) (v := a') rfl (by simp) ⟨t4.cells.1, t4.cells.2.1⟩
          have l5 := H3.ld 0 (off := 1) (v := a) rfl rfl
          have hal : ∀ q, lenA q 1 a = some (.i .i64 (at_.length : Nat)) := fun q => by have := ha.len q; rw [List.length_map] at this; exact this
          simp only [go_sem, W_cond2, WO_guard3, WE_guard3, WQ_guard3, KB_n, KB_x, Nat.reduceBEq, Nat.reduceAdd, Nat.reduceLT, Nat.reduceLeDiff, Nat.reduceEqDiff, reduceIte, Int.reduceEq, reduceCtorEq, hd', g0, l5, ha.ld, hal, hw1, d4, d5, Nat.zero_add, hmx, true_or, true_and]
          exact ⟨_, by simp only [List.length_cons]; omega, b, left, at_.dropLast, into, [], a', lf', H5, by rw [List.dropLast_eq_take, List.map_take]; exact t4, .inl ⟨rfl, t2⟩, hb, by simp only [List.length_dropLast, List.length_cons] at hlen ⊢; omega, hw, rfl⟩
        · have hd' : (nm = [46, 46]) = False := by simp [hd]
          obtain ⟨tb1, tb2⟩ := text_bound ht.ok ht.well (at_ ++ [nm])
          have hlen' : at_.length + left.length + 300 * b + 1 < 2 ^ 35 := by simp only [List.length_cons] at hlen; omega
          obtain ⟨r, q4, d4, hN⟩ := name_hp (nm := nm) ht ⟨[], a, lf', H3, ha, .inl ⟨rfl, t2⟩, .inl t2.cells.2.2⟩ hb (by omega) ⟨tb1, by omega⟩ (by omega)
          have hsl := stepsL_len (textP n (at_ ++ [nm]))
          unfold NamP at hN
          split at hN
          · rename_i hk
            obtain ⟨x, rfl, hf⟩ := hN
            rcases hf with ⟨rfl, rfl, R5, B5, H5⟩ | ⟨c', rfl, rfl, R5, a5, lf5, H5, ha5, hl5, _⟩
            · rw [walk_l0 hd hk] at hw
              simp only [go_sem, W_cond2, WO_guard3, WE_guard3, WQ_guard3, KB_n, KB_x, Nat.reduceBEq, Nat.reduceAdd, Nat.reduceLT, Nat.reduceLeDiff, Nat.reduceEqDiff, reduceIte, Int.reduceEq, reduceCtorEq, hd', g0, d4, n61, n55, n5, n0, Nat.zero_add]
              exact ⟨_, _, rfl, by rw [← hw]; rfl, gone_leave HH H5 _⟩
            · rw [walk_l1 c' hd hk] at hw
              simp only [go_sem, W_cond2, WO_guard3, WE_guard3, WQ_guard3, KB_n, KB_x, Nat.reduceBEq, Nat.reduceAdd, Nat.reduceLT, Nat.reduceLeDiff, Nat.reduceEqDiff, reduceIte, Int.reduceEq, reduceCtorEq, hd', g0, d4, n61, n55, n5, n0, Nat.zero_add]
              exact ⟨300 * c' + (stepsL (textP n (at_ ++ [nm])) ++ left).length, by simp only [List.length_cons, List.length_append]; omega, c', stepsL (textP n (at_ ++ [nm])) ++ left, if absP (textP n (at_ ++ [nm])) = true then [] else at_, _, R5, a5, lf5, H5, ha5, hl5, by omega, by simp only [List.length_append]; split <;> (try simp only [List.length_nil]) <;> omega, hw, rfl⟩
          split at hN
          · rename_i hk2
            obtain ⟨rfl, R5, a5, lf5, H5, ha5, hl5, _⟩ := hN
            rw [walk_d b hd hk2] at hw
            by_cases hle : left = []
            · subst hle
              rw [walkN] at hw
              have l5 := H5.ld 0 (off := 1) (v := a5) rfl rfl
              simp only [go_sem, W_cond2, WO_guard3, WE_guard3, WQ_guard3, KB_n, KB_x, Nat.reduceBEq, Nat.reduceAdd, Nat.reduceLT, Nat.reduceLeDiff, Nat.reduceEqDiff, reduceIte, Int.reduceEq, reduceCtorEq, hd', g0, d4, n61, n55, n5, n0, l5, ha5.ld, ha5.pubA, Nat.zero_add, decide_true]
              refine ⟨_, _, rfl, ?_, gone_leave HH H5 _⟩
              rw [← hw]
              simp only [tupOf, wkZ, ha5.wk (wkM_s _), WR.av, hk2]
              rfl
            · rw [decide_eq_false hle] at d4
              simp only [go_sem, W_cond2, WO_guard3, WE_guard3, WQ_guard3, KB_n, KB_x, Nat.reduceBEq, Nat.reduceAdd, Nat.reduceLT, Nat.reduceLeDiff, Nat.reduceEqDiff, reduceIte, Int.reduceEq, reduceCtorEq, hd', g0, d4, n61, n55, n5, n0, Nat.zero_add]
              exact ⟨_, by simp only [List.length_cons]; omega, b, left, _, into, R5, a5, lf5, H5, ha5, hl5, hb, by simp only [List.length_append, List.length_cons, List.length_nil]; omega, hw, rfl⟩
          split at hN
          · rename_i hk1
            obtain ⟨rfl, R5, B5, H5⟩ := hN
            rw [walk_f b hd hk1] at hw
            simp only [go_sem, W_cond2, WO_guard3, WE_guard3, WQ_guard3, KB_n, KB_x, Nat.reduceBEq, Nat.reduceAdd, Nat.reduceLT, Nat.reduceLeDiff, Nat.reduceEqDiff, reduceIte, Int.reduceEq, reduceCtorEq, hd', g0, d4, n61, n55, n5, n0, Nat.zero_add]
            exact ⟨_, _, rfl, by rw [← hw]; rfl, gone_leave HH H5 _⟩
          split at hN
          · rename_i hk0
            obtain ⟨rfl, R5, B5, H5⟩ := hN
            rw [walk_n b hd hk0] at hw
            simp only [go_sem, W_cond2, WO_guard3, WE_guard3, WQ_guard3, KB_n, KB_x, Nat.reduceBEq, Nat.reduceAdd, Nat.reduceLT, Nat.reduceLeDiff, Nat.reduceEqDiff, reduceIte, Int.reduceEq, reduceCtorEq, hd', g0, d4, n61, n55, n5, n0, Nat.zero_add]
            exact ⟨_, _, rfl, by rw [← hw]; rfl, gone_leave HH H5 _⟩
          · rename_i hk3 hk2 hk1 hk0
            obtain ⟨rfl, R5, a5, lf5, H5, ha5, hl5, _⟩ := hN
            rw [walk_e b hd hk3 hk2 hk1 hk0] at hw
            have l5 := H5.ld 0 (off := 1) (v := a5) rfl rfl
            simp only [go_sem, W_cond2, WO_guard3, WE_guard3, WQ_guard3, KB_n, KB_x, Nat.reduceBEq, Nat.reduceAdd, Nat.reduceLT, Nat.reduceLeDiff, Nat.reduceEqDiff, reduceIte, Int.reduceEq, reduceCtorEq, hd', g0, d4, n61, n55, n5, n0, l5, ha5.ld, ha5.pubA, Nat.zero_add]
            refine ⟨_, _, rfl, ?_, gone_leave HH H5 _⟩
            rw [← hw]
            simp only [tupOf, wkZ, ha5.wk (wkM_s _), WR.av]
            rfl
  · exact ⟨8, left, at_, into, R, a, lf, H0, ha, hl, Nat.le_refl _, by omega, hw, rfl, by simp only [go_sem, W_cond2, WO_guard3, WE_guard3, WQ_guard3, KB_n, KB_x, Nat.reduceBEq, Nat.reduceAdd, Nat.reduceLT, Nat.reduceLeDiff, Nat.reduceEqDiff, reduceIte, Int.reduceEq, reduceCtorEq]⟩
end Go.Proofs.YtkkfjoiffcmpeaaDoor

/-
  walk.Find and walk.Spot.
-/
set_option maxRecDepth 100000
set_option maxHeartbeats 2000000
set_option linter.unusedSimpArgs false
set_option linter.constructorNameAsVariable false
namespace Go.Proofs.YtkkfjoiffcmpeaaDoor
open Go.Proofs.YtkkfjoiffcmpeaaDoor.Am
attribute [local irreducible] W WO WE WQ WD Tr.get Tr.set

def walkP (n : ND) (find : Bool) (p : List Nat) : WR := walkL n find 8 (stepsL p) [] (dirP p)
theorem walk_len {n : ND} (ht : n.Ok) (hw : wellN n = true) (find : Bool) (b : Nat) (left at_ : List (List Nat)) (into : Bool) : ∀ {pl : List (List Nat)} {k : Nat}, walkL n find b left at_ into = .ok pl k → pl.length ≤ at_.length + left.length + 300 * b := by
  induction b, left, at_, into using walkL.induct n find with
  | case1 b at_ into => intro pl k h; rw [walkN] at h; cases h; omega
  | case2 b at_ into left ih => intro pl k h; rw [walk_dd] at h; have := ih h; simp only [List.length_dropLast, List.length_cons] at this ⊢; omega
  | case3 at_ into s left hs hk => intro pl k h; rw [walk_l0 hs hk] at h; cases h
  | case4 at_ into s left hs hk b ih =>
    intro pl k h; rw [walk_l1 b hs hk] at h
    have := ih h
    have h1 := stepsL_len (textP n (at_ ++ [s]))
    have h2 := (text_bound ht hw (at_ ++ [s])).2
    simp only [List.length_append, List.length_cons] at this ⊢
    split at this <;> (try simp only [List.length_nil] at this) <;> omega
  | case5 b at_ into s left hs hk k2 ih => intro pl k h; rw [walk_d b hs k2] at h; have := ih h; simp only [List.length_append, List.length_cons, List.length_nil] at this ⊢; omega
  | case6 b at_ into s left hs hk k2 k1 => intro pl k h; rw [walk_f b hs k1] at h; cases h
  | case7 b at_ into s left hs hk k2 k1 k0 => intro pl k h; rw [walk_n b hs k0] at h; cases h
  | case8 b at_ into s left hs hk k2 k1 k0 => intro pl k h; rw [walk_e b hs hk k2 k1 k0] at h; cases h; simp only [List.length_append, List.length_cons, List.length_nil]; omega
def WR.pl : WR → List (List Nat)
  | .ok pl _ => pl
  | .err _ => []
def WR.k : WR → Nat
  | .ok _ k => k
  | .err _ => 0
def WR.e : WR → Nat
  | .ok _ _ => 0
  | .err e => e
theorem WR.av_eq (w : WR) : w.av = .tup [tx w.pl, .i .u8 (w.k : Nat), .i .i64 (w.e : Nat)] := by cases w <;> rfl
theorem walkP_len {n : ND} (ht : n.Ok) (hw : wellN n = true) (find : Bool) {p : List Nat} (hl : p.length < 2 ^ 32) : (walkP n find p).pl.length < 2 ^ 34 := by
  have hsl := stepsL_len p
  unfold walkP
  cases h : walkL n find 8 (stepsL p) [] (dirP p) with
  | err e => simp [WR.pl]
  | ok pl k =>
    have := walk_len ht hw find 8 _ _ _ h
    simp only [WR.pl, List.length_nil] at this ⊢
    omega
theorem walk_ok {n : ND} {id : Nat} {s : St} (hw : Wf s) (ht : Tre n id s) (find : Bool) (p : List Nat) (hp : Txt p) (hl : p.length < 2 ^ 32) :
    (lim prog).call f_walk_walk [.ifc 28 (.p id 0), .s p, .b find] s = some ((walkP n find p).av, s) := by
  refine fn_W p_walk_walk rfl rfl ?_
  have H0 := Hp.begin hw
  have hsl := stepsL_len p
  have t1 := pathSteps_ok p hp (by omega) s.enter H0.wf
  have t2 := dir_ok p (by omega) s.enter
  have H1 := H0.new (wkB id .nsl (tx (stepsL p)) (dirP p) find 0)
  generalize hq : s.enter.new (wkB id .nsl (tx (stepsL p)) (dirP p) find 0) = q at H1
  generalize hm : s.enter.nb = m at H1
  obtain ⟨r, q2, d2, rfl, R2, B2, H2⟩ := run_hp (left := stepsL p) (at_ := []) (into := dirP p) ht H1 (.inl ⟨rfl, rfl⟩) (.inl ⟨rfl, .ws⟩) (by simp only [List.length_nil]; omega)
  have hpl := walkP_len ht.ok ht.well find hl
  unfold walkP at hpl ⊢
  generalize walkL n find 8 (stepsL p) [] (dirP p) = w at *
  rw [w.av_eq] at d2 ⊢
  obtain ⟨a, q3, d3, H3, n3, p3⟩ := H2.appN (es := 1) 9 (y := tx w.pl) (.mt) rfl (by simp only [List.length_nil, List.length_map]; omega)
  obtain ⟨r', q4, d4, t4, H4, _⟩ := H3.pub 0 rfl
  have d5 : pubA q3 a = some (r', q4) := by rw [pubA_row (H3.rows (i := 0) rfl)]; exact d4
  have hz0 : wkZ c_walk_walk.cin [.ifc 28 (.p id 0), .s p, .b find] = [.ifc 28 (.p id 0), .s p, .b find] := by simp [c_walk_walk, wkZ, wk]
  rw [hz0]
  have hq' : (s.enter.new (Box.cells 72 [.ifc 28 (.p id 0), .nsl, tx (stepsL p), .b (dirP p), .b find, .i .i64 0])) = q := hq
  have al0 : allLen 1 [] = true := rfl
  simp only [c_walk_walk, go_sem, W_cond2, WO_guard3, WE_guard3, WQ_guard3, KB_n, KB_x, Nat.reduceBEq, Nat.reduceAdd, Nat.reduceLT, Nat.reduceLeDiff, Nat.reduceEqDiff, reduceIte, Int.reduceEq, reduceCtorEq, t1, t2, hq', hm, d2, Nat.zero_add, al0, le11s, d3, d5]
  simp only [List.nil_append] at t4
  exact KR_some H4.over (by simp only [tupOf, AV.refs, AV.refs.go, t4.refs (refs_goS _)]; rfl) (by simp only [tupOf, wkZ, t4.wk (wkM_s _), wk])
theorem find_ok2 {n : ND} {id : Nat} {s : St} (hw : Wf s) (ht : Tre n id s) (p : List Nat) (hp : Txt p) (hl : p.length < 2 ^ 32) :
    (lim prog).call f_walk_Find [.ifc 28 (.p id 0), .s p] s = some ((walkP n true p).av, s) := by
  refine fn_W p_walk_Find rfl rfl ?_
  have h := walk_ok (s := s.enter) hw.enter ⟨ht.ok, ht.well, ht.lt, ht.box⟩ true p hp hl
  have hz0 : wkZ c_walk_Find.cin [.ifc 28 (.p id 0), .s p] = [.ifc 28 (.p id 0), .s p] := by simp [c_walk_Find, wkZ, wk]
  rw [hz0]
  rw [WR.av_eq] at h ⊢
  simp only [c_walk_Find, go_sem, W_cond2, WO_guard3, WE_guard3, WQ_guard3, KB_n, KB_x, Nat.reduceBEq, Nat.reduceAdd, Nat.reduceLT, Nat.reduceLeDiff, Nat.reduceEqDiff, reduceIte, Int.reduceEq, reduceCtorEq, h]
  exact KR_some (Over.enter s) (by simp only [tupOf, AV.refs, AV.refs.go, refs_goS]; rfl) (by simp [tupOf, wkZ, wk, wkM_s])
theorem spot_ok2 {n : ND} {id : Nat} {s : St} (hw : Wf s) (ht : Tre n id s) (p : List Nat) (hp : Txt p) (hl : p.length < 2 ^ 32) :
    (lim prog).call f_walk_Spot [.ifc 28 (.p id 0), .s p] s = some ((walkP n false p).av, s) := by
  refine fn_W p_walk_Spot rfl rfl ?_
  have h := walk_ok (s := s.enter) hw.enter ⟨ht.ok, ht.well, ht.lt, ht.box⟩ false p hp hl
  have hz0 : wkZ c_walk_Spot.cin [.ifc 28 (.p id 0), .s p] = [.ifc 28 (.p id 0), .s p] := by simp [c_walk_Spot, wkZ, wk]
  rw [hz0]
  rw [WR.av_eq] at h ⊢
  simp only [c_walk_Spot, go_sem, W_cond2, WO_guard3, WE_guard3, WQ_guard3, KB_n, KB_x, Nat.reduceBEq, Nat.reduceAdd, Nat.reduceLT, Nat.reduceLeDiff, Nat.reduceEqDiff, reduceIte, Int.reduceEq, reduceCtorEq, h]
  exact KR_some (Over.enter s) (by simp only [tupOf, AV.refs, AV.refs.go, refs_goS]; rfl) (by simp [tupOf, wkZ, wk, wkM_s])
end Go.Proofs.YtkkfjoiffcmpeaaDoor

/-
  The questions of WalkReal: links in a node, a node's weight.
-/
set_option maxRecDepth 100000
set_option maxHeartbeats 2000000
set_option linter.unusedSimpArgs false
set_option linter.constructorNameAsVariable false
namespace Go.Proofs.YtkkfjoiffcmpeaaDoor
open Go.Proofs.YtkkfjoiffcmpeaaDoor.Am
attribute [local irreducible] W WO WE WQ WD Tr.get Tr.set

mutual
def linkN : ND → Bool
  | .mk k _ _ ks => linkS ks || decide (k = 3)
def linkS : List ND → Bool
  | [] => false
  | k :: ks => linkN k || linkS ks
end
theorem linkS_any : ∀ l : List ND, linkS l = l.any linkN
  | [] => by simp [linkS]
  | k :: l => by simp only [linkS, linkS_any l, List.any_cons]
theorem linkN_eq (n : ND) : linkN n = (n.kids.any linkN || decide (n.kind = 3)) := by
  cases n with
  | mk a t ns ks =>
    simp only [linkN, linkS_any, ND.kids, ND.kind]
    rfl
theorem link_find : ∀ (pl : List (List Nat)) {n : ND}, linkN n = false → kindP n pl ≠ 3
  | [], n, h => by
    rw [linkN_eq, Bool.or_eq_false_iff] at h
    exact of_decide_eq_false h.2
  | s :: pl, n, h => by
    have e : kindP n (s :: pl) = match kidN n s with | some k => kindP k pl | none => 0 := by
      unfold kindP
      rw [findP]
      cases kidN n s <;> rfl
    rw [e]
    cases hk : kidN n s with
    | none => exact fun h => by cases h
    | some k =>
      rw [linkN_eq, Bool.or_eq_false_iff] at h
      have := List.any_eq_false.1 h.1 k (mem_kidN hk)
      exact link_find pl (by simpa using this)
theorem linked_ok : ∀ n : ND, n.Ok → ∀ s, Wf s → (lim prog).call f_touchstonelaw09_linked [.agg n.cells] s = some (.b (linkN n), s) := by
  refine ND.ind fun n ih ho s hw => ?_
  refine fn_W p_touchstonelaw09_linked rfl rfl ?_
  have H1 := (Hp.begin hw).new (.cells 25 n.cells)
  generalize hq : s.enter.new (.cells 25 n.cells) = q at H1
  generalize hm : s.enter.nb = m at H1
  have l0 := H1.ld 0 (off := 0) (v := .i .u8 (n.kind : Nat)) rfl rfl
  have l3 := H1.ld 0 (off := 3) (v := .ws false 4 (n.kids.map ND.av)) rfl rfl
  have hz0 : wkZ c_touchstonelaw09_linked.cin [.agg n.cells] = [.agg n.cells] := by simp [c_touchstonelaw09_linked, wkZ, wk, ND.cells]
  have hkl := ho.kids.2
  rw [hz0]
  simp only [c_touchstonelaw09_linked, go_sem, W_cond2, WO_guard3, WE_guard3, WQ_guard3, KB_n, KB_x, Nat.reduceBEq, Nat.reduceAdd, Nat.reduceLT, Nat.reduceLeDiff, Nat.reduceEqDiff, reduceIte, Int.reduceEq, reduceCtorEq, cells4, hq, hm]
  refine W_loop (fun x e q' => ∃ i : Nat, i + x = n.kids.length ∧ q' = q ∧ (n.kids.take i).any linkN = false ∧ e.get 1 = .p m 0 ∧ e.get 3 = .i .i64 (i : Nat)) ?_ n.kids.length _ _ ?_
  · rintro x e q' ⟨i, hi, rfl, hn, g1, g3⟩
    by_cases h : i < n.kids.length
    · have e1 : ((i : Int) < (n.kids.length : Int)) = True := by simp only [eq_iff_iff, iff_true]; omega
      obtain ⟨k, hk1⟩ : ∃ k, n.kids[i]? = some k := ⟨_, List.getElem?_eq_getElem h⟩
      have hmem : k ∈ n.kids := List.mem_of_getElem? hk1
      have hget := kid_get hk1
      have hld : ldA q' true 4 (.ep k.cells 0 .shut) = some (.agg k.cells) := rfl
      have hc := ih k hmem (ho.kids.1 k hmem) q' H1.wf
      have hw1 := wrap_succ (show i + 1 < 2 ^ 63 by omega)
      cases hl : linkN k with
      | true =>
        rw [hl] at hc
        simp only [go_sem, W_cond2, WO_guard3, WE_guard3, WQ_guard3, KB_n, KB_x, Nat.reduceBEq, Nat.reduceAdd, Nat.reduceLT, Nat.reduceLeDiff, Nat.reduceEqDiff, reduceIte, Int.reduceEq, reduceCtorEq, g1, g3, l3, List.length_map, e1, natOf_nat, hget, hld, pub_cells, hc, Nat.zero_add]
        refine KR_some H1.over rfl ?_
        have : linkN n = true := by rw [linkN_eq, Bool.or_eq_true]; left; exact List.any_eq_true.2 ⟨k, hmem, hl⟩
        rw [this]; rfl
      | false =>
        rw [hl] at hc
        simp only [go_sem, W_cond2, WO_guard3, WE_guard3, WQ_guard3, KB_n, KB_x, Nat.reduceBEq, Nat.reduceAdd, Nat.reduceLT, Nat.reduceLeDiff, Nat.reduceEqDiff, reduceIte, Int.reduceEq, reduceCtorEq, g1, g3, l3, List.length_map, e1, natOf_nat, hget, hld, pub_cells, hc, hw1, Nat.zero_add]
        refine ⟨x - 1, by omega, i + 1, by omega, ?_, rfl⟩
        rw [List.take_add_one, hk1, List.any_append, hn]
        simp [hl]
    · have e1 : ((i : Int) < (n.kids.length : Int)) = False := by simp only [eq_iff_iff, iff_false]; omega
      have e2 : ((n.kind : Int) = 3) = (n.kind = 3) := by simp only [eq_iff_iff]; omega
      rw [List.take_of_length_le (by omega)] at hn
      simp only [go_sem, W_cond2, WO_guard3, WE_guard3, WQ_guard3, KB_n, KB_x, Nat.reduceBEq, Nat.reduceAdd, Nat.reduceLT, Nat.reduceLeDiff, Nat.reduceEqDiff, reduceIte, Int.reduceEq, reduceCtorEq, g1, g3, l3, l0, List.length_map, e1, e2, Nat.zero_add]
      refine KR_some H1.over rfl ?_
      rw [linkN_eq, hn]; rfl
  · simp only [go_sem, W_cond2, WO_guard3, WE_guard3, WQ_guard3, KB_n, KB_x, Nat.reduceBEq, Nat.reduceAdd, Nat.reduceLT, Nat.reduceLeDiff, Nat.reduceEqDiff, reduceIte, Int.reduceEq, reduceCtorEq]
    exact ⟨0, by omega, by simp⟩
mutual
def bulkN : ND → Nat
  | .mk _ t ns ks => 4 + t.length + (ns.map fun l => 1 + l.length).sum + bulkS ks
def bulkS : List ND → Nat
  | [] => 0
  | k :: ks => bulkN k + bulkS ks
end
theorem bulkS_sum : ∀ l : List ND, bulkS l = (l.map bulkN).sum
  | [] => by simp [bulkS]
  | k :: l => by simp only [bulkS, bulkS_sum l, List.map_cons, List.sum_cons]
theorem bulkN_eq (n : ND) : bulkN n = 4 + n.text.length + (n.names.map fun l => 1 + l.length).sum + (n.kids.map bulkN).sum := by
  cases n with
  | mk a t ns ks => simp only [bulkN, bulkS_sum, ND.kids, ND.text, ND.names]
theorem quo64 (a : Nat) (h : a < 2 ^ 62) : Am.binOp .quo (.i .i64 (a : Int)) (.i .i64 64) = some (.i .i64 ((a / 64 : Nat) : Int)) := by
  have h1 : ((a : Int).tdiv 64) = ((a / 64 : Nat) : Int) := by
    rw [Int.tdiv_eq_ediv_of_nonneg (by omega)]; rfl
  show (if (64 : Int) = 0 then none else some (AV.i .i64 (IntKind.i64.wrap ((a : Int).tdiv 64)))) = _
  rw [if_neg (by decide), h1, wrap_nat (by omega)]
theorem weight_ok : ∀ n : ND, n.Ok → bulkN n < 2 ^ 60 → ∀ s, Wf s → ∃ r s', (lim prog).call f_touchstonelaw09_weight [.agg n.cells] s = some (r, s') ∧ s' = s ∧ ∃ w, w ≤ bulkN n ∧ r = .i .i64 (w : Nat) := by
  refine ND.ind fun n ih ho hb s hw => ?_
  refine fn_G (Post := fun r s' => s' = s ∧ ∃ w, w ≤ bulkN n ∧ r = .i .i64 (w : Nat)) p_touchstonelaw09_weight rfl rfl ?_
  have H1 := (Hp.begin hw).new (.cells 25 n.cells)
  generalize hq : s.enter.new (.cells 25 n.cells) = q at H1
  generalize hm : s.enter.nb = m at H1
  have l1 := H1.ld 0 (off := 1) (v := .s n.text) rfl rfl
  have l2 := H1.ld 0 (off := 2) (v := tx n.names) rfl rfl
  have l3 := H1.ld 0 (off := 3) (v := .ws false 4 (n.kids.map ND.av)) rfl rfl
  have hz0 : wkZ c_touchstonelaw09_weight.cin [.agg n.cells] = [.agg n.cells] := by simp [c_touchstonelaw09_weight, wkZ, wk, ND.cells]
  have hkl := ho.kids.2
  have hbn := bulkN_eq n
  have hnl := ho.names.2
  rw [hz0]
  have hq0 := quo64 n.text.length (by omega)
  have hw0 : IntKind.i64.wrap (1 + ((n.text.length / 64 : Nat) : Int)) = ((1 + n.text.length / 64 : Nat) : Int) := by
    rw [show 1 + ((n.text.length / 64 : Nat) : Int) = ((1 + n.text.length / 64 : Nat) : Int) by omega]; exact wrap_nat (by omega)
  simp only [c_touchstonelaw09_weight, go_sem, W_cond2, WO_guard3, WE_guard3, WQ_guard3, KB_n, KB_x, Nat.reduceBEq, Nat.reduceAdd, Nat.reduceLT, Nat.reduceLeDiff, Nat.reduceEqDiff, reduceIte, Int.reduceEq, reduceCtorEq, cells4, hq, hm, l1, hq0, hw0, Nat.zero_add]
  -- the kids
  have hend : ∀ (w : Nat) e, w ≤ 1 + n.text.length + (n.names.map fun l => 1 + l.length).sum → e.get 1 = .p m 0 → e.get 3 = .i .i64 (w : Nat) → e.get 5 = .i .i64 0 →
      W (lim prog) (subC c_touchstonelaw09_weight.body [1, 1, 1, 0, 1, 0]) e q (KB 2 (KS (lim prog) (subC c_touchstonelaw09_weight.body [1, 1, 1, 1]) (KG s c_touchstonelaw09_weight.res c_touchstonelaw09_weight.cout (fun r s' => s' = s ∧ ∃ w, w ≤ bulkN n ∧ r = .i .i64 (w : Nat))))) := by
    intro w0 e h0 g1 g3 g5
    simp only [c_touchstonelaw09_weight, subC]
    refine W_loop (fun x e q' => ∃ i w : Nat, i + x = n.kids.length ∧ q' = q ∧ w ≤ 1 + n.text.length + (n.names.map fun l => 1 + l.length).sum + ((n.kids.take i).map bulkN).sum ∧ e.get 1 = .p m 0 ∧ e.get 3 = .i .i64 (w : Nat) ∧ e.get 5 = .i .i64 (i : Nat)) ?_ n.kids.length _ _ ⟨0, w0, by omega, rfl, by simp; omega, g1, g3, g5⟩
    rintro x e q' ⟨i, w, hi, rfl, hn, g1, g3, g4⟩
    have hts := sum_take_le bulkN n.kids i
    have hfin : KH s [.id] (fun r s' => s' = s ∧ ∃ w, w ≤ bulkN n ∧ r = .i .i64 (w : Nat)) (some ([.i .i64 (w : Nat)], q')) := ⟨_, _, rfl, H1.over.leave rfl, w, by omega, rfl⟩
    by_cases h : i < n.kids.length
    · have e1 : ((i : Int) < (n.kids.length : Int)) = True := by simp only [eq_iff_iff, iff_true]; omega
      by_cases h' : w < 3000
      · have e2 : ((w : Int) < 3000) = True := by simp only [eq_iff_iff, iff_true]; omega
        obtain ⟨k, hk1⟩ : ∃ k, n.kids[i]? = some k := ⟨_, List.getElem?_eq_getElem h⟩
        have hmem : k ∈ n.kids := List.mem_of_getElem? hk1
        have hget := kid_get hk1
        have hle := sum_mem_le (f := bulkN) hmem
        have hsu := sum_take_succ bulkN hk1
        have hts2 := sum_take_le bulkN n.kids (i + 1)
        have hld : ldA q' true 4 (.ep k.cells 0 .shut) = some (.agg k.cells) := rfl
        obtain ⟨_, _, hc, rfl, v, hv, rfl⟩ := ih k hmem (ho.kids.1 k hmem) (by omega) q' H1.wf
        have hwb : IntKind.i64.wrap ((w : Int) + (v : Int)) = ((w + v : Nat) : Int) := by
          rw [show (w : Int) + (v : Int) = ((w + v : Nat) : Int) by omega]; exact wrap_nat (by omega)
        have hw1 := wrap_succ (show i + 1 < 2 ^ 63 by omega)
        simp only [go_sem, W_cond2, WO_guard3, WE_guard3, WQ_guard3, KB_n, KB_x, Nat.reduceBEq, Nat.reduceAdd, Nat.reduceLT, Nat.reduceLeDiff, Nat.reduceEqDiff, reduceIte, Int.reduceEq, reduceCtorEq, g1, g3, g4, l3, List.length_map, e1, e2, natOf_nat, hget, hld, pub_cells, hc, hwb, hw1, Nat.zero_add]
        exact ⟨x - 1, by omega, i + 1, w + v, by omega, by omega, rfl, rfl⟩
      · have e2 : ((w : Int) < 3000) = False := by simp only [eq_iff_iff, iff_false]; omega
        simp only [go_sem, W_cond2, WO_guard3, WE_guard3, WQ_guard3, KB_n, KB_x, Nat.reduceBEq, Nat.reduceAdd, Nat.reduceLT, Nat.reduceLeDiff, Nat.reduceEqDiff, reduceIte, Int.reduceEq, reduceCtorEq, g1, g3, g4, l3, List.length_map, e1, e2, Nat.zero_add]
        exact hfin
    · have e1 : ((i : Int) < (n.kids.length : Int)) = False := by simp only [eq_iff_iff, iff_false]; omega
      simp only [go_sem, W_cond2, WO_guard3, WE_guard3, WQ_guard3, KB_n, KB_x, Nat.reduceBEq, Nat.reduceAdd, Nat.reduceLT, Nat.reduceLeDiff, Nat.reduceEqDiff, reduceIte, Int.reduceEq, reduceCtorEq, g1, g3, g4, l3, List.length_map, e1, Nat.zero_add]
      exact hfin
  refine W_loop (fun x e q' => ∃ i w : Nat, i + x = n.names.length ∧ q' = q ∧ w ≤ 1 + n.text.length + ((n.names.take i).map fun l => 1 + l.length).sum ∧ e.get 1 = .p m 0 ∧ e.get 3 = .i .i64 (w : Nat) ∧ e.get 4 = .i .i64 (i : Nat)) ?_ n.names.length _ _ ?_
  · rintro x e q' ⟨i, w, hi, rfl, hn, g1, g3, g4⟩
    have hts := sum_take_le (fun l : List Nat => 1 + l.length) n.names i
    by_cases h : i < n.names.length ∧ w < 3000
    · obtain ⟨h, h'⟩ := h
      have e1 : ((i : Int) < (n.names.length : Int)) = True := by simp only [eq_iff_iff, iff_true]; omega
      have e2 : ((w : Int) < 3000) = True := by simp only [eq_iff_iff, iff_true]; omega
      obtain ⟨y, hy⟩ : ∃ y, n.names[i]? = some y := ⟨_, List.getElem?_eq_getElem h⟩
      have hy2 : (n.names.map AV.s)[i]? = some (.s y) := by rw [List.getElem?_map, hy]; rfl
      have hsu : ((n.names.take (i + 1)).map fun l : List Nat => 1 + l.length).sum = ((n.names.take i).map fun l : List Nat => 1 + l.length).sum + (1 + y.length) := sum_take_succ (fun l : List Nat => 1 + l.length) hy
      have hts2 := sum_take_le (fun l : List Nat => 1 + l.length) n.names (i + 1)
      have hq1 := quo64 y.length (by omega)
      have hwa : IntKind.i64.wrap ((w : Int) + 1) = ((w + 1 : Nat) : Int) := wrap_succ (by omega)
      have hwb : IntKind.i64.wrap (((w + 1 : Nat) : Int) + ((y.length / 64 : Nat) : Int)) = ((w + 1 + y.length / 64 : Nat) : Int) := by
        rw [show ((w + 1 : Nat) : Int) + ((y.length / 64 : Nat) : Int) = ((w + 1 + y.length / 64 : Nat) : Int) by omega]; exact wrap_nat (by omega)
      have hw1 := wrap_succ (show i + 1 < 2 ^ 63 by omega)
      simp only [go_sem, W_cond2, WO_guard3, WE_guard3, WQ_guard3, KB_n, KB_x, Nat.reduceBEq, Nat.reduceAdd, Nat.reduceLT, Nat.reduceLeDiff, Nat.reduceEqDiff, reduceIte, Int.reduceEq, reduceCtorEq, g1, g3, g4, l2, List.length_map, e1, e2, natOf_nat, hy2, cells_s, ldA_1, hq1, hwa, hwb, hw1, Nat.zero_add]
      exact ⟨x - 1, by omega, i + 1, w + 1 + y.length / 64, by omega, by omega, rfl, rfl⟩
    · have hle : w ≤ 1 + n.text.length + (n.names.map fun l => 1 + l.length).sum := by omega
      by_cases h1 : i < n.names.length
      · have e1 : ((i : Int) < (n.names.length : Int)) = True := by simp only [eq_iff_iff, iff_true]; omega
        have e2 : ((w : Int) < 3000) = False := by simp only [eq_iff_iff, iff_false]; omega
        simp only [go_sem, W_cond2, WO_guard3, WE_guard3, WQ_guard3, KB_n, KB_x, Nat.reduceBEq, Nat.reduceAdd, Nat.reduceLT, Nat.reduceLeDiff, Nat.reduceEqDiff, reduceIte, Int.reduceEq, reduceCtorEq, g1, g3, g4, l2, List.length_map, e1, e2, Nat.zero_add]
        refine hend w _ hle ?_ ?_ ?_ <;> simp only [go_sem, W_cond2, WO_guard3, WE_guard3, WQ_guard3, KB_n, KB_x, Nat.reduceBEq, Nat.reduceAdd, Nat.reduceLT, Nat.reduceLeDiff, Nat.reduceEqDiff, reduceIte, Int.reduceEq, reduceCtorEq, g1, g3]
      · have e1 : ((i : Int) < (n.names.length : Int)) = False := by simp only [eq_iff_iff, iff_false]; omega
        simp only [go_sem, W_cond2, WO_guard3, WE_guard3, WQ_guard3, KB_n, KB_x, Nat.reduceBEq, Nat.reduceAdd, Nat.reduceLT, Nat.reduceLeDiff, Nat.reduceEqDiff, reduceIte, Int.reduceEq, reduceCtorEq, g1, g3, g4, l2, List.length_map, e1, Nat.zero_add]
        refine hend w _ hle ?_ ?_ ?_ <;> simp only [go_sem, W_cond2, WO_guard3, WE_guard3, WQ_guard3, KB_n, KB_x, Nat.reduceBEq, Nat.reduceAdd, Nat.reduceLT, Nat.reduceLeDiff, Nat.reduceEqDiff, reduceIte, Int.reduceEq, reduceCtorEq, g1, g3]
  · simp only [go_sem, W_cond2, WO_guard3, WE_guard3, WQ_guard3, KB_n, KB_x, Nat.reduceBEq, Nat.reduceAdd, Nat.reduceLT, Nat.reduceLeDiff, Nat.reduceEqDiff, reduceIte, Int.reduceEq, reduceCtorEq]
    exact ⟨0, 1 + n.text.length / 64, by omega, by simp; omega, rfl, rfl⟩
end Go.Proofs.YtkkfjoiffcmpeaaDoor

/-
  What WalkReal asks, in plain lists.
-/
set_option maxRecDepth 100000
set_option linter.unusedSimpArgs false
set_option linter.constructorNameAsVariable false
namespace Go.Proofs.YtkkfjoiffcmpeaaDoor
open Go.Proofs.YtkkfjoiffcmpeaaDoor.Am

theorem walk_err (T : ND) (find : Bool) (b : Nat) (left at_ : List (List Nat)) (into : Bool) : ∀ {e : Nat}, walkL T find b left at_ into = .err e → e = 61 ∨ e = 55 ∨ e = 5 := by
  induction b, left, at_, into using walkL.induct T find with
  | case1 b at_ into => intro e h; rw [walkN] at h; cases h
  | case2 b at_ into left ih => intro e h; rw [walk_dd] at h; exact ih h
  | case3 at_ into s left hs hk => intro e h; rw [walk_l0 hs hk] at h; cases h; exact .inl rfl
  | case4 at_ into s left hs hk b ih => intro e h; rw [walk_l1 b hs hk] at h; exact ih h
  | case5 b at_ into s left hs hk k2 ih => intro e h; rw [walk_d b hs k2] at h; exact ih h
  | case6 b at_ into s left hs hk k2 k1 => intro e h; rw [walk_f b hs k1] at h; cases h; exact .inr (.inl rfl)
  | case7 b at_ into s left hs hk k2 k1 k0 => intro e h; rw [walk_n b hs k0] at h; cases h; exact .inr (.inr rfl)
  | case8 b at_ into s left hs hk k2 k1 k0 => intro e h; rw [walk_e b hs hk k2 k1 k0] at h; cases h
theorem stp_b {x : List Nat} (h : Stp x) : x ≠ [] := by
  have := h.ok
  simp only [stepOk, Bool.and_eq_true, decide_eq_true_eq] at this
  exact this.1
theorem stp_c {x : List Nat} (h : Stp x) : x ≠ [46] := by
  have := h.ok
  simp only [stepOk, Bool.and_eq_true, decide_eq_true_eq] at this
  exact this.2
theorem last_rows {x : List Nat} (hx : Stp x) (L : List (List Nat)) : lastP (rows (L ++ [x])) = x := by
  rw [rows_snoc]
  exact last_of_cut hx.no
theorem dir_show {m : List (List Nat)} (h : ∀ s ∈ m, Stp s ∧ s ≠ [46, 46]) : dirP (showP m) = decide (m = []) := by
  rcases List.eq_nil_or_concat m with rfl | ⟨a, s, rfl⟩
  · decide
  · simp only [List.concat_eq_append] at *
    obtain ⟨h1, h2⟩ := h s (by simp)
    have hne : a ++ [s] ≠ [] := by simp
    unfold showP
    rw [if_neg hne, decide_eq_false hne]
    unfold dirP
    rw [last_rows h1, decide_eq_false (stp_c h1), decide_eq_false h2, decide_eq_false (stp_b h1)]
    rfl
theorem steps_show {m : List (List Nat)} (h : ∀ s ∈ m, Stp s) : stepsL (showP m) = m := by
  unfold showP
  split
  · rename_i h; subst h; decide
  · exact steps_rows _ m rfl h
theorem dir_name {nm : List Nat} (h : nameP nm = true) (p : List Nat) : dirP (p ++ 47 :: nm) = false := by
  obtain ⟨h1, h2⟩ := name_stp h
  unfold dirP
  rw [last_of_cut h1.no, decide_eq_false (stp_c h1), decide_eq_false h2, decide_eq_false (stp_b h1)]
  rfl
section
variable {T : ND} (ho : T.Ok) (hw : wellN T = true) (hT : T.kind = 2)
include hT
theorem real_good (find : Bool) (p : List Nat) {m : List (List Nat)} {k : Nat} (h : walkP T find p = .ok m k) : Good T m k :=
  walk_good hT find 8 _ _ _ (by exact hT) (fun s hs => (stepsL_mem hs).1) (fun s hs => by cases hs) h
theorem real_spot (p : List Nat) {m : List (List Nat)} {k : Nat} (h : walkP T false p = .ok m k) : walkP T false (showP m) = .ok m k := by
  have hg := real_good hT false p h
  unfold walkP
  rw [steps_show fun s hs => (hg.names s hs).1, dir_show hg.names]
  exact walk_spot hT 8 hg
omit hT in
theorem real_find (p : List Nat) {l : List (List Nat)} {k : Nat} (h : walkP T true p = .ok l k) : k ≠ 3 ∧ ∃ m o, walkP T false p = .ok m o ∧ (o = 3 ∨ (m = l ∧ o = k)) := by
  refine ⟨walk_notlink 8 _ _ _ h, ?_⟩
  rcases walk_find (T := T) 8 (stepsL p) [] (dirP p) with h1 | ⟨m, h1⟩
  · exact ⟨l, k, h1.trans h, .inr ⟨rfl, rfl⟩⟩
  · exact ⟨m, 3, h1, .inl rfl⟩
omit hT in
include ho hw in
theorem real_clean (hl : linkN T = false) (p : List Nat) {l : List (List Nat)} {k : Nat} (h : walkP T true p = .ok l k) : l = cleanL p :=
  walk_clean (fun pl => by have h1 := kind_le ho hw pl; have h2 := link_find pl hl; omega) true 8 _ _ _ h
omit hT in
theorem real_after {nm : List Nat} (hn : nameP nm = true) (p : List Nat) : After T nm 8 (walkP T true p) (walkP T true (p ++ 47 :: nm)) := by
  have := walk_after (T := T) nm 8 (stepsL p) [] (dirP p)
  unfold walkP
  rw [steps_snoc (name_stp hn).1, dir_name hn]
  exact this
theorem real_show {nm : List Nat} (hn : nameP nm = true) {l : List (List Nat)} (hg : Good T l 2) : walkP T true (showP l ++ 47 :: nm) = walkL T true 8 [nm] l false := by
  unfold walkP
  rw [steps_snoc (name_stp hn).1, dir_name hn, steps_show fun s hs => (hg.names s hs).1]
  have := walk_dirs hT true 8 false [nm] l [] hg.kind fun s hs => (hg.names s hs).2
  exact this
end
/-- What is gone through: no longer than the path and the tree's texts. -/
theorem walk_elts {T : ND} (ho : T.Ok) (hw : wellN T = true) (find : Bool) (b : Nat) (left at_ : List (List Nat)) (into : Bool) (M : Nat) (hM : 256 ≤ M) : ∀ {pl : List (List Nat)} {k : Nat}, (∀ s ∈ left, s.length ≤ M ∧ ∀ x ∈ s, x < 256) → (∀ s ∈ at_, s.length ≤ M ∧ ∀ x ∈ s, x < 256) → walkL T find b left at_ into = .ok pl k → ∀ s ∈ pl, s.length ≤ M ∧ ∀ x ∈ s, x < 256 := by
  induction b, left, at_, into using walkL.induct T find with
  | case1 b at_ into => intro pl k h1 h2 h; rw [walkN] at h; cases h; exact h2
  | case2 b at_ into left ih => intro pl k h1 h2 h; rw [walk_dd] at h; exact ih (fun s hs => h1 s (List.mem_cons_of_mem _ hs)) (fun s hs => h2 s (List.dropLast_subset _ hs)) h
  | case3 at_ into s left hs hk => intro pl k h1 h2 h; rw [walk_l0 hs hk] at h; cases h
  | case4 at_ into s left hs hk b ih =>
    intro pl k h1 h2 h; rw [walk_l1 b hs hk] at h
    have ht := text_bound ho hw (at_ ++ [s])
    refine ih (fun x hx => ?_) (fun x hx => ?_) h
    · rcases List.mem_append.1 hx with hx | hx
      · obtain ⟨_, k1, k2⟩ := stepsL_mem hx
        exact ⟨by omega, fun y hy => ht.1.lt y (k2 y hy)⟩
      · exact h1 x (List.mem_cons_of_mem _ hx)
    · split at hx
      · cases hx
      · exact h2 x hx
  | case5 b at_ into s left hs hk k2 ih =>
    intro pl k h1 h2 h; rw [walk_d b hs k2] at h
    refine ih (fun s hs => h1 s (List.mem_cons_of_mem _ hs)) (fun x hx => ?_) h
    rcases List.mem_append.1 hx with hx | hx
    · exact h2 x hx
    · cases List.mem_singleton.1 hx
      exact h1 s List.mem_cons_self
  | case6 b at_ into s left hs hk k2 k1 => intro pl k h1 h2 h; rw [walk_f b hs k1] at h; cases h
  | case7 b at_ into s left hs hk k2 k1 k0 => intro pl k h1 h2 h; rw [walk_n b hs k0] at h; cases h
  | case8 b at_ into s left hs hk k2 k1 k0 =>
    intro pl k h1 h2 h; rw [walk_e b hs hk k2 k1 k0] at h; cases h
    intro x hx
    rcases List.mem_append.1 hx with hx | hx
    · exact h2 x hx
    · cases List.mem_singleton.1 hx
      exact h1 s List.mem_cons_self
theorem real_len {T : ND} (ho : T.Ok) (hw : wellN T = true) (find : Bool) {p : List Nat} (hp : Txt p) (hl : p.length ≤ 1000) {l : List (List Nat)} {k : Nat} (h : walkP T find p = .ok l k) : ShB l ∧ Txt (showP l) ∧ (showP l).length < 2 ^ 30 := by
  have h1 := walk_len ho hw find 8 _ _ _ h
  have hsl := stepsL_len p
  have h2 := walk_elts ho hw find 8 (stepsL p) [] (dirP p) 1000 (by omega) (fun s hs => by
    obtain ⟨_, k1, k2⟩ := stepsL_mem hs
    exact ⟨by omega, fun y hy => hp.lt y (k2 y hy)⟩) (fun s hs => by cases hs) h
  simp only [List.length_nil] at h1
  have h3 := rows_len (n := 1000) (L := l) fun x hx => (h2 x hx).1
  have h4 := Nat.mul_le_mul_right 1001 (show l.length ≤ 3401 by omega)
  have h5 : (showP l).length < 2 ^ 30 := by
    unfold showP
    split
    · simp
    · omega
  refine ⟨⟨by omega, fun x hx => by have := (h2 x hx).1; omega⟩, ⟨fun x hx => ?_, by omega⟩, h5⟩
  unfold showP at hx
  split at hx
  · rw [List.mem_singleton.1 hx]; decide
  · simp only [rows, List.mem_flatMap, List.mem_cons] at hx
    obtain ⟨y, hy, rfl | hx⟩ := hx
    · decide
    · exact (h2 y hy).2 x hx
theorem nodes_bulk : ∀ n : ND, nodesN n ≤ bulkN n := by
  refine ND.ind fun n ih => ?_
  rw [nodesN_eq, bulkN_eq]
  have : ∀ l : List ND, (∀ k ∈ l, nodesN k ≤ bulkN k) → (l.map nodesN).sum ≤ (l.map bulkN).sum := by
    intro l
    induction l with
    | nil => intro _; exact Nat.le_refl _
    | cons a l il =>
      intro h
      have h1 := h a (by simp)
      have h2 := il fun k hk => h k (by simp [hk])
      simp only [List.map_cons, List.sum_cons]
      omega
  have := this n.kids ih
  omega
end Go.Proofs.YtkkfjoiffcmpeaaDoor

/-
  The law WalkReal.
-/
set_option maxRecDepth 100000
set_option maxHeartbeats 4000000
set_option linter.unusedSimpArgs false
set_option linter.constructorNameAsVariable false
namespace Go.Proofs.YtkkfjoiffcmpeaaDoor
open Go.Proofs.YtkkfjoiffcmpeaaDoor.Am
attribute [local irreducible] W WO WE WQ WD Tr.get Tr.set

theorem works_ok (s : St) : (lim prog).call f_touchstonelaw09_works [] s = some (.b true, s) := prim_call p_touchstonelaw09_works rfl rfl
theorem walkReal_ok (n : ND) (ho : n.Ok) (hb : bulkN n < 2 ^ 60) (p nm : List Nat) (hp : Txt p) (hnm : Txt nm) (s : St) (hw : Wf s) :
    (lim prog).call f_touchstonelaw09_WalkReal [.agg n.cells, .s p, .s nm] s = some (.b true, s) := by
  refine fn_W p_touchstonelaw09_WalkReal rfl rfl ?_
  have H0 := (Hp.begin hw).new (.cells 25 n.cells)
  generalize hq : s.enter.new (.cells 25 n.cells) = q at H0
  generalize hm0 : s.enter.nb = m0 at H0
  have l0 := H0.ldw 0 (m := 4) rfl rfl
  obtain ⟨_, q', hwt, hqq, w, hwb, rfl⟩ := weight_ok n ho hb q H0.wf
  rw [hqq] at hwt
  have hz0 : wkZ c_touchstonelaw09_WalkReal.cin [.agg n.cells, .s p, .s nm] = [.agg n.cells, .s p, .s nm] := by simp [c_touchstonelaw09_WalkReal, wkZ, wk, ND.cells]
  rw [hz0]
  have hnb := nodes_bulk n
  have W1 : ∀ s, (lim prog).call f_touchstonelaw09_works [] s = some (.b true, s) := works_ok
  have hbr : ∀ b : Bool, ∀ q', Over s q' → KR s [.id] (.b b) (some ([.b b], q')) := fun b q' h => KR_some h rfl rfl
  by_cases c1 : 3000 ≤ w
  · have e1 : ((3000 : Int) ≤ (w : Int)) = True := by simp only [eq_iff_iff, iff_true]; omega
    simp only [c_touchstonelaw09_WalkReal, go_sem, W_cond2, WO_guard3, WE_guard3, WQ_guard3, KB_n, KB_x, Nat.reduceBEq, Nat.reduceAdd, Nat.reduceLT, Nat.reduceLeDiff, Nat.reduceEqDiff, reduceIte, Int.reduceEq, reduceCtorEq, cells4, hq, hm0, W1, l0, pub_cells, hwt, e1]
    exact hbr _ _ H0.over
  have e1 : ((3000 : Int) ≤ (w : Int)) = False := by simp only [eq_iff_iff, iff_false]; omega
  by_cases c2 : 1000 < p.length
  · have e2 : ((1000 : Int) < (p.length : Int)) = True := by simp only [eq_iff_iff, iff_true]; omega
    simp only [c_touchstonelaw09_WalkReal, go_sem, W_cond2, WO_guard3, WE_guard3, WQ_guard3, KB_n, KB_x, Nat.reduceBEq, Nat.reduceAdd, Nat.reduceLT, Nat.reduceLeDiff, Nat.reduceEqDiff, reduceIte, Int.reduceEq, reduceCtorEq, cells4, hq, hm0, W1, l0, pub_cells, hwt, e1, e2]
    exact hbr _ _ H0.over
  have e2 : ((1000 : Int) < (p.length : Int)) = False := by simp only [eq_iff_iff, iff_false]; omega
  by_cases c3 : 1000 < nm.length
  · have e3 : ((1000 : Int) < (nm.length : Int)) = True := by simp only [eq_iff_iff, iff_true]; omega
    simp only [c_touchstonelaw09_WalkReal, go_sem, W_cond2, WO_guard3, WE_guard3, WQ_guard3, KB_n, KB_x, Nat.reduceBEq, Nat.reduceAdd, Nat.reduceLT, Nat.reduceLeDiff, Nat.reduceEqDiff, reduceIte, Int.reduceEq, reduceCtorEq, cells4, hq, hm0, W1, l0, pub_cells, hwt, e1, e2, e3]
    exact hbr _ _ H0.over
  have e3 : ((1000 : Int) < (nm.length : Int)) = False := by simp only [eq_iff_iff, iff_false]; omega
  cases hmay : mayN n with
  | false =>
    have hnew := new_bad n ho (by omega) hmay q H0.wf
    have n4 : ((4 : Int) ≠ 0) = True := by simp
    simp only [c_touchstonelaw09_WalkReal, go_sem, W_cond2, WO_guard3, WE_guard3, WQ_guard3, KB_n, KB_x, Nat.reduceBEq, Nat.reduceAdd, Nat.reduceLT, Nat.reduceLeDiff, Nat.reduceEqDiff, reduceIte, Int.reduceEq, reduceCtorEq, cells4, hq, hm0, W1, l0, pub_cells, hwt, e1, e2, e3, hnew, n4]
    exact hbr _ _ H0.over
  | true =>
  obtain ⟨_, q1, hnew, id, rfl, H1⟩ := new_hp H0 n ho (by omega) hmay
  have hid := H1.boxLt (i := 0) rfl
  have hwl : wellN n = true := by simp only [mayN, Bool.and_eq_true] at hmay; exact hmay.2.1
  have hk2 : n.kind = 2 := by simp only [mayN, Bool.and_eq_true, decide_eq_true_eq] at hmay; exact hmay.1
  have ht : Tre n id q1 := ⟨ho, hwl, hid, (H1.box (i := 0) rfl).1⟩
  have f1 := find_ok2 H1.wf ht p hp (by omega)
  have f2 := spot_ok2 H1.wf ht p hp (by omega)
  rw [WR.av_eq] at f1 f2
  have z0 : ((0 : Int) ≠ 0) = False := by simp
  have zz : ((0 : Int) = 0) = True := by simp
  have hlk := linked_ok n ho q1 H1.wf
  have l1 := H1.ldw 1 (m := 4) rfl rfl
  have hname := name_ok nm hnm q1 H1.wf
  have hov := H1.over
  -- the place of Spot, shown and walked again
  have hA : ∀ {m : List (List Nat)} {o : Nat}, walkP n false p = .ok m o → (lim prog).call f_path_Show [tx m] q1 = some (.s (showP m), q1) ∧ (lim prog).call f_walk_Spot [.ifc 28 (.p id 0), .s (showP m)] q1 = some (.tup [tx m, .i .u8 (o : Nat), .i .i64 0], q1) ∧
      (lim prog).call f_touchstoneref06_Same [tx m, tx m] q1 = some (.b true, q1) ∧ (lim prog).call f_ftree_Tree_Kind [.p id 0, tx m] q1 = some (.i .u8 (o : Nat), q1) := by
    intro m o h
    have hg := real_good hk2 false p h
    obtain ⟨x1, x2, x3⟩ := real_len ho hwl false hp (by omega) h
    have hml := x1.n
    have hk := kind_ok ho hwl (pl := m) (by omega) H1.wf hid (H1.box (i := 0) rfl).1
    have hs := real_spot hk2 p h
    have hf := spot_ok2 H1.wf ht (showP m) x2 (by omega)
    rw [hs] at hf
    have hkk : (foundN (findP n m)).kind = o := hg.kind
    rw [hkk] at hk
    have hsm := ref_same_ok m m (by omega) q1
    exact ⟨show_okB x1 q1, hf, by rw [hsm]; simp [sameP], hk⟩
  -- what stands where Find leads
  have hB : ∀ {l : List (List Nat)} {k : Nat}, walkP n true p = .ok l k → (lim prog).call f_ftree_Tree_Kind [.p id 0, tx l] q1 = some (.i .u8 (k : Nat), q1) ∧ (lim prog).call f_touchstoneref06_Same [tx l, tx l] q1 = some (.b true, q1) ∧ (lim prog).call f_path_Show [tx l] q1 = some (.s (showP l), q1) := by
    intro l k h
    have hg := real_good hk2 true p h
    obtain ⟨x1, x2, x3⟩ := real_len ho hwl true hp (by omega) h
    have hml := x1.n
    have hk := kind_ok ho hwl (pl := l) (by omega) H1.wf hid (H1.box (i := 0) rfl).1
    have hkk : (foundN (findP n l)).kind = k := hg.kind
    rw [hkk] at hk
    have hsm := ref_same_ok l l (by omega) q1
    exact ⟨hk, by rw [hsm]; simp [sameP], show_okB x1 q1⟩
  have hC := clean_ok p hp (by omega) q1 H1.wf
  have hD : (lim prog).call f_walk_Find [.ifc 28 (.p id 0), .s (p ++ 47 :: nm)] q1 = some ((walkP n true (p ++ 47 :: nm)).av, q1) :=
    find_ok2 H1.wf ht _ ⟨fun x hx => by
      rcases List.mem_append.1 hx with hx | hx
      · exact hp.lt x hx
      · rcases List.mem_cons.1 hx with rfl | hx
        · decide
        · exact hnm.lt x hx, by simp only [List.length_append, List.length_cons]; omega⟩ (by simp only [List.length_append, List.length_cons]; omega)
  have hE : ∀ l : List (List Nat), l = (walkP n true p).pl → (lim prog).call f_path_Show [tx l] q1 = some (.s (showP l), q1) ∧ (Am.binOp .add (.s (showP l)) (.s [47]) = some (.s (showP l ++ [47])) ∧ Am.binOp .add (.s (showP l ++ [47])) (.s nm) = some (.s (showP l ++ 47 :: nm))) ∧
      (lim prog).call f_walk_Find [.ifc 28 (.p id 0), .s (showP l ++ 47 :: nm)] q1 = some ((walkP n true (showP l ++ 47 :: nm)).av, q1) := by
    rintro l rfl
    have key : ShB (walkP n true p).pl ∧ Txt (showP (walkP n true p).pl) ∧ (showP (walkP n true p).pl).length < 2 ^ 30 := by
      cases h : walkP n true p with
      | err e => exact ⟨⟨by simp [WR.pl], by simp [WR.pl]⟩, ⟨by simp [WR.pl, showP], by simp [WR.pl, showP]⟩, by simp [WR.pl, showP]⟩
      | ok l k => exact real_len ho hwl true hp (by omega) h
    obtain ⟨x1, x2, x3⟩ := key
    generalize (walkP n true p).pl = l at *
    refine ⟨show_okB x1 q1, ⟨cat_ok (by simp; omega), by rw [cat_ok (by simp; omega)]; simp⟩, find_ok2 H1.wf ht _ ⟨fun x hx => ?_, by simp only [List.length_append, List.length_cons]; omega⟩ (by simp only [List.length_append, List.length_cons]; omega)⟩
    rcases List.mem_append.1 hx with hx | hx
    · exact x2.lt x hx
    · rcases List.mem_cons.1 hx with rfl | hx
      · decide
      · exact hnm.lt x hx
  rw [WR.av_eq] at hD
  have cat1 : Am.binOp .add (.s p) (.s [47]) = some (.s (p ++ [47])) := cat_ok (by simp; omega)
  have cat2 : Am.binOp .add (.s (p ++ [47])) (.s nm) = some (.s (p ++ 47 :: nm)) := by
    rw [cat_ok (by simp; omega)]; simp
  generalize hR2 : walkP n true (p ++ 47 :: nm) = R2 at hD
  obtain ⟨hsh, hS, hE⟩ := hE _ rfl
  rw [WR.av_eq] at hE
  generalize hR3 : walkP n true (showP (walkP n true p).pl ++ 47 :: nm) = R3 at hE
  -- the end of it all: what is asked of a name
  have aft := fun h => real_after (T := n) (nm := nm) h p
  rw [hR2] at aft
  cases h1 : walkP n true p with
  | err x1 =>
    rw [h1] at f1 aft hE hS hsh
    have hEE : (lim prog).call f_walk_Find [.ifc 28 (.p id 0), .s (showP ([] : List (List Nat)) ++ 47 :: nm)] q1 = some (.tup [tx R3.pl, .i .u8 (R3.k : Nat), .i .i64 (R3.e : Nat)], q1) := hE
    have hsh : (lim prog).call f_path_Show [tx ([] : List (List Nat))] q1 = some (.s (showP ([] : List (List Nat))), q1) := hsh
    have hS : Am.binOp .add (.s (showP ([] : List (List Nat)))) (.s [47]) = some (.s (showP ([] : List (List Nat)) ++ [47])) ∧ Am.binOp .add (.s (showP ([] : List (List Nat)) ++ [47])) (.s nm) = some (.s (showP ([] : List (List Nat)) ++ 47 :: nm)) := hS
    obtain ⟨catS1, catS2⟩ := hS
    have f1 : (lim prog).call f_walk_Find [.ifc 28 (.p id 0), .s p] q1 = some (.tup [tx [], .i .u8 0, .i .i64 (x1 : Nat)], q1) := f1
    have hx1 : x1 ≠ 0 := by
      rcases walk_err n true 8 _ _ _ h1 with h | h | h <;> omega
    have nx1 : ((x1 : Int) ≠ 0) = True := by simp; omega
    have ex1 : ((x1 : Int) = 0) = False := by simp only [eq_iff_iff, iff_false]; omega
    have fin : nameP nm = true → KR s [.id] (.b true) (some ([.b (decide ((R2.e : Int) ≠ 0))], q1)) := fun h => by
      obtain ⟨y, hy⟩ := aft h
      have : y = 61 ∨ y = 55 ∨ y = 5 := by
        rw [hy] at hR2
        exact walk_err n true 8 _ _ _ hR2
      have hye : R2.e = y := by rw [hy]; rfl
      have : decide ((R2.e : Int) ≠ 0) = true := by rw [hye, decide_eq_true_eq]; omega
      rw [this]
      exact hbr _ _ hov
    cases h2 : walkP n false p with
    | err x2 =>
      rw [h2] at f2
      have f2 : (lim prog).call f_walk_Spot [.ifc 28 (.p id 0), .s p] q1 = some (.tup [tx [], .i .u8 0, .i .i64 (x2 : Nat)], q1) := f2
      have hx2 : x2 ≠ 0 := by
        rcases walk_err n false 8 _ _ _ h2 with h | h | h <;> omega
      have ex2 : ((x2 : Int) = 0) = False := by simp only [eq_iff_iff, iff_false]; omega
      cases h4 : nameP nm <;> cases h5 : linkN n <;> rw [h4] at hname <;> rw [h5] at hlk
      all_goals simp only [c_touchstonelaw09_WalkReal, go_sem, W_cond2, WO_guard3, WE_guard3, WQ_guard3, KB_n, KB_x, Nat.reduceBEq, Nat.reduceAdd, Nat.reduceLT, Nat.reduceLeDiff, Nat.reduceEqDiff, reduceIte, Int.reduceEq, reduceCtorEq, cells4, hq, hm0, W1, l0, pub_cells, hwt, e1, e2, e3, hnew, z0, zz, f1, f2, l1, hlk, hname, nx1, ex1, ex2, cat1, cat2, hD, hsh, catS1, catS2, hEE]
      · exact hbr _ _ hov
      · exact hbr _ _ hov
      · exact fin h4
      · exact fin h4
    | ok m o =>
      rw [h2] at f2
      have f2 : (lim prog).call f_walk_Spot [.ifc 28 (.p id 0), .s p] q1 = some (.tup [tx m, .i .u8 (o : Nat), .i .i64 0], q1) := f2
      obtain ⟨a1, a2, a3, a4⟩ := hA h2
      have eo : ((o : Int) ≠ (o : Int)) = False := by simp
      cases h4 : nameP nm <;> cases h5 : linkN n <;> rw [h4] at hname <;> rw [h5] at hlk
      all_goals simp only [c_touchstonelaw09_WalkReal, go_sem, W_cond2, WO_guard3, WE_guard3, WQ_guard3, KB_n, KB_x, Nat.reduceBEq, Nat.reduceAdd, Nat.reduceLT, Nat.reduceLeDiff, Nat.reduceEqDiff, reduceIte, Int.reduceEq, reduceCtorEq, cells4, hq, hm0, W1, l0, pub_cells, hwt, e1, e2, e3, hnew, z0, zz, f1, f2, l1, hlk, hname, nx1, ex1, a1, a2, a3, a4, eo, cat1, cat2, hD, hsh, catS1, catS2, hEE]
      · exact hbr _ _ hov
      · exact hbr _ _ hov
      · exact fin h4
      · exact fin h4
  | ok l k =>
    rw [h1] at f1 aft hE hS hsh
    have hEE : (lim prog).call f_walk_Find [.ifc 28 (.p id 0), .s (showP l ++ 47 :: nm)] q1 = some (.tup [tx R3.pl, .i .u8 (R3.k : Nat), .i .i64 (R3.e : Nat)], q1) := hE
    have hsh : (lim prog).call f_path_Show [tx l] q1 = some (.s (showP l), q1) := hsh
    have hS : Am.binOp .add (.s (showP l)) (.s [47]) = some (.s (showP l ++ [47])) ∧ Am.binOp .add (.s (showP l ++ [47])) (.s nm) = some (.s (showP l ++ 47 :: nm)) := hS
    obtain ⟨catS1, catS2⟩ := hS
    have f1 : (lim prog).call f_walk_Find [.ifc 28 (.p id 0), .s p] q1 = some (.tup [tx l, .i .u8 (k : Nat), .i .i64 0], q1) := f1
    obtain ⟨b1, b2, _⟩ := hB h1
    obtain ⟨k3, m, o, h2, hmo⟩ := real_find (T := n) p h1
    rw [h2] at f2
    have f2 : (lim prog).call f_walk_Spot [.ifc 28 (.p id 0), .s p] q1 = some (.tup [tx m, .i .u8 (o : Nat), .i .i64 0], q1) := f2
    obtain ⟨a1, a2, a3, a4⟩ := hA h2
    have eo : ((o : Int) ≠ (o : Int)) = False := by simp
    have ek : ((k : Int) ≠ (k : Int)) = False := by simp
    have ek3 : ((k : Int) = 3) = False := by simp only [eq_iff_iff, iff_false]; omega
    have hg1 := real_good hk2 true p h1
    have hcl : linkN n = false → (lim prog).call f_touchstoneref06_Same [tx l, tx (cleanL p)] q1 = some (.b true, q1) := fun h => by
      rw [← real_clean ho hwl h p h1]; exact b2
    have ex55 : ((55 : Int) = 55) = True := by simp
    have ex5 : ((5 : Int) = 5) = True := by simp
    have hsame : (lim prog).call f_touchstoneref06_Same [tx R2.pl, tx R3.pl] q1 = some (.b (sameP R2.pl R3.pl), q1) := ref_same_ok _ _ (by rw [← hR2]; have := walkP_len ho hwl true (p := p ++ 47 :: nm) (by simp only [List.length_append, List.length_cons]; omega); omega) q1
    -- the end
    have fin1 : nameP nm = true → k = 1 → KR s [.id] (.b true) (some ([.b (decide ((R2.e : Int) = 55))], q1)) := fun h hk => by
      have := (aft h).1 hk
      rw [this]
      exact hbr _ _ hov
    have fin0 : nameP nm = true → k = 0 → KR s [.id] (.b true) (some ([.b (decide ((R2.e : Int) = 5))], q1)) := fun h hk => by
      have := (aft h).2.1 hk
      rw [this]
      exact hbr _ _ hov
    have fin2 : nameP nm = true → k = 2 → R3.e ≠ 61 → R2.e ≠ 61 → R2 = R3 := fun h hk h3 h2 => by
      obtain ⟨c, hc, hr⟩ := (aft h).2.2 hk
      subst hk
      have e3 : R3 = walkL n true 8 [nm] l false := by rw [← hR3, h1]; exact real_show hk2 h hg1
      rcases walk_less (T := n) true 8 [nm] l false hc with h4 | h4
      · rw [h4] at hr; exact absurd (by rw [hr]; rfl) h2
      · rw [hr, h4, e3]
    -- o is 3, or the places are the same
    have hq3 : ((o : Int) ≠ 3) = True → m = l ∧ o = k := fun h => by
      rcases hmo with h' | h'
      · rw [h'] at h; simp at h
      · exact h'
    -- the questions ahead of the name
    cases h4 : nameP nm <;> rw [h4] at hname
    · by_cases o3 : o = 3
      · have eo3 : ((o : Int) ≠ 3) = False := by simp [o3]
        cases h5 : linkN n <;> rw [h5] at hlk
        · have hc := hcl h5
          simp only [c_touchstonelaw09_WalkReal, go_sem, W_cond2, WO_guard3, WE_guard3, WQ_guard3, KB_n, KB_x, Nat.reduceBEq, Nat.reduceAdd, Nat.reduceLT, Nat.reduceLeDiff, Nat.reduceEqDiff, reduceIte, Int.reduceEq, reduceCtorEq, cells4, hq, hm0, W1, l0, pub_cells, hwt, e1, e2, e3, hnew, z0, zz, f1, f2, l1, hlk, hname, a1, a2, a3, a4, eo, ek, ek3, b1, b2, cat1, cat2, hD, hsh, catS1, catS2, hEE, eo3, hC, hc]
          exact hbr _ _ hov
        · simp only [c_touchstonelaw09_WalkReal, go_sem, W_cond2, WO_guard3, WE_guard3, WQ_guard3, KB_n, KB_x, Nat.reduceBEq, Nat.reduceAdd, Nat.reduceLT, Nat.reduceLeDiff, Nat.reduceEqDiff, reduceIte, Int.reduceEq, reduceCtorEq, cells4, hq, hm0, W1, l0, pub_cells, hwt, e1, e2, e3, hnew, z0, zz, f1, f2, l1, hlk, hname, a1, a2, a3, a4, eo, ek, ek3, b1, b2, cat1, cat2, hD, hsh, catS1, catS2, hEE, eo3]
          exact hbr _ _ hov
      · have eo3 : ((o : Int) ≠ 3) = True := by simp; omega
        obtain ⟨rfl, rfl⟩ := hq3 eo3
        cases h5 : linkN n <;> rw [h5] at hlk
        · have hc := hcl h5
          simp only [c_touchstonelaw09_WalkReal, go_sem, W_cond2, WO_guard3, WE_guard3, WQ_guard3, KB_n, KB_x, Nat.reduceBEq, Nat.reduceAdd, Nat.reduceLT, Nat.reduceLeDiff, Nat.reduceEqDiff, reduceIte, Int.reduceEq, reduceCtorEq, cells4, hq, hm0, W1, l0, pub_cells, hwt, e1, e2, e3, hnew, z0, zz, f1, f2, l1, hlk, hname, a1, a2, a3, a4, eo, ek, ek3, b1, b2, cat1, cat2, hD, hsh, catS1, catS2, hEE, eo3, hC, hc]
          exact hbr _ _ hov
        · simp only [c_touchstonelaw09_WalkReal, go_sem, W_cond2, WO_guard3, WE_guard3, WQ_guard3, KB_n, KB_x, Nat.reduceBEq, Nat.reduceAdd, Nat.reduceLT, Nat.reduceLeDiff, Nat.reduceEqDiff, reduceIte, Int.reduceEq, reduceCtorEq, cells4, hq, hm0, W1, l0, pub_cells, hwt, e1, e2, e3, hnew, z0, zz, f1, f2, l1, hlk, hname, a1, a2, a3, a4, eo, ek, ek3, b1, b2, cat1, cat2, hD, hsh, catS1, catS2, hEE, eo3]
          exact hbr _ _ hov
    · have hk3 : k ≤ 3 := by rw [← hg1.kind]; exact kind_le ho hwl l
      have hkk : k = 1 ∨ k = 0 ∨ k = 2 := by omega
      have fin1 := fin1 h4
      have fin0 := fin0 h4
      have fin2 := fin2 h4
      have E : ∀ m : Nat, k = m → ((k : Int) = (m : Int)) = True := fun m h => by rw [h]; simp
      have F : ∀ m : Nat, k ≠ m → ((k : Int) = (m : Int)) = False := fun m h => by simp only [eq_iff_iff, iff_false]; omega
      rcases hkk with hk | hk | hk
      · have ek1 : ((k : Int) = 1) = True := E 1 hk
        have fin := fin1 hk
        by_cases o3 : o = 3
        · have eo3 : ((o : Int) ≠ 3) = False := by simp [o3]
          cases h5 : linkN n <;> rw [h5] at hlk
          · have hc := hcl h5
            simp only [c_touchstonelaw09_WalkReal, go_sem, W_cond2, WO_guard3, WE_guard3, WQ_guard3, KB_n, KB_x, Nat.reduceBEq, Nat.reduceAdd, Nat.reduceLT, Nat.reduceLeDiff, Nat.reduceEqDiff, reduceIte, Int.reduceEq, reduceCtorEq, cells4, hq, hm0, W1, l0, pub_cells, hwt, e1, e2, e3, hnew, z0, zz, f1, f2, l1, hlk, hname, a1, a2, a3, a4, eo, ek, ek3, b1, b2, cat1, cat2, hD, hsh, catS1, catS2, hEE, eo3, hC, hc, ek1]
            exact fin
          · simp only [c_touchstonelaw09_WalkReal, go_sem, W_cond2, WO_guard3, WE_guard3, WQ_guard3, KB_n, KB_x, Nat.reduceBEq, Nat.reduceAdd, Nat.reduceLT, Nat.reduceLeDiff, Nat.reduceEqDiff, reduceIte, Int.reduceEq, reduceCtorEq, cells4, hq, hm0, W1, l0, pub_cells, hwt, e1, e2, e3, hnew, z0, zz, f1, f2, l1, hlk, hname, a1, a2, a3, a4, eo, ek, ek3, b1, b2, cat1, cat2, hD, hsh, catS1, catS2, hEE, eo3, ek1]
            exact fin
        · have eo3 : ((o : Int) ≠ 3) = True := by simp; omega
          obtain ⟨rfl, rfl⟩ := hq3 eo3
          cases h5 : linkN n <;> rw [h5] at hlk
          · have hc := hcl h5
            simp only [c_touchstonelaw09_WalkReal, go_sem, W_cond2, WO_guard3, WE_guard3, WQ_guard3, KB_n, KB_x, Nat.reduceBEq, Nat.reduceAdd, Nat.reduceLT, Nat.reduceLeDiff, Nat.reduceEqDiff, reduceIte, Int.reduceEq, reduceCtorEq, cells4, hq, hm0, W1, l0, pub_cells, hwt, e1, e2, e3, hnew, z0, zz, f1, f2, l1, hlk, hname, a1, a2, a3, a4, eo, ek, ek3, b1, b2, cat1, cat2, hD, hsh, catS1, catS2, hEE, eo3, hC, hc, ek1]
            exact fin
          · simp only [c_touchstonelaw09_WalkReal, go_sem, W_cond2, WO_guard3, WE_guard3, WQ_guard3, KB_n, KB_x, Nat.reduceBEq, Nat.reduceAdd, Nat.reduceLT, Nat.reduceLeDiff, Nat.reduceEqDiff, reduceIte, Int.reduceEq, reduceCtorEq, cells4, hq, hm0, W1, l0, pub_cells, hwt, e1, e2, e3, hnew, z0, zz, f1, f2, l1, hlk, hname, a1, a2, a3, a4, eo, ek, ek3, b1, b2, cat1, cat2, hD, hsh, catS1, catS2, hEE, eo3, ek1]
            exact fin
      · have ek1 : ((k : Int) = 1) = False := F 1 (by omega)
        have ek0 : ((k : Int) = 0) = True := E 0 hk
        have fin := fin0 hk
        by_cases o3 : o = 3
        · have eo3 : ((o : Int) ≠ 3) = False := by simp [o3]
          cases h5 : linkN n <;> rw [h5] at hlk
          · have hc := hcl h5
            simp only [c_touchstonelaw09_WalkReal, go_sem, W_cond2, WO_guard3, WE_guard3, WQ_guard3, KB_n, KB_x, Nat.reduceBEq, Nat.reduceAdd, Nat.reduceLT, Nat.reduceLeDiff, Nat.reduceEqDiff, reduceIte, Int.reduceEq, reduceCtorEq, cells4, hq, hm0, W1, l0, pub_cells, hwt, e1, e2, e3, hnew, z0, zz, f1, f2, l1, hlk, hname, a1, a2, a3, a4, eo, ek, ek3, b1, b2, cat1, cat2, hD, hsh, catS1, catS2, hEE, eo3, hC, hc, ek1, ek0]
            exact fin
          · simp only [c_touchstonelaw09_WalkReal, go_sem, W_cond2, WO_guard3, WE_guard3, WQ_guard3, KB_n, KB_x, Nat.reduceBEq, Nat.reduceAdd, Nat.reduceLT, Nat.reduceLeDiff, Nat.reduceEqDiff, reduceIte, Int.reduceEq, reduceCtorEq, cells4, hq, hm0, W1, l0, pub_cells, hwt, e1, e2, e3, hnew, z0, zz, f1, f2, l1, hlk, hname, a1, a2, a3, a4, eo, ek, ek3, b1, b2, cat1, cat2, hD, hsh, catS1, catS2, hEE, eo3, ek1, ek0]
            exact fin
        · have eo3 : ((o : Int) ≠ 3) = True := by simp; omega
          obtain ⟨rfl, rfl⟩ := hq3 eo3
          cases h5 : linkN n <;> rw [h5] at hlk
          · have hc := hcl h5
            simp only [c_touchstonelaw09_WalkReal, go_sem, W_cond2, WO_guard3, WE_guard3, WQ_guard3, KB_n, KB_x, Nat.reduceBEq, Nat.reduceAdd, Nat.reduceLT, Nat.reduceLeDiff, Nat.reduceEqDiff, reduceIte, Int.reduceEq, reduceCtorEq, cells4, hq, hm0, W1, l0, pub_cells, hwt, e1, e2, e3, hnew, z0, zz, f1, f2, l1, hlk, hname, a1, a2, a3, a4, eo, ek, ek3, b1, b2, cat1, cat2, hD, hsh, catS1, catS2, hEE, eo3, hC, hc, ek1, ek0]
            exact fin
          · simp only [c_touchstonelaw09_WalkReal, go_sem, W_cond2, WO_guard3, WE_guard3, WQ_guard3, KB_n, KB_x, Nat.reduceBEq, Nat.reduceAdd, Nat.reduceLT, Nat.reduceLeDiff, Nat.reduceEqDiff, reduceIte, Int.reduceEq, reduceCtorEq, cells4, hq, hm0, W1, l0, pub_cells, hwt, e1, e2, e3, hnew, z0, zz, f1, f2, l1, hlk, hname, a1, a2, a3, a4, eo, ek, ek3, b1, b2, cat1, cat2, hD, hsh, catS1, catS2, hEE, eo3, ek1, ek0]
            exact fin
      · have ek1 : ((k : Int) = 1) = False := F 1 (by omega)
        have ek0 : ((k : Int) = 0) = False := F 0 (by omega)
        by_cases g3 : R3.e = 61
        · have eg3 : ((R3.e : Int) = 61) = True := by simp only [eq_iff_iff, iff_true]; omega
          by_cases o3 : o = 3
          · have eo3 : ((o : Int) ≠ 3) = False := by simp [o3]
            cases h5 : linkN n <;> rw [h5] at hlk
            · have hc := hcl h5
              simp only [c_touchstonelaw09_WalkReal, go_sem, W_cond2, WO_guard3, WE_guard3, WQ_guard3, KB_n, KB_x, Nat.reduceBEq, Nat.reduceAdd, Nat.reduceLT, Nat.reduceLeDiff, Nat.reduceEqDiff, reduceIte, Int.reduceEq, reduceCtorEq, cells4, hq, hm0, W1, l0, pub_cells, hwt, e1, e2, e3, hnew, z0, zz, f1, f2, l1, hlk, hname, a1, a2, a3, a4, eo, ek, ek3, b1, b2, cat1, cat2, hD, hsh, catS1, catS2, hEE, eo3, hC, hc, ek1, ek0, eg3]
              exact hbr _ _ hov
            · simp only [c_touchstonelaw09_WalkReal, go_sem, W_cond2, WO_guard3, WE_guard3, WQ_guard3, KB_n, KB_x, Nat.reduceBEq, Nat.reduceAdd, Nat.reduceLT, Nat.reduceLeDiff, Nat.reduceEqDiff, reduceIte, Int.reduceEq, reduceCtorEq, cells4, hq, hm0, W1, l0, pub_cells, hwt, e1, e2, e3, hnew, z0, zz, f1, f2, l1, hlk, hname, a1, a2, a3, a4, eo, ek, ek3, b1, b2, cat1, cat2, hD, hsh, catS1, catS2, hEE, eo3, ek1, ek0, eg3]
              exact hbr _ _ hov
          · have eo3 : ((o : Int) ≠ 3) = True := by simp; omega
            obtain ⟨rfl, rfl⟩ := hq3 eo3
            cases h5 : linkN n <;> rw [h5] at hlk
            · have hc := hcl h5
              simp only [c_touchstonelaw09_WalkReal, go_sem, W_cond2, WO_guard3, WE_guard3, WQ_guard3, KB_n, KB_x, Nat.reduceBEq, Nat.reduceAdd, Nat.reduceLT, Nat.reduceLeDiff, Nat.reduceEqDiff, reduceIte, Int.reduceEq, reduceCtorEq, cells4, hq, hm0, W1, l0, pub_cells, hwt, e1, e2, e3, hnew, z0, zz, f1, f2, l1, hlk, hname, a1, a2, a3, a4, eo, ek, ek3, b1, b2, cat1, cat2, hD, hsh, catS1, catS2, hEE, eo3, hC, hc, ek1, ek0, eg3]
              exact hbr _ _ hov
            · simp only [c_touchstonelaw09_WalkReal, go_sem, W_cond2, WO_guard3, WE_guard3, WQ_guard3, KB_n, KB_x, Nat.reduceBEq, Nat.reduceAdd, Nat.reduceLT, Nat.reduceLeDiff, Nat.reduceEqDiff, reduceIte, Int.reduceEq, reduceCtorEq, cells4, hq, hm0, W1, l0, pub_cells, hwt, e1, e2, e3, hnew, z0, zz, f1, f2, l1, hlk, hname, a1, a2, a3, a4, eo, ek, ek3, b1, b2, cat1, cat2, hD, hsh, catS1, catS2, hEE, eo3, ek1, ek0, eg3]
              exact hbr _ _ hov
        · have eg3 : ((R3.e : Int) = 61) = False := by simp only [eq_iff_iff, iff_false]; omega
          by_cases g2 : R2.e = 61
          · have eg2 : ((R2.e : Int) = 61) = True := by simp only [eq_iff_iff, iff_true]; omega
            by_cases o3 : o = 3
            · have eo3 : ((o : Int) ≠ 3) = False := by simp [o3]
              cases h5 : linkN n <;> rw [h5] at hlk
              · have hc := hcl h5
                simp only [c_touchstonelaw09_WalkReal, go_sem, W_cond2, WO_guard3, WE_guard3, WQ_guard3, KB_n, KB_x, Nat.reduceBEq, Nat.reduceAdd, Nat.reduceLT, Nat.reduceLeDiff, Nat.reduceEqDiff, reduceIte, Int.reduceEq, reduceCtorEq, cells4, hq, hm0, W1, l0, pub_cells, hwt, e1, e2, e3, hnew, z0, zz, f1, f2, l1, hlk, hname, a1, a2, a3, a4, eo, ek, ek3, b1, b2, cat1, cat2, hD, hsh, catS1, catS2, hEE, eo3, hC, hc, ek1, ek0, eg3, eg2]
                exact hbr _ _ hov
              · simp only [c_touchstonelaw09_WalkReal, go_sem, W_cond2, WO_guard3, WE_guard3, WQ_guard3, KB_n, KB_x, Nat.reduceBEq, Nat.reduceAdd, Nat.reduceLT, Nat.reduceLeDiff, Nat.reduceEqDiff, reduceIte, Int.reduceEq, reduceCtorEq, cells4, hq, hm0, W1, l0, pub_cells, hwt, e1, e2, e3, hnew, z0, zz, f1, f2, l1, hlk, hname, a1, a2, a3, a4, eo, ek, ek3, b1, b2, cat1, cat2, hD, hsh, catS1, catS2, hEE, eo3, ek1, ek0, eg3, eg2]
                exact hbr _ _ hov
            · have eo3 : ((o : Int) ≠ 3) = True := by simp; omega
              obtain ⟨rfl, rfl⟩ := hq3 eo3
              cases h5 : linkN n <;> rw [h5] at hlk
              · have hc := hcl h5
                simp only [c_touchstonelaw09_WalkReal, go_sem, W_cond2, WO_guard3, WE_guard3, WQ_guard3, KB_n, KB_x, Nat.reduceBEq, Nat.reduceAdd, Nat.reduceLT, Nat.reduceLeDiff, Nat.reduceEqDiff, reduceIte, Int.reduceEq, reduceCtorEq, cells4, hq, hm0, W1, l0, pub_cells, hwt, e1, e2, e3, hnew, z0, zz, f1, f2, l1, hlk, hname, a1, a2, a3, a4, eo, ek, ek3, b1, b2, cat1, cat2, hD, hsh, catS1, catS2, hEE, eo3, hC, hc, ek1, ek0, eg3, eg2]
                exact hbr _ _ hov
              · simp only [c_touchstonelaw09_WalkReal, go_sem, W_cond2, WO_guard3, WE_guard3, WQ_guard3, KB_n, KB_x, Nat.reduceBEq, Nat.reduceAdd, Nat.reduceLT, Nat.reduceLeDiff, Nat.reduceEqDiff, reduceIte, Int.reduceEq, reduceCtorEq, cells4, hq, hm0, W1, l0, pub_cells, hwt, e1, e2, e3, hnew, z0, zz, f1, f2, l1, hlk, hname, a1, a2, a3, a4, eo, ek, ek3, b1, b2, cat1, cat2, hD, hsh, catS1, catS2, hEE, eo3, ek1, ek0, eg3, eg2]
                exact hbr _ _ hov
          · have eg2 : ((R2.e : Int) = 61) = False := by simp only [eq_iff_iff, iff_false]; omega
            have heq := fin2 hk g3 g2
            have eqe : ((R2.e : Int) = (R3.e : Int)) = True := by rw [heq]; simp
            have eqk : ((R2.k : Int) = (R3.k : Int)) = True := by rw [heq]; simp
            have hsm : sameP R2.pl R3.pl = true := by rw [heq]; simp [sameP]
            rw [hsm] at hsame
            by_cases o3 : o = 3
            · have eo3 : ((o : Int) ≠ 3) = False := by simp [o3]
              cases h5 : linkN n <;> rw [h5] at hlk
              · have hc := hcl h5
                simp only [c_touchstonelaw09_WalkReal, go_sem, W_cond2, WO_guard3, WE_guard3, WQ_guard3, KB_n, KB_x, Nat.reduceBEq, Nat.reduceAdd, Nat.reduceLT, Nat.reduceLeDiff, Nat.reduceEqDiff, reduceIte, Int.reduceEq, reduceCtorEq, cells4, hq, hm0, W1, l0, pub_cells, hwt, e1, e2, e3, hnew, z0, zz, f1, f2, l1, hlk, hname, a1, a2, a3, a4, eo, ek, ek3, b1, b2, cat1, cat2, hD, hsh, catS1, catS2, hEE, eo3, hC, hc, ek1, ek0, eg3, eg2, eqe, eqk, hsame]
                exact hbr _ _ hov
              · simp only [c_touchstonelaw09_WalkReal, go_sem, W_cond2, WO_guard3, WE_guard3, WQ_guard3, KB_n, KB_x, Nat.reduceBEq, Nat.reduceAdd, Nat.reduceLT, Nat.reduceLeDiff, Nat.reduceEqDiff, reduceIte, Int.reduceEq, reduceCtorEq, cells4, hq, hm0, W1, l0, pub_cells, hwt, e1, e2, e3, hnew, z0, zz, f1, f2, l1, hlk, hname, a1, a2, a3, a4, eo, ek, ek3, b1, b2, cat1, cat2, hD, hsh, catS1, catS2, hEE, eo3, ek1, ek0, eg3, eg2, eqe, eqk, hsame]
                exact hbr _ _ hov
            · have eo3 : ((o : Int) ≠ 3) = True := by simp; omega
              obtain ⟨rfl, rfl⟩ := hq3 eo3
              cases h5 : linkN n <;> rw [h5] at hlk
              · have hc := hcl h5
                simp only [c_touchstonelaw09_WalkReal, go_sem, W_cond2, WO_guard3, WE_guard3, WQ_guard3, KB_n, KB_x, Nat.reduceBEq, Nat.reduceAdd, Nat.reduceLT, Nat.reduceLeDiff, Nat.reduceEqDiff, reduceIte, Int.reduceEq, reduceCtorEq, cells4, hq, hm0, W1, l0, pub_cells, hwt, e1, e2, e3, hnew, z0, zz, f1, f2, l1, hlk, hname, a1, a2, a3, a4, eo, ek, ek3, b1, b2, cat1, cat2, hD, hsh, catS1, catS2, hEE, eo3, hC, hc, ek1, ek0, eg3, eg2, eqe, eqk, hsame]
                exact hbr _ _ hov
              · simp only [c_touchstonelaw09_WalkReal, go_sem, W_cond2, WO_guard3, WE_guard3, WQ_guard3, KB_n, KB_x, Nat.reduceBEq, Nat.reduceAdd, Nat.reduceLT, Nat.reduceLeDiff, Nat.reduceEqDiff, reduceIte, Int.reduceEq, reduceCtorEq, cells4, hq, hm0, W1, l0, pub_cells, hwt, e1, e2, e3, hnew, z0, zz, f1, f2, l1, hlk, hname, a1, a2, a3, a4, eo, ek, ek3, b1, b2, cat1, cat2, hD, hsh, catS1, catS2, hEE, eo3, ek1, ek0, eg3, eg2, eqe, eqk, hsame]
                exact hbr _ _ hov
end Go.Proofs.YtkkfjoiffcmpeaaDoor
