/-
  Steps.
-/
import Derived.Test.YtfaodjpibdhdjaaDoorLPathG
import Derived.Test.YtfaodjpibdhdjaaDoorAmPrim
import Derived.Test.YtfaodjpibdhdjaaDoorAmLaw
import Derived.KernelRfl
set_option linter.all false
set_option linter.unusedVariables false
set_option linter.unusedSimpArgs false
set_option linter.unusedSectionVars false
set_option maxRecDepth 100000
set_option linter.unusedSimpArgs false
set_option linter.constructorNameAsVariable false
namespace Go.Proofs.YtfaodjpibdhdjaaDoor
open Go.Proofs.YtfaodjpibdhdjaaDoor.Am

theorem refs_s' : ∀ L : List (List Nat), AV.refs.go (L.map AV.s) = false
  | [] => rfl
  | x :: L => by simp only [List.map_cons, AV.refs.go, AV.refs, Bool.false_or]; exact refs_s' L
theorem wkM_s' : ∀ L : List (List Nat), wkM .id (L.map AV.s) = L.map AV.s
  | [] => by simp [wkM]
  | x :: L => by simp only [List.map_cons, wkM, wk, wkM_s' L]

abbrev apA : C := subC c_slices_AppendSeq_string_string.body [1, 0, 1, 0, 0]
abbrev apC : C := subC c_slices_AppendSeq_string_string.body [1, 0, 1, 0, 1]

def AI (L : List (List Nat)) (s : St) (k ido : Nat) (e : Tr) (j : Nat) (q : St) : Prop :=
  q.box? k = some (.loop 0 none e [7] apA apC) ∧ RP 1 (k + 1) s.nt s.nt 9 22 ido ((L.take j).map .s) q ∧ (j = 0 → q.box? ido = some (.cells 22 [.nsl]))

theorem apBody {L : List (List Nat)} {s : St} {k ido : Nat} {e : Tr} (hido : ido < k) (hs : s.nb ≤ ido) (hl : L.length < 2 ^ 37) (g2 : e.get 2 = .p ido 0) :
    Body prog (fun _ => False) s (k + 1) s.nt (.yld k) (L.map .s) (AI L s k ido e) (fun _ => False) where
  stab := fun j q q' ⟨h1, h2, h3⟩ f => ⟨by rw [f.box k (by omega) (by simp)]; exact h1, h2.fr (by omega) (by simp) f, fun hj => by rw [f.box ido (by omega) (by simp)]; exact h3 hj⟩
  stab0 := fun q q' h f => ⟨by rw [f.box k (by omega) (by simp)]; exact h.1, h.2.1.fr0 (fun a k' h1 h2 => by rw [h.2.2 rfl] at h1; cases h1; simp [rowTok] at h2) (by omega) (by simp) f, fun hj => by rw [f.box ido (by omega) (by simp)]; exact h.2.2 hj⟩
  stabR := fun _ _ h _ => h
  step := by
    intro j hj q ⟨hk, hI, _⟩ hov hw hh ht
    have hj' : j < L.length := by simpa using hj
    have hLj : (L.map AV.s)[j] = .s L[j] := by simp
    rw [hLj]
    obtain ⟨x, hx⟩ : ∃ x, L[j] = x := ⟨_, rfl⟩
    rw [hx]
    have hst : L.take (j + 1) = L.take j ++ [x] := by rw [List.take_succ_eq_append_getElem hj', hx]
    have hylen : (L.take j).length ≤ L.length := by simp; omega
    obtain ⟨Y, hY⟩ : ∃ Y, L.take j = Y := ⟨_, rfl⟩
    rw [hY] at hI hst hylen
    obtain ⟨q1, hq1⟩ : ∃ q1, q.setBox k (.loop 1 none e [7] apA apC) = q1 := ⟨_, rfl⟩
    have w1 : Wf q1 := by rw [← hq1]; exact hw.setBox _ _
    have nb1 : q1.nb = q.nb ∧ q1.nt = q.nt ∧ q1.lo = q.lo := by rw [← hq1]; exact ⟨rfl, rfl, rfl⟩
    have bx1 : ∀ i, q1.box? i = if i = k then some (.loop 1 none e [7] apA apC) else q.box? i := fun i => by rw [← hq1]; exact setBox_box? hw.b (by omega) i
    have ov1 : Over s q1 := by rw [← hq1]; exact Over.setBox hov (by omega) (by omega) _
    obtain ⟨a, hb, hr, htok⟩ := hI
    have hb1 : q1.box? ido = some (.cells 22 [a]) := by rw [bx1, if_neg (by omega)]; exact hb
    have hr1 : RowP 1 s.nt q1 9 a (Y.map .s) := hr.mono (by omega) fun k _ => by rw [← hq1]; rfl
    have lda := ld_box (s := q1) (v := a) (off := 0) hb1 rfl
    have b1k := bx1 k
    rw [if_pos rfl] at b1k
    have hel : elems q1 1 (.sl 1 [.s x] .full) = some [.s x] := by simp [elems, St.ok]
    have al : allLen 1 [AV.s x] = true := rfl
    obtain ⟨a', q2, e2, hr2, hg, href, hc⟩ := app_rowP w1 (by omega) hr1 hel (by simp) (by simp; omega)
    have hm : Y.map AV.s ++ [AV.s x] = (Y ++ [x]).map .s := by simp
    rw [hm] at hr2
    obtain ⟨q3, e3, r3, nb3, nt3, w3, bx3, ov3⟩ := RP.store (h := k + 1) (tB := s.nt) hb1 hg hr2 hc href w1 (by omega) (by omega)
    have b3k : q3.box? k = some (.loop 1 none e [7] apA apC) := by rw [bx3 k (by omega)]; exact b1k
    have hfin : ∀ e' : Tr, YK k (RoundK (fun _ => False) (k + 1) s q (AI L s k ido e (j + 1)) (fun _ => False)) .n e' q3 := fun e' => by
      refine round_end b3k (by omega) w3 (ov3 s hs (Nat.le_refl _) (by omega) ov1) (by omega) (by omega) (by omega) (by simp) (fun i hi hlt => by have hi' : k + 1 ≤ i := hi.resolve_left id; rw [bx3 i (by omega), bx1, if_neg (by omega)]) (fun _ => ⟨?_, ?_, fun hh => by simp at hh⟩) (fun hh => by simp at hh) (fun i hh => by simp at hh)
      · rw [setBox_box? w3.b (by omega), if_pos rfl]
      · rw [hst]
        exact r3.fr (O := fun i => i = k) (by omega) (show ¬ (ido = k) by omega) (Fr.setBox (O := fun i => i = k) (tB := s.nt) (h := k + 1) (id := k) w3 (by omega) (.inr rfl) (by omega) _)
    refine round_step ?_
    refine callY_W (t := e.set 10 7 (.s x)) hk rfl ?_
    simp only [apA, c_slices_AppendSeq_string_string, subC, W_seq, W_reg, W_cond, W_blk, W_skip, W_exit, W_ret, W_regD, WO_nil, WO_cons, WO_guard2, wantV_b, bq_tt, bq_ft, bq_tf, bq_ff, Bool.not_true, Bool.not_false, WD_nil, WD_cons, WD_guard2, WS_some, WS_none, KS_n, KS_x, KS_r, KB_n, KB_x, KB_r, KN_ap, KO_ap, KD_ap, KC_nil, KF_n, KF_r, KG_n, KG_r, KL_n, KL_x, KL_r, CP_true, CP_false, evOp, evX, X.ev, optX, put_some, put_none, get_set2, sel_t, sel_f, Nat.reduceBEq, Nat.reduceAdd, Nat.reduceLT, Nat.reduceLeDiff, Nat.reduceEqDiff, reduceIte, if_true, if_false, bi_add, bi_sub, bi_mul, bi_eql, bi_neq, bi_lss, bi_leq, bi_gtr, bi_geq, bs_eql, bs_neq, bs_lss, Am.unOp, ret1, pubL, pubC_agg, pubC_s, pubC_i, pubC_b, pubC_p, pubC_np, pubC_nsl, pubC_ws, pubC_full, pubC_shut, pubC_fn, pubA, initT, wkZ, wk, wants, resOf, tupOf, quiet, AOp.cls, Nat.beq_eq, Bool.or_eq_true, decide_true, decide_false, beq_self_eq_true, Bool.true_or, Bool.or_true, true_and, and_true, lenA, eqv, eqB, eqP, scal, new_box_self, List.getElem?_cons_zero, List.getElem?_cons_succ, key_ii, key_ss, findM, updM, esc_i, esc_s, esc_b, Int.reduceEq, ret1, new_nb, new_set, reduceCtorEq, Bool.xor_true, Bool.xor_false, Bool.false_eq_true, List.all_cons, List.all_nil, noTok, Bool.and_self, Bool.and_true, Bool.true_and, or_true, false_or]
    refine ⟨_, _, _, _, hk, ?_⟩
    rw [hq1]
    have hz : a = .nsl ∨ ∃ k v, a = .sl 1 (Y.map .s) (.tok k v) := by
      rcases hr with ⟨rfl, _⟩ | ⟨k, v, t, rfl, _⟩
      · exact .inl rfl
      · exact .inr ⟨k, v, rfl⟩
    rcases hz with rfl | ⟨k', v, rfl⟩ <;>
      (simp only [apC, c_slices_AppendSeq_string_string, subC, W_seq, W_reg, W_cond, W_blk, W_skip, W_exit, W_ret, W_regD, WO_nil, WO_cons, WO_guard2, wantV_b, bq_tt, bq_ft, bq_tf, bq_ff, Bool.not_true, Bool.not_false, WD_nil, WD_cons, WD_guard2, WS_some, WS_none, KS_n, KS_x, KS_r, KB_n, KB_x, KB_r, KN_ap, KO_ap, KD_ap, KC_nil, KF_n, KF_r, KG_n, KG_r, KL_n, KL_x, KL_r, CP_true, CP_false, evOp, evX, X.ev, optX, put_some, put_none, get_set2, sel_t, sel_f, Nat.reduceBEq, Nat.reduceAdd, Nat.reduceLT, Nat.reduceLeDiff, Nat.reduceEqDiff, reduceIte, if_true, if_false, bi_add, bi_sub, bi_mul, bi_eql, bi_neq, bi_lss, bi_leq, bi_gtr, bi_geq, bs_eql, bs_neq, bs_lss, Am.unOp, ret1, pubL, pubC_agg, pubC_s, pubC_i, pubC_b, pubC_p, pubC_np, pubC_nsl, pubC_ws, pubC_full, pubC_shut, pubC_fn, pubA, initT, wkZ, wk, wants, resOf, tupOf, quiet, AOp.cls, Nat.beq_eq, Bool.or_eq_true, decide_true, decide_false, beq_self_eq_true, Bool.true_or, Bool.or_true, true_and, and_true, lenA, eqv, eqB, eqP, scal, new_box_self, List.getElem?_cons_zero, List.getElem?_cons_succ, key_ii, key_ss, findM, updM, esc_i, esc_s, esc_b, Int.reduceEq, ret1, new_nb, new_set, reduceCtorEq, Bool.xor_true, Bool.xor_false, Bool.false_eq_true, List.all_cons, List.all_nil, noTok, Bool.and_self, Bool.and_true, Bool.true_and, or_true, false_or, g2, Nat.zero_add, lda, al, e2, e3]
       exact hfin _)

theorem appendSeq_ok {L : List (List Nat)} (hl : L.length < 2 ^ 37) {g : Nat} {caps : List AV} {s : St} (hw : Wf s) (hit : ∀ q, (∀ i, i < s.nb → q.box? i = s.box? i) → s.nb ≤ q.nb → IterOk prog (fun _ => False) q.nb g caps (L.map .s) q) :
    ∃ r s', (lim prog).call f_slices_AppendSeq_string_string [.nsl, .fn g caps] s = some (r, s') ∧ s' = s ∧ ((r = .nsl ∧ L = []) ∨ r = .sl 1 (L.map .s) .shut) := by
  refine fn_G (Post := fun r s' => s' = s ∧ ((r = .nsl ∧ L = []) ∨ r = .sl 1 (L.map .s) .shut)) p_slices_AppendSeq_string_string rfl rfl ?_
  obtain ⟨q2, hq2⟩ : ∃ q2, s.enter.new (.cells 22 [.nsl]) = q2 := ⟨_, rfl⟩
  have w2 : Wf q2 := by rw [← hq2]; exact hw.enter.new _
  have n2 : q2.nb = s.nb + 1 ∧ q2.nt = s.nt ∧ q2.lo = s.nb := by rw [← hq2]; exact ⟨rfl, rfl, rfl⟩
  have ov2 : Over s q2 := by rw [← hq2]; exact (Over.enter s).new _
  have bo2 : q2.box? s.nb = some (.cells 22 [.nsl]) := by rw [← hq2]; exact new_box_self s.enter _
  have bx2 : ∀ i, i < s.nb → q2.box? i = s.box? i := fun i hi => by rw [← hq2]; exact new_box_lt (s := s.enter) hi
  have hnb : s.enter.nb = s.nb := rfl
  have c1 : AV.nsl.cells = [.nsl] := rfl
  have hl1 : ∀ a : AV, [a].length = 1 := fun _ => rfl
  simp only [c_slices_AppendSeq_string_string, W_seq, W_reg, W_cond, W_blk, W_skip, W_exit, W_ret, W_regD, WO_nil, WO_cons, WO_guard2, wantV_b, bq_tt, bq_ft, bq_tf, bq_ff, Bool.not_true, Bool.not_false, WD_nil, WD_cons, WD_guard2, WS_some, WS_none, KS_n, KS_x, KS_r, KB_n, KB_x, KB_r, KN_ap, KO_ap, KD_ap, KC_nil, KF_n, KF_r, KG_n, KG_r, KL_n, KL_x, KL_r, CP_true, CP_false, evOp, evX, X.ev, optX, put_some, put_none, get_set2, sel_t, sel_f, Nat.reduceBEq, Nat.reduceAdd, Nat.reduceLT, Nat.reduceLeDiff, Nat.reduceEqDiff, reduceIte, if_true, if_false, bi_add, bi_sub, bi_mul, bi_eql, bi_neq, bi_lss, bi_leq, bi_gtr, bi_geq, bs_eql, bs_neq, bs_lss, Am.unOp, ret1, pubL, pubC_agg, pubC_s, pubC_i, pubC_b, pubC_p, pubC_np, pubC_nsl, pubC_ws, pubC_full, pubC_shut, pubC_fn, pubA, initT, wkZ, wk, wants, resOf, tupOf, quiet, AOp.cls, Nat.beq_eq, Bool.or_eq_true, decide_true, decide_false, beq_self_eq_true, Bool.true_or, Bool.or_true, true_and, and_true, lenA, eqv, eqB, eqP, scal, new_box_self, List.getElem?_cons_zero, List.getElem?_cons_succ, key_ii, key_ss, findM, updM, esc_i, esc_s, esc_b, Int.reduceEq, ret1, new_nb, new_set, reduceCtorEq, Bool.xor_true, Bool.xor_false, Bool.false_eq_true, List.all_cons, List.all_nil, noTok, Bool.and_self, Bool.and_true, Bool.true_and, or_true, false_or, hnb, c1, hl1, hq2]
  refine W_cut (fun e => e.get 2 = .p s.nb 0 ∧ e.get 6 = .fn g caps) ⟨by simp only [W_seq, W_reg, W_cond, W_blk, W_skip, W_exit, W_ret, W_regD, WO_nil, WO_cons, WO_guard2, wantV_b, bq_tt, bq_ft, bq_tf, bq_ff, Bool.not_true, Bool.not_false, WD_nil, WD_cons, WD_guard2, WS_some, WS_none, KS_n, KS_x, KS_r, KB_n, KB_x, KB_r, KN_ap, KO_ap, KD_ap, KC_nil, KF_n, KF_r, KG_n, KG_r, KL_n, KL_x, KL_r, CP_true, CP_false, evOp, evX, X.ev, optX, put_some, put_none, get_set2, sel_t, sel_f, Nat.reduceBEq, Nat.reduceAdd, Nat.reduceLT, Nat.reduceLeDiff, Nat.reduceEqDiff, reduceIte, if_true, if_false, bi_add, bi_sub, bi_mul, bi_eql, bi_neq, bi_lss, bi_leq, bi_gtr, bi_geq, bs_eql, bs_neq, bs_lss, Am.unOp, ret1, pubL, pubC_agg, pubC_s, pubC_i, pubC_b, pubC_p, pubC_np, pubC_nsl, pubC_ws, pubC_full, pubC_shut, pubC_fn, pubA, initT, wkZ, wk, wants, resOf, tupOf, quiet, AOp.cls, Nat.beq_eq, Bool.or_eq_true, decide_true, decide_false, beq_self_eq_true, Bool.true_or, Bool.or_true, true_and, and_true, lenA, eqv, eqB, eqP, scal, new_box_self, List.getElem?_cons_zero, List.getElem?_cons_succ, key_ii, key_ss, findM, updM, esc_i, esc_s, esc_b, Int.reduceEq, ret1, new_nb, new_set, reduceCtorEq, Bool.xor_true, Bool.xor_false, Bool.false_eq_true, List.all_cons, List.all_nil, noTok, Bool.and_self, Bool.and_true, Bool.true_and, or_true, false_or], by simp only [W_seq, W_reg, W_cond, W_blk, W_skip, W_exit, W_ret, W_regD, WO_nil, WO_cons, WO_guard2, wantV_b, bq_tt, bq_ft, bq_tf, bq_ff, Bool.not_true, Bool.not_false, WD_nil, WD_cons, WD_guard2, WS_some, WS_none, KS_n, KS_x, KS_r, KB_n, KB_x, KB_r, KN_ap, KO_ap, KD_ap, KC_nil, KF_n, KF_r, KG_n, KG_r, KL_n, KL_x, KL_r, CP_true, CP_false, evOp, evX, X.ev, optX, put_some, put_none, get_set2, sel_t, sel_f, Nat.reduceBEq, Nat.reduceAdd, Nat.reduceLT, Nat.reduceLeDiff, Nat.reduceEqDiff, reduceIte, if_true, if_false, bi_add, bi_sub, bi_mul, bi_eql, bi_neq, bi_lss, bi_leq, bi_gtr, bi_geq, bs_eql, bs_neq, bs_lss, Am.unOp, ret1, pubL, pubC_agg, pubC_s, pubC_i, pubC_b, pubC_p, pubC_np, pubC_nsl, pubC_ws, pubC_full, pubC_shut, pubC_fn, pubA, initT, wkZ, wk, wants, resOf, tupOf, quiet, AOp.cls, Nat.beq_eq, Bool.or_eq_true, decide_true, decide_false, beq_self_eq_true, Bool.true_or, Bool.or_true, true_and, and_true, lenA, eqv, eqB, eqP, scal, new_box_self, List.getElem?_cons_zero, List.getElem?_cons_succ, key_ii, key_ss, findM, updM, esc_i, esc_s, esc_b, Int.reduceEq, ret1, new_nb, new_set, reduceCtorEq, Bool.xor_true, Bool.xor_false, Bool.false_eq_true, List.all_cons, List.all_nil, noTok, Bool.and_self, Bool.and_true, Bool.true_and, or_true, false_or]⟩ ?_
  rintro e ⟨g2, g6⟩
  obtain ⟨q3, hq3⟩ : ∃ q3, q2.new (.loop 0 none e [7] apA apC) = q3 := ⟨_, rfl⟩
  have w3 : Wf q3 := by rw [← hq3]; exact w2.new _
  have n3 : q3.nb = s.nb + 2 ∧ q3.nt = s.nt := by rw [← hq3]; exact ⟨by show q2.nb + 1 = _; omega, n2.2.1⟩
  have ov3 : Over s q3 := by rw [← hq3]; exact ov2.new _
  have bx3 : ∀ i, i < q2.nb → q3.box? i = q2.box? i := fun i hi => by rw [← hq3]; exact new_box_lt hi
  have bk3 : q3.box? q2.nb = some (.loop 0 none e [7] apA apC) := by rw [← hq3]; exact new_box_self _ _
  obtain ⟨q4, hc4, ov4, w4, n4, t4, hI4⟩ := hit q3 (fun i hi => by rw [bx3 i (by omega), bx2 i hi]) (by omega) s (q2.nb + 1) s.nt q2.nb _ _
    (apBody (k := q2.nb) (ido := s.nb) (e := e) (by omega) (Nat.le_refl _) hl g2)
    ⟨bk3, ⟨.nsl, by rw [bx3 _ (by omega)]; exact bo2, .inl ⟨rfl, rfl⟩, fun k hk => by simp [rowTok] at hk⟩, fun _ => by rw [bx3 _ (by omega)]; exact bo2⟩ ov3 w3 (by omega) (by omega) (by omega) (by omega)
  rw [← hq3] at hc4
  refine W_rf g6 hc4 ?_
  rcases hI4 with ⟨k1, ⟨a, k2, k3, k4⟩, _⟩ | h
  · refine ⟨_, _, _, _, _, _, k1, by decide, ?_⟩
    have b5 : (q4.setBox q2.nb .used).box? s.nb = some (.cells 22 [a]) := by rw [setBox_box? w4.b (by omega), if_neg (by omega)]; exact k2
    have lda := ld_box (s := q4.setBox q2.nb .used) (v := a) (off := 0) b5 rfl
    have ov5 : Over s (q4.setBox q2.nb .used) := Over.setBox ov4 (by omega) (by omega) _
    have w5 : Wf (q4.setBox q2.nb .used) := w4.setBox _ _
    rw [List.length_map, List.take_length] at k3
    rcases k3 with ⟨rfl, h⟩ | ⟨k, vv, t, rfl, m1, m2, m3, m4, m5, m6, m7⟩
    · have h : L = [] := by simpa using h
      simp only [W_seq, W_reg, W_cond, W_blk, W_skip, W_exit, W_ret, W_regD, WO_nil, WO_cons, WO_guard2, wantV_b, bq_tt, bq_ft, bq_tf, bq_ff, Bool.not_true, Bool.not_false, WD_nil, WD_cons, WD_guard2, WS_some, WS_none, KS_n, KS_x, KS_r, KB_n, KB_x, KB_r, KN_ap, KO_ap, KD_ap, KC_nil, KF_n, KF_r, KG_n, KG_r, KL_n, KL_x, KL_r, CP_true, CP_false, evOp, evX, X.ev, optX, put_some, put_none, get_set2, sel_t, sel_f, Nat.reduceBEq, Nat.reduceAdd, Nat.reduceLT, Nat.reduceLeDiff, Nat.reduceEqDiff, reduceIte, if_true, if_false, bi_add, bi_sub, bi_mul, bi_eql, bi_neq, bi_lss, bi_leq, bi_gtr, bi_geq, bs_eql, bs_neq, bs_lss, Am.unOp, ret1, pubL, pubC_agg, pubC_s, pubC_i, pubC_b, pubC_p, pubC_np, pubC_nsl, pubC_ws, pubC_full, pubC_shut, pubC_fn, pubA, initT, wkZ, wk, wants, resOf, tupOf, quiet, AOp.cls, Nat.beq_eq, Bool.or_eq_true, decide_true, decide_false, beq_self_eq_true, Bool.true_or, Bool.or_true, true_and, and_true, lenA, eqv, eqB, eqP, scal, new_box_self, List.getElem?_cons_zero, List.getElem?_cons_succ, key_ii, key_ss, findM, updM, esc_i, esc_s, esc_b, Int.reduceEq, ret1, new_nb, new_set, reduceCtorEq, Bool.xor_true, Bool.xor_false, Bool.false_eq_true, List.all_cons, List.all_nil, noTok, Bool.and_self, Bool.and_true, Bool.true_and, or_true, false_or, g2, lda, Nat.zero_add, frz]
      exact ⟨_, _, rfl, ov5.leave rfl, .inl ⟨rfl, h⟩⟩
    · have m3' : (q4.setBox q2.nb .used).tok? k = some t := m3
      simp only [W_seq, W_reg, W_cond, W_blk, W_skip, W_exit, W_ret, W_regD, WO_nil, WO_cons, WO_guard2, wantV_b, bq_tt, bq_ft, bq_tf, bq_ff, Bool.not_true, Bool.not_false, WD_nil, WD_cons, WD_guard2, WS_some, WS_none, KS_n, KS_x, KS_r, KB_n, KB_x, KB_r, KN_ap, KO_ap, KD_ap, KC_nil, KF_n, KF_r, KG_n, KG_r, KL_n, KL_x, KL_r, CP_true, CP_false, evOp, evX, X.ev, optX, put_some, put_none, get_set2, sel_t, sel_f, Nat.reduceBEq, Nat.reduceAdd, Nat.reduceLT, Nat.reduceLeDiff, Nat.reduceEqDiff, reduceIte, if_true, if_false, bi_add, bi_sub, bi_mul, bi_eql, bi_neq, bi_lss, bi_leq, bi_gtr, bi_geq, bs_eql, bs_neq, bs_lss, Am.unOp, ret1, pubL, pubC_agg, pubC_s, pubC_i, pubC_b, pubC_p, pubC_np, pubC_nsl, pubC_ws, pubC_full, pubC_shut, pubC_fn, pubA, initT, wkZ, wk, wants, resOf, tupOf, quiet, AOp.cls, Nat.beq_eq, Bool.or_eq_true, decide_true, decide_false, beq_self_eq_true, Bool.true_or, Bool.or_true, true_and, and_true, lenA, eqv, eqB, eqP, scal, new_box_self, List.getElem?_cons_zero, List.getElem?_cons_succ, key_ii, key_ss, findM, updM, esc_i, esc_s, esc_b, Int.reduceEq, ret1, new_nb, new_set, reduceCtorEq, Bool.xor_true, Bool.xor_false, Bool.false_eq_true, List.all_cons, List.all_nil, noTok, Bool.and_self, Bool.and_true, Bool.true_and, or_true, false_or, g2, lda, Nat.zero_add, frz, pub, m3', m4]
      exact ⟨_, _, rfl, (Over.setTok ov5 m1 m2 _).leave (by simp only [tupOf, AV.refs]; exact refs_s' _), .inr rfl⟩
  · exact h.elim

theorem collect_ok {L : List (List Nat)} (hl : L.length < 2 ^ 37) {g : Nat} {caps : List AV} {s : St} (hw : Wf s) (hit : ∀ q, (∀ i, i < s.nb → q.box? i = s.box? i) → s.nb ≤ q.nb → IterOk prog (fun _ => False) q.nb g caps (L.map .s) q) :
    (lim prog).call f_slices_Collect_string [.fn g caps] s = some (tx L, s) := by
  refine fn_W p_slices_Collect_string rfl rfl ?_
  obtain ⟨r, s', h, rfl, hr⟩ := appendSeq_ok (s := s.enter) hl hw.enter hit
  rcases hr with ⟨rfl, rfl⟩ | rfl
  · simp only [c_slices_Collect_string, W_seq, W_reg, W_cond, W_blk, W_skip, W_exit, W_ret, W_regD, WO_nil, WO_cons, WO_guard2, wantV_b, bq_tt, bq_ft, bq_tf, bq_ff, Bool.not_true, Bool.not_false, WD_nil, WD_cons, WD_guard2, WS_some, WS_none, KS_n, KS_x, KS_r, KB_n, KB_x, KB_r, KN_ap, KO_ap, KD_ap, KC_nil, KF_n, KF_r, KG_n, KG_r, KL_n, KL_x, KL_r, CP_true, CP_false, evOp, evX, X.ev, optX, put_some, put_none, get_set2, sel_t, sel_f, Nat.reduceBEq, Nat.reduceAdd, Nat.reduceLT, Nat.reduceLeDiff, Nat.reduceEqDiff, reduceIte, if_true, if_false, bi_add, bi_sub, bi_mul, bi_eql, bi_neq, bi_lss, bi_leq, bi_gtr, bi_geq, bs_eql, bs_neq, bs_lss, Am.unOp, ret1, pubL, pubC_agg, pubC_s, pubC_i, pubC_b, pubC_p, pubC_np, pubC_nsl, pubC_ws, pubC_full, pubC_shut, pubC_fn, pubA, initT, wkZ, wk, wants, resOf, tupOf, quiet, AOp.cls, Nat.beq_eq, Bool.or_eq_true, decide_true, decide_false, beq_self_eq_true, Bool.true_or, Bool.or_true, true_and, and_true, lenA, eqv, eqB, eqP, scal, new_box_self, List.getElem?_cons_zero, List.getElem?_cons_succ, key_ii, key_ss, findM, updM, esc_i, esc_s, esc_b, Int.reduceEq, ret1, new_nb, new_set, reduceCtorEq, Bool.xor_true, Bool.xor_false, Bool.false_eq_true, List.all_cons, List.all_nil, noTok, Bool.and_self, Bool.and_true, Bool.true_and, or_true, false_or, h, frz]
    exact KR_some (Over.enter s) rfl rfl
  · simp only [c_slices_Collect_string, W_seq, W_reg, W_cond, W_blk, W_skip, W_exit, W_ret, W_regD, WO_nil, WO_cons, WO_guard2, wantV_b, bq_tt, bq_ft, bq_tf, bq_ff, Bool.not_true, Bool.not_false, WD_nil, WD_cons, WD_guard2, WS_some, WS_none, KS_n, KS_x, KS_r, KB_n, KB_x, KB_r, KN_ap, KO_ap, KD_ap, KC_nil, KF_n, KF_r, KG_n, KG_r, KL_n, KL_x, KL_r, CP_true, CP_false, evOp, evX, X.ev, optX, put_some, put_none, get_set2, sel_t, sel_f, Nat.reduceBEq, Nat.reduceAdd, Nat.reduceLT, Nat.reduceLeDiff, Nat.reduceEqDiff, reduceIte, if_true, if_false, bi_add, bi_sub, bi_mul, bi_eql, bi_neq, bi_lss, bi_leq, bi_gtr, bi_geq, bs_eql, bs_neq, bs_lss, Am.unOp, ret1, pubL, pubC_agg, pubC_s, pubC_i, pubC_b, pubC_p, pubC_np, pubC_nsl, pubC_ws, pubC_full, pubC_shut, pubC_fn, pubA, initT, wkZ, wk, wants, resOf, tupOf, quiet, AOp.cls, Nat.beq_eq, Bool.or_eq_true, decide_true, decide_false, beq_self_eq_true, Bool.true_or, Bool.or_true, true_and, and_true, lenA, eqv, eqB, eqP, scal, new_box_self, List.getElem?_cons_zero, List.getElem?_cons_succ, key_ii, key_ss, findM, updM, esc_i, esc_s, esc_b, Int.reduceEq, ret1, new_nb, new_set, reduceCtorEq, Bool.xor_true, Bool.xor_false, Bool.false_eq_true, List.all_cons, List.all_nil, noTok, Bool.and_self, Bool.and_true, Bool.true_and, or_true, false_or, h, frz]
    refine KR_some (Over.enter s) (by simp only [tupOf, AV.refs]; exact refs_s' _) ?_
    simp only [tupOf, wkZ]
    rw [wk]
    simp only [Nat.beq_eq, if_true, wkM_s', Nat.beq_refl]

theorem pathSteps_ok (l : List Nat) (hl : Txt l) (hlen : l.length < 2 ^ 36) (s : St) (hw : Wf s) : (lim prog).call f_path_Steps [.s l] s = some (tx (stepsL l), s) := by
  refine fn_W p_path_Steps rfl rfl ?_
  have hst := steps_ok l s.enter
  obtain ⟨q, hq⟩ : ∃ q, ({ s.enter.new (.cells 9 [.s l]) with lo := min s.enter.lo s.enter.nb } : St) = q := ⟨_, rfl⟩
  rw [hq] at hst
  have w1 : Wf q := by rw [← hq]; exact (hw.enter.new _).lo _
  have ov : Over s q := by rw [← hq]; exact Over.setLo ((Over.enter s).new _) (by show s.nb ≤ min s.nb s.nb; omega)
  have nq : q.nb = s.nb + 1 := by rw [← hq]; rfl
  have bq : q.box? s.nb = some (.cells 9 [.s l]) := by rw [← hq]; exact new_box_self s.enter _
  have hnb : s.enter.nb = s.nb := rfl
  have hc := collect_ok (L := stepsL l) (by have := stepsL_len l; omega) w1 (g := f_path_steps_1) (caps := [.p s.nb 0]) fun q' h1 h2 => stepsIter (O := fun _ => False) (m := q'.nb) hl (s := q') (a := s.nb) (by rw [h1 _ (by omega)]; exact bq) (by omega)
  simp only [c_path_Steps, W_seq, W_reg, W_cond, W_blk, W_skip, W_exit, W_ret, W_regD, WO_nil, WO_cons, WO_guard2, wantV_b, bq_tt, bq_ft, bq_tf, bq_ff, Bool.not_true, Bool.not_false, WD_nil, WD_cons, WD_guard2, WS_some, WS_none, KS_n, KS_x, KS_r, KB_n, KB_x, KB_r, KN_ap, KO_ap, KD_ap, KC_nil, KF_n, KF_r, KG_n, KG_r, KL_n, KL_x, KL_r, CP_true, CP_false, evOp, evX, X.ev, optX, put_some, put_none, get_set2, sel_t, sel_f, Nat.reduceBEq, Nat.reduceAdd, Nat.reduceLT, Nat.reduceLeDiff, Nat.reduceEqDiff, reduceIte, if_true, if_false, bi_add, bi_sub, bi_mul, bi_eql, bi_neq, bi_lss, bi_leq, bi_gtr, bi_geq, bs_eql, bs_neq, bs_lss, Am.unOp, ret1, pubL, pubC_agg, pubC_s, pubC_i, pubC_b, pubC_p, pubC_np, pubC_nsl, pubC_ws, pubC_full, pubC_shut, pubC_fn, pubA, initT, wkZ, wk, wants, resOf, tupOf, quiet, AOp.cls, Nat.beq_eq, Bool.or_eq_true, decide_true, decide_false, beq_self_eq_true, Bool.true_or, Bool.or_true, true_and, and_true, lenA, eqv, eqB, eqP, scal, new_box_self, List.getElem?_cons_zero, List.getElem?_cons_succ, key_ii, key_ss, findM, updM, esc_i, esc_s, esc_b, Int.reduceEq, ret1, new_nb, new_set, reduceCtorEq, Bool.xor_true, Bool.xor_false, Bool.false_eq_true, List.all_cons, List.all_nil, noTok, Bool.and_self, Bool.and_true, Bool.true_and, or_true, false_or, hst, hnb, hc]
  exact KR_some ov (by simp only [tupOf, AV.refs]; exact refs_s' _) (by simp only [tupOf, wkZ]; rw [wk])
end Go.Proofs.YtfaodjpibdhdjaaDoor

/-
  The order of places: plain facts.
-/
set_option maxRecDepth 100000
namespace Go.Proofs.YtfaodjpibdhdjaaDoor
open Go.Proofs.YtfaodjpibdhdjaaDoor.Am

theorem ltN_irrefl : ∀ a : List Nat, ltN a a = false
  | [] => rfl
  | a :: l => by
    have : Nat.blt a a = false := by rw [Bool.eq_false_iff]; intro h; rw [Nat.blt_eq] at h; omega
    simp [ltN, ltN_irrefl l, this]
theorem ltN_trans : ∀ {a b c : List Nat}, ltN a b = true → ltN b c = true → ltN a c = true
  | [], [], _, h, _ => by simp [ltN] at h
  | _ :: _, [], _, h, _ => by simp [ltN] at h
  | _, _ :: _, [], _, h => by simp [ltN] at h
  | [], _ :: _, _ :: _, _, _ => rfl
  | a :: x, b :: y, c :: z, h1, h2 => by
    simp only [ltN, Bool.or_eq_true, Bool.and_eq_true, Nat.blt_eq, Nat.beq_eq] at h1 h2 ⊢
    rcases h1 with h1 | ⟨h1, h3⟩
    · rcases h2 with h2 | ⟨h2, _⟩
      · left; omega
      · left; omega
    · rcases h2 with h2 | ⟨h2, h4⟩
      · left; omega
      · right; exact ⟨by omega, ltN_trans h3 h4⟩
theorem ltN_tri : ∀ {a b : List Nat}, ltN a b = false → a ≠ b → ltN b a = true
  | [], [], _, h => absurd rfl h
  | [], _ :: _, h, _ => by simp [ltN] at h
  | _ :: _, [], _, _ => rfl
  | a :: x, b :: y, h, hn => by
    have h' : ¬ (ltN (a :: x) (b :: y) = true) := by simp [h]
    simp only [ltN, Bool.or_eq_true, Bool.and_eq_true, Nat.blt_eq, Nat.beq_eq] at h' ⊢
    by_cases hab : a = b
    · subst hab
      right
      refine ⟨rfl, ltN_tri (by cases hx : ltN x y with | false => rfl | true => exact absurd (.inr ⟨rfl, hx⟩) h') fun hh => hn (by rw [hh])⟩
    · left
      have : ¬ a < b := fun hh => h' (.inl hh)
      omega

theorem cmpS_zero {a b : List Nat} : cmpS a b = 0 ↔ a = b := by
  unfold cmpS
  by_cases h : ltN a b = true
  · simp only [if_pos h]
    refine ⟨fun hh => by omega, fun hh => ?_⟩
    subst hh; rw [ltN_irrefl] at h; cases h
  · simp only [if_neg h]
    by_cases he : a = b <;> simp [he]
theorem cmpS_neg {a b : List Nat} : cmpS a b < 0 ↔ ltN a b = true := by
  unfold cmpS
  by_cases h : ltN a b = true
  · simp [h]
  · simp only [if_neg h, iff_false]
    by_cases he : a = b
    · subst he; simp [ltN_irrefl]
    · simp [he, h]
theorem cmpS_pos {a b : List Nat} : 0 < cmpS a b ↔ ltN b a = true := by
  unfold cmpS
  by_cases h : ltN a b = true
  · simp only [if_pos h]
    refine ⟨fun hh => by omega, fun hh => ?_⟩
    have := ltN_trans h hh; rw [ltN_irrefl] at this; cases this
  · simp only [if_neg h]
    by_cases he : a = b
    · subst he; simp [ltN_irrefl]
    · simp only [if_neg he]
      refine ⟨fun _ => ltN_tri (by simpa using h) he, fun _ => by omega⟩

theorem cmpT_zero : ∀ {L M : List (List Nat)}, cmpT L M = 0 ↔ L = M
  | [], [] => by simp [cmpT]
  | [], _ :: _ => by simp [cmpT]
  | _ :: _, [] => by simp [cmpT]
  | a :: L, b :: M => by
    simp only [cmpT]
    by_cases h : cmpS a b = 0
    · rw [if_pos h, cmpT_zero, cmpS_zero.1 h]; simp
    · rw [if_neg h]
      refine ⟨fun hh => absurd hh h, fun hh => ?_⟩
      cases hh; exact absurd (cmpS_zero.2 rfl) h
theorem cmpT_anti : ∀ {L M : List (List Nat)}, (cmpT L M < 0 ↔ 0 < cmpT M L)
  | [], [] => by simp [cmpT]
  | [], _ :: _ => by simp [cmpT]
  | _ :: _, [] => by simp [cmpT]
  | a :: L, b :: M => by
    simp only [cmpT]
    by_cases h : cmpS a b = 0
    · have := cmpS_zero.1 h
      subst this
      rw [if_pos h, if_pos h, cmpT_anti]
    · have h2 : ¬ cmpS b a = 0 := fun hh => h (cmpS_zero.2 (cmpS_zero.1 hh).symm)
      rw [if_neg h, if_neg h2, cmpS_neg, cmpS_pos]
theorem cmpT_trans : ∀ {L M N : List (List Nat)}, cmpT L M < 0 → cmpT M N < 0 → cmpT L N < 0
  | [], [], _, h, _ => by simp [cmpT] at h
  | _ :: _, [], _, h, _ => by simp [cmpT] at h
  | _, _ :: _, [], _, h => by simp [cmpT] at h
  | [], _ :: _, _ :: _, _, _ => by simp [cmpT]
  | a :: L, b :: M, c :: N, h1, h2 => by
    simp only [cmpT] at h1 h2 ⊢
    by_cases e1 : cmpS a b = 0
    · rw [if_pos e1] at h1
      have := cmpS_zero.1 e1
      subst this
      by_cases e2 : cmpS a c = 0
      · rw [if_pos e2] at h2 ⊢; exact cmpT_trans h1 h2
      · rw [if_neg e2] at h2 ⊢; exact h2
    · rw [if_neg e1] at h1
      by_cases e2 : cmpS b c = 0
      · have := cmpS_zero.1 e2
        subst this
        rw [if_neg e1]; exact h1
      · rw [if_neg e2] at h2
        have h3 := ltN_trans (cmpS_neg.1 h1) (cmpS_neg.1 h2)
        have h4 := cmpS_neg.2 h3
        rw [if_neg (by omega)]; exact h4
theorem und_trans {L M N : List (List Nat)} (h1 : undP L M = true) (h2 : undP M N = true) : undP L N = true := by
  simp only [undP, decide_eq_true_eq] at h1 h2 ⊢
  have := und_len h1
  have h3 : (N.take M.length).take L.length = N.take L.length := by rw [List.take_take]; congr 1; omega
  rw [← h3, h2, h1]
theorem und_cmp : ∀ {L N : List (List Nat)}, N.take L.length = L → ¬ cmpT N L < 0
  | [], [], _ => by simp [cmpT]
  | [], _ :: _, _ => by simp [cmpT]
  | _ :: _, [], h => by simp at h
  | a :: L, b :: N, h => by
    simp only [List.length_cons, List.take_succ_cons, List.cons.injEq] at h
    obtain ⟨rfl, h⟩ := h
    simp only [cmpT, if_pos (cmpS_zero.2 rfl)]
    exact und_cmp h

theorem less_irrefl (L : List (List Nat)) : lessP L L = false := by simp [lessP, cmpT_zero.2]
theorem less_trans {L M N : List (List Nat)} (h1 : lessP L M = true) (h2 : lessP M N = true) : lessP L N = true := by
  simp only [lessP, decide_eq_true_eq] at *
  exact cmpT_trans h1 h2
theorem less_tri (L M : List (List Nat)) : (lessP L M = true ∧ lessP M L = false ∧ sameP L M = false) ∨ (lessP L M = false ∧ lessP M L = true ∧ sameP L M = false) ∨ (lessP L M = false ∧ lessP M L = false ∧ sameP L M = true) := by
  have h1 := @cmpT_anti L M
  have h2 := @cmpT_anti M L
  have h3 := @cmpT_zero L M
  simp only [lessP, sameP, decide_eq_true_eq, decide_eq_false_iff_not]
  by_cases h : L = M
  · have := h3.2 h
    subst h
    right; right
    exact ⟨by omega, by omega, rfl⟩
  · have hz : ¬ cmpT L M = 0 := fun hh => h (h3.1 hh)
    by_cases hl : cmpT L M < 0
    · left; exact ⟨hl, by have := h1.1 hl; omega, h⟩
    · right; left
      have : cmpT M L < 0 := h2.2 (by omega)
      exact ⟨hl, this, h⟩
theorem und_less {L N : List (List Nat)} (h : undP L N = true) : lessP N L = false := by
  simp only [undP, decide_eq_true_eq] at h
  simp only [lessP, decide_eq_false_iff_not]
  exact und_cmp h
end Go.Proofs.YtfaodjpibdhdjaaDoor

/-
  Places as paths.
-/
set_option maxRecDepth 100000
set_option linter.unusedSimpArgs false
namespace Go.Proofs.YtfaodjpibdhdjaaDoor
open Go.Proofs.YtfaodjpibdhdjaaDoor.Am

def rows (L : List (List Nat)) : List Nat := L.flatMap fun x => 47 :: x
def showP (L : List (List Nat)) : List Nat := if L = [] then [47] else rows L

theorem rows_join : ∀ {L : List (List Nat)}, L ≠ [] → rows L = 47 :: joinN [47] L
  | [], h => absurd rfl h
  | [a], _ => by simp [rows, joinN]
  | a :: b :: L, _ => by
    have ih := rows_join (L := b :: L) (by simp)
    simp only [rows, List.flatMap_cons] at ih ⊢
    rw [ih]
    simp [joinN]

theorem rows_len {n : Nat} : ∀ {L : List (List Nat)}, (∀ x ∈ L, x.length ≤ n) → (rows L).length ≤ L.length * (n + 1)
  | [], _ => by simp [rows]
  | a :: L, h => by
    have ih := rows_len (n := n) (L := L) fun x hx => h x (List.mem_cons_of_mem _ hx)
    have ha := h a (by simp)
    simp only [rows, List.flatMap_cons, List.length_append, List.length_cons] at ih ⊢
    rw [Nat.add_mul (L.length) 1 (n + 1)]
    omega

theorem bs_add_of {x y : List Nat} (h : x.length + y.length < 2 ^ 62) : Am.binOp .add (.s x) (.s y) = some (.s (x ++ y)) := by rw [bs_add, if_pos h]

/-- A short place. -/
structure Sh (L : List (List Nat)) : Prop where
  n : L.length ≤ 100
  l : ∀ x ∈ L, x.length ≤ 500

theorem join_ok {L : List (List Nat)} (h : Sh L) (s : St) : (lim prog).call f_strings_Join [tx L, .s [47]] s = some (.s (joinN [47] L), s) := by
  refine prim_call (p := primJoin) p_strings_Join rfl ?_
  have hl : (joinN [47] L).length ≤ 2 ^ 47 := by
    by_cases hn : L = []
    · subst hn; simp [joinN]
    · have h1 := rows_len h.l
      rw [rows_join hn] at h1
      have := Nat.mul_le_mul_right 501 h.n
      simp only [List.length_cons] at h1
      omega
  simp only [primJoin, txtsOf, txtL_tx]
  rw [if_pos ⟨by have := h.n; omega, hl⟩]

theorem show_ok {L : List (List Nat)} (h : Sh L) (s : St) : (lim prog).call f_path_Show [tx L] s = some (.s (showP L), s) := by
  refine fn_W p_path_Show rfl rfl ?_
  by_cases hn : L = []
  · subst hn
    simp only [c_path_Show, W_seq, W_reg, W_cond, W_blk, W_skip, W_exit, W_ret, W_regD, WO_nil, WO_cons, WO_guard2, wantV_b, bq_tt, bq_ft, bq_tf, bq_ff, Bool.not_true, Bool.not_false, WD_nil, WD_cons, WD_guard2, WS_some, WS_none, KS_n, KS_x, KS_r, KB_n, KB_x, KB_r, KN_ap, KO_ap, KD_ap, KC_nil, KF_n, KF_r, KG_n, KG_r, KL_n, KL_x, KL_r, CP_true, CP_false, evOp, evX, X.ev, optX, put_some, put_none, get_set2, sel_t, sel_f, Nat.reduceBEq, Nat.reduceAdd, Nat.reduceLT, Nat.reduceLeDiff, Nat.reduceEqDiff, reduceIte, if_true, if_false, bi_add, bi_sub, bi_mul, bi_eql, bi_neq, bi_lss, bi_leq, bi_gtr, bi_geq, bs_eql, bs_neq, bs_lss, Am.unOp, ret1, pubL, pub, pubA, initT, wkZ, wk, wants, resOf, tupOf, quiet, AOp.cls, Nat.beq_eq, Bool.or_eq_true, decide_true, decide_false, beq_self_eq_true, Bool.true_or, Bool.or_true, true_and, and_true, lenA, eqv, eqB, eqP, scal, new_box_self, List.getElem?_cons_zero, List.getElem?_cons_succ, key_ii, key_ss, findM, updM, esc_i, esc_s, esc_b, Int.reduceEq, ret1, new_nb, new_set, reduceCtorEq, Bool.xor_true, Bool.xor_false, Bool.false_eq_true, List.all_cons, List.all_nil, noTok, Bool.and_self, Bool.and_true, Bool.true_and, List.map_nil, List.length_nil, ofNat_len, Int.ofNat_zero]
    exact KR_some (Over.enter s) rfl rfl
  · have h1 := rows_len h.l
    rw [rows_join hn] at h1
    have := Nat.mul_le_mul_right 501 h.n
    simp only [List.length_cons] at h1
    have hadd := bs_add_of (x := [47]) (y := joinN [47] L) (by simp; omega)
    have hl : ¬ (Int.ofNat L.length = 0) := by
      cases L with
      | nil => exact absurd rfl hn
      | cons a L => simp; omega
    simp only [c_path_Show, W_seq, W_reg, W_cond, W_blk, W_skip, W_exit, W_ret, W_regD, WO_nil, WO_cons, WO_guard2, wantV_b, bq_tt, bq_ft, bq_tf, bq_ff, Bool.not_true, Bool.not_false, WD_nil, WD_cons, WD_guard2, WS_some, WS_none, KS_n, KS_x, KS_r, KB_n, KB_x, KB_r, KN_ap, KO_ap, KD_ap, KC_nil, KF_n, KF_r, KG_n, KG_r, KL_n, KL_x, KL_r, CP_true, CP_false, evOp, evX, X.ev, optX, put_some, put_none, get_set2, sel_t, sel_f, Nat.reduceBEq, Nat.reduceAdd, Nat.reduceLT, Nat.reduceLeDiff, Nat.reduceEqDiff, reduceIte, if_true, if_false, bi_add, bi_sub, bi_mul, bi_eql, bi_neq, bi_lss, bi_leq, bi_gtr, bi_geq, bs_eql, bs_neq, bs_lss, Am.unOp, ret1, pubL, pub, pubA, initT, wkZ, wk, wants, resOf, tupOf, quiet, AOp.cls, Nat.beq_eq, Bool.or_eq_true, decide_true, decide_false, beq_self_eq_true, Bool.true_or, Bool.or_true, true_and, and_true, lenA, eqv, eqB, eqP, scal, new_box_self, List.getElem?_cons_zero, List.getElem?_cons_succ, key_ii, key_ss, findM, updM, esc_i, esc_s, esc_b, Int.reduceEq, ret1, new_nb, new_set, reduceCtorEq, Bool.xor_true, Bool.xor_false, Bool.false_eq_true, List.all_cons, List.all_nil, noTok, Bool.and_self, Bool.and_true, Bool.true_and, List.length_map, join_ok h, hadd, decide_eq_false hl]
    refine KR_some (Over.enter s) rfl ?_
    simp [tupOf, wkZ, wk, showP, hn, rows_join hn]

theorem sh_of {L : List (List Nat)} (h : longP L = false) : Sh L := by
  simp only [longP, Bool.or_eq_false_iff, decide_eq_false_iff_not, List.any_eq_false, decide_eq_true_eq] at h
  exact ⟨by omega, fun x hx => by have := h.2 x hx; omega⟩

end Go.Proofs.YtfaodjpibdhdjaaDoor

/-
  The plain law of PathCleans.
-/
set_option maxRecDepth 100000
set_option linter.unusedSimpArgs false
namespace Go.Proofs.YtfaodjpibdhdjaaDoor
open Go.Proofs.YtfaodjpibdhdjaaDoor.Am

theorem segs_app : ∀ (a cur b : List Nat), segs cur (a ++ 47 :: b) = segs cur a ++ segs [] b
  | [], cur, b => by simp [segs]
  | c :: a, cur, b => by
    show (if c = 47 then cur :: segs [] (a ++ 47 :: b) else segs (cur ++ [c]) (a ++ 47 :: b)) = (if c = 47 then cur :: segs [] a else segs (cur ++ [c]) a) ++ segs [] b
    by_cases h : c = 47
    · rw [if_pos h, if_pos h, segs_app a [] b]; rfl
    · rw [if_neg h, if_neg h, segs_app a _ b]
theorem split_app (a b : List Nat) : splitL (a ++ 47 :: b) = splitL a ++ splitL b := segs_app a [] b
theorem steps_app (a b : List Nat) : stepsL (a ++ 47 :: b) = stepsL a ++ stepsL b := by
  unfold stepsL
  rw [split_app, List.filter_append]
theorem steps_cons (b : List Nat) : stepsL (47 :: b) = stepsL b := by
  have := steps_app [] b
  simpa [stepsL, splitL, segs, stepOk] using this
theorem steps_dot (b : List Nat) : stepsL (46 :: 47 :: b) = stepsL b := by
  have := steps_app [46] b
  simpa [stepsL, splitL, segs, stepOk] using this
/-- A step that stands alone. -/
structure Stp (x : List Nat) : Prop where
  ok : stepOk x = true
  no : 47 ∉ x
theorem steps_one {x : List Nat} (h : Stp x) : stepsL x = [x] := by
  unfold stepsL
  rw [split_none h.no]
  simp [h.ok]
theorem steps_snoc {x : List Nat} (h : Stp x) (a : List Nat) : stepsL (a ++ 47 :: x) = stepsL a ++ [x] := by rw [steps_app, steps_one h]

theorem segs_mem : ∀ (l cur : List Nat), 47 ∉ cur → ∀ x ∈ segs cur l, 47 ∉ x ∧ x.length ≤ cur.length + l.length ∧ ∀ n ∈ x, n ∈ cur ∨ n ∈ l
  | [], cur, h, x, hx => by
    simp only [segs, List.mem_singleton] at hx
    subst hx
    exact ⟨h, by simp, fun n hn => .inl hn⟩
  | c :: l, cur, h, x, hx => by
    have hx' : x ∈ (if c = 47 then cur :: segs [] l else segs (cur ++ [c]) l) := hx
    by_cases hc : c = 47
    · rw [if_pos hc] at hx'
      rcases List.mem_cons.1 hx' with rfl | hx'
      · exact ⟨h, by omega, fun n hn => .inl hn⟩
      · obtain ⟨h1, h2, h3⟩ := segs_mem l [] (by simp) x hx'
        exact ⟨h1, by simp at h2 ⊢; omega, fun n hn => .inr (by rcases h3 n hn with h | h; simp at h; exact List.mem_cons_of_mem _ h)⟩
    · rw [if_neg hc] at hx'
      obtain ⟨h1, h2, h3⟩ := segs_mem l (cur ++ [c]) (by simp [h, Ne.symm hc]) x hx'
      refine ⟨h1, by simp at h2 ⊢; omega, fun n hn => ?_⟩
      rcases h3 n hn with h | h
      · rcases List.mem_append.1 h with h | h
        · exact .inl h
        · exact .inr (by simp at h; simp [h])
      · exact .inr (List.mem_cons_of_mem _ h)
theorem stepsL_mem {l x : List Nat} (h : x ∈ stepsL l) : Stp x ∧ x.length ≤ l.length ∧ ∀ n ∈ x, n ∈ l := by
  unfold stepsL at h
  obtain ⟨h1, h2⟩ := List.mem_filter.1 h
  obtain ⟨h3, h4, h5⟩ := segs_mem l [] (by simp) x h1
  exact ⟨⟨h2, h3⟩, by simpa using h4, fun n hn => by rcases h5 n hn with h | h; simp at h; exact h⟩

/-! ### The place's path -/
theorem rows_snoc (L : List (List Nat)) (x : List Nat) : rows (L ++ [x]) = rows L ++ 47 :: x := by simp [rows]
theorem steps_rows : ∀ (n : Nat) (L : List (List Nat)), L.length = n → (∀ x ∈ L, Stp x) → stepsL (rows L) = L
  | 0, L, hn, _ => by
    have : L = [] := List.length_eq_zero_iff.1 hn
    subst this; rfl
  | n + 1, L, hn, h => by
    obtain ⟨M, x, rfl⟩ : ∃ M x, L = M ++ [x] := ⟨L.dropLast, L.getLast (by rintro rfl; simp at hn), (List.dropLast_concat_getLast _).symm⟩
    rw [rows_snoc, steps_snoc (h x (by simp)), steps_rows n M (by simpa using hn) fun y hy => h y (by simp [hy])]
theorem foldl_clean : ∀ (L x : List (List Nat)), (∀ w ∈ L, w ≠ [46, 46]) → L.foldl cleanF x = x ++ L
  | [], x, _ => by simp
  | w :: L, x, h => by
    simp only [List.foldl_cons]
    have : cleanF x w = x ++ [w] := by unfold cleanF; rw [if_neg (h w (by simp))]
    rw [this, foldl_clean L _ fun y hy => h y (by simp [hy])]
    simp
theorem name_stp {x : List Nat} (h : nameP x = true) : Stp x ∧ x ≠ [46, 46] := by
  simp only [nameP, Bool.and_eq_true, decide_eq_true_eq, Bool.not_eq_true'] at h
  obtain ⟨h1, h2, h3, h4, h5⟩ := h
  refine ⟨⟨by simp [stepOk, h1, h3], fun hm => ?_⟩, h4⟩
  unfold anyK at h5
  rw [List.any_eq_false] at h5
  exact h5 47 hm (by simp)
theorem clean_show {L : List (List Nat)} (h : ∀ x ∈ L, nameP x = true) : cleanL (showP L) = L := by
  unfold cleanL showP
  by_cases hn : L = []
  · subst hn; rfl
  · rw [if_neg hn, steps_rows _ L rfl fun x hx => (name_stp (h x hx)).1, foldl_clean L [] fun x hx => (name_stp (h x hx)).2]
    rfl
theorem clean_of_steps {a b : List Nat} (h : stepsL a = stepsL b) : cleanL a = cleanL b := by unfold cleanL; rw [h]

/-! ### Ties -/
def dots : Nat → List Nat
  | 0 => [47]
  | n + 1 => dots n ++ [46, 47]
def tieL (t : Nat) : List Nat := dots (t % 4) ++ (if 127 < t then [47] else [])
theorem dots_len : ∀ n, (dots n).length = 1 + 2 * n
  | 0 => rfl
  | n + 1 => by simp only [dots, List.length_append, dots_len n]; simp; omega
theorem tie_len (t : Nat) : (tieL t).length ≤ 8 := by
  unfold tieL
  rw [List.length_append, dots_len]
  split <;> simp <;> omega
theorem steps_dots : ∀ (n : Nat) (a b : List Nat), stepsL (a ++ (dots n ++ b)) = stepsL a ++ stepsL b
  | 0, a, b => by
    show stepsL (a ++ 47 :: b) = _
    exact steps_app a b
  | n + 1, a, b => by
    simp only [dots, List.append_assoc]
    rw [steps_dots n a]
    show stepsL a ++ stepsL (46 :: 47 :: b) = _
    rw [steps_dot]
theorem steps_tie (t : Nat) {x : List Nat} (h : Stp x) (a : List Nat) : stepsL (a ++ tieL t ++ x) = stepsL a ++ [x] := by
  unfold tieL
  rw [List.append_assoc, List.append_assoc, steps_dots]
  congr 1
  split
  · show stepsL (47 :: x) = _
    rw [steps_cons, steps_one h]
  · exact steps_one h
end Go.Proofs.YtfaodjpibdhdjaaDoor

/-
  The law PathCleans on the abstract machine.
-/
set_option maxRecDepth 100000
set_option linter.unusedSimpArgs false
set_option linter.constructorNameAsVariable false
namespace Go.Proofs.YtfaodjpibdhdjaaDoor
open Go.Proofs.YtfaodjpibdhdjaaDoor.Am

theorem awake_run : (run prog 100).call f_touchstonelaw06_awake [] s0 = some (.b true, s0) := by kernel_rfl
theorem awake_ok : (lim prog).call f_touchstonelaw06_awake [] (St.enter s0) = some (.b true, St.enter s0) := lim_call_iff.2 ⟨100, awake_run⟩

abbrev byA (T : List Nat) : AV := .ws false 1 (T.map fun n : Nat => AV.i .u8 (n : Int))
theorem by_get {T : List Nat} {i : Nat} (h : i < T.length) : (T.map fun n : Nat => AV.i .u8 (n : Int))[i]? = some (.i .u8 (T[i] : Int)) := by simp [h]
theorem cells_i (k : IntKind) (n : Int) : (AV.i k n).cells = [.i k n] := rfl

/-- The law's variables. -/
def PX (l : List (List Nat)) (t : List Nat) (T : List Nat) (e : Tr) : Prop := e.get 0 = tx l ∧ e.get 1 = .s t ∧ e.get 2 = byA T

theorem stageA {l : List (List Nat)} {t T : List Nat} (hl : ∀ x ∈ l, Txt x) (hlen : l.length < 2 ^ 62) {q : St} (hw : Wf q) {e : Tr} {Q : Ex → Tr → St → Prop} (hE : PX l t T e) (h7 : e.get 7 = .b true) (h8 : e.get 8 = .i .i64 (0 : Nat))
    (hQ : ∀ e, PX l t T e → e.get 7 = .b (l.all nameP) → Q (.x 0) e q) : W (lim prog) (subC c_touchstonelaw06_PathCleans.body [1, 1, 1, 0, 1, 0]) e q Q := by
  simp only [c_touchstonelaw06_PathCleans, subC]
  refine W_loop (fun n e q' => q = q' ∧ ∃ i : Nat, i + n = l.length ∧ (PX l t T e ∧ e.get 7 = .b ((l.take i).all nameP) ∧ e.get 8 = .i .i64 i)) ?_ l.length _ _ ⟨rfl, 0, by omega, hE, h7, h8⟩
  rintro n e q' ⟨rfl, i, hi, ⟨g0, g1, g2⟩, g7, g8⟩
  simp only [W_seq, W_reg, W_cond, W_blk, W_skip, W_exit, W_ret, W_regD, WO_nil, WO_cons, WO_guard2, wantV_b, bq_tt, bq_ft, bq_tf, bq_ff, Bool.not_true, Bool.not_false, WD_nil, WD_cons, WD_guard2, WS_some, WS_none, KS_n, KS_x, KS_r, KB_n, KB_x, KB_r, KN_ap, KO_ap, KD_ap, KC_nil, KF_n, KF_r, KG_n, KG_r, KL_n, KL_x, KL_r, CP_true, CP_false, evOp, evX, X.ev, optX, put_some, put_none, get_set2, sel_t, sel_f, Nat.reduceBEq, Nat.reduceAdd, Nat.reduceLT, Nat.reduceLeDiff, Nat.reduceEqDiff, reduceIte, if_true, if_false, bi_add, bi_sub, bi_mul, bi_eql, bi_neq, bi_lss, bi_leq, bi_gtr, bi_geq, bs_eql, bs_neq, bs_lss, Am.unOp, ret1, pubL, pubC_agg, pubC_s, pubC_i, pubC_b, pubC_p, pubC_np, pubC_nsl, pubC_ws, pubC_full, pubC_shut, pubC_fn, pubA, initT, wkZ, wk, wants, resOf, tupOf, quiet, AOp.cls, Nat.beq_eq, Bool.or_eq_true, decide_true, decide_false, beq_self_eq_true, Bool.true_or, Bool.or_true, true_and, and_true, lenA, eqv, eqB, eqP, scal, new_box_self, List.getElem?_cons_zero, List.getElem?_cons_succ, key_ii, key_ss, findM, updM, esc_i, esc_s, esc_b, Int.reduceEq, ret1, new_nb, new_set, reduceCtorEq, Bool.xor_true, Bool.xor_false, Bool.false_eq_true, List.all_cons, List.all_nil, noTok, Bool.and_self, Bool.and_true, Bool.true_and, or_true, false_or, g0, g7, g8, List.length_map, ofNat_len]
  refine CP_dec (fun hlt => ?_) (fun hge => ?_)
  · have hlt : i < l.length := by omega
    have hn := name_ok l[i] (hl _ (List.getElem_mem hlt)) q hw
    have hw64 := wrap_succ (show i + 1 < 2 ^ 63 by omega)
    have hall : (l.take (i + 1)).all nameP = ((l.take i).all nameP && nameP l[i]) := by
      rw [List.take_succ_eq_append_getElem hlt, List.all_append]; simp
    cases hb : (l.take i).all nameP with
    | true =>
      rw [hb] at g7 hall
      simp only [W_seq, W_reg, W_cond, W_blk, W_skip, W_exit, W_ret, W_regD, WO_nil, WO_cons, WO_guard2, wantV_b, bq_tt, bq_ft, bq_tf, bq_ff, Bool.not_true, Bool.not_false, WD_nil, WD_cons, WD_guard2, WS_some, WS_none, KS_n, KS_x, KS_r, KB_n, KB_x, KB_r, KN_ap, KO_ap, KD_ap, KC_nil, KF_n, KF_r, KG_n, KG_r, KL_n, KL_x, KL_r, CP_true, CP_false, evOp, evX, X.ev, optX, put_some, put_none, get_set2, sel_t, sel_f, Nat.reduceBEq, Nat.reduceAdd, Nat.reduceLT, Nat.reduceLeDiff, Nat.reduceEqDiff, reduceIte, if_true, if_false, bi_add, bi_sub, bi_mul, bi_eql, bi_neq, bi_lss, bi_leq, bi_gtr, bi_geq, bs_eql, bs_neq, bs_lss, Am.unOp, ret1, pubL, pubC_agg, pubC_s, pubC_i, pubC_b, pubC_p, pubC_np, pubC_nsl, pubC_ws, pubC_full, pubC_shut, pubC_fn, pubA, initT, wkZ, wk, wants, resOf, tupOf, quiet, AOp.cls, Nat.beq_eq, Bool.or_eq_true, decide_true, decide_false, beq_self_eq_true, Bool.true_or, Bool.or_true, true_and, and_true, lenA, eqv, eqB, eqP, scal, new_box_self, List.getElem?_cons_zero, List.getElem?_cons_succ, key_ii, key_ss, findM, updM, esc_i, esc_s, esc_b, Int.reduceEq, ret1, new_nb, new_set, reduceCtorEq, Bool.xor_true, Bool.xor_false, Bool.false_eq_true, List.all_cons, List.all_nil, noTok, Bool.and_self, Bool.and_true, Bool.true_and, or_true, false_or, g0, g1, g2, g7, g8, natOf_nat, tx_get hlt, cells_s, ldA_1, hn, hw64]
      refine ⟨n - 1, by omega, i + 1, by omega, ⟨?_, ?_, ?_⟩, ?_⟩ <;> simp only [W_seq, W_reg, W_cond, W_blk, W_skip, W_exit, W_ret, W_regD, WO_nil, WO_cons, WO_guard2, wantV_b, bq_tt, bq_ft, bq_tf, bq_ff, Bool.not_true, Bool.not_false, WD_nil, WD_cons, WD_guard2, WS_some, WS_none, KS_n, KS_x, KS_r, KB_n, KB_x, KB_r, KN_ap, KO_ap, KD_ap, KC_nil, KF_n, KF_r, KG_n, KG_r, KL_n, KL_x, KL_r, CP_true, CP_false, evOp, evX, X.ev, optX, put_some, put_none, get_set2, sel_t, sel_f, Nat.reduceBEq, Nat.reduceAdd, Nat.reduceLT, Nat.reduceLeDiff, Nat.reduceEqDiff, reduceIte, if_true, if_false, bi_add, bi_sub, bi_mul, bi_eql, bi_neq, bi_lss, bi_leq, bi_gtr, bi_geq, bs_eql, bs_neq, bs_lss, Am.unOp, ret1, pubL, pubC_agg, pubC_s, pubC_i, pubC_b, pubC_p, pubC_np, pubC_nsl, pubC_ws, pubC_full, pubC_shut, pubC_fn, pubA, initT, wkZ, wk, wants, resOf, tupOf, quiet, AOp.cls, Nat.beq_eq, Bool.or_eq_true, decide_true, decide_false, beq_self_eq_true, Bool.true_or, Bool.or_true, true_and, and_true, lenA, eqv, eqB, eqP, scal, new_box_self, List.getElem?_cons_zero, List.getElem?_cons_succ, key_ii, key_ss, findM, updM, esc_i, esc_s, esc_b, Int.reduceEq, ret1, new_nb, new_set, reduceCtorEq, Bool.xor_true, Bool.xor_false, Bool.false_eq_true, List.all_cons, List.all_nil, noTok, Bool.and_self, Bool.and_true, Bool.true_and, or_true, false_or, g0, g1, g2]
      rw [hall]; rfl
    | false =>
      rw [hb] at g7 hall
      simp only [W_seq, W_reg, W_cond, W_blk, W_skip, W_exit, W_ret, W_regD, WO_nil, WO_cons, WO_guard2, wantV_b, bq_tt, bq_ft, bq_tf, bq_ff, Bool.not_true, Bool.not_false, WD_nil, WD_cons, WD_guard2, WS_some, WS_none, KS_n, KS_x, KS_r, KB_n, KB_x, KB_r, KN_ap, KO_ap, KD_ap, KC_nil, KF_n, KF_r, KG_n, KG_r, KL_n, KL_x, KL_r, CP_true, CP_false, evOp, evX, X.ev, optX, put_some, put_none, get_set2, sel_t, sel_f, Nat.reduceBEq, Nat.reduceAdd, Nat.reduceLT, Nat.reduceLeDiff, Nat.reduceEqDiff, reduceIte, if_true, if_false, bi_add, bi_sub, bi_mul, bi_eql, bi_neq, bi_lss, bi_leq, bi_gtr, bi_geq, bs_eql, bs_neq, bs_lss, Am.unOp, ret1, pubL, pubC_agg, pubC_s, pubC_i, pubC_b, pubC_p, pubC_np, pubC_nsl, pubC_ws, pubC_full, pubC_shut, pubC_fn, pubA, initT, wkZ, wk, wants, resOf, tupOf, quiet, AOp.cls, Nat.beq_eq, Bool.or_eq_true, decide_true, decide_false, beq_self_eq_true, Bool.true_or, Bool.or_true, true_and, and_true, lenA, eqv, eqB, eqP, scal, new_box_self, List.getElem?_cons_zero, List.getElem?_cons_succ, key_ii, key_ss, findM, updM, esc_i, esc_s, esc_b, Int.reduceEq, ret1, new_nb, new_set, reduceCtorEq, Bool.xor_true, Bool.xor_false, Bool.false_eq_true, List.all_cons, List.all_nil, noTok, Bool.and_self, Bool.and_true, Bool.true_and, or_true, false_or, g0, g1, g2, g7, g8, natOf_nat, hw64]
      refine ⟨n - 1, by omega, i + 1, by omega, ⟨?_, ?_, ?_⟩, ?_⟩ <;> simp only [W_seq, W_reg, W_cond, W_blk, W_skip, W_exit, W_ret, W_regD, WO_nil, WO_cons, WO_guard2, wantV_b, bq_tt, bq_ft, bq_tf, bq_ff, Bool.not_true, Bool.not_false, WD_nil, WD_cons, WD_guard2, WS_some, WS_none, KS_n, KS_x, KS_r, KB_n, KB_x, KB_r, KN_ap, KO_ap, KD_ap, KC_nil, KF_n, KF_r, KG_n, KG_r, KL_n, KL_x, KL_r, CP_true, CP_false, evOp, evX, X.ev, optX, put_some, put_none, get_set2, sel_t, sel_f, Nat.reduceBEq, Nat.reduceAdd, Nat.reduceLT, Nat.reduceLeDiff, Nat.reduceEqDiff, reduceIte, if_true, if_false, bi_add, bi_sub, bi_mul, bi_eql, bi_neq, bi_lss, bi_leq, bi_gtr, bi_geq, bs_eql, bs_neq, bs_lss, Am.unOp, ret1, pubL, pubC_agg, pubC_s, pubC_i, pubC_b, pubC_p, pubC_np, pubC_nsl, pubC_ws, pubC_full, pubC_shut, pubC_fn, pubA, initT, wkZ, wk, wants, resOf, tupOf, quiet, AOp.cls, Nat.beq_eq, Bool.or_eq_true, decide_true, decide_false, beq_self_eq_true, Bool.true_or, Bool.or_true, true_and, and_true, lenA, eqv, eqB, eqP, scal, new_box_self, List.getElem?_cons_zero, List.getElem?_cons_succ, key_ii, key_ss, findM, updM, esc_i, esc_s, esc_b, Int.reduceEq, ret1, new_nb, new_set, reduceCtorEq, Bool.xor_true, Bool.xor_false, Bool.false_eq_true, List.all_cons, List.all_nil, noTok, Bool.and_self, Bool.and_true, Bool.true_and, or_true, false_or, g0, g1, g2]
      rw [hall]; rfl
  · have hil : i = l.length := by omega
    rw [hil, List.take_length] at g7
    refine hQ _ ⟨?_, ?_, ?_⟩ ?_ <;> simp only [W_seq, W_reg, W_cond, W_blk, W_skip, W_exit, W_ret, W_regD, WO_nil, WO_cons, WO_guard2, wantV_b, bq_tt, bq_ft, bq_tf, bq_ff, Bool.not_true, Bool.not_false, WD_nil, WD_cons, WD_guard2, WS_some, WS_none, KS_n, KS_x, KS_r, KB_n, KB_x, KB_r, KN_ap, KO_ap, KD_ap, KC_nil, KF_n, KF_r, KG_n, KG_r, KL_n, KL_x, KL_r, CP_true, CP_false, evOp, evX, X.ev, optX, put_some, put_none, get_set2, sel_t, sel_f, Nat.reduceBEq, Nat.reduceAdd, Nat.reduceLT, Nat.reduceLeDiff, Nat.reduceEqDiff, reduceIte, if_true, if_false, bi_add, bi_sub, bi_mul, bi_eql, bi_neq, bi_lss, bi_leq, bi_gtr, bi_geq, bs_eql, bs_neq, bs_lss, Am.unOp, ret1, pubL, pubC_agg, pubC_s, pubC_i, pubC_b, pubC_p, pubC_np, pubC_nsl, pubC_ws, pubC_full, pubC_shut, pubC_fn, pubA, initT, wkZ, wk, wants, resOf, tupOf, quiet, AOp.cls, Nat.beq_eq, Bool.or_eq_true, decide_true, decide_false, beq_self_eq_true, Bool.true_or, Bool.or_true, true_and, and_true, lenA, eqv, eqB, eqP, scal, new_box_self, List.getElem?_cons_zero, List.getElem?_cons_succ, key_ii, key_ss, findM, updM, esc_i, esc_s, esc_b, Int.reduceEq, ret1, new_nb, new_set, reduceCtorEq, Bool.xor_true, Bool.xor_false, Bool.false_eq_true, List.all_cons, List.all_nil, noTok, Bool.and_self, Bool.and_true, Bool.true_and, or_true, false_or, g0, g1, g2, g7]

/-- The loop that ties. -/
theorem stageT {T : List Nat} {i : Nat} (hi : i < T.length) {q : St} {e : Tr} {Q : Ex → Tr → St → Prop} (F : Tr → Prop) (hF : ∀ e t v, (t = 13 ∨ t = 14 ∨ (69 ≤ t ∧ t ≤ 80)) → F e → F (e.set 10 t v)) (hE : F e) (g2 : e.get 2 = byA T) (g12 : e.get 12 = .i .i64 i) (g13 : e.get 13 = .s (dots 0)) (g14 : e.get 14 = .i .i64 (0 : Nat)) (hT : T[i] < 256)
    (hQ : ∀ e, F e → e.get 2 = byA T → e.get 12 = .i .i64 i → e.get 13 = .s (dots (T[i] % 4)) → Q (.x 4) e q) : W (lim prog) (subC c_touchstonelaw06_PathCleans.body [1, 1, 1, 1, 1, 1, 1, 0, 1, 0, 0, 1, 0, 0, 1, 1, 0, 1, 0, 0, 1, 0]) e q Q := by
  simp only [c_touchstonelaw06_PathCleans, subC]
  refine W_loop (fun n e q' => q = q' ∧ ∃ k : Nat, k + n = T[i] % 4 ∧ F e ∧ (e.get 2 = byA T ∧ e.get 12 = .i .i64 i ∧ e.get 13 = .s (dots k) ∧ e.get 14 = .i .i64 k)) ?_ (T[i] % 4) _ _ ⟨rfl, 0, by omega, hE, g2, g12, g13, g14⟩
  rintro n e q' ⟨rfl, k, hk, hFe, g2, g12, g13, g14⟩
  have hrem : Am.binOp .rem (.i .u8 (T[i] : Int)) (.i .u8 4) = some (.i .u8 ((T[i] % 4 : Nat) : Int)) := by
    rw [bi_rem, if_neg (by decide)]
    rfl
  have hcv : IntKind.i64.wrap ((T[i] % 4 : Nat) : Int) = ((T[i] % 4 : Nat) : Int) := wrap_nat (by omega)
  simp only [W_seq, W_reg, W_cond, W_blk, W_skip, W_exit, W_ret, W_regD, WO_nil, WO_cons, WO_guard2, wantV_b, bq_tt, bq_ft, bq_tf, bq_ff, Bool.not_true, Bool.not_false, WD_nil, WD_cons, WD_guard2, WS_some, WS_none, KS_n, KS_x, KS_r, KB_n, KB_x, KB_r, KN_ap, KO_ap, KD_ap, KC_nil, KF_n, KF_r, KG_n, KG_r, KL_n, KL_x, KL_r, CP_true, CP_false, evOp, evX, X.ev, optX, put_some, put_none, get_set2, sel_t, sel_f, Nat.reduceBEq, Nat.reduceAdd, Nat.reduceLT, Nat.reduceLeDiff, Nat.reduceEqDiff, reduceIte, if_true, if_false, bi_add, bi_sub, bi_mul, bi_eql, bi_neq, bi_lss, bi_leq, bi_gtr, bi_geq, bs_eql, bs_neq, bs_lss, Am.unOp, ret1, pubL, pubC_agg, pubC_s, pubC_i, pubC_b, pubC_p, pubC_np, pubC_nsl, pubC_ws, pubC_full, pubC_shut, pubC_fn, pubA, initT, wkZ, wk, wants, resOf, tupOf, quiet, AOp.cls, Nat.beq_eq, Bool.or_eq_true, decide_true, decide_false, beq_self_eq_true, Bool.true_or, Bool.or_true, true_and, and_true, lenA, eqv, eqB, eqP, scal, new_box_self, List.getElem?_cons_zero, List.getElem?_cons_succ, key_ii, key_ss, findM, updM, esc_i, esc_s, esc_b, Int.reduceEq, ret1, new_nb, new_set, reduceCtorEq, Bool.xor_true, Bool.xor_false, Bool.false_eq_true, List.all_cons, List.all_nil, noTok, Bool.and_self, Bool.and_true, Bool.true_and, or_true, false_or, g2, g12, g13, g14, natOf_nat, by_get hi, cells_i, ldA_1, hrem, hcv]
  refine CP_dec (fun hlt => ?_) (fun hge => ?_)
  · have hdl := dots_len k
    have hadd := bs_add_of (x := dots k) (y := [46, 47]) (by simp; omega)
    have hw64 := wrap_succ (show k + 1 < 2 ^ 63 by omega)
    simp only [W_seq, W_reg, W_cond, W_blk, W_skip, W_exit, W_ret, W_regD, WO_nil, WO_cons, WO_guard2, wantV_b, bq_tt, bq_ft, bq_tf, bq_ff, Bool.not_true, Bool.not_false, WD_nil, WD_cons, WD_guard2, WS_some, WS_none, KS_n, KS_x, KS_r, KB_n, KB_x, KB_r, KN_ap, KO_ap, KD_ap, KC_nil, KF_n, KF_r, KG_n, KG_r, KL_n, KL_x, KL_r, CP_true, CP_false, evOp, evX, X.ev, optX, put_some, put_none, get_set2, sel_t, sel_f, Nat.reduceBEq, Nat.reduceAdd, Nat.reduceLT, Nat.reduceLeDiff, Nat.reduceEqDiff, reduceIte, if_true, if_false, bi_add, bi_sub, bi_mul, bi_eql, bi_neq, bi_lss, bi_leq, bi_gtr, bi_geq, bs_eql, bs_neq, bs_lss, Am.unOp, ret1, pubL, pubC_agg, pubC_s, pubC_i, pubC_b, pubC_p, pubC_np, pubC_nsl, pubC_ws, pubC_full, pubC_shut, pubC_fn, pubA, initT, wkZ, wk, wants, resOf, tupOf, quiet, AOp.cls, Nat.beq_eq, Bool.or_eq_true, decide_true, decide_false, beq_self_eq_true, Bool.true_or, Bool.or_true, true_and, and_true, lenA, eqv, eqB, eqP, scal, new_box_self, List.getElem?_cons_zero, List.getElem?_cons_succ, key_ii, key_ss, findM, updM, esc_i, esc_s, esc_b, Int.reduceEq, ret1, new_nb, new_set, reduceCtorEq, Bool.xor_true, Bool.xor_false, Bool.false_eq_true, List.all_cons, List.all_nil, noTok, Bool.and_self, Bool.and_true, Bool.true_and, or_true, false_or, g2, g12, g13, g14, hadd, hw64]
    refine ⟨n - 1, by omega, k + 1, by omega, ?_, ?_⟩
    · repeat' first | exact hFe | refine hF _ _ _ (by omega) ?_
    · simp only [W_seq, W_reg, W_cond, W_blk, W_skip, W_exit, W_ret, W_regD, WO_nil, WO_cons, WO_guard2, wantV_b, bq_tt, bq_ft, bq_tf, bq_ff, Bool.not_true, Bool.not_false, WD_nil, WD_cons, WD_guard2, WS_some, WS_none, KS_n, KS_x, KS_r, KB_n, KB_x, KB_r, KN_ap, KO_ap, KD_ap, KC_nil, KF_n, KF_r, KG_n, KG_r, KL_n, KL_x, KL_r, CP_true, CP_false, evOp, evX, X.ev, optX, put_some, put_none, get_set2, sel_t, sel_f, Nat.reduceBEq, Nat.reduceAdd, Nat.reduceLT, Nat.reduceLeDiff, Nat.reduceEqDiff, reduceIte, if_true, if_false, bi_add, bi_sub, bi_mul, bi_eql, bi_neq, bi_lss, bi_leq, bi_gtr, bi_geq, bs_eql, bs_neq, bs_lss, Am.unOp, ret1, pubL, pubC_agg, pubC_s, pubC_i, pubC_b, pubC_p, pubC_np, pubC_nsl, pubC_ws, pubC_full, pubC_shut, pubC_fn, pubA, initT, wkZ, wk, wants, resOf, tupOf, quiet, AOp.cls, Nat.beq_eq, Bool.or_eq_true, decide_true, decide_false, beq_self_eq_true, Bool.true_or, Bool.or_true, true_and, and_true, lenA, eqv, eqB, eqP, scal, new_box_self, List.getElem?_cons_zero, List.getElem?_cons_succ, key_ii, key_ss, findM, updM, esc_i, esc_s, esc_b, Int.reduceEq, ret1, new_nb, new_set, reduceCtorEq, Bool.xor_true, Bool.xor_false, Bool.false_eq_true, List.all_cons, List.all_nil, noTok, Bool.and_self, Bool.and_true, Bool.true_and, or_true, false_or, g2, g12]; rfl
  · have hk4 : k = T[i] % 4 := by omega
    subst hk4
    refine hQ _ ?_ ?_ ?_ ?_
    · repeat' first | exact hFe | refine hF _ _ _ (by omega) ?_
    all_goals simp only [W_seq, W_reg, W_cond, W_blk, W_skip, W_exit, W_ret, W_regD, WO_nil, WO_cons, WO_guard2, wantV_b, bq_tt, bq_ft, bq_tf, bq_ff, Bool.not_true, Bool.not_false, WD_nil, WD_cons, WD_guard2, WS_some, WS_none, KS_n, KS_x, KS_r, KB_n, KB_x, KB_r, KN_ap, KO_ap, KD_ap, KC_nil, KF_n, KF_r, KG_n, KG_r, KL_n, KL_x, KL_r, CP_true, CP_false, evOp, evX, X.ev, optX, put_some, put_none, get_set2, sel_t, sel_f, Nat.reduceBEq, Nat.reduceAdd, Nat.reduceLT, Nat.reduceLeDiff, Nat.reduceEqDiff, reduceIte, if_true, if_false, bi_add, bi_sub, bi_mul, bi_eql, bi_neq, bi_lss, bi_leq, bi_gtr, bi_geq, bs_eql, bs_neq, bs_lss, Am.unOp, ret1, pubL, pubC_agg, pubC_s, pubC_i, pubC_b, pubC_p, pubC_np, pubC_nsl, pubC_ws, pubC_full, pubC_shut, pubC_fn, pubA, initT, wkZ, wk, wants, resOf, tupOf, quiet, AOp.cls, Nat.beq_eq, Bool.or_eq_true, decide_true, decide_false, beq_self_eq_true, Bool.true_or, Bool.or_true, true_and, and_true, lenA, eqv, eqB, eqP, scal, new_box_self, List.getElem?_cons_zero, List.getElem?_cons_succ, key_ii, key_ss, findM, updM, esc_i, esc_s, esc_b, Int.reduceEq, ret1, new_nb, new_set, reduceCtorEq, Bool.xor_true, Bool.xor_false, Bool.false_eq_true, List.all_cons, List.all_nil, noTok, Bool.and_self, Bool.and_true, Bool.true_and, or_true, false_or, g2, g12, g13]

def PB (l : List (List Nat)) (t T : List Nat) (st : List (List Nat)) (one two : List Nat) (i : Nat) (e : Tr) : Prop := PX l t T e ∧ e.get 9 = tx st ∧ e.get 10 = .s one ∧ e.get 11 = .s two ∧ e.get 12 = .i .i64 i

theorem PB_set {l : List (List Nat)} {t T : List Nat} {st : List (List Nat)} {one two : List Nat} {i : Nat} (e : Tr) (j : Nat) (v : AV) (hj : j = 13 ∨ j = 14 ∨ (69 ≤ j ∧ j ≤ 80)) (h : PB l t T st one two i e) : PB l t T st one two i (e.set 10 j v) := by
  obtain ⟨⟨h0, h1, h2⟩, h9, h10, h11, h12⟩ := h
  have k : ∀ m, m ≤ 12 → (e.set 10 j v).get m = e.get m := fun m hm => by rw [get_set 10 e j v (by omega), if_neg (by omega)]
  exact ⟨⟨by rw [k 0 (by omega)]; exact h0, by rw [k 1 (by omega)]; exact h1, by rw [k 2 (by omega)]; exact h2⟩, by rw [k 9 (by omega)]; exact h9, by rw [k 10 (by omega)]; exact h10, by rw [k 11 (by omega)]; exact h11, by rw [k 12 (by omega)]; exact h12⟩

set_option maxHeartbeats 8000000 in
theorem stageB {l : List (List Nat)} {t T : List Nat} {st : List (List Nat)} (hst : ∀ x ∈ st, Stp x ∧ x.length ≤ 2000 ∧ ∀ n ∈ x, n < 256) (hlen : st.length ≤ 2001) (hTl : T.length < 2 ^ 63) (hT : ∀ n ∈ T, n < 256) {q : St} {e : Tr} {Q : Ex → Tr → St → Prop} (hE : PB l t T st [] [46] 0 e)
    (hQ : ∀ e two, PX l t T e → e.get 10 = .s (rows st) → e.get 11 = .s two → stepsL two = st → two.length ≤ 1 + st.length * 2008 → (∀ n ∈ two, n < 256) → Q (.x 2) e q) : W (lim prog) (subC c_touchstonelaw06_PathCleans.body [1, 1, 1, 1, 1, 1, 1, 0, 1, 0]) e q Q := by
  simp only [c_touchstonelaw06_PathCleans, subC]
  refine W_loop (fun n e q' => q = q' ∧ ∃ (i : Nat) (two : List Nat), i + n = st.length ∧ PB l t T st (rows (st.take i)) two i e ∧ stepsL two = st.take i ∧ two.length ≤ 1 + i * 2008 ∧ ∀ n ∈ two, n < 256) ?_ st.length _ _ ⟨rfl, 0, [46], by omega, hE, rfl, by simp, by simp⟩
  rintro n e q' ⟨rfl, i, two, hi, hPB, hs2, hl2, hb2⟩
  obtain ⟨⟨g0, g1, g2⟩, g9, g10, g11, g12⟩ := hPB
  simp only [W_seq, W_reg, W_cond, W_blk, W_skip, W_exit, W_ret, W_regD, WO_nil, WO_cons, WO_guard2, wantV_b, bq_tt, bq_ft, bq_tf, bq_ff, Bool.not_true, Bool.not_false, WD_nil, WD_cons, WD_guard2, WS_some, WS_none, KS_n, KS_x, KS_r, KB_n, KB_x, KB_r, KN_ap, KO_ap, KD_ap, KC_nil, KF_n, KF_r, KG_n, KG_r, KL_n, KL_x, KL_r, CP_true, CP_false, evOp, evX, X.ev, optX, put_some, put_none, get_set2, sel_t, sel_f, Nat.reduceBEq, Nat.reduceAdd, Nat.reduceLT, Nat.reduceLeDiff, Nat.reduceEqDiff, reduceIte, if_true, if_false, bi_add, bi_sub, bi_mul, bi_eql, bi_neq, bi_lss, bi_leq, bi_gtr, bi_geq, bs_eql, bs_neq, bs_lss, Am.unOp, ret1, pubL, pubC_agg, pubC_s, pubC_i, pubC_b, pubC_p, pubC_np, pubC_nsl, pubC_ws, pubC_full, pubC_shut, pubC_fn, pubA, initT, wkZ, wk, wants, resOf, tupOf, quiet, AOp.cls, Nat.beq_eq, Bool.or_eq_true, decide_true, decide_false, beq_self_eq_true, Bool.true_or, Bool.or_true, true_and, and_true, lenA, eqv, eqB, eqP, scal, new_box_self, List.getElem?_cons_zero, List.getElem?_cons_succ, key_ii, key_ss, findM, updM, esc_i, esc_s, esc_b, Int.reduceEq, ret1, new_nb, new_set, reduceCtorEq, Bool.xor_true, Bool.xor_false, Bool.false_eq_true, List.all_cons, List.all_nil, noTok, Bool.and_self, Bool.and_true, Bool.true_and, or_true, false_or, g9, g12, List.length_map, ofNat_len]
  refine CP_dec (fun hlt => ?_) (fun hge => ?_)
  · have hlt : i < st.length := by omega
    obtain ⟨hx1, hx2, hx3⟩ := hst _ (List.getElem_mem hlt)
    obtain ⟨x, hx⟩ : ∃ x, st[i] = x := ⟨_, rfl⟩
    rw [hx] at hx1 hx2 hx3
    have hget := tx_get hlt
    rw [hx] at hget
    have hrl := rows_len (n := 2000) (L := st.take i) fun y hy => (hst y (List.mem_of_mem_take hy)).2.1
    have htl : (st.take i).length * 2001 ≤ 2001 * 2001 := Nat.mul_le_mul_right _ (by simp; omega)
    have hi2 : i * 2008 ≤ 2001 * 2008 := Nat.mul_le_mul_right _ (by omega)
    have a1 := bs_add_of (x := rows (st.take i)) (y := [47]) (by simp; omega)
    have a2 := bs_add_of (x := rows (st.take i) ++ [47]) (y := x) (by simp; omega)
    have hone : rows (st.take i) ++ [47] ++ x = rows (st.take (i + 1)) := by
      rw [List.take_succ_eq_append_getElem hlt, rows_snoc, hx]; simp
    have hw64 := wrap_succ (show i + 1 < 2 ^ 63 by omega)
    have hfin : ∀ ti e', PX l t T e' → e'.get 9 = tx st → e'.get 10 = .s (rows (st.take (i + 1))) → e'.get 11 = .s (two ++ tieL ti ++ x) → e'.get 12 = .i .i64 ((i + 1 : Nat) : Int) → ti < 256 →
        ∃ m, m < n ∧ ∃ (i' : Nat) (two' : List Nat), i' + m = st.length ∧ PB l t T st (rows (st.take i')) two' i' e' ∧ stepsL two' = st.take i' ∧ two'.length ≤ 1 + i' * 2008 ∧ ∀ n ∈ two', n < 256 := fun ti e' k1 k2 k3 k4 k5 k6 => by
      refine ⟨n - 1, by omega, i + 1, two ++ tieL ti ++ x, by omega, ⟨k1, k2, k3, k4, k5⟩, ?_, ?_, ?_⟩
      · rw [steps_tie ti hx1, hs2, List.take_succ_eq_append_getElem hlt, hx]
      · have := tie_len ti
        simp only [List.length_append]; omega
      · intro n hn
        rcases List.mem_append.1 hn with hn | hn
        · rcases List.mem_append.1 hn with hn | hn
          · exact hb2 n hn
          · have hd : ∀ m, ∀ n ∈ dots m, n < 256 := by
              intro m
              induction m with
              | zero => intro n hn; simp [dots] at hn; omega
              | succ m ih =>
                intro n hn
                simp only [dots, List.mem_append, List.mem_cons, List.not_mem_nil, or_false] at hn
                rcases hn with hn | hn | hn
                · exact ih n hn
                · omega
                · omega
            unfold tieL at hn
            rcases List.mem_append.1 hn with hn | hn
            · exact hd _ n hn
            · split at hn
              · simp at hn; omega
              · simp at hn
        · exact hx3 n hn
    have hdt : ∀ ti, (tieL ti).length ≤ 8 := tie_len
    by_cases hTi : i < T.length
    · have hTi' : ((i : Int) < (T.length : Int)) = True := by simp; omega
      have hT256 := hT _ (List.getElem_mem hTi)
      have a3 := bs_add_of (x := two) (y := tieL T[i]) (by have := hdt T[i]; omega)
      have a4 := bs_add_of (x := two ++ tieL T[i]) (y := x) (by have := hdt T[i]; simp; omega)
      simp only [W_seq, W_reg, W_cond, W_blk, W_skip, W_exit, W_ret, W_regD, WO_nil, WO_cons, WO_guard2, wantV_b, bq_tt, bq_ft, bq_tf, bq_ff, Bool.not_true, Bool.not_false, WD_nil, WD_cons, WD_guard2, WS_some, WS_none, KS_n, KS_x, KS_r, KB_n, KB_x, KB_r, KN_ap, KO_ap, KD_ap, KC_nil, KF_n, KF_r, KG_n, KG_r, KL_n, KL_x, KL_r, CP_true, CP_false, evOp, evX, X.ev, optX, put_some, put_none, get_set2, sel_t, sel_f, Nat.reduceBEq, Nat.reduceAdd, Nat.reduceLT, Nat.reduceLeDiff, Nat.reduceEqDiff, reduceIte, if_true, if_false, bi_add, bi_sub, bi_mul, bi_eql, bi_neq, bi_lss, bi_leq, bi_gtr, bi_geq, bs_eql, bs_neq, bs_lss, Am.unOp, ret1, pubL, pubC_agg, pubC_s, pubC_i, pubC_b, pubC_p, pubC_np, pubC_nsl, pubC_ws, pubC_full, pubC_shut, pubC_fn, pubA, initT, wkZ, wk, wants, resOf, tupOf, quiet, AOp.cls, Nat.beq_eq, Bool.or_eq_true, decide_true, decide_false, beq_self_eq_true, Bool.true_or, Bool.or_true, true_and, and_true, lenA, eqv, eqB, eqP, scal, new_box_self, List.getElem?_cons_zero, List.getElem?_cons_succ, key_ii, key_ss, findM, updM, esc_i, esc_s, esc_b, Int.reduceEq, ret1, new_nb, new_set, reduceCtorEq, Bool.xor_true, Bool.xor_false, Bool.false_eq_true, List.all_cons, List.all_nil, noTok, Bool.and_self, Bool.and_true, Bool.true_and, or_true, false_or, g0, g1, g2, g9, g10, g11, g12, natOf_nat, hget, cells_s, ldA_1, a1, a2, hone, List.length_map, ofNat_len, hTi']
      refine W_cut (fun e => PB l t T st (rows (st.take (i + 1))) two i e ∧ e.get 13 = .s (dots 0) ∧ e.get 14 = .i .i64 (0 : Nat)) ?_ ?_
      · refine ⟨⟨⟨?_, ?_, ?_⟩, ?_, ?_, ?_, ?_⟩, ?_, ?_⟩ <;> first | (simp only [W_seq, W_reg, W_cond, W_blk, W_skip, W_exit, W_ret, W_regD, WO_nil, WO_cons, WO_guard2, wantV_b, bq_tt, bq_ft, bq_tf, bq_ff, Bool.not_true, Bool.not_false, WD_nil, WD_cons, WD_guard2, WS_some, WS_none, KS_n, KS_x, KS_r, KB_n, KB_x, KB_r, KN_ap, KO_ap, KD_ap, KC_nil, KF_n, KF_r, KG_n, KG_r, KL_n, KL_x, KL_r, CP_true, CP_false, evOp, evX, X.ev, optX, put_some, put_none, get_set2, sel_t, sel_f, Nat.reduceBEq, Nat.reduceAdd, Nat.reduceLT, Nat.reduceLeDiff, Nat.reduceEqDiff, reduceIte, if_true, if_false, bi_add, bi_sub, bi_mul, bi_eql, bi_neq, bi_lss, bi_leq, bi_gtr, bi_geq, bs_eql, bs_neq, bs_lss, Am.unOp, ret1, pubL, pubC_agg, pubC_s, pubC_i, pubC_b, pubC_p, pubC_np, pubC_nsl, pubC_ws, pubC_full, pubC_shut, pubC_fn, pubA, initT, wkZ, wk, wants, resOf, tupOf, quiet, AOp.cls, Nat.beq_eq, Bool.or_eq_true, decide_true, decide_false, beq_self_eq_true, Bool.true_or, Bool.or_true, true_and, and_true, lenA, eqv, eqB, eqP, scal, new_box_self, List.getElem?_cons_zero, List.getElem?_cons_succ, key_ii, key_ss, findM, updM, esc_i, esc_s, esc_b, Int.reduceEq, ret1, new_nb, new_set, reduceCtorEq, Bool.xor_true, Bool.xor_false, Bool.false_eq_true, List.all_cons, List.all_nil, noTok, Bool.and_self, Bool.and_true, Bool.true_and, or_true, false_or, g0, g1, g2, g9, g10, g11, g12]; done) | (simp only [W_seq, W_reg, W_cond, W_blk, W_skip, W_exit, W_ret, W_regD, WO_nil, WO_cons, WO_guard2, wantV_b, bq_tt, bq_ft, bq_tf, bq_ff, Bool.not_true, Bool.not_false, WD_nil, WD_cons, WD_guard2, WS_some, WS_none, KS_n, KS_x, KS_r, KB_n, KB_x, KB_r, KN_ap, KO_ap, KD_ap, KC_nil, KF_n, KF_r, KG_n, KG_r, KL_n, KL_x, KL_r, CP_true, CP_false, evOp, evX, X.ev, optX, put_some, put_none, get_set2, sel_t, sel_f, Nat.reduceBEq, Nat.reduceAdd, Nat.reduceLT, Nat.reduceLeDiff, Nat.reduceEqDiff, reduceIte, if_true, if_false, bi_add, bi_sub, bi_mul, bi_eql, bi_neq, bi_lss, bi_leq, bi_gtr, bi_geq, bs_eql, bs_neq, bs_lss, Am.unOp, ret1, pubL, pubC_agg, pubC_s, pubC_i, pubC_b, pubC_p, pubC_np, pubC_nsl, pubC_ws, pubC_full, pubC_shut, pubC_fn, pubA, initT, wkZ, wk, wants, resOf, tupOf, quiet, AOp.cls, Nat.beq_eq, Bool.or_eq_true, decide_true, decide_false, beq_self_eq_true, Bool.true_or, Bool.or_true, true_and, and_true, lenA, eqv, eqB, eqP, scal, new_box_self, List.getElem?_cons_zero, List.getElem?_cons_succ, key_ii, key_ss, findM, updM, esc_i, esc_s, esc_b, Int.reduceEq, ret1, new_nb, new_set, reduceCtorEq, Bool.xor_true, Bool.xor_false, Bool.false_eq_true, List.all_cons, List.all_nil, noTok, Bool.and_self, Bool.and_true, Bool.true_and, or_true, false_or, g0, g1, g2, g9, g10, g11, g12]; rfl)
      rintro e ⟨hPB, h13, h14⟩
      refine stageT hTi (PB l t T st (rows (st.take (i + 1))) two i) PB_set hPB hPB.1.2.2 hPB.2.2.2.2 h13 h14 hT256 ?_
      rintro e ⟨⟨g0, g1, g2⟩, g9, g10, g11, g12⟩ _ _ g13
      by_cases h127 : 127 < T[i]
      · have h127' : ((127 : Int) < (T[i] : Int)) = True := by simp; omega
        have hdl := dots_len (T[i] % 4)
        have a5 := bs_add_of (x := dots (T[i] % 4)) (y := [47]) (by simp; omega)
        have htie : dots (T[i] % 4) ++ [47] = tieL T[i] := by unfold tieL; rw [if_pos h127]
        simp only [W_seq, W_reg, W_cond, W_blk, W_skip, W_exit, W_ret, W_regD, WO_nil, WO_cons, WO_guard2, wantV_b, bq_tt, bq_ft, bq_tf, bq_ff, Bool.not_true, Bool.not_false, WD_nil, WD_cons, WD_guard2, WS_some, WS_none, KS_n, KS_x, KS_r, KB_n, KB_x, KB_r, KN_ap, KO_ap, KD_ap, KC_nil, KF_n, KF_r, KG_n, KG_r, KL_n, KL_x, KL_r, CP_true, CP_false, evOp, evX, X.ev, optX, put_some, put_none, get_set2, sel_t, sel_f, Nat.reduceBEq, Nat.reduceAdd, Nat.reduceLT, Nat.reduceLeDiff, Nat.reduceEqDiff, reduceIte, if_true, if_false, bi_add, bi_sub, bi_mul, bi_eql, bi_neq, bi_lss, bi_leq, bi_gtr, bi_geq, bs_eql, bs_neq, bs_lss, Am.unOp, ret1, pubL, pubC_agg, pubC_s, pubC_i, pubC_b, pubC_p, pubC_np, pubC_nsl, pubC_ws, pubC_full, pubC_shut, pubC_fn, pubA, initT, wkZ, wk, wants, resOf, tupOf, quiet, AOp.cls, Nat.beq_eq, Bool.or_eq_true, decide_true, decide_false, beq_self_eq_true, Bool.true_or, Bool.or_true, true_and, and_true, lenA, eqv, eqB, eqP, scal, new_box_self, List.getElem?_cons_zero, List.getElem?_cons_succ, key_ii, key_ss, findM, updM, esc_i, esc_s, esc_b, Int.reduceEq, ret1, new_nb, new_set, reduceCtorEq, Bool.xor_true, Bool.xor_false, Bool.false_eq_true, List.all_cons, List.all_nil, noTok, Bool.and_self, Bool.and_true, Bool.true_and, or_true, false_or, g0, g1, g2, g9, g10, g11, g12, g13, natOf_nat, by_get hTi, cells_i, ldA_1, h127', a5, htie, hget, cells_s, a3, a4, hw64]
        refine hfin T[i] _ ⟨?_, ?_, ?_⟩ ?_ ?_ ?_ ?_ hT256 <;> simp only [W_seq, W_reg, W_cond, W_blk, W_skip, W_exit, W_ret, W_regD, WO_nil, WO_cons, WO_guard2, wantV_b, bq_tt, bq_ft, bq_tf, bq_ff, Bool.not_true, Bool.not_false, WD_nil, WD_cons, WD_guard2, WS_some, WS_none, KS_n, KS_x, KS_r, KB_n, KB_x, KB_r, KN_ap, KO_ap, KD_ap, KC_nil, KF_n, KF_r, KG_n, KG_r, KL_n, KL_x, KL_r, CP_true, CP_false, evOp, evX, X.ev, optX, put_some, put_none, get_set2, sel_t, sel_f, Nat.reduceBEq, Nat.reduceAdd, Nat.reduceLT, Nat.reduceLeDiff, Nat.reduceEqDiff, reduceIte, if_true, if_false, bi_add, bi_sub, bi_mul, bi_eql, bi_neq, bi_lss, bi_leq, bi_gtr, bi_geq, bs_eql, bs_neq, bs_lss, Am.unOp, ret1, pubL, pubC_agg, pubC_s, pubC_i, pubC_b, pubC_p, pubC_np, pubC_nsl, pubC_ws, pubC_full, pubC_shut, pubC_fn, pubA, initT, wkZ, wk, wants, resOf, tupOf, quiet, AOp.cls, Nat.beq_eq, Bool.or_eq_true, decide_true, decide_false, beq_self_eq_true, Bool.true_or, Bool.or_true, true_and, and_true, lenA, eqv, eqB, eqP, scal, new_box_self, List.getElem?_cons_zero, List.getElem?_cons_succ, key_ii, key_ss, findM, updM, esc_i, esc_s, esc_b, Int.reduceEq, ret1, new_nb, new_set, reduceCtorEq, Bool.xor_true, Bool.xor_false, Bool.false_eq_true, List.all_cons, List.all_nil, noTok, Bool.and_self, Bool.and_true, Bool.true_and, or_true, false_or, g0, g1, g2, g9, g10]
      · have h127' : ((127 : Int) < (T[i] : Int)) = False := by simp; omega
        have htie : dots (T[i] % 4) = tieL T[i] := by unfold tieL; rw [if_neg h127, List.append_nil]
        rw [htie] at g13
        simp only [W_seq, W_reg, W_cond, W_blk, W_skip, W_exit, W_ret, W_regD, WO_nil, WO_cons, WO_guard2, wantV_b, bq_tt, bq_ft, bq_tf, bq_ff, Bool.not_true, Bool.not_false, WD_nil, WD_cons, WD_guard2, WS_some, WS_none, KS_n, KS_x, KS_r, KB_n, KB_x, KB_r, KN_ap, KO_ap, KD_ap, KC_nil, KF_n, KF_r, KG_n, KG_r, KL_n, KL_x, KL_r, CP_true, CP_false, evOp, evX, X.ev, optX, put_some, put_none, get_set2, sel_t, sel_f, Nat.reduceBEq, Nat.reduceAdd, Nat.reduceLT, Nat.reduceLeDiff, Nat.reduceEqDiff, reduceIte, if_true, if_false, bi_add, bi_sub, bi_mul, bi_eql, bi_neq, bi_lss, bi_leq, bi_gtr, bi_geq, bs_eql, bs_neq, bs_lss, Am.unOp, ret1, pubL, pubC_agg, pubC_s, pubC_i, pubC_b, pubC_p, pubC_np, pubC_nsl, pubC_ws, pubC_full, pubC_shut, pubC_fn, pubA, initT, wkZ, wk, wants, resOf, tupOf, quiet, AOp.cls, Nat.beq_eq, Bool.or_eq_true, decide_true, decide_false, beq_self_eq_true, Bool.true_or, Bool.or_true, true_and, and_true, lenA, eqv, eqB, eqP, scal, new_box_self, List.getElem?_cons_zero, List.getElem?_cons_succ, key_ii, key_ss, findM, updM, esc_i, esc_s, esc_b, Int.reduceEq, ret1, new_nb, new_set, reduceCtorEq, Bool.xor_true, Bool.xor_false, Bool.false_eq_true, List.all_cons, List.all_nil, noTok, Bool.and_self, Bool.and_true, Bool.true_and, or_true, false_or, g0, g1, g2, g9, g10, g11, g12, g13, natOf_nat, by_get hTi, cells_i, ldA_1, h127', hget, cells_s, a3, a4, hw64]
        refine hfin T[i] _ ⟨?_, ?_, ?_⟩ ?_ ?_ ?_ ?_ hT256 <;> simp only [W_seq, W_reg, W_cond, W_blk, W_skip, W_exit, W_ret, W_regD, WO_nil, WO_cons, WO_guard2, wantV_b, bq_tt, bq_ft, bq_tf, bq_ff, Bool.not_true, Bool.not_false, WD_nil, WD_cons, WD_guard2, WS_some, WS_none, KS_n, KS_x, KS_r, KB_n, KB_x, KB_r, KN_ap, KO_ap, KD_ap, KC_nil, KF_n, KF_r, KG_n, KG_r, KL_n, KL_x, KL_r, CP_true, CP_false, evOp, evX, X.ev, optX, put_some, put_none, get_set2, sel_t, sel_f, Nat.reduceBEq, Nat.reduceAdd, Nat.reduceLT, Nat.reduceLeDiff, Nat.reduceEqDiff, reduceIte, if_true, if_false, bi_add, bi_sub, bi_mul, bi_eql, bi_neq, bi_lss, bi_leq, bi_gtr, bi_geq, bs_eql, bs_neq, bs_lss, Am.unOp, ret1, pubL, pubC_agg, pubC_s, pubC_i, pubC_b, pubC_p, pubC_np, pubC_nsl, pubC_ws, pubC_full, pubC_shut, pubC_fn, pubA, initT, wkZ, wk, wants, resOf, tupOf, quiet, AOp.cls, Nat.beq_eq, Bool.or_eq_true, decide_true, decide_false, beq_self_eq_true, Bool.true_or, Bool.or_true, true_and, and_true, lenA, eqv, eqB, eqP, scal, new_box_self, List.getElem?_cons_zero, List.getElem?_cons_succ, key_ii, key_ss, findM, updM, esc_i, esc_s, esc_b, Int.reduceEq, ret1, new_nb, new_set, reduceCtorEq, Bool.xor_true, Bool.xor_false, Bool.false_eq_true, List.all_cons, List.all_nil, noTok, Bool.and_self, Bool.and_true, Bool.true_and, or_true, false_or, g0, g1, g2, g9, g10]
    · have hTi' : ((i : Int) < (T.length : Int)) = False := by simp; omega
      have htie : tieL 0 = [47] := rfl
      have a3 := bs_add_of (x := two) (y := [47]) (by simp; omega)
      have a4 := bs_add_of (x := two ++ [47]) (y := x) (by simp; omega)
      simp only [W_seq, W_reg, W_cond, W_blk, W_skip, W_exit, W_ret, W_regD, WO_nil, WO_cons, WO_guard2, wantV_b, bq_tt, bq_ft, bq_tf, bq_ff, Bool.not_true, Bool.not_false, WD_nil, WD_cons, WD_guard2, WS_some, WS_none, KS_n, KS_x, KS_r, KB_n, KB_x, KB_r, KN_ap, KO_ap, KD_ap, KC_nil, KF_n, KF_r, KG_n, KG_r, KL_n, KL_x, KL_r, CP_true, CP_false, evOp, evX, X.ev, optX, put_some, put_none, get_set2, sel_t, sel_f, Nat.reduceBEq, Nat.reduceAdd, Nat.reduceLT, Nat.reduceLeDiff, Nat.reduceEqDiff, reduceIte, if_true, if_false, bi_add, bi_sub, bi_mul, bi_eql, bi_neq, bi_lss, bi_leq, bi_gtr, bi_geq, bs_eql, bs_neq, bs_lss, Am.unOp, ret1, pubL, pubC_agg, pubC_s, pubC_i, pubC_b, pubC_p, pubC_np, pubC_nsl, pubC_ws, pubC_full, pubC_shut, pubC_fn, pubA, initT, wkZ, wk, wants, resOf, tupOf, quiet, AOp.cls, Nat.beq_eq, Bool.or_eq_true, decide_true, decide_false, beq_self_eq_true, Bool.true_or, Bool.or_true, true_and, and_true, lenA, eqv, eqB, eqP, scal, new_box_self, List.getElem?_cons_zero, List.getElem?_cons_succ, key_ii, key_ss, findM, updM, esc_i, esc_s, esc_b, Int.reduceEq, ret1, new_nb, new_set, reduceCtorEq, Bool.xor_true, Bool.xor_false, Bool.false_eq_true, List.all_cons, List.all_nil, noTok, Bool.and_self, Bool.and_true, Bool.true_and, or_true, false_or, g0, g1, g2, g9, g10, g11, g12, natOf_nat, hget, cells_s, ldA_1, a1, a2, hone, List.length_map, ofNat_len, hTi', a3, a4, hw64]
      refine hfin 0 _ ⟨?_, ?_, ?_⟩ ?_ ?_ ?_ ?_ (by decide) <;> simp only [W_seq, W_reg, W_cond, W_blk, W_skip, W_exit, W_ret, W_regD, WO_nil, WO_cons, WO_guard2, wantV_b, bq_tt, bq_ft, bq_tf, bq_ff, Bool.not_true, Bool.not_false, WD_nil, WD_cons, WD_guard2, WS_some, WS_none, KS_n, KS_x, KS_r, KB_n, KB_x, KB_r, KN_ap, KO_ap, KD_ap, KC_nil, KF_n, KF_r, KG_n, KG_r, KL_n, KL_x, KL_r, CP_true, CP_false, evOp, evX, X.ev, optX, put_some, put_none, get_set2, sel_t, sel_f, Nat.reduceBEq, Nat.reduceAdd, Nat.reduceLT, Nat.reduceLeDiff, Nat.reduceEqDiff, reduceIte, if_true, if_false, bi_add, bi_sub, bi_mul, bi_eql, bi_neq, bi_lss, bi_leq, bi_gtr, bi_geq, bs_eql, bs_neq, bs_lss, Am.unOp, ret1, pubL, pubC_agg, pubC_s, pubC_i, pubC_b, pubC_p, pubC_np, pubC_nsl, pubC_ws, pubC_full, pubC_shut, pubC_fn, pubA, initT, wkZ, wk, wants, resOf, tupOf, quiet, AOp.cls, Nat.beq_eq, Bool.or_eq_true, decide_true, decide_false, beq_self_eq_true, Bool.true_or, Bool.or_true, true_and, and_true, lenA, eqv, eqB, eqP, scal, new_box_self, List.getElem?_cons_zero, List.getElem?_cons_succ, key_ii, key_ss, findM, updM, esc_i, esc_s, esc_b, Int.reduceEq, ret1, new_nb, new_set, reduceCtorEq, Bool.xor_true, Bool.xor_false, Bool.false_eq_true, List.all_cons, List.all_nil, noTok, Bool.and_self, Bool.and_true, Bool.true_and, or_true, false_or, g0, g1, g2, g9, htie]
  · have hil : i = st.length := by omega
    rw [hil, List.take_length] at g10 hs2
    rw [hil] at hl2
    refine hQ _ two ⟨?_, ?_, ?_⟩ ?_ ?_ hs2 hl2 hb2 <;> simp only [W_seq, W_reg, W_cond, W_blk, W_skip, W_exit, W_ret, W_regD, WO_nil, WO_cons, WO_guard2, wantV_b, bq_tt, bq_ft, bq_tf, bq_ff, Bool.not_true, Bool.not_false, WD_nil, WD_cons, WD_guard2, WS_some, WS_none, KS_n, KS_x, KS_r, KB_n, KB_x, KB_r, KN_ap, KO_ap, KD_ap, KC_nil, KF_n, KF_r, KG_n, KG_r, KL_n, KL_x, KL_r, CP_true, CP_false, evOp, evX, X.ev, optX, put_some, put_none, get_set2, sel_t, sel_f, Nat.reduceBEq, Nat.reduceAdd, Nat.reduceLT, Nat.reduceLeDiff, Nat.reduceEqDiff, reduceIte, if_true, if_false, bi_add, bi_sub, bi_mul, bi_eql, bi_neq, bi_lss, bi_leq, bi_gtr, bi_geq, bs_eql, bs_neq, bs_lss, Am.unOp, ret1, pubL, pubC_agg, pubC_s, pubC_i, pubC_b, pubC_p, pubC_np, pubC_nsl, pubC_ws, pubC_full, pubC_shut, pubC_fn, pubA, initT, wkZ, wk, wants, resOf, tupOf, quiet, AOp.cls, Nat.beq_eq, Bool.or_eq_true, decide_true, decide_false, beq_self_eq_true, Bool.true_or, Bool.or_true, true_and, and_true, lenA, eqv, eqB, eqP, scal, new_box_self, List.getElem?_cons_zero, List.getElem?_cons_succ, key_ii, key_ss, findM, updM, esc_i, esc_s, esc_b, Int.reduceEq, ret1, new_nb, new_set, reduceCtorEq, Bool.xor_true, Bool.xor_false, Bool.false_eq_true, List.all_cons, List.all_nil, noTok, Bool.and_self, Bool.and_true, Bool.true_and, or_true, false_or, g0, g1, g2, g10, g11]
end Go.Proofs.YtfaodjpibdhdjaaDoor

/-
  The law PathCleans.
-/
set_option maxRecDepth 100000
set_option linter.unusedSimpArgs false
set_option linter.constructorNameAsVariable false
namespace Go.Proofs.YtfaodjpibdhdjaaDoor
open Go.Proofs.YtfaodjpibdhdjaaDoor.Am

theorem rows_txt {st : List (List Nat)} (h : ∀ x ∈ st, ∀ n ∈ x, n < 256) : ∀ n ∈ rows st, n < 256 := by
  intro n hn
  simp only [rows, List.mem_flatMap, List.mem_cons] at hn
  obtain ⟨x, hx, rfl | hn⟩ := hn
  · decide
  · exact h x hx n hn
theorem same_self (L : List (List Nat)) (hL : L.length < 2 ^ 62) (s : St) : (lim prog).call f_touchstoneref06_Same [tx L, tx L] s = some (.b true, s) := by
  rw [ref_same_ok L L hL s]
  simp [sameP]
theorem cleanL_len (l : List Nat) : (cleanL l).length ≤ l.length + 1 := by
  have h1 := foldl_len (stepsL l) []
  have h2 := stepsL_len l
  unfold cleanL
  simp only [List.length_nil, Nat.zero_add] at h1
  omega

theorem pathCleans_ok (l : List (List Nat)) (hl : ∀ x ∈ l, Txt x) (t : List Nat) (ht : Txt t) (T : List Nat) (hT : ∀ n ∈ T, n < 256) (hTl : T.length < 2 ^ 63) : (lim prog).call f_touchstonelaw06_PathCleans [tx l, .s t, byA T] s0 = some (.b true, s0) := by
  refine fn_W p_touchstonelaw06_PathCleans rfl rfl ?_
  have hw : Wf s0.enter := ⟨rfl, rfl⟩
  have hlong := long_ok l s0.enter
  cases hA : longP l with
  | true =>
    rw [hA] at hlong
    simp only [c_touchstonelaw06_PathCleans, W_seq, W_reg, W_cond, W_blk, W_skip, W_exit, W_ret, W_regD, WO_nil, WO_cons, WO_guard2, wantV_b, bq_tt, bq_ft, bq_tf, bq_ff, Bool.not_true, Bool.not_false, WD_nil, WD_cons, WD_guard2, WS_some, WS_none, KS_n, KS_x, KS_r, KB_n, KB_x, KB_r, KN_ap, KO_ap, KD_ap, KC_nil, KF_n, KF_r, KG_n, KG_r, KL_n, KL_x, KL_r, CP_true, CP_false, evOp, evX, X.ev, optX, put_some, put_none, get_set2, sel_t, sel_f, Nat.reduceBEq, Nat.reduceAdd, Nat.reduceLT, Nat.reduceLeDiff, Nat.reduceEqDiff, reduceIte, if_true, if_false, bi_add, bi_sub, bi_mul, bi_eql, bi_neq, bi_lss, bi_leq, bi_gtr, bi_geq, bs_eql, bs_neq, bs_lss, Am.unOp, ret1, pubL, pubC_agg, pubC_s, pubC_i, pubC_b, pubC_p, pubC_np, pubC_nsl, pubC_ws, pubC_full, pubC_shut, pubC_fn, pubA, initT, wkZ, wk, wants, resOf, tupOf, quiet, AOp.cls, Nat.beq_eq, Bool.or_eq_true, decide_true, decide_false, beq_self_eq_true, Bool.true_or, Bool.or_true, true_and, and_true, lenA, eqv, eqB, eqP, scal, new_box_self, List.getElem?_cons_zero, List.getElem?_cons_succ, key_ii, key_ss, findM, updM, esc_i, esc_s, esc_b, Int.reduceEq, ret1, new_nb, new_set, reduceCtorEq, Bool.xor_true, Bool.xor_false, Bool.false_eq_true, List.all_cons, List.all_nil, noTok, Bool.and_self, Bool.and_true, Bool.true_and, or_true, false_or, hlong, awake_ok]
    exact KR_some (Over.enter s0) rfl rfl
  | false =>
  rw [hA] at hlong
  by_cases hbig : (2000 : Int) < (t.length : Int)
  · simp only [c_touchstonelaw06_PathCleans, W_seq, W_reg, W_cond, W_blk, W_skip, W_exit, W_ret, W_regD, WO_nil, WO_cons, WO_guard2, wantV_b, bq_tt, bq_ft, bq_tf, bq_ff, Bool.not_true, Bool.not_false, WD_nil, WD_cons, WD_guard2, WS_some, WS_none, KS_n, KS_x, KS_r, KB_n, KB_x, KB_r, KN_ap, KO_ap, KD_ap, KC_nil, KF_n, KF_r, KG_n, KG_r, KL_n, KL_x, KL_r, CP_true, CP_false, evOp, evX, X.ev, optX, put_some, put_none, get_set2, sel_t, sel_f, Nat.reduceBEq, Nat.reduceAdd, Nat.reduceLT, Nat.reduceLeDiff, Nat.reduceEqDiff, reduceIte, if_true, if_false, bi_add, bi_sub, bi_mul, bi_eql, bi_neq, bi_lss, bi_leq, bi_gtr, bi_geq, bs_eql, bs_neq, bs_lss, Am.unOp, ret1, pubL, pubC_agg, pubC_s, pubC_i, pubC_b, pubC_p, pubC_np, pubC_nsl, pubC_ws, pubC_full, pubC_shut, pubC_fn, pubA, initT, wkZ, wk, wants, resOf, tupOf, quiet, AOp.cls, Nat.beq_eq, Bool.or_eq_true, decide_true, decide_false, beq_self_eq_true, Bool.true_or, Bool.or_true, true_and, and_true, lenA, eqv, eqB, eqP, scal, new_box_self, List.getElem?_cons_zero, List.getElem?_cons_succ, key_ii, key_ss, findM, updM, esc_i, esc_s, esc_b, Int.reduceEq, ret1, new_nb, new_set, reduceCtorEq, Bool.xor_true, Bool.xor_false, Bool.false_eq_true, List.all_cons, List.all_nil, noTok, Bool.and_self, Bool.and_true, Bool.true_and, or_true, false_or, hlong, awake_ok, ofNat_len, hbig]
    exact KR_some (Over.enter s0) rfl rfl
  have hsh := sh_of hA
  have hn := hsh.n
  have htl : t.length ≤ 2000 := by omega
  simp only [c_touchstonelaw06_PathCleans, W_seq, W_reg, W_cond, W_blk, W_skip, W_exit, W_ret, W_regD, WO_nil, WO_cons, WO_guard2, wantV_b, bq_tt, bq_ft, bq_tf, bq_ff, Bool.not_true, Bool.not_false, WD_nil, WD_cons, WD_guard2, WS_some, WS_none, KS_n, KS_x, KS_r, KB_n, KB_x, KB_r, KN_ap, KO_ap, KD_ap, KC_nil, KF_n, KF_r, KG_n, KG_r, KL_n, KL_x, KL_r, CP_true, CP_false, evOp, evX, X.ev, optX, put_some, put_none, get_set2, sel_t, sel_f, Nat.reduceBEq, Nat.reduceAdd, Nat.reduceLT, Nat.reduceLeDiff, Nat.reduceEqDiff, reduceIte, if_true, if_false, bi_add, bi_sub, bi_mul, bi_eql, bi_neq, bi_lss, bi_leq, bi_gtr, bi_geq, bs_eql, bs_neq, bs_lss, Am.unOp, ret1, pubL, pubC_agg, pubC_s, pubC_i, pubC_b, pubC_p, pubC_np, pubC_nsl, pubC_ws, pubC_full, pubC_shut, pubC_fn, pubA, initT, wkZ, wk, wants, resOf, tupOf, quiet, AOp.cls, Nat.beq_eq, Bool.or_eq_true, decide_true, decide_false, beq_self_eq_true, Bool.true_or, Bool.or_true, true_and, and_true, lenA, eqv, eqB, eqP, scal, new_box_self, List.getElem?_cons_zero, List.getElem?_cons_succ, key_ii, key_ss, findM, updM, esc_i, esc_s, esc_b, Int.reduceEq, ret1, new_nb, new_set, reduceCtorEq, Bool.xor_true, Bool.xor_false, Bool.false_eq_true, List.all_cons, List.all_nil, noTok, Bool.and_self, Bool.and_true, Bool.true_and, or_true, false_or, hlong, awake_ok, ofNat_len, hbig]
  refine W_cut (fun e => PX l t T e ∧ e.get 7 = .b true ∧ e.get 8 = .i .i64 (0 : Nat)) ?_ ?_
  · refine ⟨⟨?_, ?_, ?_⟩, ?_, ?_⟩ <;> first | (simp only [W_seq, W_reg, W_cond, W_blk, W_skip, W_exit, W_ret, W_regD, WO_nil, WO_cons, WO_guard2, wantV_b, bq_tt, bq_ft, bq_tf, bq_ff, Bool.not_true, Bool.not_false, WD_nil, WD_cons, WD_guard2, WS_some, WS_none, KS_n, KS_x, KS_r, KB_n, KB_x, KB_r, KN_ap, KO_ap, KD_ap, KC_nil, KF_n, KF_r, KG_n, KG_r, KL_n, KL_x, KL_r, CP_true, CP_false, evOp, evX, X.ev, optX, put_some, put_none, get_set2, sel_t, sel_f, Nat.reduceBEq, Nat.reduceAdd, Nat.reduceLT, Nat.reduceLeDiff, Nat.reduceEqDiff, reduceIte, if_true, if_false, bi_add, bi_sub, bi_mul, bi_eql, bi_neq, bi_lss, bi_leq, bi_gtr, bi_geq, bs_eql, bs_neq, bs_lss, Am.unOp, ret1, pubL, pubC_agg, pubC_s, pubC_i, pubC_b, pubC_p, pubC_np, pubC_nsl, pubC_ws, pubC_full, pubC_shut, pubC_fn, pubA, initT, wkZ, wk, wants, resOf, tupOf, quiet, AOp.cls, Nat.beq_eq, Bool.or_eq_true, decide_true, decide_false, beq_self_eq_true, Bool.true_or, Bool.or_true, true_and, and_true, lenA, eqv, eqB, eqP, scal, new_box_self, List.getElem?_cons_zero, List.getElem?_cons_succ, key_ii, key_ss, findM, updM, esc_i, esc_s, esc_b, Int.reduceEq, ret1, new_nb, new_set, reduceCtorEq, Bool.xor_true, Bool.xor_false, Bool.false_eq_true, List.all_cons, List.all_nil, noTok, Bool.and_self, Bool.and_true, Bool.true_and, or_true, false_or]; done) | (simp only [W_seq, W_reg, W_cond, W_blk, W_skip, W_exit, W_ret, W_regD, WO_nil, WO_cons, WO_guard2, wantV_b, bq_tt, bq_ft, bq_tf, bq_ff, Bool.not_true, Bool.not_false, WD_nil, WD_cons, WD_guard2, WS_some, WS_none, KS_n, KS_x, KS_r, KB_n, KB_x, KB_r, KN_ap, KO_ap, KD_ap, KC_nil, KF_n, KF_r, KG_n, KG_r, KL_n, KL_x, KL_r, CP_true, CP_false, evOp, evX, X.ev, optX, put_some, put_none, get_set2, sel_t, sel_f, Nat.reduceBEq, Nat.reduceAdd, Nat.reduceLT, Nat.reduceLeDiff, Nat.reduceEqDiff, reduceIte, if_true, if_false, bi_add, bi_sub, bi_mul, bi_eql, bi_neq, bi_lss, bi_leq, bi_gtr, bi_geq, bs_eql, bs_neq, bs_lss, Am.unOp, ret1, pubL, pubC_agg, pubC_s, pubC_i, pubC_b, pubC_p, pubC_np, pubC_nsl, pubC_ws, pubC_full, pubC_shut, pubC_fn, pubA, initT, wkZ, wk, wants, resOf, tupOf, quiet, AOp.cls, Nat.beq_eq, Bool.or_eq_true, decide_true, decide_false, beq_self_eq_true, Bool.true_or, Bool.or_true, true_and, and_true, lenA, eqv, eqB, eqP, scal, new_box_self, List.getElem?_cons_zero, List.getElem?_cons_succ, key_ii, key_ss, findM, updM, esc_i, esc_s, esc_b, Int.reduceEq, ret1, new_nb, new_set, reduceCtorEq, Bool.xor_true, Bool.xor_false, Bool.false_eq_true, List.all_cons, List.all_nil, noTok, Bool.and_self, Bool.and_true, Bool.true_and, or_true, false_or]; rfl)
  rintro e ⟨hE, h7, h8⟩
  refine stageA hl (by omega) hw hE h7 h8 ?_
  rintro e ⟨g0, g1, g2⟩ g7
  -- behind the names
  have key : ∀ e : Tr, PX l t T e → W (lim prog) (subC c_touchstonelaw06_PathCleans.body [1, 1, 1, 1, 1]) e s0.enter (KF s0 c_touchstonelaw06_PathCleans.res c_touchstonelaw06_PathCleans.cout (.b true)) := by
    rintro e ⟨g0, g1, g2⟩
    have hst := pathSteps_ok t ht (by omega) s0.enter hw
    obtain ⟨st, hst2⟩ : ∃ st, stepsL t = st := ⟨_, rfl⟩
    rw [hst2] at hst
    have hmem : ∀ x ∈ st, Stp x ∧ x.length ≤ 2000 ∧ ∀ n ∈ x, n < 256 := fun x hx => by
      rw [← hst2] at hx
      obtain ⟨h1, h2, h3⟩ := stepsL_mem hx
      exact ⟨h1, by omega, fun n hn => ht.lt n (h3 n hn)⟩
    have hcnt : st.length ≤ 2001 := by rw [← hst2]; have := stepsL_len t; omega
    simp only [c_touchstonelaw06_PathCleans, subC, W_seq, W_reg, W_cond, W_blk, W_skip, W_exit, W_ret, W_regD, WO_nil, WO_cons, WO_guard2, wantV_b, bq_tt, bq_ft, bq_tf, bq_ff, Bool.not_true, Bool.not_false, WD_nil, WD_cons, WD_guard2, WS_some, WS_none, KS_n, KS_x, KS_r, KB_n, KB_x, KB_r, KN_ap, KO_ap, KD_ap, KC_nil, KF_n, KF_r, KG_n, KG_r, KL_n, KL_x, KL_r, CP_true, CP_false, evOp, evX, X.ev, optX, put_some, put_none, get_set2, sel_t, sel_f, Nat.reduceBEq, Nat.reduceAdd, Nat.reduceLT, Nat.reduceLeDiff, Nat.reduceEqDiff, reduceIte, if_true, if_false, bi_add, bi_sub, bi_mul, bi_eql, bi_neq, bi_lss, bi_leq, bi_gtr, bi_geq, bs_eql, bs_neq, bs_lss, Am.unOp, ret1, pubL, pubC_agg, pubC_s, pubC_i, pubC_b, pubC_p, pubC_np, pubC_nsl, pubC_ws, pubC_full, pubC_shut, pubC_fn, pubA, initT, wkZ, wk, wants, resOf, tupOf, quiet, AOp.cls, Nat.beq_eq, Bool.or_eq_true, decide_true, decide_false, beq_self_eq_true, Bool.true_or, Bool.or_true, true_and, and_true, lenA, eqv, eqB, eqP, scal, new_box_self, List.getElem?_cons_zero, List.getElem?_cons_succ, key_ii, key_ss, findM, updM, esc_i, esc_s, esc_b, Int.reduceEq, ret1, new_nb, new_set, reduceCtorEq, Bool.xor_true, Bool.xor_false, Bool.false_eq_true, List.all_cons, List.all_nil, noTok, Bool.and_self, Bool.and_true, Bool.true_and, or_true, false_or, g0, g1, g2, hst]
    refine W_cut (fun e => PB l t T st [] [46] 0 e) ?_ ?_
    · refine ⟨⟨?_, ?_, ?_⟩, ?_, ?_, ?_, ?_⟩ <;> first | (simp only [W_seq, W_reg, W_cond, W_blk, W_skip, W_exit, W_ret, W_regD, WO_nil, WO_cons, WO_guard2, wantV_b, bq_tt, bq_ft, bq_tf, bq_ff, Bool.not_true, Bool.not_false, WD_nil, WD_cons, WD_guard2, WS_some, WS_none, KS_n, KS_x, KS_r, KB_n, KB_x, KB_r, KN_ap, KO_ap, KD_ap, KC_nil, KF_n, KF_r, KG_n, KG_r, KL_n, KL_x, KL_r, CP_true, CP_false, evOp, evX, X.ev, optX, put_some, put_none, get_set2, sel_t, sel_f, Nat.reduceBEq, Nat.reduceAdd, Nat.reduceLT, Nat.reduceLeDiff, Nat.reduceEqDiff, reduceIte, if_true, if_false, bi_add, bi_sub, bi_mul, bi_eql, bi_neq, bi_lss, bi_leq, bi_gtr, bi_geq, bs_eql, bs_neq, bs_lss, Am.unOp, ret1, pubL, pubC_agg, pubC_s, pubC_i, pubC_b, pubC_p, pubC_np, pubC_nsl, pubC_ws, pubC_full, pubC_shut, pubC_fn, pubA, initT, wkZ, wk, wants, resOf, tupOf, quiet, AOp.cls, Nat.beq_eq, Bool.or_eq_true, decide_true, decide_false, beq_self_eq_true, Bool.true_or, Bool.or_true, true_and, and_true, lenA, eqv, eqB, eqP, scal, new_box_self, List.getElem?_cons_zero, List.getElem?_cons_succ, key_ii, key_ss, findM, updM, esc_i, esc_s, esc_b, Int.reduceEq, ret1, new_nb, new_set, reduceCtorEq, Bool.xor_true, Bool.xor_false, Bool.false_eq_true, List.all_cons, List.all_nil, noTok, Bool.and_self, Bool.and_true, Bool.true_and, or_true, false_or, g0, g1, g2]; done) | (simp only [W_seq, W_reg, W_cond, W_blk, W_skip, W_exit, W_ret, W_regD, WO_nil, WO_cons, WO_guard2, wantV_b, bq_tt, bq_ft, bq_tf, bq_ff, Bool.not_true, Bool.not_false, WD_nil, WD_cons, WD_guard2, WS_some, WS_none, KS_n, KS_x, KS_r, KB_n, KB_x, KB_r, KN_ap, KO_ap, KD_ap, KC_nil, KF_n, KF_r, KG_n, KG_r, KL_n, KL_x, KL_r, CP_true, CP_false, evOp, evX, X.ev, optX, put_some, put_none, get_set2, sel_t, sel_f, Nat.reduceBEq, Nat.reduceAdd, Nat.reduceLT, Nat.reduceLeDiff, Nat.reduceEqDiff, reduceIte, if_true, if_false, bi_add, bi_sub, bi_mul, bi_eql, bi_neq, bi_lss, bi_leq, bi_gtr, bi_geq, bs_eql, bs_neq, bs_lss, Am.unOp, ret1, pubL, pubC_agg, pubC_s, pubC_i, pubC_b, pubC_p, pubC_np, pubC_nsl, pubC_ws, pubC_full, pubC_shut, pubC_fn, pubA, initT, wkZ, wk, wants, resOf, tupOf, quiet, AOp.cls, Nat.beq_eq, Bool.or_eq_true, decide_true, decide_false, beq_self_eq_true, Bool.true_or, Bool.or_true, true_and, and_true, lenA, eqv, eqB, eqP, scal, new_box_self, List.getElem?_cons_zero, List.getElem?_cons_succ, key_ii, key_ss, findM, updM, esc_i, esc_s, esc_b, Int.reduceEq, ret1, new_nb, new_set, reduceCtorEq, Bool.xor_true, Bool.xor_false, Bool.false_eq_true, List.all_cons, List.all_nil, noTok, Bool.and_self, Bool.and_true, Bool.true_and, or_true, false_or, g0, g1, g2]; rfl)
    intro e hPB
    refine stageB hmem hcnt hTl hT hPB ?_
    rintro e two ⟨g0, g1, g2⟩ g10 g11 hs2 hl2 hb2
    have hr1 := rows_len (n := 2000) (L := st) fun y hy => (hmem y hy).2.1
    have hr2 : st.length * 2001 ≤ 2001 * 2001 := Nat.mul_le_mul_right _ hcnt
    have hr3 : st.length * 2008 ≤ 2001 * 2008 := Nat.mul_le_mul_right _ hcnt
    have c1 := clean_ok (rows st) ⟨rows_txt fun x hx => (hmem x hx).2.2, by omega⟩ (by omega) s0.enter hw
    have c2 := clean_ok two ⟨hb2, by omega⟩ (by omega) s0.enter hw
    have c3 := clean_ok t ht (by omega) s0.enter hw
    have e1 : cleanL (rows st) = cleanL t := clean_of_steps (by rw [steps_rows _ st rfl fun x hx => (hmem x hx).1, hst2])
    have e2 : cleanL two = cleanL t := clean_of_steps (by rw [hs2, hst2])
    rw [e1] at c1
    rw [e2] at c2
    have hsm := same_self (cleanL t) (by have := cleanL_len t; omega) s0.enter
    simp only [W_seq, W_reg, W_cond, W_blk, W_skip, W_exit, W_ret, W_regD, WO_nil, WO_cons, WO_guard2, wantV_b, bq_tt, bq_ft, bq_tf, bq_ff, Bool.not_true, Bool.not_false, WD_nil, WD_cons, WD_guard2, WS_some, WS_none, KS_n, KS_x, KS_r, KB_n, KB_x, KB_r, KN_ap, KO_ap, KD_ap, KC_nil, KF_n, KF_r, KG_n, KG_r, KL_n, KL_x, KL_r, CP_true, CP_false, evOp, evX, X.ev, optX, put_some, put_none, get_set2, sel_t, sel_f, Nat.reduceBEq, Nat.reduceAdd, Nat.reduceLT, Nat.reduceLeDiff, Nat.reduceEqDiff, reduceIte, if_true, if_false, bi_add, bi_sub, bi_mul, bi_eql, bi_neq, bi_lss, bi_leq, bi_gtr, bi_geq, bs_eql, bs_neq, bs_lss, Am.unOp, ret1, pubL, pubC_agg, pubC_s, pubC_i, pubC_b, pubC_p, pubC_np, pubC_nsl, pubC_ws, pubC_full, pubC_shut, pubC_fn, pubA, initT, wkZ, wk, wants, resOf, tupOf, quiet, AOp.cls, Nat.beq_eq, Bool.or_eq_true, decide_true, decide_false, beq_self_eq_true, Bool.true_or, Bool.or_true, true_and, and_true, lenA, eqv, eqB, eqP, scal, new_box_self, List.getElem?_cons_zero, List.getElem?_cons_succ, key_ii, key_ss, findM, updM, esc_i, esc_s, esc_b, Int.reduceEq, ret1, new_nb, new_set, reduceCtorEq, Bool.xor_true, Bool.xor_false, Bool.false_eq_true, List.all_cons, List.all_nil, noTok, Bool.and_self, Bool.and_true, Bool.true_and, or_true, false_or, g1, g10, g11, c1, c2, c3, hsm]
    exact KR_some (Over.enter s0) rfl rfl
  simp only [KB_x, if_true, KS_n]
  refine W_seq_cut (fun e q => PX l t T e ∧ s0.enter = q) ?_ (fun e q h => by obtain ⟨h1, rfl⟩ := h; exact key e h1)
  cases hall : l.all nameP with
  | false =>
    rw [hall] at g7
    simp only [W_seq, W_reg, W_cond, W_blk, W_skip, W_exit, W_ret, W_regD, WO_nil, WO_cons, WO_guard2, wantV_b, bq_tt, bq_ft, bq_tf, bq_ff, Bool.not_true, Bool.not_false, WD_nil, WD_cons, WD_guard2, WS_some, WS_none, KS_n, KS_x, KS_r, KB_n, KB_x, KB_r, KN_ap, KO_ap, KD_ap, KC_nil, KF_n, KF_r, KG_n, KG_r, KL_n, KL_x, KL_r, CP_true, CP_false, evOp, evX, X.ev, optX, put_some, put_none, get_set2, sel_t, sel_f, Nat.reduceBEq, Nat.reduceAdd, Nat.reduceLT, Nat.reduceLeDiff, Nat.reduceEqDiff, reduceIte, if_true, if_false, bi_add, bi_sub, bi_mul, bi_eql, bi_neq, bi_lss, bi_leq, bi_gtr, bi_geq, bs_eql, bs_neq, bs_lss, Am.unOp, ret1, pubL, pubC_agg, pubC_s, pubC_i, pubC_b, pubC_p, pubC_np, pubC_nsl, pubC_ws, pubC_full, pubC_shut, pubC_fn, pubA, initT, wkZ, wk, wants, resOf, tupOf, quiet, AOp.cls, Nat.beq_eq, Bool.or_eq_true, decide_true, decide_false, beq_self_eq_true, Bool.true_or, Bool.or_true, true_and, and_true, lenA, eqv, eqB, eqP, scal, new_box_self, List.getElem?_cons_zero, List.getElem?_cons_succ, key_ii, key_ss, findM, updM, esc_i, esc_s, esc_b, Int.reduceEq, ret1, new_nb, new_set, reduceCtorEq, Bool.xor_true, Bool.xor_false, Bool.false_eq_true, List.all_cons, List.all_nil, noTok, Bool.and_self, Bool.and_true, Bool.true_and, or_true, false_or, g7]
    refine ⟨?_, ?_, ?_⟩ <;> simp only [W_seq, W_reg, W_cond, W_blk, W_skip, W_exit, W_ret, W_regD, WO_nil, WO_cons, WO_guard2, wantV_b, bq_tt, bq_ft, bq_tf, bq_ff, Bool.not_true, Bool.not_false, WD_nil, WD_cons, WD_guard2, WS_some, WS_none, KS_n, KS_x, KS_r, KB_n, KB_x, KB_r, KN_ap, KO_ap, KD_ap, KC_nil, KF_n, KF_r, KG_n, KG_r, KL_n, KL_x, KL_r, CP_true, CP_false, evOp, evX, X.ev, optX, put_some, put_none, get_set2, sel_t, sel_f, Nat.reduceBEq, Nat.reduceAdd, Nat.reduceLT, Nat.reduceLeDiff, Nat.reduceEqDiff, reduceIte, if_true, if_false, bi_add, bi_sub, bi_mul, bi_eql, bi_neq, bi_lss, bi_leq, bi_gtr, bi_geq, bs_eql, bs_neq, bs_lss, Am.unOp, ret1, pubL, pubC_agg, pubC_s, pubC_i, pubC_b, pubC_p, pubC_np, pubC_nsl, pubC_ws, pubC_full, pubC_shut, pubC_fn, pubA, initT, wkZ, wk, wants, resOf, tupOf, quiet, AOp.cls, Nat.beq_eq, Bool.or_eq_true, decide_true, decide_false, beq_self_eq_true, Bool.true_or, Bool.or_true, true_and, and_true, lenA, eqv, eqB, eqP, scal, new_box_self, List.getElem?_cons_zero, List.getElem?_cons_succ, key_ii, key_ss, findM, updM, esc_i, esc_s, esc_b, Int.reduceEq, ret1, new_nb, new_set, reduceCtorEq, Bool.xor_true, Bool.xor_false, Bool.false_eq_true, List.all_cons, List.all_nil, noTok, Bool.and_self, Bool.and_true, Bool.true_and, or_true, false_or, g0, g1, g2]
  | true =>
    rw [hall] at g7
    have hnm : ∀ x ∈ l, nameP x = true := fun x hx => List.all_eq_true.1 hall x hx
    have hsw := show_ok hsh s0.enter
    have hrl := rows_len hsh.l
    have hm : l.length * 501 ≤ 100 * 501 := Nat.mul_le_mul_right _ hn
    have hcs := clean_show hnm
    have hshl : (showP l).length ≤ 50101 ∧ ∀ n ∈ showP l, n < 256 := by
      unfold showP
      split
      · exact ⟨by simp, by simp⟩
      · exact ⟨by omega, rows_txt fun x hx => (hl x hx).lt⟩
    have hc := clean_ok (showP l) ⟨hshl.2, by omega⟩ (by omega) s0.enter hw
    rw [hcs] at hc
    have hsm := same_self l (by omega) s0.enter
    simp only [W_seq, W_reg, W_cond, W_blk, W_skip, W_exit, W_ret, W_regD, WO_nil, WO_cons, WO_guard2, wantV_b, bq_tt, bq_ft, bq_tf, bq_ff, Bool.not_true, Bool.not_false, WD_nil, WD_cons, WD_guard2, WS_some, WS_none, KS_n, KS_x, KS_r, KB_n, KB_x, KB_r, KN_ap, KO_ap, KD_ap, KC_nil, KF_n, KF_r, KG_n, KG_r, KL_n, KL_x, KL_r, CP_true, CP_false, evOp, evX, X.ev, optX, put_some, put_none, get_set2, sel_t, sel_f, Nat.reduceBEq, Nat.reduceAdd, Nat.reduceLT, Nat.reduceLeDiff, Nat.reduceEqDiff, reduceIte, if_true, if_false, bi_add, bi_sub, bi_mul, bi_eql, bi_neq, bi_lss, bi_leq, bi_gtr, bi_geq, bs_eql, bs_neq, bs_lss, Am.unOp, ret1, pubL, pubC_agg, pubC_s, pubC_i, pubC_b, pubC_p, pubC_np, pubC_nsl, pubC_ws, pubC_full, pubC_shut, pubC_fn, pubA, initT, wkZ, wk, wants, resOf, tupOf, quiet, AOp.cls, Nat.beq_eq, Bool.or_eq_true, decide_true, decide_false, beq_self_eq_true, Bool.true_or, Bool.or_true, true_and, and_true, lenA, eqv, eqB, eqP, scal, new_box_self, List.getElem?_cons_zero, List.getElem?_cons_succ, key_ii, key_ss, findM, updM, esc_i, esc_s, esc_b, Int.reduceEq, ret1, new_nb, new_set, reduceCtorEq, Bool.xor_true, Bool.xor_false, Bool.false_eq_true, List.all_cons, List.all_nil, noTok, Bool.and_self, Bool.and_true, Bool.true_and, or_true, false_or, g7, g0, g1, g2, hsw, hc, hsm]
    refine ⟨?_, ?_, ?_⟩ <;> simp only [W_seq, W_reg, W_cond, W_blk, W_skip, W_exit, W_ret, W_regD, WO_nil, WO_cons, WO_guard2, wantV_b, bq_tt, bq_ft, bq_tf, bq_ff, Bool.not_true, Bool.not_false, WD_nil, WD_cons, WD_guard2, WS_some, WS_none, KS_n, KS_x, KS_r, KB_n, KB_x, KB_r, KN_ap, KO_ap, KD_ap, KC_nil, KF_n, KF_r, KG_n, KG_r, KL_n, KL_x, KL_r, CP_true, CP_false, evOp, evX, X.ev, optX, put_some, put_none, get_set2, sel_t, sel_f, Nat.reduceBEq, Nat.reduceAdd, Nat.reduceLT, Nat.reduceLeDiff, Nat.reduceEqDiff, reduceIte, if_true, if_false, bi_add, bi_sub, bi_mul, bi_eql, bi_neq, bi_lss, bi_leq, bi_gtr, bi_geq, bs_eql, bs_neq, bs_lss, Am.unOp, ret1, pubL, pubC_agg, pubC_s, pubC_i, pubC_b, pubC_p, pubC_np, pubC_nsl, pubC_ws, pubC_full, pubC_shut, pubC_fn, pubA, initT, wkZ, wk, wants, resOf, tupOf, quiet, AOp.cls, Nat.beq_eq, Bool.or_eq_true, decide_true, decide_false, beq_self_eq_true, Bool.true_or, Bool.or_true, true_and, and_true, lenA, eqv, eqB, eqP, scal, new_box_self, List.getElem?_cons_zero, List.getElem?_cons_succ, key_ii, key_ss, findM, updM, esc_i, esc_s, esc_b, Int.reduceEq, ret1, new_nb, new_set, reduceCtorEq, Bool.xor_true, Bool.xor_false, Bool.false_eq_true, List.all_cons, List.all_nil, noTok, Bool.and_self, Bool.and_true, Bool.true_and, or_true, false_or, g0, g1, g2]
end Go.Proofs.YtfaodjpibdhdjaaDoor
