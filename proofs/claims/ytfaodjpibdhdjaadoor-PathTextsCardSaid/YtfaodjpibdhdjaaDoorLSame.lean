/-
  The document's functions of layer 6.
-/
import Derived.Test.YtfaodjpibdhdjaaDoorLPathH
import Derived.Test.YtfaodjpibdhdjaaDoorAmPrim
set_option linter.all false
set_option linter.unusedVariables false
set_option linter.unusedSimpArgs false
set_option linter.unusedSectionVars false
set_option maxRecDepth 100000
set_option linter.unusedSimpArgs false
set_option linter.constructorNameAsVariable false
namespace Go.Proofs.YtfaodjpibdhdjaaDoor
open Go.Proofs.YtfaodjpibdhdjaaDoor.Am

theorem anyK_or (l : List Nat) : anyK l = false ↔ ∀ (i : Nat) (h : i < l.length), l[i] ≠ 0 ∧ l[i] ≠ 47 ∧ l[i] ≠ 10 := by
  constructor
  · intro h i hi
    unfold anyK at h
    rw [List.any_eq_false] at h
    have := h l[i] (List.getElem_mem hi)
    simp only [List.mem_cons, List.not_mem_nil, or_false, decide_eq_true_eq, not_or] at this
    exact ⟨this.2.1, this.1, this.2.2⟩
  · intro h
    refine anyK_false fun i hi => ?_
    obtain ⟨h1, h2, h3⟩ := h i hi
    simp [h1, h2, h3]

theorem refName_ok (l : List Nat) (hl : l.length < 2 ^ 63) (s : St) : (lim prog).call f_touchstoneref06_Name [.s l] s = some (.b (nameP l), s) := by
  refine fn_W p_touchstoneref06_Name rfl rfl ?_
  have hk : ∀ b, b = nameP l → KR s [CT.id] (.b (nameP l)) (some ([.b b], s.enter)) := fun b hb => KR_some (Over.enter s) rfl (by rw [hb]; rfl)
  by_cases h1 : l = []
  · have h1' : (l = []) = True := by simp [h1]
    simp only [c_touchstoneref06_Name, W_seq, W_reg, W_cond, W_blk, W_skip, W_exit, W_ret, W_regD, WO_nil, WO_cons, WO_guard2, wantV_b, bq_tt, bq_ft, bq_tf, bq_ff, Bool.not_true, Bool.not_false, WD_nil, WD_cons, WD_guard2, WS_some, WS_none, KS_n, KS_x, KS_r, KB_n, KB_x, KB_r, KN_ap, KO_ap, KD_ap, KC_nil, KF_n, KF_r, KG_n, KG_r, KL_n, KL_x, KL_r, CP_true, CP_false, evOp, evX, X.ev, optX, put_some, put_none, get_set2, sel_t, sel_f, Nat.reduceBEq, Nat.reduceAdd, Nat.reduceLT, Nat.reduceLeDiff, Nat.reduceEqDiff, reduceIte, if_true, if_false, bi_add, bi_sub, bi_mul, bi_eql, bi_neq, bi_lss, bi_leq, bi_gtr, bi_geq, bs_eql, bs_neq, bs_lss, Am.unOp, ret1, pubL, pubC_agg, pubC_s, pubC_i, pubC_b, pubC_p, pubC_np, pubC_nsl, pubC_ws, pubC_full, pubC_shut, pubC_fn, pubA, initT, wkZ, wk, wants, resOf, tupOf, quiet, AOp.cls, Nat.beq_eq, Bool.or_eq_true, decide_true, decide_false, beq_self_eq_true, Bool.true_or, Bool.or_true, true_and, and_true, lenA, eqv, eqB, eqP, scal, new_box_self, List.getElem?_cons_zero, List.getElem?_cons_succ, key_ii, key_ss, findM, updM, esc_i, esc_s, esc_b, Int.reduceEq, ret1, new_nb, new_set, reduceCtorEq, Bool.xor_true, Bool.xor_false, Bool.false_eq_true, List.all_cons, List.all_nil, noTok, Bool.and_self, Bool.and_true, Bool.true_and, or_true, false_or, h1']
    exact hk _ (by simp [nameP, h1])
  have h1' : (l = []) = False := by simp [h1]
  by_cases h2 : (64 : Int) < (l.length : Int)
  · simp only [c_touchstoneref06_Name, W_seq, W_reg, W_cond, W_blk, W_skip, W_exit, W_ret, W_regD, WO_nil, WO_cons, WO_guard2, wantV_b, bq_tt, bq_ft, bq_tf, bq_ff, Bool.not_true, Bool.not_false, WD_nil, WD_cons, WD_guard2, WS_some, WS_none, KS_n, KS_x, KS_r, KB_n, KB_x, KB_r, KN_ap, KO_ap, KD_ap, KC_nil, KF_n, KF_r, KG_n, KG_r, KL_n, KL_x, KL_r, CP_true, CP_false, evOp, evX, X.ev, optX, put_some, put_none, get_set2, sel_t, sel_f, Nat.reduceBEq, Nat.reduceAdd, Nat.reduceLT, Nat.reduceLeDiff, Nat.reduceEqDiff, reduceIte, if_true, if_false, bi_add, bi_sub, bi_mul, bi_eql, bi_neq, bi_lss, bi_leq, bi_gtr, bi_geq, bs_eql, bs_neq, bs_lss, Am.unOp, ret1, pubL, pubC_agg, pubC_s, pubC_i, pubC_b, pubC_p, pubC_np, pubC_nsl, pubC_ws, pubC_full, pubC_shut, pubC_fn, pubA, initT, wkZ, wk, wants, resOf, tupOf, quiet, AOp.cls, Nat.beq_eq, Bool.or_eq_true, decide_true, decide_false, beq_self_eq_true, Bool.true_or, Bool.or_true, true_and, and_true, lenA, eqv, eqB, eqP, scal, new_box_self, List.getElem?_cons_zero, List.getElem?_cons_succ, key_ii, key_ss, findM, updM, esc_i, esc_s, esc_b, Int.reduceEq, ret1, new_nb, new_set, reduceCtorEq, Bool.xor_true, Bool.xor_false, Bool.false_eq_true, List.all_cons, List.all_nil, noTok, Bool.and_self, Bool.and_true, Bool.true_and, or_true, false_or, h1', ofNat_len, h2]
    exact hk _ (by have : ¬ l.length ≤ 64 := by omega
                   simp [nameP, this])
  by_cases h3 : l = [46]
  · have h3' : (l = [46]) = True := by simp [h3]
    simp only [c_touchstoneref06_Name, W_seq, W_reg, W_cond, W_blk, W_skip, W_exit, W_ret, W_regD, WO_nil, WO_cons, WO_guard2, wantV_b, bq_tt, bq_ft, bq_tf, bq_ff, Bool.not_true, Bool.not_false, WD_nil, WD_cons, WD_guard2, WS_some, WS_none, KS_n, KS_x, KS_r, KB_n, KB_x, KB_r, KN_ap, KO_ap, KD_ap, KC_nil, KF_n, KF_r, KG_n, KG_r, KL_n, KL_x, KL_r, CP_true, CP_false, evOp, evX, X.ev, optX, put_some, put_none, get_set2, sel_t, sel_f, Nat.reduceBEq, Nat.reduceAdd, Nat.reduceLT, Nat.reduceLeDiff, Nat.reduceEqDiff, reduceIte, if_true, if_false, bi_add, bi_sub, bi_mul, bi_eql, bi_neq, bi_lss, bi_leq, bi_gtr, bi_geq, bs_eql, bs_neq, bs_lss, Am.unOp, ret1, pubL, pubC_agg, pubC_s, pubC_i, pubC_b, pubC_p, pubC_np, pubC_nsl, pubC_ws, pubC_full, pubC_shut, pubC_fn, pubA, initT, wkZ, wk, wants, resOf, tupOf, quiet, AOp.cls, Nat.beq_eq, Bool.or_eq_true, decide_true, decide_false, beq_self_eq_true, Bool.true_or, Bool.or_true, true_and, and_true, lenA, eqv, eqB, eqP, scal, new_box_self, List.getElem?_cons_zero, List.getElem?_cons_succ, key_ii, key_ss, findM, updM, esc_i, esc_s, esc_b, Int.reduceEq, ret1, new_nb, new_set, reduceCtorEq, Bool.xor_true, Bool.xor_false, Bool.false_eq_true, List.all_cons, List.all_nil, noTok, Bool.and_self, Bool.and_true, Bool.true_and, or_true, false_or, h1', ofNat_len, h2, h3']
    exact hk _ (by simp [nameP, h3])
  have h3' : (l = [46]) = False := by simp [h3]
  by_cases h4 : l = [46, 46]
  · have h4' : (l = [46, 46]) = True := by simp [h4]
    simp only [c_touchstoneref06_Name, W_seq, W_reg, W_cond, W_blk, W_skip, W_exit, W_ret, W_regD, WO_nil, WO_cons, WO_guard2, wantV_b, bq_tt, bq_ft, bq_tf, bq_ff, Bool.not_true, Bool.not_false, WD_nil, WD_cons, WD_guard2, WS_some, WS_none, KS_n, KS_x, KS_r, KB_n, KB_x, KB_r, KN_ap, KO_ap, KD_ap, KC_nil, KF_n, KF_r, KG_n, KG_r, KL_n, KL_x, KL_r, CP_true, CP_false, evOp, evX, X.ev, optX, put_some, put_none, get_set2, sel_t, sel_f, Nat.reduceBEq, Nat.reduceAdd, Nat.reduceLT, Nat.reduceLeDiff, Nat.reduceEqDiff, reduceIte, if_true, if_false, bi_add, bi_sub, bi_mul, bi_eql, bi_neq, bi_lss, bi_leq, bi_gtr, bi_geq, bs_eql, bs_neq, bs_lss, Am.unOp, ret1, pubL, pubC_agg, pubC_s, pubC_i, pubC_b, pubC_p, pubC_np, pubC_nsl, pubC_ws, pubC_full, pubC_shut, pubC_fn, pubA, initT, wkZ, wk, wants, resOf, tupOf, quiet, AOp.cls, Nat.beq_eq, Bool.or_eq_true, decide_true, decide_false, beq_self_eq_true, Bool.true_or, Bool.or_true, true_and, and_true, lenA, eqv, eqB, eqP, scal, new_box_self, List.getElem?_cons_zero, List.getElem?_cons_succ, key_ii, key_ss, findM, updM, esc_i, esc_s, esc_b, Int.reduceEq, ret1, new_nb, new_set, reduceCtorEq, Bool.xor_true, Bool.xor_false, Bool.false_eq_true, List.all_cons, List.all_nil, noTok, Bool.and_self, Bool.and_true, Bool.true_and, or_true, false_or, h1', ofNat_len, h2, h3', h4']
    exact hk _ (by simp [nameP, h4])
  have h4' : (l = [46, 46]) = False := by simp [h4]
  have hle : l.length ≤ 64 := by omega
  have hN : nameP l = !anyK l := by simp [nameP, h1, h3, h4, hle]
  simp only [c_touchstoneref06_Name, W_seq, W_reg, W_cond, W_blk, W_skip, W_exit, W_ret, W_regD, WO_nil, WO_cons, WO_guard2, wantV_b, bq_tt, bq_ft, bq_tf, bq_ff, Bool.not_true, Bool.not_false, WD_nil, WD_cons, WD_guard2, WS_some, WS_none, KS_n, KS_x, KS_r, KB_n, KB_x, KB_r, KN_ap, KO_ap, KD_ap, KC_nil, KF_n, KF_r, KG_n, KG_r, KL_n, KL_x, KL_r, CP_true, CP_false, evOp, evX, X.ev, optX, put_some, put_none, get_set2, sel_t, sel_f, Nat.reduceBEq, Nat.reduceAdd, Nat.reduceLT, Nat.reduceLeDiff, Nat.reduceEqDiff, reduceIte, if_true, if_false, bi_add, bi_sub, bi_mul, bi_eql, bi_neq, bi_lss, bi_leq, bi_gtr, bi_geq, bs_eql, bs_neq, bs_lss, Am.unOp, ret1, pubL, pubC_agg, pubC_s, pubC_i, pubC_b, pubC_p, pubC_np, pubC_nsl, pubC_ws, pubC_full, pubC_shut, pubC_fn, pubA, initT, wkZ, wk, wants, resOf, tupOf, quiet, AOp.cls, Nat.beq_eq, Bool.or_eq_true, decide_true, decide_false, beq_self_eq_true, Bool.true_or, Bool.or_true, true_and, and_true, lenA, eqv, eqB, eqP, scal, new_box_self, List.getElem?_cons_zero, List.getElem?_cons_succ, key_ii, key_ss, findM, updM, esc_i, esc_s, esc_b, Int.reduceEq, ret1, new_nb, new_set, reduceCtorEq, Bool.xor_true, Bool.xor_false, Bool.false_eq_true, List.all_cons, List.all_nil, noTok, Bool.and_self, Bool.and_true, Bool.true_and, or_true, false_or, h1', ofNat_len, h2, h3', h4']
  refine W_loop (fun n e q => s.enter = q ∧ e.get 0 = .s l ∧ ∃ i : Nat, i + n = l.length ∧ e.get 3 = .i .i64 i ∧ ∀ (j : Nat) (h : j < l.length), j < i → l[j] ≠ 0 ∧ l[j] ≠ 47 ∧ l[j] ≠ 10) ?_ l.length _ _ ?_
  · rintro n e q ⟨rfl, g0, i, hi, g3, hno⟩
    simp only [W_seq, W_reg, W_cond, W_blk, W_skip, W_exit, W_ret, W_regD, WO_nil, WO_cons, WO_guard2, wantV_b, bq_tt, bq_ft, bq_tf, bq_ff, Bool.not_true, Bool.not_false, WD_nil, WD_cons, WD_guard2, WS_some, WS_none, KS_n, KS_x, KS_r, KB_n, KB_x, KB_r, KN_ap, KO_ap, KD_ap, KC_nil, KF_n, KF_r, KG_n, KG_r, KL_n, KL_x, KL_r, CP_true, CP_false, evOp, evX, X.ev, optX, put_some, put_none, get_set2, sel_t, sel_f, Nat.reduceBEq, Nat.reduceAdd, Nat.reduceLT, Nat.reduceLeDiff, Nat.reduceEqDiff, reduceIte, if_true, if_false, bi_add, bi_sub, bi_mul, bi_eql, bi_neq, bi_lss, bi_leq, bi_gtr, bi_geq, bs_eql, bs_neq, bs_lss, Am.unOp, ret1, pubL, pubC_agg, pubC_s, pubC_i, pubC_b, pubC_p, pubC_np, pubC_nsl, pubC_ws, pubC_full, pubC_shut, pubC_fn, pubA, initT, wkZ, wk, wants, resOf, tupOf, quiet, AOp.cls, Nat.beq_eq, Bool.or_eq_true, decide_true, decide_false, beq_self_eq_true, Bool.true_or, Bool.or_true, true_and, and_true, lenA, eqv, eqB, eqP, scal, new_box_self, List.getElem?_cons_zero, List.getElem?_cons_succ, key_ii, key_ss, findM, updM, esc_i, esc_s, esc_b, Int.reduceEq, ret1, new_nb, new_set, reduceCtorEq, Bool.xor_true, Bool.xor_false, Bool.false_eq_true, List.all_cons, List.all_nil, noTok, Bool.and_self, Bool.and_true, Bool.true_and, or_true, false_or, g0, g3, ofNat_len]
    refine CP_dec (fun hlt => ?_) (fun hge => ?_)
    · have hlt : i < l.length := by omega
      have hget : l[i]? = some l[i] := List.getElem?_eq_getElem hlt
      obtain ⟨c, hc⟩ : ∃ c, l[i] = c := ⟨_, rfl⟩
      rw [hc] at hget
      have hbad : c ∈ K3 → nameP l = false := fun hm => by rw [hN, anyK_of hlt (by rw [hc]; exact hm)]; rfl
      by_cases c0 : c = 0
      · have c0' : ((c : Int) = 0) = True := by simp [c0]
        simp only [W_seq, W_reg, W_cond, W_blk, W_skip, W_exit, W_ret, W_regD, WO_nil, WO_cons, WO_guard2, wantV_b, bq_tt, bq_ft, bq_tf, bq_ff, Bool.not_true, Bool.not_false, WD_nil, WD_cons, WD_guard2, WS_some, WS_none, KS_n, KS_x, KS_r, KB_n, KB_x, KB_r, KN_ap, KO_ap, KD_ap, KC_nil, KF_n, KF_r, KG_n, KG_r, KL_n, KL_x, KL_r, CP_true, CP_false, evOp, evX, X.ev, optX, put_some, put_none, get_set2, sel_t, sel_f, Nat.reduceBEq, Nat.reduceAdd, Nat.reduceLT, Nat.reduceLeDiff, Nat.reduceEqDiff, reduceIte, if_true, if_false, bi_add, bi_sub, bi_mul, bi_eql, bi_neq, bi_lss, bi_leq, bi_gtr, bi_geq, bs_eql, bs_neq, bs_lss, Am.unOp, ret1, pubL, pubC_agg, pubC_s, pubC_i, pubC_b, pubC_p, pubC_np, pubC_nsl, pubC_ws, pubC_full, pubC_shut, pubC_fn, pubA, initT, wkZ, wk, wants, resOf, tupOf, quiet, AOp.cls, Nat.beq_eq, Bool.or_eq_true, decide_true, decide_false, beq_self_eq_true, Bool.true_or, Bool.or_true, true_and, and_true, lenA, eqv, eqB, eqP, scal, new_box_self, List.getElem?_cons_zero, List.getElem?_cons_succ, key_ii, key_ss, findM, updM, esc_i, esc_s, esc_b, Int.reduceEq, ret1, new_nb, new_set, reduceCtorEq, Bool.xor_true, Bool.xor_false, Bool.false_eq_true, List.all_cons, List.all_nil, noTok, Bool.and_self, Bool.and_true, Bool.true_and, or_true, false_or, g0, g3, natOf_i64, hget, ofNat_len, c0']
        exact hk _ (hbad (by simp [c0])).symm
      have c0' : ((c : Int) = 0) = False := by simp; omega
      by_cases c1 : c = 47
      · have c1' : ((c : Int) = 47) = True := by simp; omega
        simp only [W_seq, W_reg, W_cond, W_blk, W_skip, W_exit, W_ret, W_regD, WO_nil, WO_cons, WO_guard2, wantV_b, bq_tt, bq_ft, bq_tf, bq_ff, Bool.not_true, Bool.not_false, WD_nil, WD_cons, WD_guard2, WS_some, WS_none, KS_n, KS_x, KS_r, KB_n, KB_x, KB_r, KN_ap, KO_ap, KD_ap, KC_nil, KF_n, KF_r, KG_n, KG_r, KL_n, KL_x, KL_r, CP_true, CP_false, evOp, evX, X.ev, optX, put_some, put_none, get_set2, sel_t, sel_f, Nat.reduceBEq, Nat.reduceAdd, Nat.reduceLT, Nat.reduceLeDiff, Nat.reduceEqDiff, reduceIte, if_true, if_false, bi_add, bi_sub, bi_mul, bi_eql, bi_neq, bi_lss, bi_leq, bi_gtr, bi_geq, bs_eql, bs_neq, bs_lss, Am.unOp, ret1, pubL, pubC_agg, pubC_s, pubC_i, pubC_b, pubC_p, pubC_np, pubC_nsl, pubC_ws, pubC_full, pubC_shut, pubC_fn, pubA, initT, wkZ, wk, wants, resOf, tupOf, quiet, AOp.cls, Nat.beq_eq, Bool.or_eq_true, decide_true, decide_false, beq_self_eq_true, Bool.true_or, Bool.or_true, true_and, and_true, lenA, eqv, eqB, eqP, scal, new_box_self, List.getElem?_cons_zero, List.getElem?_cons_succ, key_ii, key_ss, findM, updM, esc_i, esc_s, esc_b, Int.reduceEq, ret1, new_nb, new_set, reduceCtorEq, Bool.xor_true, Bool.xor_false, Bool.false_eq_true, List.all_cons, List.all_nil, noTok, Bool.and_self, Bool.and_true, Bool.true_and, or_true, false_or, g0, g3, natOf_i64, hget, ofNat_len, c0', c1']
        exact hk _ (hbad (by simp [c1])).symm
      have c1' : ((c : Int) = 47) = False := by simp; omega
      by_cases c2 : c = 10
      · have c2' : ((c : Int) = 10) = True := by simp; omega
        simp only [W_seq, W_reg, W_cond, W_blk, W_skip, W_exit, W_ret, W_regD, WO_nil, WO_cons, WO_guard2, wantV_b, bq_tt, bq_ft, bq_tf, bq_ff, Bool.not_true, Bool.not_false, WD_nil, WD_cons, WD_guard2, WS_some, WS_none, KS_n, KS_x, KS_r, KB_n, KB_x, KB_r, KN_ap, KO_ap, KD_ap, KC_nil, KF_n, KF_r, KG_n, KG_r, KL_n, KL_x, KL_r, CP_true, CP_false, evOp, evX, X.ev, optX, put_some, put_none, get_set2, sel_t, sel_f, Nat.reduceBEq, Nat.reduceAdd, Nat.reduceLT, Nat.reduceLeDiff, Nat.reduceEqDiff, reduceIte, if_true, if_false, bi_add, bi_sub, bi_mul, bi_eql, bi_neq, bi_lss, bi_leq, bi_gtr, bi_geq, bs_eql, bs_neq, bs_lss, Am.unOp, ret1, pubL, pubC_agg, pubC_s, pubC_i, pubC_b, pubC_p, pubC_np, pubC_nsl, pubC_ws, pubC_full, pubC_shut, pubC_fn, pubA, initT, wkZ, wk, wants, resOf, tupOf, quiet, AOp.cls, Nat.beq_eq, Bool.or_eq_true, decide_true, decide_false, beq_self_eq_true, Bool.true_or, Bool.or_true, true_and, and_true, lenA, eqv, eqB, eqP, scal, new_box_self, List.getElem?_cons_zero, List.getElem?_cons_succ, key_ii, key_ss, findM, updM, esc_i, esc_s, esc_b, Int.reduceEq, ret1, new_nb, new_set, reduceCtorEq, Bool.xor_true, Bool.xor_false, Bool.false_eq_true, List.all_cons, List.all_nil, noTok, Bool.and_self, Bool.and_true, Bool.true_and, or_true, false_or, g0, g3, natOf_i64, hget, ofNat_len, c0', c1', c2']
        exact hk _ (hbad (by simp [c2])).symm
      have c2' : ((c : Int) = 10) = False := by simp; omega
      simp only [W_seq, W_reg, W_cond, W_blk, W_skip, W_exit, W_ret, W_regD, WO_nil, WO_cons, WO_guard2, wantV_b, bq_tt, bq_ft, bq_tf, bq_ff, Bool.not_true, Bool.not_false, WD_nil, WD_cons, WD_guard2, WS_some, WS_none, KS_n, KS_x, KS_r, KB_n, KB_x, KB_r, KN_ap, KO_ap, KD_ap, KC_nil, KF_n, KF_r, KG_n, KG_r, KL_n, KL_x, KL_r, CP_true, CP_false, evOp, evX, X.ev, optX, put_some, put_none, get_set2, sel_t, sel_f, Nat.reduceBEq, Nat.reduceAdd, Nat.reduceLT, Nat.reduceLeDiff, Nat.reduceEqDiff, reduceIte, if_true, if_false, bi_add, bi_sub, bi_mul, bi_eql, bi_neq, bi_lss, bi_leq, bi_gtr, bi_geq, bs_eql, bs_neq, bs_lss, Am.unOp, ret1, pubL, pubC_agg, pubC_s, pubC_i, pubC_b, pubC_p, pubC_np, pubC_nsl, pubC_ws, pubC_full, pubC_shut, pubC_fn, pubA, initT, wkZ, wk, wants, resOf, tupOf, quiet, AOp.cls, Nat.beq_eq, Bool.or_eq_true, decide_true, decide_false, beq_self_eq_true, Bool.true_or, Bool.or_true, true_and, and_true, lenA, eqv, eqB, eqP, scal, new_box_self, List.getElem?_cons_zero, List.getElem?_cons_succ, key_ii, key_ss, findM, updM, esc_i, esc_s, esc_b, Int.reduceEq, ret1, new_nb, new_set, reduceCtorEq, Bool.xor_true, Bool.xor_false, Bool.false_eq_true, List.all_cons, List.all_nil, noTok, Bool.and_self, Bool.and_true, Bool.true_and, or_true, false_or, g0, g3, natOf_i64, hget, ofNat_len, c0', c1', c2', wrap_succ (show i + 1 < 2 ^ 63 by omega)]
      refine ⟨n - 1, by omega, i + 1, by omega, rfl, fun j hj hji => ?_⟩
      by_cases hje : j = i
      · subst hje; rw [hc]; exact ⟨c0, c1, c2⟩
      · exact hno j hj (by omega)
    · exact hk _ (by rw [hN, (anyK_or l).2 fun i hi => hno i hi (by omega)]; rfl)
  · simp only [W_seq, W_reg, W_cond, W_blk, W_skip, W_exit, W_ret, W_regD, WO_nil, WO_cons, WO_guard2, wantV_b, bq_tt, bq_ft, bq_tf, bq_ff, Bool.not_true, Bool.not_false, WD_nil, WD_cons, WD_guard2, WS_some, WS_none, KS_n, KS_x, KS_r, KB_n, KB_x, KB_r, KN_ap, KO_ap, KD_ap, KC_nil, KF_n, KF_r, KG_n, KG_r, KL_n, KL_x, KL_r, CP_true, CP_false, evOp, evX, X.ev, optX, put_some, put_none, get_set2, sel_t, sel_f, Nat.reduceBEq, Nat.reduceAdd, Nat.reduceLT, Nat.reduceLeDiff, Nat.reduceEqDiff, reduceIte, if_true, if_false, bi_add, bi_sub, bi_mul, bi_eql, bi_neq, bi_lss, bi_leq, bi_gtr, bi_geq, bs_eql, bs_neq, bs_lss, Am.unOp, ret1, pubL, pubC_agg, pubC_s, pubC_i, pubC_b, pubC_p, pubC_np, pubC_nsl, pubC_ws, pubC_full, pubC_shut, pubC_fn, pubA, initT, wkZ, wk, wants, resOf, tupOf, quiet, AOp.cls, Nat.beq_eq, Bool.or_eq_true, decide_true, decide_false, beq_self_eq_true, Bool.true_or, Bool.or_true, true_and, and_true, lenA, eqv, eqB, eqP, scal, new_box_self, List.getElem?_cons_zero, List.getElem?_cons_succ, key_ii, key_ss, findM, updM, esc_i, esc_s, esc_b, Int.reduceEq, ret1, new_nb, new_set, reduceCtorEq, Bool.xor_true, Bool.xor_false, Bool.false_eq_true, List.all_cons, List.all_nil, noTok, Bool.and_self, Bool.and_true, Bool.true_and, or_true, false_or]
    exact ⟨0, by omega, rfl, fun j hj h => by omega⟩

/-- How a row of texts is told at the end. -/
theorem rowP_end {s0 q : St} {a : AV} {xs : List (List Nat)} (hov : Over s0 q) (hr : RowP 1 s0.nt q 9 a (xs.map .s)) : ∃ a' q', frz q a = some (a', q') ∧ Over s0 q' ∧ a'.refs = false ∧ wk (.sl 1 .id) a' = tx xs := by
  rcases hr with ⟨rfl, h⟩ | ⟨k, vv, t, rfl, m1, m2, m3, m4, _⟩
  · have : xs = [] := by simpa using h
    subst this
    exact ⟨.nsl, q, rfl, hov, rfl, rfl⟩
  · refine ⟨.sl 1 (xs.map .s) .shut, q.setTok k { t with pub := max t.pub (xs.map AV.s).length }, by simp only [frz, pub, m3, m4, if_true], Over.setTok hov m1 m2 _, by simp only [AV.refs]; exact refs_s' _, ?_⟩
    rw [wk]
    simp only [Nat.beq_refl, if_true, wkM_s']
theorem rowP_shape {es t0 T : Nat} {s : St} {a : AV} {xs : List AV} (hr : RowP es t0 s T a xs) : (a = .nsl ∧ xs = []) ∨ ∃ k v, a = .sl es xs (.tok k v) := by
  rcases hr with h | ⟨k, v, t, rfl, _⟩
  · exact .inl h
  · exact .inr ⟨k, v, rfl⟩
theorem app_one {s0 q : St} {a : AV} {xs : List (List Nat)} (x : List Nat) (hw : Wf q) (hov : Over s0 q) (hr : RowP 1 s0.nt q 9 a (xs.map .s)) (hsz : xs.length + 1 < 2 ^ 38) :
    ∃ a' q', appA q 1 9 a (.sl 1 [.s x] .full) = some (a', q') ∧ RowP 1 s0.nt q' 9 a' ((xs ++ [x]).map .s) ∧ Over s0 q' ∧ Wf q' := by
  have hel : elems q 1 (.sl 1 [.s x] .full) = some [.s x] := by simp [elems, St.ok]
  obtain ⟨a', q', h1, h2, h3, _⟩ := app_rowP hw hov.nt hr hel (by simp) (by simpa using hsz)
  exact ⟨a', q', h1, by simpa using h2, h3.over s0 (Nat.le_refl _) hov.nt hov, h3.wf hw⟩
theorem al1 (a : List Nat) : allLen 1 [AV.s a] = true := rfl
theorem bounds_ii {len a b : Nat} (h1 : a ≤ b) (h2 : b ≤ len) : bounds len (some (.i .i64 (a : Int))) (some (.i .i64 (b : Int))) = some (a, b) := by
  unfold bounds
  simp [natOf]
  omega
theorem cat_ok {x y : List Nat} (h : x.length + y.length < 2 ^ 62) : Am.binOp .add (.s x) (.s y) = some (.s (x ++ y)) := by rw [bs_add, if_pos h]

theorem segs_yes {c : Nat} {cur l : List Nat} (h : c = 47) : segs cur (c :: l) = cur :: segs [] l := by
  show (if c = 47 then cur :: segs [] l else segs (cur ++ [c]) l) = _
  rw [if_pos h]
theorem segs_not {c : Nat} {cur l : List Nat} (h : ¬ c = 47) : segs cur (c :: l) = segs (cur ++ [c]) l := by
  show (if c = 47 then cur :: segs [] l else segs (cur ++ [c]) l) = _
  rw [if_neg h]

theorem refParts_ok (l : List Nat) (hlen : l.length < 2 ^ 36) (s : St) (hw : Wf s) : (lim prog).call f_touchstoneref06_parts [.s l] s = some (tx (splitL l), s) := by
  refine fn_W p_touchstoneref06_parts rfl rfl ?_
  simp only [c_touchstoneref06_parts, W_seq, W_reg, W_cond, W_blk, W_skip, W_exit, W_ret, W_regD, WO_nil, WO_cons, WO_guard2, wantV_b, bq_tt, bq_ft, bq_tf, bq_ff, Bool.not_true, Bool.not_false, WD_nil, WD_cons, WD_guard2, WS_some, WS_none, KS_n, KS_x, KS_r, KB_n, KB_x, KB_r, KN_ap, KO_ap, KD_ap, KC_nil, KF_n, KF_r, KG_n, KG_r, KL_n, KL_x, KL_r, CP_true, CP_false, evOp, evX, X.ev, optX, put_some, put_none, get_set2, sel_t, sel_f, Nat.reduceBEq, Nat.reduceAdd, Nat.reduceLT, Nat.reduceLeDiff, Nat.reduceEqDiff, reduceIte, if_true, if_false, bi_add, bi_sub, bi_mul, bi_eql, bi_neq, bi_lss, bi_leq, bi_gtr, bi_geq, bs_eql, bs_neq, bs_lss, Am.unOp, ret1, pubL, pubC_agg, pubC_s, pubC_i, pubC_b, pubC_p, pubC_np, pubC_nsl, pubC_ws, pubC_full, pubC_shut, pubC_fn, pubA, initT, wkZ, wk, wants, resOf, tupOf, quiet, AOp.cls, Nat.beq_eq, Bool.or_eq_true, decide_true, decide_false, beq_self_eq_true, Bool.true_or, Bool.or_true, true_and, and_true, lenA, eqv, eqB, eqP, scal, new_box_self, List.getElem?_cons_zero, List.getElem?_cons_succ, key_ii, key_ss, findM, updM, esc_i, esc_s, esc_b, Int.reduceEq, ret1, new_nb, new_set, reduceCtorEq, Bool.xor_true, Bool.xor_false, Bool.false_eq_true, List.all_cons, List.all_nil, noTok, Bool.and_self, Bool.and_true, Bool.true_and, or_true, false_or]
  refine W_loop (fun n e q => e.get 0 = .s l ∧ Over s q ∧ Wf q ∧ ∃ (i : Nat) (done : List (List Nat)) (cur : List Nat), i + n = l.length ∧ e.get 5 = .i .i64 i ∧ e.get 4 = .s cur ∧ RowP 1 s.nt q 9 (e.get 3) (done.map .s) ∧ done ++ segs cur (l.drop i) = splitL l ∧ done.length ≤ i ∧ cur.length ≤ i) ?_ l.length _ _ ?_
  · rintro n e q ⟨g0, hov, hwq, i, done, cur, hi, g5, g4, hr, hsg, hd, hcu⟩
    obtain ⟨a, g3⟩ : ∃ a, e.get 3 = a := ⟨_, rfl⟩
    rw [g3] at hr
    simp only [W_seq, W_reg, W_cond, W_blk, W_skip, W_exit, W_ret, W_regD, WO_nil, WO_cons, WO_guard2, wantV_b, bq_tt, bq_ft, bq_tf, bq_ff, Bool.not_true, Bool.not_false, WD_nil, WD_cons, WD_guard2, WS_some, WS_none, KS_n, KS_x, KS_r, KB_n, KB_x, KB_r, KN_ap, KO_ap, KD_ap, KC_nil, KF_n, KF_r, KG_n, KG_r, KL_n, KL_x, KL_r, CP_true, CP_false, evOp, evX, X.ev, optX, put_some, put_none, get_set2, sel_t, sel_f, Nat.reduceBEq, Nat.reduceAdd, Nat.reduceLT, Nat.reduceLeDiff, Nat.reduceEqDiff, reduceIte, if_true, if_false, bi_add, bi_sub, bi_mul, bi_eql, bi_neq, bi_lss, bi_leq, bi_gtr, bi_geq, bs_eql, bs_neq, bs_lss, Am.unOp, ret1, pubL, pubC_agg, pubC_s, pubC_i, pubC_b, pubC_p, pubC_np, pubC_nsl, pubC_ws, pubC_full, pubC_shut, pubC_fn, pubA, initT, wkZ, wk, wants, resOf, tupOf, quiet, AOp.cls, Nat.beq_eq, Bool.or_eq_true, decide_true, decide_false, beq_self_eq_true, Bool.true_or, Bool.or_true, true_and, and_true, lenA, eqv, eqB, eqP, scal, new_box_self, List.getElem?_cons_zero, List.getElem?_cons_succ, key_ii, key_ss, findM, updM, esc_i, esc_s, esc_b, Int.reduceEq, ret1, new_nb, new_set, reduceCtorEq, Bool.xor_true, Bool.xor_false, Bool.false_eq_true, List.all_cons, List.all_nil, noTok, Bool.and_self, Bool.and_true, Bool.true_and, or_true, false_or, g0, g5, ofNat_len]
    refine CP_dec (fun hlt => ?_) (fun hge => ?_)
    · have hlt : i < l.length := by omega
      have hget : l[i]? = some l[i] := List.getElem?_eq_getElem hlt
      obtain ⟨c, hc⟩ : ∃ c, l[i] = c := ⟨_, rfl⟩
      rw [hc] at hget
      rw [List.drop_eq_getElem_cons hlt, hc] at hsg
      have hw64 := wrap_succ (show i + 1 < 2 ^ 63 by omega)
      by_cases h47 : c = 47
      · have h47' : ((c : Int) = 47) = True := by simp; omega
        rw [segs_yes h47, List.append_cons] at hsg
        obtain ⟨a', q', e1, hr', ov', w'⟩ := app_one cur hwq hov hr (by omega)
        rcases rowP_shape hr with ⟨rfl, _⟩ | ⟨k, v, rfl⟩ <;>
          (simp only [W_seq, W_reg, W_cond, W_blk, W_skip, W_exit, W_ret, W_regD, WO_nil, WO_cons, WO_guard2, wantV_b, bq_tt, bq_ft, bq_tf, bq_ff, Bool.not_true, Bool.not_false, WD_nil, WD_cons, WD_guard2, WS_some, WS_none, KS_n, KS_x, KS_r, KB_n, KB_x, KB_r, KN_ap, KO_ap, KD_ap, KC_nil, KF_n, KF_r, KG_n, KG_r, KL_n, KL_x, KL_r, CP_true, CP_false, evOp, evX, X.ev, optX, put_some, put_none, get_set2, sel_t, sel_f, Nat.reduceBEq, Nat.reduceAdd, Nat.reduceLT, Nat.reduceLeDiff, Nat.reduceEqDiff, reduceIte, if_true, if_false, bi_add, bi_sub, bi_mul, bi_eql, bi_neq, bi_lss, bi_leq, bi_gtr, bi_geq, bs_eql, bs_neq, bs_lss, Am.unOp, ret1, pubL, pubC_agg, pubC_s, pubC_i, pubC_b, pubC_p, pubC_np, pubC_nsl, pubC_ws, pubC_full, pubC_shut, pubC_fn, pubA, initT, wkZ, wk, wants, resOf, tupOf, quiet, AOp.cls, Nat.beq_eq, Bool.or_eq_true, decide_true, decide_false, beq_self_eq_true, Bool.true_or, Bool.or_true, true_and, and_true, lenA, eqv, eqB, eqP, scal, new_box_self, List.getElem?_cons_zero, List.getElem?_cons_succ, key_ii, key_ss, findM, updM, esc_i, esc_s, esc_b, Int.reduceEq, ret1, new_nb, new_set, reduceCtorEq, Bool.xor_true, Bool.xor_false, Bool.false_eq_true, List.all_cons, List.all_nil, noTok, Bool.and_self, Bool.and_true, Bool.true_and, or_true, false_or, g0, g3, g4, g5, natOf_i64, hget, ofNat_len, h47', al1, e1, hw64]
           refine ⟨n - 1, by omega, ov', w', i + 1, done ++ [cur], [], by omega, rfl, rfl, hr', hsg, by simp; omega, by simp⟩)
      · have h47' : ((c : Int) = 47) = False := by simp; omega
        rw [segs_not h47] at hsg
        have hsub : (l.drop i).take (i + 1 - i) = [c] := by
          rw [show i + 1 - i = 1 by omega, List.take_one, List.head?_drop, hget]; rfl
        rcases rowP_shape hr with ⟨rfl, _⟩ | ⟨k, v, rfl⟩ <;>
          (simp only [W_seq, W_reg, W_cond, W_blk, W_skip, W_exit, W_ret, W_regD, WO_nil, WO_cons, WO_guard2, wantV_b, bq_tt, bq_ft, bq_tf, bq_ff, Bool.not_true, Bool.not_false, WD_nil, WD_cons, WD_guard2, WS_some, WS_none, KS_n, KS_x, KS_r, KB_n, KB_x, KB_r, KN_ap, KO_ap, KD_ap, KC_nil, KF_n, KF_r, KG_n, KG_r, KL_n, KL_x, KL_r, CP_true, CP_false, evOp, evX, X.ev, optX, put_some, put_none, get_set2, sel_t, sel_f, Nat.reduceBEq, Nat.reduceAdd, Nat.reduceLT, Nat.reduceLeDiff, Nat.reduceEqDiff, reduceIte, if_true, if_false, bi_add, bi_sub, bi_mul, bi_eql, bi_neq, bi_lss, bi_leq, bi_gtr, bi_geq, bs_eql, bs_neq, bs_lss, Am.unOp, ret1, pubL, pubC_agg, pubC_s, pubC_i, pubC_b, pubC_p, pubC_np, pubC_nsl, pubC_ws, pubC_full, pubC_shut, pubC_fn, pubA, initT, wkZ, wk, wants, resOf, tupOf, quiet, AOp.cls, Nat.beq_eq, Bool.or_eq_true, decide_true, decide_false, beq_self_eq_true, Bool.true_or, Bool.or_true, true_and, and_true, lenA, eqv, eqB, eqP, scal, new_box_self, List.getElem?_cons_zero, List.getElem?_cons_succ, key_ii, key_ss, findM, updM, esc_i, esc_s, esc_b, Int.reduceEq, ret1, new_nb, new_set, reduceCtorEq, Bool.xor_true, Bool.xor_false, Bool.false_eq_true, List.all_cons, List.all_nil, noTok, Bool.and_self, Bool.and_true, Bool.true_and, or_true, false_or, g0, g3, g4, g5, natOf_i64, hget, ofNat_len, h47', hw64, bounds_ii (show i ≤ i + 1 by omega) (show i + 1 ≤ l.length by omega), hsub, cat_ok (show cur.length + [c].length < 2 ^ 62 by simp; omega)]
           refine ⟨n - 1, by omega, hov, hwq, i + 1, done, cur ++ [c], by omega, rfl, rfl, hr, hsg, by omega, by simp; omega⟩)
    · have hil : i = l.length := by omega
      rw [hil, List.drop_length] at hsg
      have hsg : done ++ [cur] = splitL l := hsg
      obtain ⟨a', q', e1, hr', ov', w'⟩ := app_one cur hwq hov hr (by omega)
      rw [hsg] at hr'
      obtain ⟨a2, q2, f1, f2, f3, f4⟩ := rowP_end ov' hr'
      rcases rowP_shape hr with ⟨rfl, _⟩ | ⟨k, v, rfl⟩ <;>
        (simp only [W_seq, W_reg, W_cond, W_blk, W_skip, W_exit, W_ret, W_regD, WO_nil, WO_cons, WO_guard2, wantV_b, bq_tt, bq_ft, bq_tf, bq_ff, Bool.not_true, Bool.not_false, WD_nil, WD_cons, WD_guard2, WS_some, WS_none, KS_n, KS_x, KS_r, KB_n, KB_x, KB_r, KN_ap, KO_ap, KD_ap, KC_nil, KF_n, KF_r, KG_n, KG_r, KL_n, KL_x, KL_r, CP_true, CP_false, evOp, evX, X.ev, optX, put_some, put_none, get_set2, sel_t, sel_f, Nat.reduceBEq, Nat.reduceAdd, Nat.reduceLT, Nat.reduceLeDiff, Nat.reduceEqDiff, reduceIte, if_true, if_false, bi_add, bi_sub, bi_mul, bi_eql, bi_neq, bi_lss, bi_leq, bi_gtr, bi_geq, bs_eql, bs_neq, bs_lss, Am.unOp, ret1, pubL, pubC_agg, pubC_s, pubC_i, pubC_b, pubC_p, pubC_np, pubC_nsl, pubC_ws, pubC_full, pubC_shut, pubC_fn, pubA, initT, wkZ, wk, wants, resOf, tupOf, quiet, AOp.cls, Nat.beq_eq, Bool.or_eq_true, decide_true, decide_false, beq_self_eq_true, Bool.true_or, Bool.or_true, true_and, and_true, lenA, eqv, eqB, eqP, scal, new_box_self, List.getElem?_cons_zero, List.getElem?_cons_succ, key_ii, key_ss, findM, updM, esc_i, esc_s, esc_b, Int.reduceEq, ret1, new_nb, new_set, reduceCtorEq, Bool.xor_true, Bool.xor_false, Bool.false_eq_true, List.all_cons, List.all_nil, noTok, Bool.and_self, Bool.and_true, Bool.true_and, or_true, false_or, g0, g3, g4, g5, al1, e1]
         rcases rowP_shape hr' with ⟨rfl, _⟩ | ⟨k', v', rfl⟩ <;>
           (simp only [f1]
            exact KR_some f2 f3 (by simpa only [tupOf, wkZ] using f4)))
  · simp only [W_seq, W_reg, W_cond, W_blk, W_skip, W_exit, W_ret, W_regD, WO_nil, WO_cons, WO_guard2, wantV_b, bq_tt, bq_ft, bq_tf, bq_ff, Bool.not_true, Bool.not_false, WD_nil, WD_cons, WD_guard2, WS_some, WS_none, KS_n, KS_x, KS_r, KB_n, KB_x, KB_r, KN_ap, KO_ap, KD_ap, KC_nil, KF_n, KF_r, KG_n, KG_r, KL_n, KL_x, KL_r, CP_true, CP_false, evOp, evX, X.ev, optX, put_some, put_none, get_set2, sel_t, sel_f, Nat.reduceBEq, Nat.reduceAdd, Nat.reduceLT, Nat.reduceLeDiff, Nat.reduceEqDiff, reduceIte, if_true, if_false, bi_add, bi_sub, bi_mul, bi_eql, bi_neq, bi_lss, bi_leq, bi_gtr, bi_geq, bs_eql, bs_neq, bs_lss, Am.unOp, ret1, pubL, pubC_agg, pubC_s, pubC_i, pubC_b, pubC_p, pubC_np, pubC_nsl, pubC_ws, pubC_full, pubC_shut, pubC_fn, pubA, initT, wkZ, wk, wants, resOf, tupOf, quiet, AOp.cls, Nat.beq_eq, Bool.or_eq_true, decide_true, decide_false, beq_self_eq_true, Bool.true_or, Bool.or_true, true_and, and_true, lenA, eqv, eqB, eqP, scal, new_box_self, List.getElem?_cons_zero, List.getElem?_cons_succ, key_ii, key_ss, findM, updM, esc_i, esc_s, esc_b, Int.reduceEq, ret1, new_nb, new_set, reduceCtorEq, Bool.xor_true, Bool.xor_false, Bool.false_eq_true, List.all_cons, List.all_nil, noTok, Bool.and_self, Bool.and_true, Bool.true_and, or_true, false_or]
    exact ⟨Over.enter s, hw.enter, 0, [], [], by omega, rfl, rfl, .inl ⟨rfl, rfl⟩, rfl, by simp, by simp⟩
end Go.Proofs.YtfaodjpibdhdjaaDoor

/-
  Steps and Clean, where what they tell stays a row of its own.
-/
set_option maxRecDepth 100000
set_option linter.unusedSimpArgs false
set_option linter.constructorNameAsVariable false
namespace Go.Proofs.YtfaodjpibdhdjaaDoor
open Go.Proofs.YtfaodjpibdhdjaaDoor.Am

/-- What a function's end must come to, where its result is kept. -/
def KK (s : St) (t : Nat) (Post : AV → St → Prop) : Ex → Tr → St → Prop
  | .x _, _, _ => False
  | .n, e, s1 => Post (e.get t) { s1 with lo := min s.lo s1.lo }
  | .r, e, s1 => Post (e.get t) { s1 with lo := min s.lo s1.lo }
theorem KK_n (s : St) (t : Nat) (Post : AV → St → Prop) (e : Tr) (s1 : St) : KK s t Post .n e s1 ↔ Post (e.get t) { s1 with lo := min s.lo s1.lo } := Iff.rfl
theorem KK_r (s : St) (t : Nat) (Post : AV → St → Prop) (e : Tr) (s1 : St) : KK s t Post .r e s1 ↔ Post (e.get t) { s1 with lo := min s.lo s1.lo } := Iff.rfl
@[congr] theorem KK_congr {s : St} {t : Nat} {Post : AV → St → Prop} {x : Ex} {e e' : Tr} {s1 s1' : St} (h1 : e = e') (h2 : s1 = s1') : KK s t Post x e s1 = KK s t Post x e' s1' := by rw [h1, h2]
theorem fn_K {prog : Nat → Option Fun} {f t : Nat} {fn : Fun} {args : List AV} {s : St} {Post : AV → St → Prop} (hp : prog f = some fn) (hk : fn.keep = true) (hres : fn.res = [(t, none)]) (hn : Nat.ble args.length fn.ntmps = true) (hb : both fn (wkZ fn.cin args) = none)
    (h : W (lim prog) fn.body (initT 0 (wkZ fn.cin args) .e) s.enter (KK s t Post)) (hpr : fn.prim = none := by rfl) : ∃ r s', (lim prog).call f args s = some (r, s') ∧ Post r s' := by
  rw [lim_call]
  unfold callF
  simp only [hp, hpr, hn, hb]
  unfold callB
  unfold W St.enter at h
  cases hc : evC (lim prog) fn.body (initT 0 (wkZ fn.cin args) .e) { s with lo := s.nb } with
  | none => rw [hc] at h; exact h.elim
  | some r =>
    obtain ⟨x, e, s1⟩ := r
    rw [hc] at h
    cases x with
    | x i => exact h.elim
    | n => simp only [hk, hres]; exact ⟨_, _, rfl, h⟩
    | r => simp only [hk, hres]; exact ⟨_, _, rfl, h⟩

/-- A state above an older one: what older ones say of it. -/
structure Up (s s' : St) : Prop where
  over : ∀ s0 : St, Over s0 s → Over s0 s'
  wf : Wf s'
  nb : s.nb ≤ s'.nb
  nt : s.nt ≤ s'.nt
theorem Up.refl {s : St} (h : Wf s) : Up s s := ⟨fun _ h => h, h, Nat.le_refl _, Nat.le_refl _⟩
theorem Up.trans {s s1 s2 : St} (h : Up s s1) (k : Up s1 s2) : Up s s2 := ⟨fun s0 h0 => k.over s0 (h.over s0 h0), k.wf, Nat.le_trans h.nb k.nb, Nat.le_trans h.nt k.nt⟩
theorem over_trans {s0 s q : St} (h : Over s0 s) (k : Over s q) (hlo : s0.nb ≤ q.lo) : Over s0 q := by
  refine ⟨by have := h.nb; have := k.nb; omega, ?_, by have := h.nt; have := k.nt; omega, ?_, hlo⟩
  · have h1 := k.boxes
    have h2 := h.boxes
    have h3 := h.nb
    have h4 := k.nb
    rw [show q.nb - s0.nb = (q.nb - s.nb) + (s.nb - s0.nb) by omega, ← List.drop_drop, h1, h2]
  · have h1 := k.toks
    have h2 := h.toks
    have h3 := h.nt
    have h4 := k.nt
    rw [show q.nt - s0.nt = (q.nt - s.nt) + (s.nt - s0.nt) by omega, ← List.drop_drop, h1, h2]
theorem Up.of {s q : St} (h : Over s q) (hw : Wf q) : Up s { q with lo := min s.lo q.lo } :=
  ⟨fun s0 h0 => by
    have h1 := over_trans h0 h (by have := h.lo; have := h0.nb; omega)
    exact ⟨h1.nb, h1.boxes, h1.nt, h1.toks, by show s0.nb ≤ min s.lo q.lo; have := h0.lo; have := h1.lo; omega⟩, hw.lo _, h.nb, h.nt⟩
theorem both_s {fn : Fun} (l : List Nat) : both fn [.s l] = none := by
  unfold both
  split <;> first | rfl | (rename_i h _; simp at *)

theorem pathClean_K (l : List Nat) (hl : Txt l) (hlen : l.length < 2 ^ 36) (s : St) (hw : Wf s) : ∃ r s', (lim prog).call f_path_Clean [.s l] s = some (r, s') ∧ RowP 1 s.nt s' 9 r ((cleanL l).map .s) ∧ Up s s' := by
  refine fn_K (t := 2) (Post := fun r s' => RowP 1 s.nt s' 9 r ((cleanL l).map .s) ∧ Up s s') p_path_Clean rfl rfl rfl (both_s l) ?_
  obtain ⟨q1, hq1⟩ : ∃ q1, s.enter.new (.cells 22 [.nsl]) = q1 := ⟨_, rfl⟩
  have w1 : Wf q1 := by rw [← hq1]; exact hw.enter.new _
  have n1 : q1.nb = s.nb + 1 ∧ q1.nt = s.nt ∧ q1.lo = s.nb := by rw [← hq1]; exact ⟨rfl, rfl, rfl⟩
  have ov1 : Over s q1 := by rw [← hq1]; exact (Over.enter s).new _
  have bo1 : q1.box? s.nb = some (.cells 22 [.nsl]) := by rw [← hq1]; exact new_box_self s.enter _
  have hst := steps_ok l q1
  obtain ⟨q2, hq2⟩ : ∃ q2, ({ q1.new (.cells 9 [.s l]) with lo := min q1.lo q1.nb } : St) = q2 := ⟨_, rfl⟩
  rw [hq2] at hst
  have w2 : Wf q2 := by rw [← hq2]; exact (w1.new _).lo _
  have n2 : q2.nb = s.nb + 2 ∧ q2.nt = s.nt := by rw [← hq2]; exact ⟨by show q1.nb + 1 = _; omega, n1.2.1⟩
  have ov2 : Over s q2 := by rw [← hq2]; exact Over.setLo (ov1.new _) (by omega)
  have bo2 : q2.box? s.nb = some (.cells 22 [.nsl]) := by
    rw [← hq2]
    show (q1.new _).box? s.nb = _
    rw [new_box_lt (by omega)]; exact bo1
  have bs2 : q2.box? q1.nb = some (.cells 9 [.s l]) := by rw [← hq2]; exact new_box_self q1 _
  have hnb : s.enter.nb = s.nb := rfl
  simp only [c_path_Clean, W_seq, W_reg, W_cond, W_blk, W_skip, W_exit, W_ret, W_regD, WO_nil, WO_cons, WO_guard2, wantV_b, bq_tt, bq_ft, bq_tf, bq_ff, Bool.not_true, Bool.not_false, WD_nil, WD_cons, WD_guard2, WS_some, WS_none, KS_n, KS_x, KS_r, KB_n, KB_x, KB_r, KN_ap, KO_ap, KD_ap, KC_nil, KF_n, KF_r, KG_n, KG_r, KL_n, KL_x, KL_r, CP_true, CP_false, evOp, evX, X.ev, optX, put_some, put_none, get_set2, sel_t, sel_f, Nat.reduceBEq, Nat.reduceAdd, Nat.reduceLT, Nat.reduceLeDiff, Nat.reduceEqDiff, reduceIte, if_true, if_false, bi_add, bi_sub, bi_mul, bi_eql, bi_neq, bi_lss, bi_leq, bi_gtr, bi_geq, bs_eql, bs_neq, bs_lss, Am.unOp, ret1, pubL, pubC_agg, pubC_s, pubC_i, pubC_b, pubC_p, pubC_np, pubC_nsl, pubC_ws, pubC_full, pubC_shut, pubC_fn, pubA, initT, wkZ, wk, wants, resOf, tupOf, quiet, AOp.cls, Nat.beq_eq, Bool.or_eq_true, decide_true, decide_false, beq_self_eq_true, Bool.true_or, Bool.or_true, true_and, and_true, lenA, eqv, eqB, eqP, scal, new_box_self, List.getElem?_cons_zero, List.getElem?_cons_succ, key_ii, key_ss, findM, updM, esc_i, esc_s, esc_b, Int.reduceEq, ret1, new_nb, new_set, reduceCtorEq, Bool.xor_true, Bool.xor_false, Bool.false_eq_true, List.all_cons, List.all_nil, noTok, Bool.and_self, Bool.and_true, Bool.true_and, or_true, false_or, hnb, hq1, hst]
  refine W_cut (fun e => e.get 3 = .p s.nb 0 ∧ e.get 6 = .fn f_path_steps_1 [.p q1.nb 0]) ⟨by simp only [W_seq, W_reg, W_cond, W_blk, W_skip, W_exit, W_ret, W_regD, WO_nil, WO_cons, WO_guard2, wantV_b, bq_tt, bq_ft, bq_tf, bq_ff, Bool.not_true, Bool.not_false, WD_nil, WD_cons, WD_guard2, WS_some, WS_none, KS_n, KS_x, KS_r, KB_n, KB_x, KB_r, KN_ap, KO_ap, KD_ap, KC_nil, KF_n, KF_r, KG_n, KG_r, KL_n, KL_x, KL_r, CP_true, CP_false, evOp, evX, X.ev, optX, put_some, put_none, get_set2, sel_t, sel_f, Nat.reduceBEq, Nat.reduceAdd, Nat.reduceLT, Nat.reduceLeDiff, Nat.reduceEqDiff, reduceIte, if_true, if_false, bi_add, bi_sub, bi_mul, bi_eql, bi_neq, bi_lss, bi_leq, bi_gtr, bi_geq, bs_eql, bs_neq, bs_lss, Am.unOp, ret1, pubL, pubC_agg, pubC_s, pubC_i, pubC_b, pubC_p, pubC_np, pubC_nsl, pubC_ws, pubC_full, pubC_shut, pubC_fn, pubA, initT, wkZ, wk, wants, resOf, tupOf, quiet, AOp.cls, Nat.beq_eq, Bool.or_eq_true, decide_true, decide_false, beq_self_eq_true, Bool.true_or, Bool.or_true, true_and, and_true, lenA, eqv, eqB, eqP, scal, new_box_self, List.getElem?_cons_zero, List.getElem?_cons_succ, key_ii, key_ss, findM, updM, esc_i, esc_s, esc_b, Int.reduceEq, ret1, new_nb, new_set, reduceCtorEq, Bool.xor_true, Bool.xor_false, Bool.false_eq_true, List.all_cons, List.all_nil, noTok, Bool.and_self, Bool.and_true, Bool.true_and, or_true, false_or], by simp only [W_seq, W_reg, W_cond, W_blk, W_skip, W_exit, W_ret, W_regD, WO_nil, WO_cons, WO_guard2, wantV_b, bq_tt, bq_ft, bq_tf, bq_ff, Bool.not_true, Bool.not_false, WD_nil, WD_cons, WD_guard2, WS_some, WS_none, KS_n, KS_x, KS_r, KB_n, KB_x, KB_r, KN_ap, KO_ap, KD_ap, KC_nil, KF_n, KF_r, KG_n, KG_r, KL_n, KL_x, KL_r, CP_true, CP_false, evOp, evX, X.ev, optX, put_some, put_none, get_set2, sel_t, sel_f, Nat.reduceBEq, Nat.reduceAdd, Nat.reduceLT, Nat.reduceLeDiff, Nat.reduceEqDiff, reduceIte, if_true, if_false, bi_add, bi_sub, bi_mul, bi_eql, bi_neq, bi_lss, bi_leq, bi_gtr, bi_geq, bs_eql, bs_neq, bs_lss, Am.unOp, ret1, pubL, pubC_agg, pubC_s, pubC_i, pubC_b, pubC_p, pubC_np, pubC_nsl, pubC_ws, pubC_full, pubC_shut, pubC_fn, pubA, initT, wkZ, wk, wants, resOf, tupOf, quiet, AOp.cls, Nat.beq_eq, Bool.or_eq_true, decide_true, decide_false, beq_self_eq_true, Bool.true_or, Bool.or_true, true_and, and_true, lenA, eqv, eqB, eqP, scal, new_box_self, List.getElem?_cons_zero, List.getElem?_cons_succ, key_ii, key_ss, findM, updM, esc_i, esc_s, esc_b, Int.reduceEq, ret1, new_nb, new_set, reduceCtorEq, Bool.xor_true, Bool.xor_false, Bool.false_eq_true, List.all_cons, List.all_nil, noTok, Bool.and_self, Bool.and_true, Bool.true_and, or_true, false_or]⟩ ?_
  rintro e ⟨g3, g6⟩
  obtain ⟨q3, hq3⟩ : ∃ q3, q2.new (.loop 0 none e [7] clA clC) = q3 := ⟨_, rfl⟩
  have w3 : Wf q3 := by rw [← hq3]; exact w2.new _
  have n3 : q3.nb = s.nb + 3 ∧ q3.nt = s.nt := by rw [← hq3]; exact ⟨by show q2.nb + 1 = _; omega, n2.2⟩
  have ov3 : Over s q3 := by rw [← hq3]; exact ov2.new _
  have bx3 : ∀ i, i < q2.nb → q3.box? i = q2.box? i := fun i hi => by rw [← hq3]; exact new_box_lt hi
  have bk3 : q3.box? q2.nb = some (.loop 0 none e [7] clA clC) := by rw [← hq3]; exact new_box_self _ _
  obtain ⟨q4, hc4, ov4, w4, n4, t4, hI4⟩ := stepsIter (O := fun _ => False) (m := q3.nb) hl (s := q3) (a := q1.nb) (by rw [bx3 _ (by omega)]; exact bs2) (by omega) s (q2.nb + 1) s.nt q2.nb _ _
    (cleanBody (k := q2.nb) (ido := s.nb) (e := e) (by omega) (Nat.le_refl _) hlen g3)
    ⟨bk3, ⟨.nsl, by rw [bx3 _ (by omega)]; exact bo2, .inl ⟨rfl, rfl⟩, fun k hk => by simp [rowTok] at hk⟩, fun _ => by rw [bx3 _ (by omega)]; exact bo2⟩ ov3 w3 (by omega) (by omega) (by omega) (by omega)
  rw [← hq3] at hc4
  refine W_rf g6 hc4 ?_
  rcases hI4 with ⟨k1, ⟨a, k2, k3, k4⟩, _⟩ | h
  · refine ⟨_, _, _, _, _, _, k1, by decide, ?_⟩
    have b5 : (q4.setBox q2.nb .used).box? s.nb = some (.cells 22 [a]) := by rw [setBox_box? w4.b (by omega), if_neg (by omega)]; exact k2
    have lda := ld_box (s := q4.setBox q2.nb .used) (v := a) (off := 0) b5 rfl
    have ov5 : Over s (q4.setBox q2.nb .used) := Over.setBox ov4 (by omega) (by omega) _
    have w5 : Wf (q4.setBox q2.nb .used) := w4.setBox _ _
    rw [List.length_map, List.take_length] at k3
    have hcl : cleanL l = (stepsL l).foldl cleanF [] := rfl
    rw [← hcl] at k3
    have hfin : RowP 1 s.nt { q4.setBox q2.nb .used with lo := min s.lo (q4.setBox q2.nb .used).lo } 9 a ((cleanL l).map .s) := k3.mono (Nat.le_refl _) fun _ _ => rfl
    rcases rowP_shape k3 with ⟨rfl, _⟩ | ⟨k, v, rfl⟩ <;>
      (simp only [W_seq, W_reg, W_cond, W_blk, W_skip, W_exit, W_ret, W_regD, WO_nil, WO_cons, WO_guard2, wantV_b, bq_tt, bq_ft, bq_tf, bq_ff, Bool.not_true, Bool.not_false, WD_nil, WD_cons, WD_guard2, WS_some, WS_none, KS_n, KS_x, KS_r, KB_n, KB_x, KB_r, KN_ap, KO_ap, KD_ap, KC_nil, KF_n, KF_r, KG_n, KG_r, KL_n, KL_x, KL_r, CP_true, CP_false, evOp, evX, X.ev, optX, put_some, put_none, get_set2, sel_t, sel_f, Nat.reduceBEq, Nat.reduceAdd, Nat.reduceLT, Nat.reduceLeDiff, Nat.reduceEqDiff, reduceIte, if_true, if_false, bi_add, bi_sub, bi_mul, bi_eql, bi_neq, bi_lss, bi_leq, bi_gtr, bi_geq, bs_eql, bs_neq, bs_lss, Am.unOp, ret1, pubL, pubC_agg, pubC_s, pubC_i, pubC_b, pubC_p, pubC_np, pubC_nsl, pubC_ws, pubC_full, pubC_shut, pubC_fn, pubA, initT, wkZ, wk, wants, resOf, tupOf, quiet, AOp.cls, Nat.beq_eq, Bool.or_eq_true, decide_true, decide_false, beq_self_eq_true, Bool.true_or, Bool.or_true, true_and, and_true, lenA, eqv, eqB, eqP, scal, new_box_self, List.getElem?_cons_zero, List.getElem?_cons_succ, key_ii, key_ss, findM, updM, esc_i, esc_s, esc_b, Int.reduceEq, ret1, new_nb, new_set, reduceCtorEq, Bool.xor_true, Bool.xor_false, Bool.false_eq_true, List.all_cons, List.all_nil, noTok, Bool.and_self, Bool.and_true, Bool.true_and, or_true, false_or, KK_n, KK_r, g3, lda, Nat.zero_add]
       exact ⟨hfin, Up.of ov5 w5⟩)
  · exact h.elim

theorem appendSeq_K {L : List (List Nat)} (hl : L.length < 2 ^ 37) {g : Nat} {caps : List AV} {s : St} (hw : Wf s) (hit : ∀ q, (∀ i, i < s.nb → q.box? i = s.box? i) → s.nb ≤ q.nb → IterOk prog (fun _ => False) q.nb g caps (L.map .s) q) :
    ∃ r s', (lim prog).call f_slices_AppendSeq_string_string [.nsl, .fn g caps] s = some (r, s') ∧ RowP 1 s.nt s' 9 r (L.map .s) ∧ Up s s' := by
  refine fn_K (t := 4) (Post := fun r s' => RowP 1 s.nt s' 9 r (L.map .s) ∧ Up s s') p_slices_AppendSeq_string_string rfl rfl rfl rfl ?_
  obtain ⟨q2, hq2⟩ : ∃ q2, s.enter.new (.cells 22 [.nsl]) = q2 := ⟨_, rfl⟩
  have w2 : Wf q2 := by rw [← hq2]; exact hw.enter.new _
  have n2 : q2.nb = s.nb + 1 ∧ q2.nt = s.nt ∧ q2.lo = s.nb := by rw [← hq2]; exact ⟨rfl, rfl, rfl⟩
  have ov2 : Over s q2 := by rw [← hq2]; exact (Over.enter s).new _
  have bo2 : q2.box? s.nb = some (.cells 22 [.nsl]) := by rw [← hq2]; exact new_box_self s.enter _
  have bx2 : ∀ i, i < s.nb → q2.box? i = s.box? i := fun i hi => by rw [← hq2]; exact new_box_lt (s := s.enter) hi
  have hnb : s.enter.nb = s.nb := rfl
  have c1 : AV.nsl.cells = [.nsl] := rfl
  have hl1 : ∀ a : AV, [a].length = 1 := fun _ => rfl
  simp only [c_slices_AppendSeq_string_string, W_seq, W_reg, W_cond, W_blk, W_skip, W_exit, W_ret, W_regD, WO_nil, WO_cons, WO_guard2, wantV_b, bq_tt, bq_ft, bq_tf, bq_ff, Bool.not_true, Bool.not_false, WD_nil, WD_cons, WD_guard2, WS_some, WS_none, KS_n, KS_x, KS_r, KB_n, KB_x, KB_r, KN_ap, KO_ap, KD_ap, KC_nil, KF_n, KF_r, KG_n, KG_r, KL_n, KL_x, KL_r, CP_true, CP_false, evOp, evX, X.ev, optX, put_some, put_none, get_set2, sel_t, sel_f, Nat.reduceBEq, Nat.reduceAdd, Nat.reduceLT, Nat.reduceLeDiff, Nat.reduceEqDiff, reduceIte, if_true, if_false, bi_add, bi_sub, bi_mul, bi_eql, bi_neq, bi_lss, bi_leq, bi_gtr, bi_geq, bs_eql, bs_neq, bs_lss, Am.unOp, ret1, pubL, pubC_agg, pubC_s, pubC_i, pubC_b, pubC_p, pubC_np, pubC_nsl, pubC_ws, pubC_full, pubC_shut, pubC_fn, pubA, initT, wkZ, wk, wants, resOf, tupOf, quiet, AOp.cls, Nat.beq_eq, Bool.or_eq_true, decide_true, decide_false, beq_self_eq_true, Bool.true_or, Bool.or_true, true_and, and_true, lenA, eqv, eqB, eqP, scal, new_box_self, List.getElem?_cons_zero, List.getElem?_cons_succ, key_ii, key_ss, findM, updM, esc_i, esc_s, esc_b, Int.reduceEq, ret1, new_nb, new_set, reduceCtorEq, Bool.xor_true, Bool.xor_false, Bool.false_eq_true, List.all_cons, List.all_nil, noTok, Bool.and_self, Bool.and_true, Bool.true_and, or_true, false_or, hnb, c1, hl1, hq2]
  refine W_cut (fun e => e.get 2 = .p s.nb 0 ∧ e.get 6 = .fn g caps) ⟨by simp only [W_seq, W_reg, W_cond, W_blk, W_skip, W_exit, W_ret, W_regD, WO_nil, WO_cons, WO_guard2, wantV_b, bq_tt, bq_ft, bq_tf, bq_ff, Bool.not_true, Bool.not_false, WD_nil, WD_cons, WD_guard2, WS_some, WS_none, KS_n, KS_x, KS_r, KB_n, KB_x, KB_r, KN_ap, KO_ap, KD_ap, KC_nil, KF_n, KF_r, KG_n, KG_r, KL_n, KL_x, KL_r, CP_true, CP_false, evOp, evX, X.ev, optX, put_some, put_none, get_set2, sel_t, sel_f, Nat.reduceBEq, Nat.reduceAdd, Nat.reduceLT, Nat.reduceLeDiff, Nat.reduceEqDiff, reduceIte, if_true, if_false, bi_add, bi_sub, bi_mul, bi_eql, bi_neq, bi_lss, bi_leq, bi_gtr, bi_geq, bs_eql, bs_neq, bs_lss, Am.unOp, ret1, pubL, pubC_agg, pubC_s, pubC_i, pubC_b, pubC_p, pubC_np, pubC_nsl, pubC_ws, pubC_full, pubC_shut, pubC_fn, pubA, initT, wkZ, wk, wants, resOf, tupOf, quiet, AOp.cls, Nat.beq_eq, Bool.or_eq_true, decide_true, decide_false, beq_self_eq_true, Bool.true_or, Bool.or_true, true_and, and_true, lenA, eqv, eqB, eqP, scal, new_box_self, List.getElem?_cons_zero, List.getElem?_cons_succ, key_ii, key_ss, findM, updM, esc_i, esc_s, esc_b, Int.reduceEq, ret1, new_nb, new_set, reduceCtorEq, Bool.xor_true, Bool.xor_false, Bool.false_eq_true, List.all_cons, List.all_nil, noTok, Bool.and_self, Bool.and_true, Bool.true_and, or_true, false_or], by simp only [W_seq, W_reg, W_cond, W_blk, W_skip, W_exit, W_ret, W_regD, WO_nil, WO_cons, WO_guard2, wantV_b, bq_tt, bq_ft, bq_tf, bq_ff, Bool.not_true, Bool.not_false, WD_nil, WD_cons, WD_guard2, WS_some, WS_none, KS_n, KS_x, KS_r, KB_n, KB_x, KB_r, KN_ap, KO_ap, KD_ap, KC_nil, KF_n, KF_r, KG_n, KG_r, KL_n, KL_x, KL_r, CP_true, CP_false, evOp, evX, X.ev, optX, put_some, put_none, get_set2, sel_t, sel_f, Nat.reduceBEq, Nat.reduceAdd, Nat.reduceLT, Nat.reduceLeDiff, Nat.reduceEqDiff, reduceIte, if_true, if_false, bi_add, bi_sub, bi_mul, bi_eql, bi_neq, bi_lss, bi_leq, bi_gtr, bi_geq, bs_eql, bs_neq, bs_lss, Am.unOp, ret1, pubL, pubC_agg, pubC_s, pubC_i, pubC_b, pubC_p, pubC_np, pubC_nsl, pubC_ws, pubC_full, pubC_shut, pubC_fn, pubA, initT, wkZ, wk, wants, resOf, tupOf, quiet, AOp.cls, Nat.beq_eq, Bool.or_eq_true, decide_true, decide_false, beq_self_eq_true, Bool.true_or, Bool.or_true, true_and, and_true, lenA, eqv, eqB, eqP, scal, new_box_self, List.getElem?_cons_zero, List.getElem?_cons_succ, key_ii, key_ss, findM, updM, esc_i, esc_s, esc_b, Int.reduceEq, ret1, new_nb, new_set, reduceCtorEq, Bool.xor_true, Bool.xor_false, Bool.false_eq_true, List.all_cons, List.all_nil, noTok, Bool.and_self, Bool.and_true, Bool.true_and, or_true, false_or]⟩ ?_
  rintro e ⟨g2, g6⟩
  obtain ⟨q3, hq3⟩ : ∃ q3, q2.new (.loop 0 none e [7] apA apC) = q3 := ⟨_, rfl⟩
  have w3 : Wf q3 := by rw [← hq3]; exact w2.new _
  have n3 : q3.nb = s.nb + 2 ∧ q3.nt = s.nt := by rw [← hq3]; exact ⟨by show q2.nb + 1 = _; omega, n2.2.1⟩
  have ov3 : Over s q3 := by rw [← hq3]; exact ov2.new _
  have bx3 : ∀ i, i < q2.nb → q3.box? i = q2.box? i := fun i hi => by rw [← hq3]; exact new_box_lt hi
  have bk3 : q3.box? q2.nb = some (.loop 0 none e [7] apA apC) := by rw [← hq3]; exact new_box_self _ _
  obtain ⟨q4, hc4, ov4, w4, n4, t4, hI4⟩ := hit q3 (fun i hi => by rw [bx3 i (by omega), bx2 i hi]) (by omega) s (q2.nb + 1) s.nt q2.nb _ _
    (apBody (k := q2.nb) (ido := s.nb) (e := e) (by omega) (Nat.le_refl _) hl g2)
    ⟨bk3, ⟨.nsl, by rw [bx3 _ (by omega)]; exact bo2, .inl ⟨rfl, rfl⟩, fun k hk => by simp [rowTok] at hk⟩, fun _ => by rw [bx3 _ (by omega)]; exact bo2⟩ ov3 w3 (by omega) (by omega) (by omega) (by omega)
  rw [← hq3] at hc4
  refine W_rf g6 hc4 ?_
  rcases hI4 with ⟨k1, ⟨a, k2, k3, k4⟩, _⟩ | h
  · refine ⟨_, _, _, _, _, _, k1, by decide, ?_⟩
    have b5 : (q4.setBox q2.nb .used).box? s.nb = some (.cells 22 [a]) := by rw [setBox_box? w4.b (by omega), if_neg (by omega)]; exact k2
    have lda := ld_box (s := q4.setBox q2.nb .used) (v := a) (off := 0) b5 rfl
    have ov5 : Over s (q4.setBox q2.nb .used) := Over.setBox ov4 (by omega) (by omega) _
    have w5 : Wf (q4.setBox q2.nb .used) := w4.setBox _ _
    rw [List.length_map, List.take_length] at k3
    have hfin : RowP 1 s.nt { q4.setBox q2.nb .used with lo := min s.lo (q4.setBox q2.nb .used).lo } 9 a (L.map .s) := k3.mono (Nat.le_refl _) fun _ _ => rfl
    rcases rowP_shape k3 with ⟨rfl, _⟩ | ⟨k, v, rfl⟩ <;>
      (simp only [W_seq, W_reg, W_cond, W_blk, W_skip, W_exit, W_ret, W_regD, WO_nil, WO_cons, WO_guard2, wantV_b, bq_tt, bq_ft, bq_tf, bq_ff, Bool.not_true, Bool.not_false, WD_nil, WD_cons, WD_guard2, WS_some, WS_none, KS_n, KS_x, KS_r, KB_n, KB_x, KB_r, KN_ap, KO_ap, KD_ap, KC_nil, KF_n, KF_r, KG_n, KG_r, KL_n, KL_x, KL_r, CP_true, CP_false, evOp, evX, X.ev, optX, put_some, put_none, get_set2, sel_t, sel_f, Nat.reduceBEq, Nat.reduceAdd, Nat.reduceLT, Nat.reduceLeDiff, Nat.reduceEqDiff, reduceIte, if_true, if_false, bi_add, bi_sub, bi_mul, bi_eql, bi_neq, bi_lss, bi_leq, bi_gtr, bi_geq, bs_eql, bs_neq, bs_lss, Am.unOp, ret1, pubL, pubC_agg, pubC_s, pubC_i, pubC_b, pubC_p, pubC_np, pubC_nsl, pubC_ws, pubC_full, pubC_shut, pubC_fn, pubA, initT, wkZ, wk, wants, resOf, tupOf, quiet, AOp.cls, Nat.beq_eq, Bool.or_eq_true, decide_true, decide_false, beq_self_eq_true, Bool.true_or, Bool.or_true, true_and, and_true, lenA, eqv, eqB, eqP, scal, new_box_self, List.getElem?_cons_zero, List.getElem?_cons_succ, key_ii, key_ss, findM, updM, esc_i, esc_s, esc_b, Int.reduceEq, ret1, new_nb, new_set, reduceCtorEq, Bool.xor_true, Bool.xor_false, Bool.false_eq_true, List.all_cons, List.all_nil, noTok, Bool.and_self, Bool.and_true, Bool.true_and, or_true, false_or, KK_n, KK_r, g2, lda, Nat.zero_add]
       exact ⟨hfin, Up.of ov5 w5⟩)
  · exact h.elim

theorem collect_K {L : List (List Nat)} (hl : L.length < 2 ^ 37) {g : Nat} {caps : List AV} {s : St} (hw : Wf s) (hit : ∀ q, (∀ i, i < s.nb → q.box? i = s.box? i) → s.nb ≤ q.nb → IterOk prog (fun _ => False) q.nb g caps (L.map .s) q) :
    ∃ r s', (lim prog).call f_slices_Collect_string [.fn g caps] s = some (r, s') ∧ RowP 1 s.nt s' 9 r (L.map .s) ∧ Up s s' := by
  refine fn_K (t := 2) (Post := fun r s' => RowP 1 s.nt s' 9 r (L.map .s) ∧ Up s s') p_slices_Collect_string rfl rfl rfl rfl ?_
  obtain ⟨r, s', h, hr, hu⟩ := appendSeq_K (s := s.enter) hl hw.enter hit
  have hov : Over s s' := hu.over s (Over.enter s)
  have hfin : RowP 1 s.nt { s' with lo := min s.lo s'.lo } 9 r (L.map .s) := hr.mono (Nat.le_refl _) fun _ _ => rfl
  simp only [c_slices_Collect_string, W_seq, W_reg, W_cond, W_blk, W_skip, W_exit, W_ret, W_regD, WO_nil, WO_cons, WO_guard2, wantV_b, bq_tt, bq_ft, bq_tf, bq_ff, Bool.not_true, Bool.not_false, WD_nil, WD_cons, WD_guard2, WS_some, WS_none, KS_n, KS_x, KS_r, KB_n, KB_x, KB_r, KN_ap, KO_ap, KD_ap, KC_nil, KF_n, KF_r, KG_n, KG_r, KL_n, KL_x, KL_r, CP_true, CP_false, evOp, evX, X.ev, optX, put_some, put_none, get_set2, sel_t, sel_f, Nat.reduceBEq, Nat.reduceAdd, Nat.reduceLT, Nat.reduceLeDiff, Nat.reduceEqDiff, reduceIte, if_true, if_false, bi_add, bi_sub, bi_mul, bi_eql, bi_neq, bi_lss, bi_leq, bi_gtr, bi_geq, bs_eql, bs_neq, bs_lss, Am.unOp, ret1, pubL, pubC_agg, pubC_s, pubC_i, pubC_b, pubC_p, pubC_np, pubC_nsl, pubC_ws, pubC_full, pubC_shut, pubC_fn, pubA, initT, wkZ, wk, wants, resOf, tupOf, quiet, AOp.cls, Nat.beq_eq, Bool.or_eq_true, decide_true, decide_false, beq_self_eq_true, Bool.true_or, Bool.or_true, true_and, and_true, lenA, eqv, eqB, eqP, scal, new_box_self, List.getElem?_cons_zero, List.getElem?_cons_succ, key_ii, key_ss, findM, updM, esc_i, esc_s, esc_b, Int.reduceEq, ret1, new_nb, new_set, reduceCtorEq, Bool.xor_true, Bool.xor_false, Bool.false_eq_true, List.all_cons, List.all_nil, noTok, Bool.and_self, Bool.and_true, Bool.true_and, or_true, false_or, KK_n, KK_r, h]
  exact ⟨hfin, Up.of hov hu.wf⟩

theorem pathSteps_K (l : List Nat) (hl : Txt l) (hlen : l.length < 2 ^ 36) (s : St) (hw : Wf s) : ∃ r s', (lim prog).call f_path_Steps [.s l] s = some (r, s') ∧ RowP 1 s.nt s' 9 r ((stepsL l).map .s) ∧ Up s s' := by
  refine fn_K (t := 2) (Post := fun r s' => RowP 1 s.nt s' 9 r ((stepsL l).map .s) ∧ Up s s') p_path_Steps rfl rfl rfl (both_s l) ?_
  have hst := steps_ok l s.enter
  obtain ⟨q, hq⟩ : ∃ q, ({ s.enter.new (.cells 9 [.s l]) with lo := min s.enter.lo s.enter.nb } : St) = q := ⟨_, rfl⟩
  rw [hq] at hst
  have w1 : Wf q := by rw [← hq]; exact (hw.enter.new _).lo _
  have ov : Over s q := by rw [← hq]; exact Over.setLo ((Over.enter s).new _) (by show s.nb ≤ min s.nb s.nb; omega)
  have nq : q.nb = s.nb + 1 ∧ q.nt = s.nt := by rw [← hq]; exact ⟨rfl, rfl⟩
  have bq : q.box? s.nb = some (.cells 9 [.s l]) := by rw [← hq]; exact new_box_self s.enter _
  have hnb : s.enter.nb = s.nb := rfl
  obtain ⟨r, s', hc, hr, hu⟩ := collect_K (L := stepsL l) (by have := stepsL_len l; omega) w1 (g := f_path_steps_1) (caps := [.p s.nb 0]) fun q' h1 h2 => stepsIter (O := fun _ => False) (m := q'.nb) hl (s := q') (a := s.nb) (by rw [h1 _ (by omega)]; exact bq) (by omega)
  have hov : Over s s' := hu.over s ov
  rw [nq.2] at hr
  have hfin : RowP 1 s.nt { s' with lo := min s.lo s'.lo } 9 r ((stepsL l).map .s) := hr.mono (Nat.le_refl _) fun _ _ => rfl
  simp only [c_path_Steps, W_seq, W_reg, W_cond, W_blk, W_skip, W_exit, W_ret, W_regD, WO_nil, WO_cons, WO_guard2, wantV_b, bq_tt, bq_ft, bq_tf, bq_ff, Bool.not_true, Bool.not_false, WD_nil, WD_cons, WD_guard2, WS_some, WS_none, KS_n, KS_x, KS_r, KB_n, KB_x, KB_r, KN_ap, KO_ap, KD_ap, KC_nil, KF_n, KF_r, KG_n, KG_r, KL_n, KL_x, KL_r, CP_true, CP_false, evOp, evX, X.ev, optX, put_some, put_none, get_set2, sel_t, sel_f, Nat.reduceBEq, Nat.reduceAdd, Nat.reduceLT, Nat.reduceLeDiff, Nat.reduceEqDiff, reduceIte, if_true, if_false, bi_add, bi_sub, bi_mul, bi_eql, bi_neq, bi_lss, bi_leq, bi_gtr, bi_geq, bs_eql, bs_neq, bs_lss, Am.unOp, ret1, pubL, pubC_agg, pubC_s, pubC_i, pubC_b, pubC_p, pubC_np, pubC_nsl, pubC_ws, pubC_full, pubC_shut, pubC_fn, pubA, initT, wkZ, wk, wants, resOf, tupOf, quiet, AOp.cls, Nat.beq_eq, Bool.or_eq_true, decide_true, decide_false, beq_self_eq_true, Bool.true_or, Bool.or_true, true_and, and_true, lenA, eqv, eqB, eqP, scal, new_box_self, List.getElem?_cons_zero, List.getElem?_cons_succ, key_ii, key_ss, findM, updM, esc_i, esc_s, esc_b, Int.reduceEq, ret1, new_nb, new_set, reduceCtorEq, Bool.xor_true, Bool.xor_false, Bool.false_eq_true, List.all_cons, List.all_nil, noTok, Bool.and_self, Bool.and_true, Bool.true_and, or_true, false_or, KK_n, KK_r, hst, hnb, hc]
  exact ⟨hfin, Up.of hov hu.wf⟩
end Go.Proofs.YtfaodjpibdhdjaaDoor

/-
  The document's steps, places, last names.
-/
set_option maxRecDepth 100000
set_option linter.unusedSimpArgs false
set_option linter.constructorNameAsVariable false
namespace Go.Proofs.YtfaodjpibdhdjaaDoor
open Go.Proofs.YtfaodjpibdhdjaaDoor.Am

theorem splitL_len (l : List Nat) : (splitL l).length ≤ l.length + 1 := segs_len l []

theorem refSteps_ok (l : List Nat) (hlen : l.length < 2 ^ 36) (s : St) (hw : Wf s) : (lim prog).call f_touchstoneref06_Steps [.s l] s = some (tx (stepsL l), s) := by
  refine fn_W p_touchstoneref06_Steps rfl rfl ?_
  have hp := refParts_ok l hlen s.enter hw.enter
  have hpl := splitL_len l
  have hS : stepsL l = (splitL l).filter stepOk := rfl
  obtain ⟨L, hL⟩ : ∃ L, splitL l = L := ⟨_, rfl⟩
  rw [hL] at hp hpl hS
  simp only [c_touchstoneref06_Steps, W_seq, W_reg, W_cond, W_blk, W_skip, W_exit, W_ret, W_regD, WO_nil, WO_cons, WO_guard2, wantV_b, bq_tt, bq_ft, bq_tf, bq_ff, Bool.not_true, Bool.not_false, WD_nil, WD_cons, WD_guard2, WS_some, WS_none, KS_n, KS_x, KS_r, KB_n, KB_x, KB_r, KN_ap, KO_ap, KD_ap, KC_nil, KF_n, KF_r, KG_n, KG_r, KL_n, KL_x, KL_r, CP_true, CP_false, evOp, evX, X.ev, optX, put_some, put_none, get_set2, sel_t, sel_f, Nat.reduceBEq, Nat.reduceAdd, Nat.reduceLT, Nat.reduceLeDiff, Nat.reduceEqDiff, reduceIte, if_true, if_false, bi_add, bi_sub, bi_mul, bi_eql, bi_neq, bi_lss, bi_leq, bi_gtr, bi_geq, bs_eql, bs_neq, bs_lss, Am.unOp, ret1, pubL, pubC_agg, pubC_s, pubC_i, pubC_b, pubC_p, pubC_np, pubC_nsl, pubC_ws, pubC_full, pubC_shut, pubC_fn, pubA, initT, wkZ, wk, wants, resOf, tupOf, quiet, AOp.cls, Nat.beq_eq, Bool.or_eq_true, decide_true, decide_false, beq_self_eq_true, Bool.true_or, Bool.or_true, true_and, and_true, lenA, eqv, eqB, eqP, scal, new_box_self, List.getElem?_cons_zero, List.getElem?_cons_succ, key_ii, key_ss, findM, updM, esc_i, esc_s, esc_b, Int.reduceEq, ret1, new_nb, new_set, reduceCtorEq, Bool.xor_true, Bool.xor_false, Bool.false_eq_true, List.all_cons, List.all_nil, noTok, Bool.and_self, Bool.and_true, Bool.true_and, or_true, false_or, hp]
  refine W_loop (fun n e q => e.get 4 = tx L ∧ Over s q ∧ Wf q ∧ ∃ i : Nat, i + n = L.length ∧ e.get 5 = .i .i64 i ∧ RowP 1 s.nt q 9 (e.get 3) (((L.take i).filter stepOk).map .s)) ?_ L.length _ _ ?_
  · rintro n e q ⟨g4, hov, hwq, i, hi, g5, hr⟩
    obtain ⟨a, g3⟩ : ∃ a, e.get 3 = a := ⟨_, rfl⟩
    rw [g3] at hr
    simp only [W_seq, W_reg, W_cond, W_blk, W_skip, W_exit, W_ret, W_regD, WO_nil, WO_cons, WO_guard2, wantV_b, bq_tt, bq_ft, bq_tf, bq_ff, Bool.not_true, Bool.not_false, WD_nil, WD_cons, WD_guard2, WS_some, WS_none, KS_n, KS_x, KS_r, KB_n, KB_x, KB_r, KN_ap, KO_ap, KD_ap, KC_nil, KF_n, KF_r, KG_n, KG_r, KL_n, KL_x, KL_r, CP_true, CP_false, evOp, evX, X.ev, optX, put_some, put_none, get_set2, sel_t, sel_f, Nat.reduceBEq, Nat.reduceAdd, Nat.reduceLT, Nat.reduceLeDiff, Nat.reduceEqDiff, reduceIte, if_true, if_false, bi_add, bi_sub, bi_mul, bi_eql, bi_neq, bi_lss, bi_leq, bi_gtr, bi_geq, bs_eql, bs_neq, bs_lss, Am.unOp, ret1, pubL, pubC_agg, pubC_s, pubC_i, pubC_b, pubC_p, pubC_np, pubC_nsl, pubC_ws, pubC_full, pubC_shut, pubC_fn, pubA, initT, wkZ, wk, wants, resOf, tupOf, quiet, AOp.cls, Nat.beq_eq, Bool.or_eq_true, decide_true, decide_false, beq_self_eq_true, Bool.true_or, Bool.or_true, true_and, and_true, lenA, eqv, eqB, eqP, scal, new_box_self, List.getElem?_cons_zero, List.getElem?_cons_succ, key_ii, key_ss, findM, updM, esc_i, esc_s, esc_b, Int.reduceEq, ret1, new_nb, new_set, reduceCtorEq, Bool.xor_true, Bool.xor_false, Bool.false_eq_true, List.all_cons, List.all_nil, noTok, Bool.and_self, Bool.and_true, Bool.true_and, or_true, false_or, g4, g5, List.length_map, ofNat_len]
    refine CP_dec (fun hlt => ?_) (fun hge => ?_)
    · have hlt : i < L.length := by omega
      obtain ⟨x, hx⟩ : ∃ x, L[i] = x := ⟨_, rfl⟩
      have hget := tx_get hlt
      rw [hx] at hget
      have hw64 := wrap_succ (show i + 1 < 2 ^ 63 by omega)
      have hst : (L.take (i + 1)).filter stepOk = (L.take i).filter stepOk ++ (if stepOk x then [x] else []) := by
        rw [List.take_succ_eq_append_getElem hlt, List.filter_append, hx]
        cases hso : stepOk x <;> simp [List.filter_cons, hso]
      have hfl : ((L.take i).filter stepOk).length ≤ L.length := by
        have := List.length_filter_le stepOk (L.take i)
        have h2 : (L.take i).length ≤ L.length := by simp; omega
        omega
      by_cases h1 : x = []
      · have h1' : (x ≠ []) = False := by simp [h1]
        have hs : stepOk x = false := by simp [stepOk, h1]
        rw [hs] at hst
        rw [if_neg (by simp), List.append_nil] at hst
        simp only [W_seq, W_reg, W_cond, W_blk, W_skip, W_exit, W_ret, W_regD, WO_nil, WO_cons, WO_guard2, wantV_b, bq_tt, bq_ft, bq_tf, bq_ff, Bool.not_true, Bool.not_false, WD_nil, WD_cons, WD_guard2, WS_some, WS_none, KS_n, KS_x, KS_r, KB_n, KB_x, KB_r, KN_ap, KO_ap, KD_ap, KC_nil, KF_n, KF_r, KG_n, KG_r, KL_n, KL_x, KL_r, CP_true, CP_false, evOp, evX, X.ev, optX, put_some, put_none, get_set2, sel_t, sel_f, Nat.reduceBEq, Nat.reduceAdd, Nat.reduceLT, Nat.reduceLeDiff, Nat.reduceEqDiff, reduceIte, if_true, if_false, bi_add, bi_sub, bi_mul, bi_eql, bi_neq, bi_lss, bi_leq, bi_gtr, bi_geq, bs_eql, bs_neq, bs_lss, Am.unOp, ret1, pubL, pubC_agg, pubC_s, pubC_i, pubC_b, pubC_p, pubC_np, pubC_nsl, pubC_ws, pubC_full, pubC_shut, pubC_fn, pubA, initT, wkZ, wk, wants, resOf, tupOf, quiet, AOp.cls, Nat.beq_eq, Bool.or_eq_true, decide_true, decide_false, beq_self_eq_true, Bool.true_or, Bool.or_true, true_and, and_true, lenA, eqv, eqB, eqP, scal, new_box_self, List.getElem?_cons_zero, List.getElem?_cons_succ, key_ii, key_ss, findM, updM, esc_i, esc_s, esc_b, Int.reduceEq, ret1, new_nb, new_set, reduceCtorEq, Bool.xor_true, Bool.xor_false, Bool.false_eq_true, List.all_cons, List.all_nil, noTok, Bool.and_self, Bool.and_true, Bool.true_and, or_true, false_or, g3, g4, g5, natOf_nat, hget, cells_s, ldA_1, h1', hw64]
        exact ⟨n - 1, by omega, hov, hwq, i + 1, by omega, rfl, by rw [hst]; exact hr⟩
      have h1' : (x ≠ []) = True := by simp [h1]
      by_cases h2 : x = [46]
      · have h2' : (x ≠ [46]) = False := by simp [h2]
        have hs : stepOk x = false := by simp [stepOk, h2]
        rw [hs] at hst
        rw [if_neg (by simp), List.append_nil] at hst
        simp only [W_seq, W_reg, W_cond, W_blk, W_skip, W_exit, W_ret, W_regD, WO_nil, WO_cons, WO_guard2, wantV_b, bq_tt, bq_ft, bq_tf, bq_ff, Bool.not_true, Bool.not_false, WD_nil, WD_cons, WD_guard2, WS_some, WS_none, KS_n, KS_x, KS_r, KB_n, KB_x, KB_r, KN_ap, KO_ap, KD_ap, KC_nil, KF_n, KF_r, KG_n, KG_r, KL_n, KL_x, KL_r, CP_true, CP_false, evOp, evX, X.ev, optX, put_some, put_none, get_set2, sel_t, sel_f, Nat.reduceBEq, Nat.reduceAdd, Nat.reduceLT, Nat.reduceLeDiff, Nat.reduceEqDiff, reduceIte, if_true, if_false, bi_add, bi_sub, bi_mul, bi_eql, bi_neq, bi_lss, bi_leq, bi_gtr, bi_geq, bs_eql, bs_neq, bs_lss, Am.unOp, ret1, pubL, pubC_agg, pubC_s, pubC_i, pubC_b, pubC_p, pubC_np, pubC_nsl, pubC_ws, pubC_full, pubC_shut, pubC_fn, pubA, initT, wkZ, wk, wants, resOf, tupOf, quiet, AOp.cls, Nat.beq_eq, Bool.or_eq_true, decide_true, decide_false, beq_self_eq_true, Bool.true_or, Bool.or_true, true_and, and_true, lenA, eqv, eqB, eqP, scal, new_box_self, List.getElem?_cons_zero, List.getElem?_cons_succ, key_ii, key_ss, findM, updM, esc_i, esc_s, esc_b, Int.reduceEq, ret1, new_nb, new_set, reduceCtorEq, Bool.xor_true, Bool.xor_false, Bool.false_eq_true, List.all_cons, List.all_nil, noTok, Bool.and_self, Bool.and_true, Bool.true_and, or_true, false_or, g3, g4, g5, natOf_nat, hget, cells_s, ldA_1, h1', h2', hw64]
        exact ⟨n - 1, by omega, hov, hwq, i + 1, by omega, rfl, by rw [hst]; exact hr⟩
      have h2' : (x ≠ [46]) = True := by simp [h2]
      have hs : stepOk x = true := by simp [stepOk, h1, h2]
      rw [hs] at hst
      rw [if_pos rfl] at hst
      obtain ⟨a', q', e1, hr', ov', w'⟩ := app_one x hwq hov hr (by omega)
      rcases rowP_shape hr with ⟨rfl, _⟩ | ⟨k, v, rfl⟩ <;>
        (simp only [W_seq, W_reg, W_cond, W_blk, W_skip, W_exit, W_ret, W_regD, WO_nil, WO_cons, WO_guard2, wantV_b, bq_tt, bq_ft, bq_tf, bq_ff, Bool.not_true, Bool.not_false, WD_nil, WD_cons, WD_guard2, WS_some, WS_none, KS_n, KS_x, KS_r, KB_n, KB_x, KB_r, KN_ap, KO_ap, KD_ap, KC_nil, KF_n, KF_r, KG_n, KG_r, KL_n, KL_x, KL_r, CP_true, CP_false, evOp, evX, X.ev, optX, put_some, put_none, get_set2, sel_t, sel_f, Nat.reduceBEq, Nat.reduceAdd, Nat.reduceLT, Nat.reduceLeDiff, Nat.reduceEqDiff, reduceIte, if_true, if_false, bi_add, bi_sub, bi_mul, bi_eql, bi_neq, bi_lss, bi_leq, bi_gtr, bi_geq, bs_eql, bs_neq, bs_lss, Am.unOp, ret1, pubL, pubC_agg, pubC_s, pubC_i, pubC_b, pubC_p, pubC_np, pubC_nsl, pubC_ws, pubC_full, pubC_shut, pubC_fn, pubA, initT, wkZ, wk, wants, resOf, tupOf, quiet, AOp.cls, Nat.beq_eq, Bool.or_eq_true, decide_true, decide_false, beq_self_eq_true, Bool.true_or, Bool.or_true, true_and, and_true, lenA, eqv, eqB, eqP, scal, new_box_self, List.getElem?_cons_zero, List.getElem?_cons_succ, key_ii, key_ss, findM, updM, esc_i, esc_s, esc_b, Int.reduceEq, ret1, new_nb, new_set, reduceCtorEq, Bool.xor_true, Bool.xor_false, Bool.false_eq_true, List.all_cons, List.all_nil, noTok, Bool.and_self, Bool.and_true, Bool.true_and, or_true, false_or, g3, g4, g5, natOf_nat, hget, cells_s, ldA_1, h1', h2', al1, e1, hw64]
         exact ⟨n - 1, by omega, ov', w', i + 1, by omega, rfl, by rw [hst]; exact hr'⟩)
    · have hil : i = L.length := by omega
      rw [hil, List.take_length, ← hS] at hr
      obtain ⟨a2, q2, f1, f2, f3, f4⟩ := rowP_end hov hr
      rcases rowP_shape hr with ⟨rfl, _⟩ | ⟨k', v', rfl⟩ <;>
        (simp only [W_seq, W_reg, W_cond, W_blk, W_skip, W_exit, W_ret, W_regD, WO_nil, WO_cons, WO_guard2, wantV_b, bq_tt, bq_ft, bq_tf, bq_ff, Bool.not_true, Bool.not_false, WD_nil, WD_cons, WD_guard2, WS_some, WS_none, KS_n, KS_x, KS_r, KB_n, KB_x, KB_r, KN_ap, KO_ap, KD_ap, KC_nil, KF_n, KF_r, KG_n, KG_r, KL_n, KL_x, KL_r, CP_true, CP_false, evOp, evX, X.ev, optX, put_some, put_none, get_set2, sel_t, sel_f, Nat.reduceBEq, Nat.reduceAdd, Nat.reduceLT, Nat.reduceLeDiff, Nat.reduceEqDiff, reduceIte, if_true, if_false, bi_add, bi_sub, bi_mul, bi_eql, bi_neq, bi_lss, bi_leq, bi_gtr, bi_geq, bs_eql, bs_neq, bs_lss, Am.unOp, ret1, pubL, pubC_agg, pubC_s, pubC_i, pubC_b, pubC_p, pubC_np, pubC_nsl, pubC_ws, pubC_full, pubC_shut, pubC_fn, pubA, initT, wkZ, wk, wants, resOf, tupOf, quiet, AOp.cls, Nat.beq_eq, Bool.or_eq_true, decide_true, decide_false, beq_self_eq_true, Bool.true_or, Bool.or_true, true_and, and_true, lenA, eqv, eqB, eqP, scal, new_box_self, List.getElem?_cons_zero, List.getElem?_cons_succ, key_ii, key_ss, findM, updM, esc_i, esc_s, esc_b, Int.reduceEq, ret1, new_nb, new_set, reduceCtorEq, Bool.xor_true, Bool.xor_false, Bool.false_eq_true, List.all_cons, List.all_nil, noTok, Bool.and_self, Bool.and_true, Bool.true_and, or_true, false_or, g3, f1]
         exact KR_some f2 f3 (by simpa only [tupOf, wkZ] using f4))
  · simp only [W_seq, W_reg, W_cond, W_blk, W_skip, W_exit, W_ret, W_regD, WO_nil, WO_cons, WO_guard2, wantV_b, bq_tt, bq_ft, bq_tf, bq_ff, Bool.not_true, Bool.not_false, WD_nil, WD_cons, WD_guard2, WS_some, WS_none, KS_n, KS_x, KS_r, KB_n, KB_x, KB_r, KN_ap, KO_ap, KD_ap, KC_nil, KF_n, KF_r, KG_n, KG_r, KL_n, KL_x, KL_r, CP_true, CP_false, evOp, evX, X.ev, optX, put_some, put_none, get_set2, sel_t, sel_f, Nat.reduceBEq, Nat.reduceAdd, Nat.reduceLT, Nat.reduceLeDiff, Nat.reduceEqDiff, reduceIte, if_true, if_false, bi_add, bi_sub, bi_mul, bi_eql, bi_neq, bi_lss, bi_leq, bi_gtr, bi_geq, bs_eql, bs_neq, bs_lss, Am.unOp, ret1, pubL, pubC_agg, pubC_s, pubC_i, pubC_b, pubC_p, pubC_np, pubC_nsl, pubC_ws, pubC_full, pubC_shut, pubC_fn, pubA, initT, wkZ, wk, wants, resOf, tupOf, quiet, AOp.cls, Nat.beq_eq, Bool.or_eq_true, decide_true, decide_false, beq_self_eq_true, Bool.true_or, Bool.or_true, true_and, and_true, lenA, eqv, eqB, eqP, scal, new_box_self, List.getElem?_cons_zero, List.getElem?_cons_succ, key_ii, key_ss, findM, updM, esc_i, esc_s, esc_b, Int.reduceEq, ret1, new_nb, new_set, reduceCtorEq, Bool.xor_true, Bool.xor_false, Bool.false_eq_true, List.all_cons, List.all_nil, noTok, Bool.and_self, Bool.and_true, Bool.true_and, or_true, false_or]
    exact ⟨Over.enter s, hw.enter, 0, by omega, rfl, .inl ⟨rfl, rfl⟩⟩

theorem refClean_ok (l : List Nat) (hlen : l.length < 2 ^ 36) (s : St) (hw : Wf s) : (lim prog).call f_touchstoneref06_Clean [.s l] s = some (tx (cleanL l), s) := by
  refine fn_W p_touchstoneref06_Clean rfl rfl ?_
  have hp := refSteps_ok l hlen s.enter hw.enter
  have hpl := stepsL_len l
  have hS : cleanL l = (stepsL l).foldl cleanF [] := rfl
  obtain ⟨L, hL⟩ : ∃ L, stepsL l = L := ⟨_, rfl⟩
  rw [hL] at hp hpl hS
  simp only [c_touchstoneref06_Clean, W_seq, W_reg, W_cond, W_blk, W_skip, W_exit, W_ret, W_regD, WO_nil, WO_cons, WO_guard2, wantV_b, bq_tt, bq_ft, bq_tf, bq_ff, Bool.not_true, Bool.not_false, WD_nil, WD_cons, WD_guard2, WS_some, WS_none, KS_n, KS_x, KS_r, KB_n, KB_x, KB_r, KN_ap, KO_ap, KD_ap, KC_nil, KF_n, KF_r, KG_n, KG_r, KL_n, KL_x, KL_r, CP_true, CP_false, evOp, evX, X.ev, optX, put_some, put_none, get_set2, sel_t, sel_f, Nat.reduceBEq, Nat.reduceAdd, Nat.reduceLT, Nat.reduceLeDiff, Nat.reduceEqDiff, reduceIte, if_true, if_false, bi_add, bi_sub, bi_mul, bi_eql, bi_neq, bi_lss, bi_leq, bi_gtr, bi_geq, bs_eql, bs_neq, bs_lss, Am.unOp, ret1, pubL, pubC_agg, pubC_s, pubC_i, pubC_b, pubC_p, pubC_np, pubC_nsl, pubC_ws, pubC_full, pubC_shut, pubC_fn, pubA, initT, wkZ, wk, wants, resOf, tupOf, quiet, AOp.cls, Nat.beq_eq, Bool.or_eq_true, decide_true, decide_false, beq_self_eq_true, Bool.true_or, Bool.or_true, true_and, and_true, lenA, eqv, eqB, eqP, scal, new_box_self, List.getElem?_cons_zero, List.getElem?_cons_succ, key_ii, key_ss, findM, updM, esc_i, esc_s, esc_b, Int.reduceEq, ret1, new_nb, new_set, reduceCtorEq, Bool.xor_true, Bool.xor_false, Bool.false_eq_true, List.all_cons, List.all_nil, noTok, Bool.and_self, Bool.and_true, Bool.true_and, or_true, false_or, hp]
  refine W_loop (fun n e q => e.get 4 = tx L ∧ Over s q ∧ Wf q ∧ ∃ i : Nat, i + n = L.length ∧ e.get 5 = .i .i64 i ∧ RowP 1 s.nt q 9 (e.get 3) (((L.take i).foldl cleanF []).map .s)) ?_ L.length _ _ ?_
  · rintro n e q ⟨g4, hov, hwq, i, hi, g5, hr⟩
    obtain ⟨a, g3⟩ : ∃ a, e.get 3 = a := ⟨_, rfl⟩
    rw [g3] at hr
    simp only [W_seq, W_reg, W_cond, W_blk, W_skip, W_exit, W_ret, W_regD, WO_nil, WO_cons, WO_guard2, wantV_b, bq_tt, bq_ft, bq_tf, bq_ff, Bool.not_true, Bool.not_false, WD_nil, WD_cons, WD_guard2, WS_some, WS_none, KS_n, KS_x, KS_r, KB_n, KB_x, KB_r, KN_ap, KO_ap, KD_ap, KC_nil, KF_n, KF_r, KG_n, KG_r, KL_n, KL_x, KL_r, CP_true, CP_false, evOp, evX, X.ev, optX, put_some, put_none, get_set2, sel_t, sel_f, Nat.reduceBEq, Nat.reduceAdd, Nat.reduceLT, Nat.reduceLeDiff, Nat.reduceEqDiff, reduceIte, if_true, if_false, bi_add, bi_sub, bi_mul, bi_eql, bi_neq, bi_lss, bi_leq, bi_gtr, bi_geq, bs_eql, bs_neq, bs_lss, Am.unOp, ret1, pubL, pubC_agg, pubC_s, pubC_i, pubC_b, pubC_p, pubC_np, pubC_nsl, pubC_ws, pubC_full, pubC_shut, pubC_fn, pubA, initT, wkZ, wk, wants, resOf, tupOf, quiet, AOp.cls, Nat.beq_eq, Bool.or_eq_true, decide_true, decide_false, beq_self_eq_true, Bool.true_or, Bool.or_true, true_and, and_true, lenA, eqv, eqB, eqP, scal, new_box_self, List.getElem?_cons_zero, List.getElem?_cons_succ, key_ii, key_ss, findM, updM, esc_i, esc_s, esc_b, Int.reduceEq, ret1, new_nb, new_set, reduceCtorEq, Bool.xor_true, Bool.xor_false, Bool.false_eq_true, List.all_cons, List.all_nil, noTok, Bool.and_self, Bool.and_true, Bool.true_and, or_true, false_or, g4, g5, List.length_map, ofNat_len]
    refine CP_dec (fun hlt => ?_) (fun hge => ?_)
    · have hlt : i < L.length := by omega
      obtain ⟨x, hx⟩ : ∃ x, L[i] = x := ⟨_, rfl⟩
      have hget := tx_get hlt
      rw [hx] at hget
      have hw64 := wrap_succ (show i + 1 < 2 ^ 63 by omega)
      have hst : (L.take (i + 1)).foldl cleanF [] = cleanF ((L.take i).foldl cleanF []) x := by
        rw [List.take_succ_eq_append_getElem hlt, List.foldl_append, hx]; rfl
      have hfl := foldl_len (L.take i) []
      have htl : (L.take i).length ≤ L.length := by simp; omega
      obtain ⟨Y, hY⟩ : ∃ Y, (L.take i).foldl cleanF [] = Y := ⟨_, rfl⟩
      rw [hY] at hr hst hfl
      simp only [List.length_nil, Nat.zero_add] at hfl
      by_cases h1 : x = [46, 46]
      · have h1' : (x ≠ [46, 46]) = False := by simp [h1]
        have hcl : cleanF Y x = Y.dropLast := by unfold cleanF; rw [if_pos h1]
        by_cases h2 : Y = []
        · have hr2 : RowP 1 s.nt q 9 a ((cleanF Y x).map .s) := by rw [hcl, h2]; rw [h2] at hr; exact hr
          have h00 : ((0 : Int) < 0) = False := by simp
          have h01 : ((((0 : Nat)) : Int) > 0) = False := by simp
          rcases rowP_shape hr with ⟨rfl, _⟩ | ⟨k, v, rfl⟩
          · simp only [W_seq, W_reg, W_cond, W_blk, W_skip, W_exit, W_ret, W_regD, WO_nil, WO_cons, WO_guard2, wantV_b, bq_tt, bq_ft, bq_tf, bq_ff, Bool.not_true, Bool.not_false, WD_nil, WD_cons, WD_guard2, WS_some, WS_none, KS_n, KS_x, KS_r, KB_n, KB_x, KB_r, KN_ap, KO_ap, KD_ap, KC_nil, KF_n, KF_r, KG_n, KG_r, KL_n, KL_x, KL_r, CP_true, CP_false, evOp, evX, X.ev, optX, put_some, put_none, get_set2, sel_t, sel_f, Nat.reduceBEq, Nat.reduceAdd, Nat.reduceLT, Nat.reduceLeDiff, Nat.reduceEqDiff, reduceIte, if_true, if_false, bi_add, bi_sub, bi_mul, bi_eql, bi_neq, bi_lss, bi_leq, bi_gtr, bi_geq, bs_eql, bs_neq, bs_lss, Am.unOp, ret1, pubL, pubC_agg, pubC_s, pubC_i, pubC_b, pubC_p, pubC_np, pubC_nsl, pubC_ws, pubC_full, pubC_shut, pubC_fn, pubA, initT, wkZ, wk, wants, resOf, tupOf, quiet, AOp.cls, Nat.beq_eq, Bool.or_eq_true, decide_true, decide_false, beq_self_eq_true, Bool.true_or, Bool.or_true, true_and, and_true, lenA, eqv, eqB, eqP, scal, new_box_self, List.getElem?_cons_zero, List.getElem?_cons_succ, key_ii, key_ss, findM, updM, esc_i, esc_s, esc_b, Int.reduceEq, ret1, new_nb, new_set, reduceCtorEq, Bool.xor_true, Bool.xor_false, Bool.false_eq_true, List.all_cons, List.all_nil, noTok, Bool.and_self, Bool.and_true, Bool.true_and, or_true, false_or, g3, g4, g5, natOf_nat, hget, cells_s, ldA_1, h1', ofNat_len, h00, hw64]
            exact ⟨n - 1, by omega, hov, hwq, i + 1, by omega, rfl, by rw [hst]; exact hr2⟩
          · have hlen0 : (List.map AV.s Y).length = 0 := by rw [h2]; rfl
            simp only [W_seq, W_reg, W_cond, W_blk, W_skip, W_exit, W_ret, W_regD, WO_nil, WO_cons, WO_guard2, wantV_b, bq_tt, bq_ft, bq_tf, bq_ff, Bool.not_true, Bool.not_false, WD_nil, WD_cons, WD_guard2, WS_some, WS_none, KS_n, KS_x, KS_r, KB_n, KB_x, KB_r, KN_ap, KO_ap, KD_ap, KC_nil, KF_n, KF_r, KG_n, KG_r, KL_n, KL_x, KL_r, CP_true, CP_false, evOp, evX, X.ev, optX, put_some, put_none, get_set2, sel_t, sel_f, Nat.reduceBEq, Nat.reduceAdd, Nat.reduceLT, Nat.reduceLeDiff, Nat.reduceEqDiff, reduceIte, if_true, if_false, bi_add, bi_sub, bi_mul, bi_eql, bi_neq, bi_lss, bi_leq, bi_gtr, bi_geq, bs_eql, bs_neq, bs_lss, Am.unOp, ret1, pubL, pubC_agg, pubC_s, pubC_i, pubC_b, pubC_p, pubC_np, pubC_nsl, pubC_ws, pubC_full, pubC_shut, pubC_fn, pubA, initT, wkZ, wk, wants, resOf, tupOf, quiet, AOp.cls, Nat.beq_eq, Bool.or_eq_true, decide_true, decide_false, beq_self_eq_true, Bool.true_or, Bool.or_true, true_and, and_true, lenA, eqv, eqB, eqP, scal, new_box_self, List.getElem?_cons_zero, List.getElem?_cons_succ, key_ii, key_ss, findM, updM, esc_i, esc_s, esc_b, Int.reduceEq, ret1, new_nb, new_set, reduceCtorEq, Bool.xor_true, Bool.xor_false, Bool.false_eq_true, List.all_cons, List.all_nil, noTok, Bool.and_self, Bool.and_true, Bool.true_and, or_true, false_or, g3, g4, g5, natOf_nat, hget, cells_s, ldA_1, h1', hlen0, ofNat_len, h01, hw64]
            exact ⟨n - 1, by omega, hov, hwq, i + 1, by omega, rfl, by rw [hst]; exact hr2⟩
        · have hYl : 1 ≤ Y.length := List.length_pos_iff.2 h2
          obtain ⟨a', q2, e2, hr2, hg, href, hc⟩ := pop_rowP hwq hr (by simpa using hYl)
          rw [List.length_map] at e2
          rw [← List.map_dropLast, ← hcl] at hr2
          have hgt : ((((Y.length : Nat)) : Int) > 0) = True := by simp; omega
          have hsub : IntKind.i64.wrap ((Y.length : Int) - 1) = ((Y.length - 1 : Nat) : Int) := by
            rw [show (Y.length : Int) - 1 = ((Y.length - 1 : Nat) : Int) by omega, wrap_nat (by omega)]
          rcases rowP_shape hr with ⟨rfl, h⟩ | ⟨k, v, rfl⟩
          · exact absurd (by simpa using h) h2
          · simp only [W_seq, W_reg, W_cond, W_blk, W_skip, W_exit, W_ret, W_regD, WO_nil, WO_cons, WO_guard2, wantV_b, bq_tt, bq_ft, bq_tf, bq_ff, Bool.not_true, Bool.not_false, WD_nil, WD_cons, WD_guard2, WS_some, WS_none, KS_n, KS_x, KS_r, KB_n, KB_x, KB_r, KN_ap, KO_ap, KD_ap, KC_nil, KF_n, KF_r, KG_n, KG_r, KL_n, KL_x, KL_r, CP_true, CP_false, evOp, evX, X.ev, optX, put_some, put_none, get_set2, sel_t, sel_f, Nat.reduceBEq, Nat.reduceAdd, Nat.reduceLT, Nat.reduceLeDiff, Nat.reduceEqDiff, reduceIte, if_true, if_false, bi_add, bi_sub, bi_mul, bi_eql, bi_neq, bi_lss, bi_leq, bi_gtr, bi_geq, bs_eql, bs_neq, bs_lss, Am.unOp, ret1, pubL, pubC_agg, pubC_s, pubC_i, pubC_b, pubC_p, pubC_np, pubC_nsl, pubC_ws, pubC_full, pubC_shut, pubC_fn, pubA, initT, wkZ, wk, wants, resOf, tupOf, quiet, AOp.cls, Nat.beq_eq, Bool.or_eq_true, decide_true, decide_false, beq_self_eq_true, Bool.true_or, Bool.or_true, true_and, and_true, lenA, eqv, eqB, eqP, scal, new_box_self, List.getElem?_cons_zero, List.getElem?_cons_succ, key_ii, key_ss, findM, updM, esc_i, esc_s, esc_b, Int.reduceEq, ret1, new_nb, new_set, reduceCtorEq, Bool.xor_true, Bool.xor_false, Bool.false_eq_true, List.all_cons, List.all_nil, noTok, Bool.and_self, Bool.and_true, Bool.true_and, or_true, false_or, g3, g4, g5, natOf_nat, hget, cells_s, ldA_1, h1', List.length_map, ofNat_len, hgt, hsub, e2, hw64]
            exact ⟨n - 1, by omega, hg.over s (Nat.le_refl _) hov.nt hov, hg.wf hwq, i + 1, by omega, rfl, by rw [hst]; exact hr2⟩
      · have h1' : (x ≠ [46, 46]) = True := by simp [h1]
        have hcl : cleanF Y x = Y ++ [x] := by unfold cleanF; rw [if_neg h1]
        obtain ⟨a', q', e1, hr', ov', w'⟩ := app_one x hwq hov hr (by omega)
        rw [← hcl] at hr'
        rcases rowP_shape hr with ⟨rfl, _⟩ | ⟨k, v, rfl⟩ <;>
          (simp only [W_seq, W_reg, W_cond, W_blk, W_skip, W_exit, W_ret, W_regD, WO_nil, WO_cons, WO_guard2, wantV_b, bq_tt, bq_ft, bq_tf, bq_ff, Bool.not_true, Bool.not_false, WD_nil, WD_cons, WD_guard2, WS_some, WS_none, KS_n, KS_x, KS_r, KB_n, KB_x, KB_r, KN_ap, KO_ap, KD_ap, KC_nil, KF_n, KF_r, KG_n, KG_r, KL_n, KL_x, KL_r, CP_true, CP_false, evOp, evX, X.ev, optX, put_some, put_none, get_set2, sel_t, sel_f, Nat.reduceBEq, Nat.reduceAdd, Nat.reduceLT, Nat.reduceLeDiff, Nat.reduceEqDiff, reduceIte, if_true, if_false, bi_add, bi_sub, bi_mul, bi_eql, bi_neq, bi_lss, bi_leq, bi_gtr, bi_geq, bs_eql, bs_neq, bs_lss, Am.unOp, ret1, pubL, pubC_agg, pubC_s, pubC_i, pubC_b, pubC_p, pubC_np, pubC_nsl, pubC_ws, pubC_full, pubC_shut, pubC_fn, pubA, initT, wkZ, wk, wants, resOf, tupOf, quiet, AOp.cls, Nat.beq_eq, Bool.or_eq_true, decide_true, decide_false, beq_self_eq_true, Bool.true_or, Bool.or_true, true_and, and_true, lenA, eqv, eqB, eqP, scal, new_box_self, List.getElem?_cons_zero, List.getElem?_cons_succ, key_ii, key_ss, findM, updM, esc_i, esc_s, esc_b, Int.reduceEq, ret1, new_nb, new_set, reduceCtorEq, Bool.xor_true, Bool.xor_false, Bool.false_eq_true, List.all_cons, List.all_nil, noTok, Bool.and_self, Bool.and_true, Bool.true_and, or_true, false_or, g3, g4, g5, natOf_nat, hget, cells_s, ldA_1, h1', al1, e1, hw64]
           exact ⟨n - 1, by omega, ov', w', i + 1, by omega, rfl, by rw [hst]; exact hr'⟩)
    · have hil : i = L.length := by omega
      rw [hil, List.take_length, ← hS] at hr
      obtain ⟨a2, q2, f1, f2, f3, f4⟩ := rowP_end hov hr
      rcases rowP_shape hr with ⟨rfl, _⟩ | ⟨k', v', rfl⟩ <;>
        (simp only [W_seq, W_reg, W_cond, W_blk, W_skip, W_exit, W_ret, W_regD, WO_nil, WO_cons, WO_guard2, wantV_b, bq_tt, bq_ft, bq_tf, bq_ff, Bool.not_true, Bool.not_false, WD_nil, WD_cons, WD_guard2, WS_some, WS_none, KS_n, KS_x, KS_r, KB_n, KB_x, KB_r, KN_ap, KO_ap, KD_ap, KC_nil, KF_n, KF_r, KG_n, KG_r, KL_n, KL_x, KL_r, CP_true, CP_false, evOp, evX, X.ev, optX, put_some, put_none, get_set2, sel_t, sel_f, Nat.reduceBEq, Nat.reduceAdd, Nat.reduceLT, Nat.reduceLeDiff, Nat.reduceEqDiff, reduceIte, if_true, if_false, bi_add, bi_sub, bi_mul, bi_eql, bi_neq, bi_lss, bi_leq, bi_gtr, bi_geq, bs_eql, bs_neq, bs_lss, Am.unOp, ret1, pubL, pubC_agg, pubC_s, pubC_i, pubC_b, pubC_p, pubC_np, pubC_nsl, pubC_ws, pubC_full, pubC_shut, pubC_fn, pubA, initT, wkZ, wk, wants, resOf, tupOf, quiet, AOp.cls, Nat.beq_eq, Bool.or_eq_true, decide_true, decide_false, beq_self_eq_true, Bool.true_or, Bool.or_true, true_and, and_true, lenA, eqv, eqB, eqP, scal, new_box_self, List.getElem?_cons_zero, List.getElem?_cons_succ, key_ii, key_ss, findM, updM, esc_i, esc_s, esc_b, Int.reduceEq, ret1, new_nb, new_set, reduceCtorEq, Bool.xor_true, Bool.xor_false, Bool.false_eq_true, List.all_cons, List.all_nil, noTok, Bool.and_self, Bool.and_true, Bool.true_and, or_true, false_or, g3, f1]
         exact KR_some f2 f3 (by simpa only [tupOf, wkZ] using f4))
  · simp only [W_seq, W_reg, W_cond, W_blk, W_skip, W_exit, W_ret, W_regD, WO_nil, WO_cons, WO_guard2, wantV_b, bq_tt, bq_ft, bq_tf, bq_ff, Bool.not_true, Bool.not_false, WD_nil, WD_cons, WD_guard2, WS_some, WS_none, KS_n, KS_x, KS_r, KB_n, KB_x, KB_r, KN_ap, KO_ap, KD_ap, KC_nil, KF_n, KF_r, KG_n, KG_r, KL_n, KL_x, KL_r, CP_true, CP_false, evOp, evX, X.ev, optX, put_some, put_none, get_set2, sel_t, sel_f, Nat.reduceBEq, Nat.reduceAdd, Nat.reduceLT, Nat.reduceLeDiff, Nat.reduceEqDiff, reduceIte, if_true, if_false, bi_add, bi_sub, bi_mul, bi_eql, bi_neq, bi_lss, bi_leq, bi_gtr, bi_geq, bs_eql, bs_neq, bs_lss, Am.unOp, ret1, pubL, pubC_agg, pubC_s, pubC_i, pubC_b, pubC_p, pubC_np, pubC_nsl, pubC_ws, pubC_full, pubC_shut, pubC_fn, pubA, initT, wkZ, wk, wants, resOf, tupOf, quiet, AOp.cls, Nat.beq_eq, Bool.or_eq_true, decide_true, decide_false, beq_self_eq_true, Bool.true_or, Bool.or_true, true_and, and_true, lenA, eqv, eqB, eqP, scal, new_box_self, List.getElem?_cons_zero, List.getElem?_cons_succ, key_ii, key_ss, findM, updM, esc_i, esc_s, esc_b, Int.reduceEq, ret1, new_nb, new_set, reduceCtorEq, Bool.xor_true, Bool.xor_false, Bool.false_eq_true, List.all_cons, List.all_nil, noTok, Bool.and_self, Bool.and_true, Bool.true_and, or_true, false_or]
    exact ⟨Over.enter s, hw.enter, 0, by omega, rfl, .inl ⟨rfl, rfl⟩⟩
end Go.Proofs.YtfaodjpibdhdjaaDoor

/-
  The order of places: plain facts.
-/
set_option maxRecDepth 100000
namespace Go.Proofs.YtfaodjpibdhdjaaDoor
open Go.Proofs.YtfaodjpibdhdjaaDoor.Am

theorem ltN_irrefl : ∀ a : List Nat, ltN a a = false
  | [] => rfl
  | a :: l => by
    have : Nat.blt a a = false := by rw [Bool.eq_false_iff]; intro h; rw [Nat.blt_eq] at h; omega
    simp [ltN, ltN_irrefl l, this]
theorem ltN_trans : ∀ {a b c : List Nat}, ltN a b = true → ltN b c = true → ltN a c = true
  | [], [], _, h, _ => by simp [ltN] at h
  | _ :: _, [], _, h, _ => by simp [ltN] at h
  | _, _ :: _, [], _, h => by simp [ltN] at h
  | [], _ :: _, _ :: _, _, _ => rfl
  | a :: x, b :: y, c :: z, h1, h2 => by
    simp only [ltN, Bool.or_eq_true, Bool.and_eq_true, Nat.blt_eq, Nat.beq_eq] at h1 h2 ⊢
    rcases h1 with h1 | ⟨h1, h3⟩
    · rcases h2 with h2 | ⟨h2, _⟩
      · left; omega
      · left; omega
    · rcases h2 with h2 | ⟨h2, h4⟩
      · left; omega
      · right; exact ⟨by omega, ltN_trans h3 h4⟩
theorem ltN_tri : ∀ {a b : List Nat}, ltN a b = false → a ≠ b → ltN b a = true
  | [], [], _, h => absurd rfl h
  | [], _ :: _, h, _ => by simp [ltN] at h
  | _ :: _, [], _, _ => rfl
  | a :: x, b :: y, h, hn => by
    have h' : ¬ (ltN (a :: x) (b :: y) = true) := by simp [h]
    simp only [ltN, Bool.or_eq_true, Bool.and_eq_true, Nat.blt_eq, Nat.beq_eq] at h' ⊢
    by_cases hab : a = b
    · subst hab
      right
      refine ⟨rfl, ltN_tri (by cases hx : ltN x y with | false => rfl | true => exact absurd (.inr ⟨rfl, hx⟩) h') fun hh => hn (by rw [hh])⟩
    · left
      have : ¬ a < b := fun hh => h' (.inl hh)
      omega

theorem cmpS_zero {a b : List Nat} : cmpS a b = 0 ↔ a = b := by
  unfold cmpS
  by_cases h : ltN a b = true
  · simp only [if_pos h]
    refine ⟨fun hh => by omega, fun hh => ?_⟩
    subst hh; rw [ltN_irrefl] at h; cases h
  · simp only [if_neg h]
    by_cases he : a = b <;> simp [he]
theorem cmpS_neg {a b : List Nat} : cmpS a b < 0 ↔ ltN a b = true := by
  unfold cmpS
  by_cases h : ltN a b = true
  · simp [h]
  · simp only [if_neg h, iff_false]
    by_cases he : a = b
    · subst he; simp [ltN_irrefl]
    · simp [he, h]
theorem cmpS_pos {a b : List Nat} : 0 < cmpS a b ↔ ltN b a = true := by
  unfold cmpS
  by_cases h : ltN a b = true
  · simp only [if_pos h]
    refine ⟨fun hh => by omega, fun hh => ?_⟩
    have := ltN_trans h hh; rw [ltN_irrefl] at this; cases this
  · simp only [if_neg h]
    by_cases he : a = b
    · subst he; simp [ltN_irrefl]
    · simp only [if_neg he]
      refine ⟨fun _ => ltN_tri (by simpa using h) he, fun _ => by omega⟩

theorem cmpT_zero : ∀ {L M : List (List Nat)}, cmpT L M = 0 ↔ L = M
  | [], [] => by simp [cmpT]
  | [], _ :: _ => by simp [cmpT]
  | _ :: _, [] => by simp [cmpT]
  | a :: L, b :: M => by
    simp only [cmpT]
    by_cases h : cmpS a b = 0
    · rw [if_pos h, cmpT_zero, cmpS_zero.1 h]; simp
    · rw [if_neg h]
      refine ⟨fun hh => absurd hh h, fun hh => ?_⟩
      cases hh; exact absurd (cmpS_zero.2 rfl) h
theorem cmpT_anti : ∀ {L M : List (List Nat)}, (cmpT L M < 0 ↔ 0 < cmpT M L)
  | [], [] => by simp [cmpT]
  | [], _ :: _ => by simp [cmpT]
  | _ :: _, [] => by simp [cmpT]
  | a :: L, b :: M => by
    simp only [cmpT]
    by_cases h : cmpS a b = 0
    · have := cmpS_zero.1 h
      subst this
      rw [if_pos h, if_pos h, cmpT_anti]
    · have h2 : ¬ cmpS b a = 0 := fun hh => h (cmpS_zero.2 (cmpS_zero.1 hh).symm)
      rw [if_neg h, if_neg h2, cmpS_neg, cmpS_pos]
theorem cmpT_trans : ∀ {L M N : List (List Nat)}, cmpT L M < 0 → cmpT M N < 0 → cmpT L N < 0
  | [], [], _, h, _ => by simp [cmpT] at h
  | _ :: _, [], _, h, _ => by simp [cmpT] at h
  | _, _ :: _, [], _, h => by simp [cmpT] at h
  | [], _ :: _, _ :: _, _, _ => by simp [cmpT]
  | a :: L, b :: M, c :: N, h1, h2 => by
    simp only [cmpT] at h1 h2 ⊢
    by_cases e1 : cmpS a b = 0
    · rw [if_pos e1] at h1
      have := cmpS_zero.1 e1
      subst this
      by_cases e2 : cmpS a c = 0
      · rw [if_pos e2] at h2 ⊢; exact cmpT_trans h1 h2
      · rw [if_neg e2] at h2 ⊢; exact h2
    · rw [if_neg e1] at h1
      by_cases e2 : cmpS b c = 0
      · have := cmpS_zero.1 e2
        subst this
        rw [if_neg e1]; exact h1
      · rw [if_neg e2] at h2
        have h3 := ltN_trans (cmpS_neg.1 h1) (cmpS_neg.1 h2)
        have h4 := cmpS_neg.2 h3
        rw [if_neg (by omega)]; exact h4
theorem und_trans {L M N : List (List Nat)} (h1 : undP L M = true) (h2 : undP M N = true) : undP L N = true := by
  simp only [undP, decide_eq_true_eq] at h1 h2 ⊢
  have := und_len h1
  have h3 : (N.take M.length).take L.length = N.take L.length := by rw [List.take_take]; congr 1; omega
  rw [← h3, h2, h1]
theorem und_cmp : ∀ {L N : List (List Nat)}, N.take L.length = L → ¬ cmpT N L < 0
  | [], [], _ => by simp [cmpT]
  | [], _ :: _, _ => by simp [cmpT]
  | _ :: _, [], h => by simp at h
  | a :: L, b :: N, h => by
    simp only [List.length_cons, List.take_succ_cons, List.cons.injEq] at h
    obtain ⟨rfl, h⟩ := h
    simp only [cmpT, if_pos (cmpS_zero.2 rfl)]
    exact und_cmp h

theorem less_irrefl (L : List (List Nat)) : lessP L L = false := by simp [lessP, cmpT_zero.2]
theorem less_trans {L M N : List (List Nat)} (h1 : lessP L M = true) (h2 : lessP M N = true) : lessP L N = true := by
  simp only [lessP, decide_eq_true_eq] at *
  exact cmpT_trans h1 h2
theorem less_tri (L M : List (List Nat)) : (lessP L M = true ∧ lessP M L = false ∧ sameP L M = false) ∨ (lessP L M = false ∧ lessP M L = true ∧ sameP L M = false) ∨ (lessP L M = false ∧ lessP M L = false ∧ sameP L M = true) := by
  have h1 := @cmpT_anti L M
  have h2 := @cmpT_anti M L
  have h3 := @cmpT_zero L M
  simp only [lessP, sameP, decide_eq_true_eq, decide_eq_false_iff_not]
  by_cases h : L = M
  · have := h3.2 h
    subst h
    right; right
    exact ⟨by omega, by omega, rfl⟩
  · have hz : ¬ cmpT L M = 0 := fun hh => h (h3.1 hh)
    by_cases hl : cmpT L M < 0
    · left; exact ⟨hl, by have := h1.1 hl; omega, h⟩
    · right; left
      have : cmpT M L < 0 := h2.2 (by omega)
      exact ⟨hl, this, h⟩
theorem und_less {L N : List (List Nat)} (h : undP L N = true) : lessP N L = false := by
  simp only [undP, decide_eq_true_eq] at h
  simp only [lessP, decide_eq_false_iff_not]
  exact und_cmp h
end Go.Proofs.YtfaodjpibdhdjaaDoor

/-
  Places as paths.
-/
set_option maxRecDepth 100000
set_option linter.unusedSimpArgs false
namespace Go.Proofs.YtfaodjpibdhdjaaDoor
open Go.Proofs.YtfaodjpibdhdjaaDoor.Am

def rows (L : List (List Nat)) : List Nat := L.flatMap fun x => 47 :: x
def showP (L : List (List Nat)) : List Nat := if L = [] then [47] else rows L

theorem rows_join : ∀ {L : List (List Nat)}, L ≠ [] → rows L = 47 :: joinN [47] L
  | [], h => absurd rfl h
  | [a], _ => by simp [rows, joinN]
  | a :: b :: L, _ => by
    have ih := rows_join (L := b :: L) (by simp)
    simp only [rows, List.flatMap_cons] at ih ⊢
    rw [ih]
    simp [joinN]

theorem rows_len {n : Nat} : ∀ {L : List (List Nat)}, (∀ x ∈ L, x.length ≤ n) → (rows L).length ≤ L.length * (n + 1)
  | [], _ => by simp [rows]
  | a :: L, h => by
    have ih := rows_len (n := n) (L := L) fun x hx => h x (List.mem_cons_of_mem _ hx)
    have ha := h a (by simp)
    simp only [rows, List.flatMap_cons, List.length_append, List.length_cons] at ih ⊢
    rw [Nat.add_mul (L.length) 1 (n + 1)]
    omega

theorem bs_add_of {x y : List Nat} (h : x.length + y.length < 2 ^ 62) : Am.binOp .add (.s x) (.s y) = some (.s (x ++ y)) := by rw [bs_add, if_pos h]

/-- A short place. -/
structure Sh (L : List (List Nat)) : Prop where
  n : L.length ≤ 100
  l : ∀ x ∈ L, x.length ≤ 500

theorem join_ok {L : List (List Nat)} (h : Sh L) (s : St) : (lim prog).call f_strings_Join [tx L, .s [47]] s = some (.s (joinN [47] L), s) := by
  refine prim_call (p := primJoin) p_strings_Join rfl ?_
  have hl : (joinN [47] L).length ≤ 2 ^ 47 := by
    by_cases hn : L = []
    · subst hn; simp [joinN]
    · have h1 := rows_len h.l
      rw [rows_join hn] at h1
      have := Nat.mul_le_mul_right 501 h.n
      simp only [List.length_cons] at h1
      omega
  simp only [primJoin, txtsOf, txtL_tx]
  rw [if_pos ⟨by have := h.n; omega, hl⟩]

theorem show_ok {L : List (List Nat)} (h : Sh L) (s : St) : (lim prog).call f_path_Show [tx L] s = some (.s (showP L), s) := by
  refine fn_W p_path_Show rfl rfl ?_
  by_cases hn : L = []
  · subst hn
    simp only [c_path_Show, W_seq, W_reg, W_cond, W_blk, W_skip, W_exit, W_ret, W_regD, WO_nil, WO_cons, WO_guard2, wantV_b, bq_tt, bq_ft, bq_tf, bq_ff, Bool.not_true, Bool.not_false, WD_nil, WD_cons, WD_guard2, WS_some, WS_none, KS_n, KS_x, KS_r, KB_n, KB_x, KB_r, KN_ap, KO_ap, KD_ap, KC_nil, KF_n, KF_r, KG_n, KG_r, KL_n, KL_x, KL_r, CP_true, CP_false, evOp, evX, X.ev, optX, put_some, put_none, get_set2, sel_t, sel_f, Nat.reduceBEq, Nat.reduceAdd, Nat.reduceLT, Nat.reduceLeDiff, Nat.reduceEqDiff, reduceIte, if_true, if_false, bi_add, bi_sub, bi_mul, bi_eql, bi_neq, bi_lss, bi_leq, bi_gtr, bi_geq, bs_eql, bs_neq, bs_lss, Am.unOp, ret1, pubL, pub, pubA, initT, wkZ, wk, wants, resOf, tupOf, quiet, AOp.cls, Nat.beq_eq, Bool.or_eq_true, decide_true, decide_false, beq_self_eq_true, Bool.true_or, Bool.or_true, true_and, and_true, lenA, eqv, eqB, eqP, scal, new_box_self, List.getElem?_cons_zero, List.getElem?_cons_succ, key_ii, key_ss, findM, updM, esc_i, esc_s, esc_b, Int.reduceEq, ret1, new_nb, new_set, reduceCtorEq, Bool.xor_true, Bool.xor_false, Bool.false_eq_true, List.all_cons, List.all_nil, noTok, Bool.and_self, Bool.and_true, Bool.true_and, List.map_nil, List.length_nil, ofNat_len, Int.ofNat_zero]
    exact KR_some (Over.enter s) rfl rfl
  · have h1 := rows_len h.l
    rw [rows_join hn] at h1
    have := Nat.mul_le_mul_right 501 h.n
    simp only [List.length_cons] at h1
    have hadd := bs_add_of (x := [47]) (y := joinN [47] L) (by simp; omega)
    have hl : ¬ (Int.ofNat L.length = 0) := by
      cases L with
      | nil => exact absurd rfl hn
      | cons a L => simp; omega
    simp only [c_path_Show, W_seq, W_reg, W_cond, W_blk, W_skip, W_exit, W_ret, W_regD, WO_nil, WO_cons, WO_guard2, wantV_b, bq_tt, bq_ft, bq_tf, bq_ff, Bool.not_true, Bool.not_false, WD_nil, WD_cons, WD_guard2, WS_some, WS_none, KS_n, KS_x, KS_r, KB_n, KB_x, KB_r, KN_ap, KO_ap, KD_ap, KC_nil, KF_n, KF_r, KG_n, KG_r, KL_n, KL_x, KL_r, CP_true, CP_false, evOp, evX, X.ev, optX, put_some, put_none, get_set2, sel_t, sel_f, Nat.reduceBEq, Nat.reduceAdd, Nat.reduceLT, Nat.reduceLeDiff, Nat.reduceEqDiff, reduceIte, if_true, if_false, bi_add, bi_sub, bi_mul, bi_eql, bi_neq, bi_lss, bi_leq, bi_gtr, bi_geq, bs_eql, bs_neq, bs_lss, Am.unOp, ret1, pubL, pub, pubA, initT, wkZ, wk, wants, resOf, tupOf, quiet, AOp.cls, Nat.beq_eq, Bool.or_eq_true, decide_true, decide_false, beq_self_eq_true, Bool.true_or, Bool.or_true, true_and, and_true, lenA, eqv, eqB, eqP, scal, new_box_self, List.getElem?_cons_zero, List.getElem?_cons_succ, key_ii, key_ss, findM, updM, esc_i, esc_s, esc_b, Int.reduceEq, ret1, new_nb, new_set, reduceCtorEq, Bool.xor_true, Bool.xor_false, Bool.false_eq_true, List.all_cons, List.all_nil, noTok, Bool.and_self, Bool.and_true, Bool.true_and, List.length_map, join_ok h, hadd, decide_eq_false hl]
    refine KR_some (Over.enter s) rfl ?_
    simp [tupOf, wkZ, wk, showP, hn, rows_join hn]

theorem sh_of {L : List (List Nat)} (h : longP L = false) : Sh L := by
  simp only [longP, Bool.or_eq_false_iff, decide_eq_false_iff_not, List.any_eq_false, decide_eq_true_eq] at h
  exact ⟨by omega, fun x hx => by have := h.2 x hx; omega⟩

end Go.Proofs.YtfaodjpibdhdjaaDoor

/-
  The plain law of PathCleans.
-/
set_option maxRecDepth 100000
set_option linter.unusedSimpArgs false
namespace Go.Proofs.YtfaodjpibdhdjaaDoor
open Go.Proofs.YtfaodjpibdhdjaaDoor.Am

theorem segs_app : ∀ (a cur b : List Nat), segs cur (a ++ 47 :: b) = segs cur a ++ segs [] b
  | [], cur, b => by simp [segs]
  | c :: a, cur, b => by
    show (if c = 47 then cur :: segs [] (a ++ 47 :: b) else segs (cur ++ [c]) (a ++ 47 :: b)) = (if c = 47 then cur :: segs [] a else segs (cur ++ [c]) a) ++ segs [] b
    by_cases h : c = 47
    · rw [if_pos h, if_pos h, segs_app a [] b]; rfl
    · rw [if_neg h, if_neg h, segs_app a _ b]
theorem split_app (a b : List Nat) : splitL (a ++ 47 :: b) = splitL a ++ splitL b := segs_app a [] b
theorem steps_app (a b : List Nat) : stepsL (a ++ 47 :: b) = stepsL a ++ stepsL b := by
  unfold stepsL
  rw [split_app, List.filter_append]
theorem steps_cons (b : List Nat) : stepsL (47 :: b) = stepsL b := by
  have := steps_app [] b
  simpa [stepsL, splitL, segs, stepOk] using this
theorem steps_dot (b : List Nat) : stepsL (46 :: 47 :: b) = stepsL b := by
  have := steps_app [46] b
  simpa [stepsL, splitL, segs, stepOk] using this
/-- A step that stands alone. -/
structure Stp (x : List Nat) : Prop where
  ok : stepOk x = true
  no : 47 ∉ x
theorem steps_one {x : List Nat} (h : Stp x) : stepsL x = [x] := by
  unfold stepsL
  rw [split_none h.no]
  simp [h.ok]
theorem steps_snoc {x : List Nat} (h : Stp x) (a : List Nat) : stepsL (a ++ 47 :: x) = stepsL a ++ [x] := by rw [steps_app, steps_one h]

theorem segs_mem : ∀ (l cur : List Nat), 47 ∉ cur → ∀ x ∈ segs cur l, 47 ∉ x ∧ x.length ≤ cur.length + l.length ∧ ∀ n ∈ x, n ∈ cur ∨ n ∈ l
  | [], cur, h, x, hx => by
    simp only [segs, List.mem_singleton] at hx
    subst hx
    exact ⟨h, by simp, fun n hn => .inl hn⟩
  | c :: l, cur, h, x, hx => by
    have hx' : x ∈ (if c = 47 then cur :: segs [] l else segs (cur ++ [c]) l) := hx
    by_cases hc : c = 47
    · rw [if_pos hc] at hx'
      rcases List.mem_cons.1 hx' with rfl | hx'
      · exact ⟨h, by omega, fun n hn => .inl hn⟩
      · obtain ⟨h1, h2, h3⟩ := segs_mem l [] (by simp) x hx'
        exact ⟨h1, by simp at h2 ⊢; omega, fun n hn => .inr (by rcases h3 n hn with h | h; simp at h; exact List.mem_cons_of_mem _ h)⟩
    · rw [if_neg hc] at hx'
      obtain ⟨h1, h2, h3⟩ := segs_mem l (cur ++ [c]) (by simp [h, Ne.symm hc]) x hx'
      refine ⟨h1, by simp at h2 ⊢; omega, fun n hn => ?_⟩
      rcases h3 n hn with h | h
      · rcases List.mem_append.1 h with h | h
        · exact .inl h
        · exact .inr (by simp at h; simp [h])
      · exact .inr (List.mem_cons_of_mem _ h)
theorem stepsL_mem {l x : List Nat} (h : x ∈ stepsL l) : Stp x ∧ x.length ≤ l.length ∧ ∀ n ∈ x, n ∈ l := by
  unfold stepsL at h
  obtain ⟨h1, h2⟩ := List.mem_filter.1 h
  obtain ⟨h3, h4, h5⟩ := segs_mem l [] (by simp) x h1
  exact ⟨⟨h2, h3⟩, by simpa using h4, fun n hn => by rcases h5 n hn with h | h; simp at h; exact h⟩

/-! ### The place's path -/
theorem rows_snoc (L : List (List Nat)) (x : List Nat) : rows (L ++ [x]) = rows L ++ 47 :: x := by simp [rows]
theorem steps_rows : ∀ (n : Nat) (L : List (List Nat)), L.length = n → (∀ x ∈ L, Stp x) → stepsL (rows L) = L
  | 0, L, hn, _ => by
    have : L = [] := List.length_eq_zero_iff.1 hn
    subst this; rfl
  | n + 1, L, hn, h => by
    obtain ⟨M, x, rfl⟩ : ∃ M x, L = M ++ [x] := ⟨L.dropLast, L.getLast (by rintro rfl; simp at hn), (List.dropLast_concat_getLast _).symm⟩
    rw [rows_snoc, steps_snoc (h x (by simp)), steps_rows n M (by simpa using hn) fun y hy => h y (by simp [hy])]
theorem foldl_clean : ∀ (L x : List (List Nat)), (∀ w ∈ L, w ≠ [46, 46]) → L.foldl cleanF x = x ++ L
  | [], x, _ => by simp
  | w :: L, x, h => by
    simp only [List.foldl_cons]
    have : cleanF x w = x ++ [w] := by unfold cleanF; rw [if_neg (h w (by simp))]
    rw [this, foldl_clean L _ fun y hy => h y (by simp [hy])]
    simp
theorem name_stp {x : List Nat} (h : nameP x = true) : Stp x ∧ x ≠ [46, 46] := by
  simp only [nameP, Bool.and_eq_true, decide_eq_true_eq, Bool.not_eq_true'] at h
  obtain ⟨h1, h2, h3, h4, h5⟩ := h
  refine ⟨⟨by simp [stepOk, h1, h3], fun hm => ?_⟩, h4⟩
  unfold anyK at h5
  rw [List.any_eq_false] at h5
  exact h5 47 hm (by simp)
theorem clean_show {L : List (List Nat)} (h : ∀ x ∈ L, nameP x = true) : cleanL (showP L) = L := by
  unfold cleanL showP
  by_cases hn : L = []
  · subst hn; rfl
  · rw [if_neg hn, steps_rows _ L rfl fun x hx => (name_stp (h x hx)).1, foldl_clean L [] fun x hx => (name_stp (h x hx)).2]
    rfl
theorem clean_of_steps {a b : List Nat} (h : stepsL a = stepsL b) : cleanL a = cleanL b := by unfold cleanL; rw [h]

/-! ### Ties -/
def dots : Nat → List Nat
  | 0 => [47]
  | n + 1 => dots n ++ [46, 47]
def tieL (t : Nat) : List Nat := dots (t % 4) ++ (if 127 < t then [47] else [])
theorem dots_len : ∀ n, (dots n).length = 1 + 2 * n
  | 0 => rfl
  | n + 1 => by simp only [dots, List.length_append, dots_len n]; simp; omega
theorem tie_len (t : Nat) : (tieL t).length ≤ 8 := by
  unfold tieL
  rw [List.length_append, dots_len]
  split <;> simp <;> omega
theorem steps_dots : ∀ (n : Nat) (a b : List Nat), stepsL (a ++ (dots n ++ b)) = stepsL a ++ stepsL b
  | 0, a, b => by
    show stepsL (a ++ 47 :: b) = _
    exact steps_app a b
  | n + 1, a, b => by
    simp only [dots, List.append_assoc]
    rw [steps_dots n a]
    show stepsL a ++ stepsL (46 :: 47 :: b) = _
    rw [steps_dot]
theorem steps_tie (t : Nat) {x : List Nat} (h : Stp x) (a : List Nat) : stepsL (a ++ tieL t ++ x) = stepsL a ++ [x] := by
  unfold tieL
  rw [List.append_assoc, List.append_assoc, steps_dots]
  congr 1
  split
  · show stepsL (47 :: x) = _
    rw [steps_cons, steps_one h]
  · exact steps_one h
end Go.Proofs.YtfaodjpibdhdjaaDoor

/-
  Last names, directories.
-/
set_option maxRecDepth 100000
set_option linter.unusedSimpArgs false
set_option linter.constructorNameAsVariable false
namespace Go.Proofs.YtfaodjpibdhdjaaDoor
open Go.Proofs.YtfaodjpibdhdjaaDoor.Am

def lastP (l : List Nat) : List Nat := (splitL l).getLastD []
theorem last_none {l : List Nat} (h : 47 ∉ l) : lastP l = l := by unfold lastP; rw [split_none h]; rfl
theorem last_cut {a b : List Nat} (h : 47 ∉ b) : splitL (a ++ 47 :: b) = splitL a ++ [b] := by rw [split_app, split_none h]
theorem getLastD_snoc {α : Type} (L : List α) (x d : α) : (L ++ [x]).getLastD d = x := by simp [List.getLastD_eq_getLast?]
theorem last_of_cut {a b : List Nat} (h : 47 ∉ b) : lastP (a ++ 47 :: b) = b := by unfold lastP; rw [last_cut h, getLastD_snoc]
theorem rcut_of {l : List Nat} (h : 47 ∈ l) : ∃ a b, l = a ++ 47 :: b ∧ 47 ∉ b := by
  induction l with
  | nil => simp at h
  | cons c l ih =>
    by_cases hm : 47 ∈ l
    · obtain ⟨a, b, rfl, h2⟩ := ih hm
      exact ⟨c :: a, b, rfl, h2⟩
    · have hc : c = 47 := by
        rcases List.mem_cons.1 h with h | h
        · exact h.symm
        · exact absurd h hm
      exact ⟨[], l, by simp [hc], hm⟩
theorem last_suffix (l : List Nat) : ∃ a, l = a ++ lastP l := by
  by_cases h : 47 ∈ l
  · obtain ⟨a, b, rfl, hb⟩ := rcut_of h
    exact ⟨a ++ [47], by rw [last_of_cut hb]; simp⟩
  · exact ⟨[], by rw [last_none h]; rfl⟩
theorem last_le (l : List Nat) : (lastP l).length ≤ l.length := by
  obtain ⟨a, h⟩ := last_suffix l
  have := congrArg List.length h
  rw [List.length_append] at this
  omega
theorem last_drop (l : List Nat) : (l.drop (l.length - (lastP l).length)).take (l.length - (l.length - (lastP l).length)) = lastP l := by
  obtain ⟨a, h⟩ := last_suffix l
  obtain ⟨b, hb⟩ : ∃ b, lastP l = b := ⟨_, rfl⟩
  rw [hb] at h ⊢
  rw [h, List.length_append, show a.length + b.length - b.length = a.length by omega, List.drop_left]
  exact List.take_of_length_le (by omega)
/-- Where the last slash stands. -/
def lastIx (l : List Nat) : Int := (l.length : Int) - 1 - (lastP l).length

theorem lastIndexL_ok (l : List Nat) (hl : l.length < 2 ^ 62) (s : St) : (lim prog).call f_internal_bytealg_LastIndexByteString [.s l, .i .u8 47] s = some (.i .i64 (lastIx l), s) := by
  refine fn_W p_internal_bytealg_LastIndexByteString rfl rfl ?_
  have w0 : IntKind.i64.wrap ((l.length : Int) - 1) = (l.length : Int) - 1 := by
    have e : IntKind.i64.wrap ((l.length : Int) - 1) = if (9223372036854775808 : Int) ≤ ((l.length : Int) - 1) % 18446744073709551616 then ((l.length : Int) - 1) % 18446744073709551616 - 18446744073709551616 else ((l.length : Int) - 1) % 18446744073709551616 := by
      simp [IntKind.wrap, IntKind.signed, IntKind.bits]
    rw [e]
    split <;> omega
  simp only [c_internal_bytealg_LastIndexByteString, W_seq, W_reg, W_cond, W_blk, W_skip, W_exit, W_ret, W_regD, WO_nil, WO_cons, WO_guard2, wantV_b, bq_tt, bq_ft, bq_tf, bq_ff, Bool.not_true, Bool.not_false, WD_nil, WD_cons, WD_guard2, WS_some, WS_none, KS_n, KS_x, KS_r, KB_n, KB_x, KB_r, KN_ap, KO_ap, KD_ap, KC_nil, KF_n, KF_r, KG_n, KG_r, KL_n, KL_x, KL_r, CP_true, CP_false, evOp, evX, X.ev, optX, put_some, put_none, get_set2, sel_t, sel_f, Nat.reduceBEq, Nat.reduceAdd, Nat.reduceLT, Nat.reduceLeDiff, Nat.reduceEqDiff, reduceIte, if_true, if_false, bi_add, bi_sub, bi_mul, bi_eql, bi_neq, bi_lss, bi_leq, bi_gtr, bi_geq, bs_eql, bs_neq, bs_lss, Am.unOp, ret1, pubL, pubC_agg, pubC_s, pubC_i, pubC_b, pubC_p, pubC_np, pubC_nsl, pubC_ws, pubC_full, pubC_shut, pubC_fn, pubA, initT, wkZ, wk, wants, resOf, tupOf, quiet, AOp.cls, Nat.beq_eq, Bool.or_eq_true, decide_true, decide_false, beq_self_eq_true, Bool.true_or, Bool.or_true, true_and, and_true, lenA, eqv, eqB, eqP, scal, new_box_self, List.getElem?_cons_zero, List.getElem?_cons_succ, key_ii, key_ss, findM, updM, esc_i, esc_s, esc_b, Int.reduceEq, ret1, new_nb, new_set, reduceCtorEq, Bool.xor_true, Bool.xor_false, Bool.false_eq_true, List.all_cons, List.all_nil, noTok, Bool.and_self, Bool.and_true, Bool.true_and, or_true, false_or, ofNat_len, w0]
  refine W_loop (fun n e q => s.enter = q ∧ e.get 0 = .s l ∧ e.get 1 = .i .u8 47 ∧ n ≤ l.length ∧ e.get 5 = .i .i64 ((n : Int) - 1) ∧ 47 ∉ l.drop n) ?_ l.length _ _ ?_
  · rintro n e q ⟨rfl, g0, g1, hn, g5, hno⟩
    simp only [W_seq, W_reg, W_cond, W_blk, W_skip, W_exit, W_ret, W_regD, WO_nil, WO_cons, WO_guard2, wantV_b, bq_tt, bq_ft, bq_tf, bq_ff, Bool.not_true, Bool.not_false, WD_nil, WD_cons, WD_guard2, WS_some, WS_none, KS_n, KS_x, KS_r, KB_n, KB_x, KB_r, KN_ap, KO_ap, KD_ap, KC_nil, KF_n, KF_r, KG_n, KG_r, KL_n, KL_x, KL_r, CP_true, CP_false, evOp, evX, X.ev, optX, put_some, put_none, get_set2, sel_t, sel_f, Nat.reduceBEq, Nat.reduceAdd, Nat.reduceLT, Nat.reduceLeDiff, Nat.reduceEqDiff, reduceIte, if_true, if_false, bi_add, bi_sub, bi_mul, bi_eql, bi_neq, bi_lss, bi_leq, bi_gtr, bi_geq, bs_eql, bs_neq, bs_lss, Am.unOp, ret1, pubL, pubC_agg, pubC_s, pubC_i, pubC_b, pubC_p, pubC_np, pubC_nsl, pubC_ws, pubC_full, pubC_shut, pubC_fn, pubA, initT, wkZ, wk, wants, resOf, tupOf, quiet, AOp.cls, Nat.beq_eq, Bool.or_eq_true, decide_true, decide_false, beq_self_eq_true, Bool.true_or, Bool.or_true, true_and, and_true, lenA, eqv, eqB, eqP, scal, new_box_self, List.getElem?_cons_zero, List.getElem?_cons_succ, key_ii, key_ss, findM, updM, esc_i, esc_s, esc_b, Int.reduceEq, ret1, new_nb, new_set, reduceCtorEq, Bool.xor_true, Bool.xor_false, Bool.false_eq_true, List.all_cons, List.all_nil, noTok, Bool.and_self, Bool.and_true, Bool.true_and, or_true, false_or, g0, g1, g5]
    refine CP_dec (fun hge => ?_) (fun hlt => ?_)
    · obtain ⟨m, rfl⟩ : ∃ m, n = m + 1 := ⟨n - 1, by omega⟩
      have hm : ((m + 1 : Nat) : Int) - 1 = (m : Int) := by omega
      have hget : l[m]? = some l[m] := List.getElem?_eq_getElem (by omega)
      have hdr : l.drop m = l[m] :: l.drop (m + 1) := List.drop_eq_getElem_cons (by omega)
      have w1 : IntKind.i64.wrap ((m : Int) - 1) = (m : Int) - 1 := by
        have e : IntKind.i64.wrap ((m : Int) - 1) = if (9223372036854775808 : Int) ≤ ((m : Int) - 1) % 18446744073709551616 then ((m : Int) - 1) % 18446744073709551616 - 18446744073709551616 else ((m : Int) - 1) % 18446744073709551616 := by
          simp [IntKind.wrap, IntKind.signed, IntKind.bits]
        rw [e]
        split <;> omega
      rw [hm] at g5
      simp only [W_seq, W_reg, W_cond, W_blk, W_skip, W_exit, W_ret, W_regD, WO_nil, WO_cons, WO_guard2, wantV_b, bq_tt, bq_ft, bq_tf, bq_ff, Bool.not_true, Bool.not_false, WD_nil, WD_cons, WD_guard2, WS_some, WS_none, KS_n, KS_x, KS_r, KB_n, KB_x, KB_r, KN_ap, KO_ap, KD_ap, KC_nil, KF_n, KF_r, KG_n, KG_r, KL_n, KL_x, KL_r, CP_true, CP_false, evOp, evX, X.ev, optX, put_some, put_none, get_set2, sel_t, sel_f, Nat.reduceBEq, Nat.reduceAdd, Nat.reduceLT, Nat.reduceLeDiff, Nat.reduceEqDiff, reduceIte, if_true, if_false, bi_add, bi_sub, bi_mul, bi_eql, bi_neq, bi_lss, bi_leq, bi_gtr, bi_geq, bs_eql, bs_neq, bs_lss, Am.unOp, ret1, pubL, pubC_agg, pubC_s, pubC_i, pubC_b, pubC_p, pubC_np, pubC_nsl, pubC_ws, pubC_full, pubC_shut, pubC_fn, pubA, initT, wkZ, wk, wants, resOf, tupOf, quiet, AOp.cls, Nat.beq_eq, Bool.or_eq_true, decide_true, decide_false, beq_self_eq_true, Bool.true_or, Bool.or_true, true_and, and_true, lenA, eqv, eqB, eqP, scal, new_box_self, List.getElem?_cons_zero, List.getElem?_cons_succ, key_ii, key_ss, findM, updM, esc_i, esc_s, esc_b, Int.reduceEq, ret1, new_nb, new_set, reduceCtorEq, Bool.xor_true, Bool.xor_false, Bool.false_eq_true, List.all_cons, List.all_nil, noTok, Bool.and_self, Bool.and_true, Bool.true_and, or_true, false_or, g0, g1, g5, hm, natOf_i64, hget, ofNat_len]
      refine CP_dec (fun h47 => ?_) (fun h47 => ?_)
      · have h47 : l[m] = 47 := by omega
        have hcut : l = l.take m ++ 47 :: l.drop (m + 1) := by
          conv => lhs; rw [← List.take_append_drop m l, hdr, h47]
        have hlp : lastP l = l.drop (m + 1) := by
          conv => lhs; rw [hcut]
          exact last_of_cut hno
        refine KR_some (Over.enter s) rfl ?_
        have : lastIx l = (m : Int) := by unfold lastIx; rw [hlp]; simp; omega
        rw [this]; rfl
      · simp only [W_seq, W_reg, W_cond, W_blk, W_skip, W_exit, W_ret, W_regD, WO_nil, WO_cons, WO_guard2, wantV_b, bq_tt, bq_ft, bq_tf, bq_ff, Bool.not_true, Bool.not_false, WD_nil, WD_cons, WD_guard2, WS_some, WS_none, KS_n, KS_x, KS_r, KB_n, KB_x, KB_r, KN_ap, KO_ap, KD_ap, KC_nil, KF_n, KF_r, KG_n, KG_r, KL_n, KL_x, KL_r, CP_true, CP_false, evOp, evX, X.ev, optX, put_some, put_none, get_set2, sel_t, sel_f, Nat.reduceBEq, Nat.reduceAdd, Nat.reduceLT, Nat.reduceLeDiff, Nat.reduceEqDiff, reduceIte, if_true, if_false, bi_add, bi_sub, bi_mul, bi_eql, bi_neq, bi_lss, bi_leq, bi_gtr, bi_geq, bs_eql, bs_neq, bs_lss, Am.unOp, ret1, pubL, pubC_agg, pubC_s, pubC_i, pubC_b, pubC_p, pubC_np, pubC_nsl, pubC_ws, pubC_full, pubC_shut, pubC_fn, pubA, initT, wkZ, wk, wants, resOf, tupOf, quiet, AOp.cls, Nat.beq_eq, Bool.or_eq_true, decide_true, decide_false, beq_self_eq_true, Bool.true_or, Bool.or_true, true_and, and_true, lenA, eqv, eqB, eqP, scal, new_box_self, List.getElem?_cons_zero, List.getElem?_cons_succ, key_ii, key_ss, findM, updM, esc_i, esc_s, esc_b, Int.reduceEq, ret1, new_nb, new_set, reduceCtorEq, Bool.xor_true, Bool.xor_false, Bool.false_eq_true, List.all_cons, List.all_nil, noTok, Bool.and_self, Bool.and_true, Bool.true_and, or_true, false_or, g0, g1, g5, w1]
        refine ⟨m, by omega, by omega, rfl, ?_⟩
        rw [hdr]
        simp only [List.mem_cons, not_or]
        exact ⟨by omega, hno⟩
    · have hn0 : n = 0 := by omega
      subst hn0
      rw [List.drop_zero] at hno
      refine KR_some (Over.enter s) rfl ?_
      have : lastIx l = -1 := by unfold lastIx; rw [last_none hno]; omega
      rw [this]; rfl
  · simp only [W_seq, W_reg, W_cond, W_blk, W_skip, W_exit, W_ret, W_regD, WO_nil, WO_cons, WO_guard2, wantV_b, bq_tt, bq_ft, bq_tf, bq_ff, Bool.not_true, Bool.not_false, WD_nil, WD_cons, WD_guard2, WS_some, WS_none, KS_n, KS_x, KS_r, KB_n, KB_x, KB_r, KN_ap, KO_ap, KD_ap, KC_nil, KF_n, KF_r, KG_n, KG_r, KL_n, KL_x, KL_r, CP_true, CP_false, evOp, evX, X.ev, optX, put_some, put_none, get_set2, sel_t, sel_f, Nat.reduceBEq, Nat.reduceAdd, Nat.reduceLT, Nat.reduceLeDiff, Nat.reduceEqDiff, reduceIte, if_true, if_false, bi_add, bi_sub, bi_mul, bi_eql, bi_neq, bi_lss, bi_leq, bi_gtr, bi_geq, bs_eql, bs_neq, bs_lss, Am.unOp, ret1, pubL, pubC_agg, pubC_s, pubC_i, pubC_b, pubC_p, pubC_np, pubC_nsl, pubC_ws, pubC_full, pubC_shut, pubC_fn, pubA, initT, wkZ, wk, wants, resOf, tupOf, quiet, AOp.cls, Nat.beq_eq, Bool.or_eq_true, decide_true, decide_false, beq_self_eq_true, Bool.true_or, Bool.or_true, true_and, and_true, lenA, eqv, eqB, eqP, scal, new_box_self, List.getElem?_cons_zero, List.getElem?_cons_succ, key_ii, key_ss, findM, updM, esc_i, esc_s, esc_b, Int.reduceEq, ret1, new_nb, new_set, reduceCtorEq, Bool.xor_true, Bool.xor_false, Bool.false_eq_true, List.all_cons, List.all_nil, noTok, Bool.and_self, Bool.and_true, Bool.true_and, or_true, false_or]
    exact ⟨Nat.le_refl _, by simp⟩
theorem lastIndex_ok (l : List Nat) (hl : l.length < 2 ^ 62) (s : St) : (lim prog).call f_strings_LastIndexByte [.s l, .i .u8 47] s = some (.i .i64 (lastIx l), s) := by
  refine fn_W p_strings_LastIndexByte rfl rfl ?_
  simp only [c_strings_LastIndexByte, W_seq, W_reg, W_cond, W_blk, W_skip, W_exit, W_ret, W_regD, WO_nil, WO_cons, WO_guard2, wantV_b, bq_tt, bq_ft, bq_tf, bq_ff, Bool.not_true, Bool.not_false, WD_nil, WD_cons, WD_guard2, WS_some, WS_none, KS_n, KS_x, KS_r, KB_n, KB_x, KB_r, KN_ap, KO_ap, KD_ap, KC_nil, KF_n, KF_r, KG_n, KG_r, KL_n, KL_x, KL_r, CP_true, CP_false, evOp, evX, X.ev, optX, put_some, put_none, get_set2, sel_t, sel_f, Nat.reduceBEq, Nat.reduceAdd, Nat.reduceLT, Nat.reduceLeDiff, Nat.reduceEqDiff, reduceIte, if_true, if_false, bi_add, bi_sub, bi_mul, bi_eql, bi_neq, bi_lss, bi_leq, bi_gtr, bi_geq, bs_eql, bs_neq, bs_lss, Am.unOp, ret1, pubL, pubC_agg, pubC_s, pubC_i, pubC_b, pubC_p, pubC_np, pubC_nsl, pubC_ws, pubC_full, pubC_shut, pubC_fn, pubA, initT, wkZ, wk, wants, resOf, tupOf, quiet, AOp.cls, Nat.beq_eq, Bool.or_eq_true, decide_true, decide_false, beq_self_eq_true, Bool.true_or, Bool.or_true, true_and, and_true, lenA, eqv, eqB, eqP, scal, new_box_self, List.getElem?_cons_zero, List.getElem?_cons_succ, key_ii, key_ss, findM, updM, esc_i, esc_s, esc_b, Int.reduceEq, ret1, new_nb, new_set, reduceCtorEq, Bool.xor_true, Bool.xor_false, Bool.false_eq_true, List.all_cons, List.all_nil, noTok, Bool.and_self, Bool.and_true, Bool.true_and, or_true, false_or, lastIndexL_ok l hl]
  exact KR_some (Over.enter s) rfl rfl

def dirP (l : List Nat) : Bool := decide (lastP l = [46]) || (decide (lastP l = [46, 46]) || (decide (lastP l = []) && decide (l ≠ [])))
theorem lastIx_add (l : List Nat) (hl : l.length < 2 ^ 62) : IntKind.i64.wrap (lastIx l + 1) = ((l.length - (lastP l).length : Nat) : Int) := by
  have := last_le l
  have e : lastIx l + 1 = ((l.length - (lastP l).length : Nat) : Int) := by unfold lastIx; omega
  rw [e, wrap_nat (by omega)]
theorem dir_ok (l : List Nat) (hl : l.length < 2 ^ 62) (s : St) : (lim prog).call f_path_Dir [.s l] s = some (.b (dirP l), s) := by
  refine fn_W p_path_Dir rfl rfl ?_
  have hk : ∀ b, b = dirP l → KR s [CT.id] (.b (dirP l)) (some ([.b b], s.enter)) := fun b hb => KR_some (Over.enter s) rfl (by rw [hb]; rfl)
  have hb := bounds_io (len := l.length) (a := l.length - (lastP l).length) (by omega)
  have hd := last_drop l
  obtain ⟨x, hx⟩ : ∃ x, lastP l = x := ⟨_, rfl⟩
  have hadd := lastIx_add l hl
  rw [hx] at hb hd hadd
  have hD : dirP l = (decide (x = [46]) || (decide (x = [46, 46]) || (decide (x = []) && decide (l ≠ [])))) := by unfold dirP; rw [hx]
  by_cases h1 : x = [46]
  · have h1' : (x = [46]) = True := by simp [h1]
    simp only [c_path_Dir, W_seq, W_reg, W_cond, W_blk, W_skip, W_exit, W_ret, W_regD, WO_nil, WO_cons, WO_guard2, wantV_b, bq_tt, bq_ft, bq_tf, bq_ff, Bool.not_true, Bool.not_false, WD_nil, WD_cons, WD_guard2, WS_some, WS_none, KS_n, KS_x, KS_r, KB_n, KB_x, KB_r, KN_ap, KO_ap, KD_ap, KC_nil, KF_n, KF_r, KG_n, KG_r, KL_n, KL_x, KL_r, CP_true, CP_false, evOp, evX, X.ev, optX, put_some, put_none, get_set2, sel_t, sel_f, Nat.reduceBEq, Nat.reduceAdd, Nat.reduceLT, Nat.reduceLeDiff, Nat.reduceEqDiff, reduceIte, if_true, if_false, bi_add, bi_sub, bi_mul, bi_eql, bi_neq, bi_lss, bi_leq, bi_gtr, bi_geq, bs_eql, bs_neq, bs_lss, Am.unOp, ret1, pubL, pubC_agg, pubC_s, pubC_i, pubC_b, pubC_p, pubC_np, pubC_nsl, pubC_ws, pubC_full, pubC_shut, pubC_fn, pubA, initT, wkZ, wk, wants, resOf, tupOf, quiet, AOp.cls, Nat.beq_eq, Bool.or_eq_true, decide_true, decide_false, beq_self_eq_true, Bool.true_or, Bool.or_true, true_and, and_true, lenA, eqv, eqB, eqP, scal, new_box_self, List.getElem?_cons_zero, List.getElem?_cons_succ, key_ii, key_ss, findM, updM, esc_i, esc_s, esc_b, Int.reduceEq, ret1, new_nb, new_set, reduceCtorEq, Bool.xor_true, Bool.xor_false, Bool.false_eq_true, List.all_cons, List.all_nil, noTok, Bool.and_self, Bool.and_true, Bool.true_and, or_true, false_or, lastIndex_ok l hl, hadd, hb, hd, h1']
    exact hk _ (by rw [hD]; simp [h1])
  have h1' : (x = [46]) = False := by simp [h1]
  by_cases h2 : x = [46, 46]
  · have h2' : (x = [46, 46]) = True := by simp [h2]
    simp only [c_path_Dir, W_seq, W_reg, W_cond, W_blk, W_skip, W_exit, W_ret, W_regD, WO_nil, WO_cons, WO_guard2, wantV_b, bq_tt, bq_ft, bq_tf, bq_ff, Bool.not_true, Bool.not_false, WD_nil, WD_cons, WD_guard2, WS_some, WS_none, KS_n, KS_x, KS_r, KB_n, KB_x, KB_r, KN_ap, KO_ap, KD_ap, KC_nil, KF_n, KF_r, KG_n, KG_r, KL_n, KL_x, KL_r, CP_true, CP_false, evOp, evX, X.ev, optX, put_some, put_none, get_set2, sel_t, sel_f, Nat.reduceBEq, Nat.reduceAdd, Nat.reduceLT, Nat.reduceLeDiff, Nat.reduceEqDiff, reduceIte, if_true, if_false, bi_add, bi_sub, bi_mul, bi_eql, bi_neq, bi_lss, bi_leq, bi_gtr, bi_geq, bs_eql, bs_neq, bs_lss, Am.unOp, ret1, pubL, pubC_agg, pubC_s, pubC_i, pubC_b, pubC_p, pubC_np, pubC_nsl, pubC_ws, pubC_full, pubC_shut, pubC_fn, pubA, initT, wkZ, wk, wants, resOf, tupOf, quiet, AOp.cls, Nat.beq_eq, Bool.or_eq_true, decide_true, decide_false, beq_self_eq_true, Bool.true_or, Bool.or_true, true_and, and_true, lenA, eqv, eqB, eqP, scal, new_box_self, List.getElem?_cons_zero, List.getElem?_cons_succ, key_ii, key_ss, findM, updM, esc_i, esc_s, esc_b, Int.reduceEq, ret1, new_nb, new_set, reduceCtorEq, Bool.xor_true, Bool.xor_false, Bool.false_eq_true, List.all_cons, List.all_nil, noTok, Bool.and_self, Bool.and_true, Bool.true_and, or_true, false_or, lastIndex_ok l hl, hadd, hb, hd, h1', h2']
    exact hk _ (by rw [hD]; simp [h2])
  have h2' : (x = [46, 46]) = False := by simp [h2]
  by_cases h3 : x = []
  · have h3' : (x = []) = True := by simp [h3]
    simp only [c_path_Dir, W_seq, W_reg, W_cond, W_blk, W_skip, W_exit, W_ret, W_regD, WO_nil, WO_cons, WO_guard2, wantV_b, bq_tt, bq_ft, bq_tf, bq_ff, Bool.not_true, Bool.not_false, WD_nil, WD_cons, WD_guard2, WS_some, WS_none, KS_n, KS_x, KS_r, KB_n, KB_x, KB_r, KN_ap, KO_ap, KD_ap, KC_nil, KF_n, KF_r, KG_n, KG_r, KL_n, KL_x, KL_r, CP_true, CP_false, evOp, evX, X.ev, optX, put_some, put_none, get_set2, sel_t, sel_f, Nat.reduceBEq, Nat.reduceAdd, Nat.reduceLT, Nat.reduceLeDiff, Nat.reduceEqDiff, reduceIte, if_true, if_false, bi_add, bi_sub, bi_mul, bi_eql, bi_neq, bi_lss, bi_leq, bi_gtr, bi_geq, bs_eql, bs_neq, bs_lss, Am.unOp, ret1, pubL, pubC_agg, pubC_s, pubC_i, pubC_b, pubC_p, pubC_np, pubC_nsl, pubC_ws, pubC_full, pubC_shut, pubC_fn, pubA, initT, wkZ, wk, wants, resOf, tupOf, quiet, AOp.cls, Nat.beq_eq, Bool.or_eq_true, decide_true, decide_false, beq_self_eq_true, Bool.true_or, Bool.or_true, true_and, and_true, lenA, eqv, eqB, eqP, scal, new_box_self, List.getElem?_cons_zero, List.getElem?_cons_succ, key_ii, key_ss, findM, updM, esc_i, esc_s, esc_b, Int.reduceEq, ret1, new_nb, new_set, reduceCtorEq, Bool.xor_true, Bool.xor_false, Bool.false_eq_true, List.all_cons, List.all_nil, noTok, Bool.and_self, Bool.and_true, Bool.true_and, or_true, false_or, lastIndex_ok l hl, hadd, hb, hd, h1', h2', h3']
    exact hk _ (by rw [hD]; simp [h3])
  have h3' : (x = []) = False := by simp [h3]
  simp only [c_path_Dir, W_seq, W_reg, W_cond, W_blk, W_skip, W_exit, W_ret, W_regD, WO_nil, WO_cons, WO_guard2, wantV_b, bq_tt, bq_ft, bq_tf, bq_ff, Bool.not_true, Bool.not_false, WD_nil, WD_cons, WD_guard2, WS_some, WS_none, KS_n, KS_x, KS_r, KB_n, KB_x, KB_r, KN_ap, KO_ap, KD_ap, KC_nil, KF_n, KF_r, KG_n, KG_r, KL_n, KL_x, KL_r, CP_true, CP_false, evOp, evX, X.ev, optX, put_some, put_none, get_set2, sel_t, sel_f, Nat.reduceBEq, Nat.reduceAdd, Nat.reduceLT, Nat.reduceLeDiff, Nat.reduceEqDiff, reduceIte, if_true, if_false, bi_add, bi_sub, bi_mul, bi_eql, bi_neq, bi_lss, bi_leq, bi_gtr, bi_geq, bs_eql, bs_neq, bs_lss, Am.unOp, ret1, pubL, pubC_agg, pubC_s, pubC_i, pubC_b, pubC_p, pubC_np, pubC_nsl, pubC_ws, pubC_full, pubC_shut, pubC_fn, pubA, initT, wkZ, wk, wants, resOf, tupOf, quiet, AOp.cls, Nat.beq_eq, Bool.or_eq_true, decide_true, decide_false, beq_self_eq_true, Bool.true_or, Bool.or_true, true_and, and_true, lenA, eqv, eqB, eqP, scal, new_box_self, List.getElem?_cons_zero, List.getElem?_cons_succ, key_ii, key_ss, findM, updM, esc_i, esc_s, esc_b, Int.reduceEq, ret1, new_nb, new_set, reduceCtorEq, Bool.xor_true, Bool.xor_false, Bool.false_eq_true, List.all_cons, List.all_nil, noTok, Bool.and_self, Bool.and_true, Bool.true_and, or_true, false_or, lastIndex_ok l hl, hadd, hb, hd, h1', h2', h3']
  exact hk _ (by rw [hD]; simp [h1, h2, h3])

theorem split_ne (l : List Nat) : 1 ≤ (splitL l).length := by
  by_cases h : 47 ∈ l
  · obtain ⟨a, b, rfl, hb⟩ := rcut_of h
    rw [last_cut hb]; simp
  · rw [split_none h]; simp
theorem dir_len (l : List Nat) (h : lastP l = []) : 1 < (splitL l).length ↔ l ≠ [] := by
  by_cases h47 : 47 ∈ l
  · obtain ⟨a, b, rfl, hb⟩ := rcut_of h47
    rw [last_cut hb]
    have := split_ne a
    simp
    omega
  · rw [split_none h47]
    rw [last_none h47] at h
    simp [h]
theorem refDir_ok (l : List Nat) (hlen : l.length < 2 ^ 36) (s : St) (hw : Wf s) : (lim prog).call f_touchstoneref06_Dir [.s l] s = some (.b (dirP l), s) := by
  refine fn_W p_touchstoneref06_Dir rfl rfl ?_
  have hk : ∀ b, b = dirP l → KR s [CT.id] (.b (dirP l)) (some ([.b b], s.enter)) := fun b hb => KR_some (Over.enter s) rfl (by rw [hb]; rfl)
  have hp := refParts_ok l hlen s.enter hw.enter
  have hne := split_ne l
  have hpl := splitL_len l
  have hdl := dir_len l
  have hlast : lastP l = (splitL l).getLastD [] := rfl
  obtain ⟨x, hx⟩ : ∃ x, lastP l = x := ⟨_, rfl⟩
  have hD : dirP l = (decide (x = [46]) || (decide (x = [46, 46]) || (decide (x = []) && decide (l ≠ [])))) := by unfold dirP; rw [hx]
  obtain ⟨L, hL⟩ : ∃ L, splitL l = L := ⟨_, rfl⟩
  rw [hL] at hp hne hpl hlast hdl
  rw [hx] at hlast hdl
  have hget : (L.map AV.s)[L.length - 1]? = some (.s x) := by
    rw [tx_get (show L.length - 1 < L.length by omega), hlast, List.getLastD_eq_getLast?, List.getLast?_eq_getElem?, List.getElem?_eq_getElem (by omega)]
    rfl
  have hsub : IntKind.i64.wrap ((L.length : Int) - 1) = ((L.length - 1 : Nat) : Int) := by
    rw [show (L.length : Int) - 1 = ((L.length - 1 : Nat) : Int) by omega, wrap_nat (by omega)]
  by_cases h3 : x = []
  · have h3' : (x = []) = True := by simp [h3]
    have h1' : (x = [46]) = False := by simp [h3]
    have h2' : (x = [46, 46]) = False := by simp [h3]
    by_cases hc : (1 : Int) < (L.length : Int)
    · have : l ≠ [] := (hdl h3).1 (by omega)
      simp only [c_touchstoneref06_Dir, W_seq, W_reg, W_cond, W_blk, W_skip, W_exit, W_ret, W_regD, WO_nil, WO_cons, WO_guard2, wantV_b, bq_tt, bq_ft, bq_tf, bq_ff, Bool.not_true, Bool.not_false, WD_nil, WD_cons, WD_guard2, WS_some, WS_none, KS_n, KS_x, KS_r, KB_n, KB_x, KB_r, KN_ap, KO_ap, KD_ap, KC_nil, KF_n, KF_r, KG_n, KG_r, KL_n, KL_x, KL_r, CP_true, CP_false, evOp, evX, X.ev, optX, put_some, put_none, get_set2, sel_t, sel_f, Nat.reduceBEq, Nat.reduceAdd, Nat.reduceLT, Nat.reduceLeDiff, Nat.reduceEqDiff, reduceIte, if_true, if_false, bi_add, bi_sub, bi_mul, bi_eql, bi_neq, bi_lss, bi_leq, bi_gtr, bi_geq, bs_eql, bs_neq, bs_lss, Am.unOp, ret1, pubL, pubC_agg, pubC_s, pubC_i, pubC_b, pubC_p, pubC_np, pubC_nsl, pubC_ws, pubC_full, pubC_shut, pubC_fn, pubA, initT, wkZ, wk, wants, resOf, tupOf, quiet, AOp.cls, Nat.beq_eq, Bool.or_eq_true, decide_true, decide_false, beq_self_eq_true, Bool.true_or, Bool.or_true, true_and, and_true, lenA, eqv, eqB, eqP, scal, new_box_self, List.getElem?_cons_zero, List.getElem?_cons_succ, key_ii, key_ss, findM, updM, esc_i, esc_s, esc_b, Int.reduceEq, ret1, new_nb, new_set, reduceCtorEq, Bool.xor_true, Bool.xor_false, Bool.false_eq_true, List.all_cons, List.all_nil, noTok, Bool.and_self, Bool.and_true, Bool.true_and, or_true, false_or, hp, List.length_map, ofNat_len, hsub, natOf_i64, hget, cells_s, ldA_1, h3', hc]
      exact hk _ (by rw [hD]; simp [h3, this])
    · have : ¬ l ≠ [] := fun h => hc (by have := (hdl h3).2 h; omega)
      simp only [c_touchstoneref06_Dir, W_seq, W_reg, W_cond, W_blk, W_skip, W_exit, W_ret, W_regD, WO_nil, WO_cons, WO_guard2, wantV_b, bq_tt, bq_ft, bq_tf, bq_ff, Bool.not_true, Bool.not_false, WD_nil, WD_cons, WD_guard2, WS_some, WS_none, KS_n, KS_x, KS_r, KB_n, KB_x, KB_r, KN_ap, KO_ap, KD_ap, KC_nil, KF_n, KF_r, KG_n, KG_r, KL_n, KL_x, KL_r, CP_true, CP_false, evOp, evX, X.ev, optX, put_some, put_none, get_set2, sel_t, sel_f, Nat.reduceBEq, Nat.reduceAdd, Nat.reduceLT, Nat.reduceLeDiff, Nat.reduceEqDiff, reduceIte, if_true, if_false, bi_add, bi_sub, bi_mul, bi_eql, bi_neq, bi_lss, bi_leq, bi_gtr, bi_geq, bs_eql, bs_neq, bs_lss, Am.unOp, ret1, pubL, pubC_agg, pubC_s, pubC_i, pubC_b, pubC_p, pubC_np, pubC_nsl, pubC_ws, pubC_full, pubC_shut, pubC_fn, pubA, initT, wkZ, wk, wants, resOf, tupOf, quiet, AOp.cls, Nat.beq_eq, Bool.or_eq_true, decide_true, decide_false, beq_self_eq_true, Bool.true_or, Bool.or_true, true_and, and_true, lenA, eqv, eqB, eqP, scal, new_box_self, List.getElem?_cons_zero, List.getElem?_cons_succ, key_ii, key_ss, findM, updM, esc_i, esc_s, esc_b, Int.reduceEq, ret1, new_nb, new_set, reduceCtorEq, Bool.xor_true, Bool.xor_false, Bool.false_eq_true, List.all_cons, List.all_nil, noTok, Bool.and_self, Bool.and_true, Bool.true_and, or_true, false_or, hp, List.length_map, ofNat_len, hsub, natOf_i64, hget, cells_s, ldA_1, h3', hc, h1', h2']
      exact hk _ (by rw [hD]; simp at this; simp [h3, this])
  have h3' : (x = []) = False := by simp [h3]
  by_cases h1 : x = [46]
  · have h1' : (x = [46]) = True := by simp [h1]
    simp only [c_touchstoneref06_Dir, W_seq, W_reg, W_cond, W_blk, W_skip, W_exit, W_ret, W_regD, WO_nil, WO_cons, WO_guard2, wantV_b, bq_tt, bq_ft, bq_tf, bq_ff, Bool.not_true, Bool.not_false, WD_nil, WD_cons, WD_guard2, WS_some, WS_none, KS_n, KS_x, KS_r, KB_n, KB_x, KB_r, KN_ap, KO_ap, KD_ap, KC_nil, KF_n, KF_r, KG_n, KG_r, KL_n, KL_x, KL_r, CP_true, CP_false, evOp, evX, X.ev, optX, put_some, put_none, get_set2, sel_t, sel_f, Nat.reduceBEq, Nat.reduceAdd, Nat.reduceLT, Nat.reduceLeDiff, Nat.reduceEqDiff, reduceIte, if_true, if_false, bi_add, bi_sub, bi_mul, bi_eql, bi_neq, bi_lss, bi_leq, bi_gtr, bi_geq, bs_eql, bs_neq, bs_lss, Am.unOp, ret1, pubL, pubC_agg, pubC_s, pubC_i, pubC_b, pubC_p, pubC_np, pubC_nsl, pubC_ws, pubC_full, pubC_shut, pubC_fn, pubA, initT, wkZ, wk, wants, resOf, tupOf, quiet, AOp.cls, Nat.beq_eq, Bool.or_eq_true, decide_true, decide_false, beq_self_eq_true, Bool.true_or, Bool.or_true, true_and, and_true, lenA, eqv, eqB, eqP, scal, new_box_self, List.getElem?_cons_zero, List.getElem?_cons_succ, key_ii, key_ss, findM, updM, esc_i, esc_s, esc_b, Int.reduceEq, ret1, new_nb, new_set, reduceCtorEq, Bool.xor_true, Bool.xor_false, Bool.false_eq_true, List.all_cons, List.all_nil, noTok, Bool.and_self, Bool.and_true, Bool.true_and, or_true, false_or, hp, List.length_map, ofNat_len, hsub, natOf_i64, hget, cells_s, ldA_1, h3', h1']
    exact hk _ (by rw [hD]; simp [h1])
  have h1' : (x = [46]) = False := by simp [h1]
  by_cases h2 : x = [46, 46]
  · have h2' : (x = [46, 46]) = True := by simp [h2]
    simp only [c_touchstoneref06_Dir, W_seq, W_reg, W_cond, W_blk, W_skip, W_exit, W_ret, W_regD, WO_nil, WO_cons, WO_guard2, wantV_b, bq_tt, bq_ft, bq_tf, bq_ff, Bool.not_true, Bool.not_false, WD_nil, WD_cons, WD_guard2, WS_some, WS_none, KS_n, KS_x, KS_r, KB_n, KB_x, KB_r, KN_ap, KO_ap, KD_ap, KC_nil, KF_n, KF_r, KG_n, KG_r, KL_n, KL_x, KL_r, CP_true, CP_false, evOp, evX, X.ev, optX, put_some, put_none, get_set2, sel_t, sel_f, Nat.reduceBEq, Nat.reduceAdd, Nat.reduceLT, Nat.reduceLeDiff, Nat.reduceEqDiff, reduceIte, if_true, if_false, bi_add, bi_sub, bi_mul, bi_eql, bi_neq, bi_lss, bi_leq, bi_gtr, bi_geq, bs_eql, bs_neq, bs_lss, Am.unOp, ret1, pubL, pubC_agg, pubC_s, pubC_i, pubC_b, pubC_p, pubC_np, pubC_nsl, pubC_ws, pubC_full, pubC_shut, pubC_fn, pubA, initT, wkZ, wk, wants, resOf, tupOf, quiet, AOp.cls, Nat.beq_eq, Bool.or_eq_true, decide_true, decide_false, beq_self_eq_true, Bool.true_or, Bool.or_true, true_and, and_true, lenA, eqv, eqB, eqP, scal, new_box_self, List.getElem?_cons_zero, List.getElem?_cons_succ, key_ii, key_ss, findM, updM, esc_i, esc_s, esc_b, Int.reduceEq, ret1, new_nb, new_set, reduceCtorEq, Bool.xor_true, Bool.xor_false, Bool.false_eq_true, List.all_cons, List.all_nil, noTok, Bool.and_self, Bool.and_true, Bool.true_and, or_true, false_or, hp, List.length_map, ofNat_len, hsub, natOf_i64, hget, cells_s, ldA_1, h3', h1', h2']
    exact hk _ (by rw [hD]; simp [h2])
  have h2' : (x = [46, 46]) = False := by simp [h2]
  simp only [c_touchstoneref06_Dir, W_seq, W_reg, W_cond, W_blk, W_skip, W_exit, W_ret, W_regD, WO_nil, WO_cons, WO_guard2, wantV_b, bq_tt, bq_ft, bq_tf, bq_ff, Bool.not_true, Bool.not_false, WD_nil, WD_cons, WD_guard2, WS_some, WS_none, KS_n, KS_x, KS_r, KB_n, KB_x, KB_r, KN_ap, KO_ap, KD_ap, KC_nil, KF_n, KF_r, KG_n, KG_r, KL_n, KL_x, KL_r, CP_true, CP_false, evOp, evX, X.ev, optX, put_some, put_none, get_set2, sel_t, sel_f, Nat.reduceBEq, Nat.reduceAdd, Nat.reduceLT, Nat.reduceLeDiff, Nat.reduceEqDiff, reduceIte, if_true, if_false, bi_add, bi_sub, bi_mul, bi_eql, bi_neq, bi_lss, bi_leq, bi_gtr, bi_geq, bs_eql, bs_neq, bs_lss, Am.unOp, ret1, pubL, pubC_agg, pubC_s, pubC_i, pubC_b, pubC_p, pubC_np, pubC_nsl, pubC_ws, pubC_full, pubC_shut, pubC_fn, pubA, initT, wkZ, wk, wants, resOf, tupOf, quiet, AOp.cls, Nat.beq_eq, Bool.or_eq_true, decide_true, decide_false, beq_self_eq_true, Bool.true_or, Bool.or_true, true_and, and_true, lenA, eqv, eqB, eqP, scal, new_box_self, List.getElem?_cons_zero, List.getElem?_cons_succ, key_ii, key_ss, findM, updM, esc_i, esc_s, esc_b, Int.reduceEq, ret1, new_nb, new_set, reduceCtorEq, Bool.xor_true, Bool.xor_false, Bool.false_eq_true, List.all_cons, List.all_nil, noTok, Bool.and_self, Bool.and_true, Bool.true_and, or_true, false_or, hp, List.length_map, ofNat_len, hsub, natOf_i64, hget, cells_s, ldA_1, h3', h1', h2']
  exact hk _ (by rw [hD]; simp [h1, h2, h3])
end Go.Proofs.YtfaodjpibdhdjaaDoor

/-
  Last names.
-/
set_option maxRecDepth 100000
set_option linter.unusedSimpArgs false
set_option linter.constructorNameAsVariable false
namespace Go.Proofs.YtfaodjpibdhdjaaDoor
open Go.Proofs.YtfaodjpibdhdjaaDoor.Am

def trimR (l : List Nat) : List Nat := (l.reverse.dropWhile (· == 47)).reverse
theorem trimR_snoc (l : List Nat) : trimR (l ++ [47]) = trimR l := by simp [trimR, List.dropWhile_cons]
theorem trimR_keep (l : List Nat) {c : Nat} (h : c ≠ 47) : trimR (l ++ [c]) = l ++ [c] := by simp [trimR, List.dropWhile_cons, h]
theorem trimR_nil : trimR [] = [] := rfl
theorem trimR_le (l : List Nat) : (trimR l).length ≤ l.length := by
  unfold trimR
  rw [List.length_reverse]
  have := (List.dropWhile_suffix (l := l.reverse) (· == 47)).length_le
  simpa using this
theorem trimR_mem {l : List Nat} {n : Nat} (h : n ∈ trimR l) : n ∈ l := by
  unfold trimR at h
  rw [List.mem_reverse] at h
  have := (List.dropWhile_suffix (l := l.reverse) (· == 47)).subset h
  simpa using this

theorem bounds_o (len b : Nat) (h2 : b ≤ len) : bounds len none (some (.i .i64 (b : Int))) = some (0, b) := bounds_oi h2
theorem trimByte_ok : ∀ (l : List Nat) (hl : l.length < 2 ^ 62) (s : St), (lim prog).call f_strings_trimRightByte [.s l, .i .u8 47] s = some (.s (trimR l), s) := by
  intro l hl s
  refine fn_W p_strings_trimRightByte rfl rfl ?_
  simp only [c_strings_trimRightByte, W_seq, W_reg, W_cond, W_blk, W_skip, W_exit, W_ret, W_regD, WO_nil, WO_cons, WO_guard2, wantV_b, bq_tt, bq_ft, bq_tf, bq_ff, Bool.not_true, Bool.not_false, WD_nil, WD_cons, WD_guard2, WS_some, WS_none, KS_n, KS_x, KS_r, KB_n, KB_x, KB_r, KN_ap, KO_ap, KD_ap, KC_nil, KF_n, KF_r, KG_n, KG_r, KL_n, KL_x, KL_r, CP_true, CP_false, evOp, evX, X.ev, optX, put_some, put_none, get_set2, sel_t, sel_f, Nat.reduceBEq, Nat.reduceAdd, Nat.reduceLT, Nat.reduceLeDiff, Nat.reduceEqDiff, reduceIte, if_true, if_false, bi_add, bi_sub, bi_mul, bi_eql, bi_neq, bi_lss, bi_leq, bi_gtr, bi_geq, bs_eql, bs_neq, bs_lss, Am.unOp, ret1, pubL, pubC_agg, pubC_s, pubC_i, pubC_b, pubC_p, pubC_np, pubC_nsl, pubC_ws, pubC_full, pubC_shut, pubC_fn, pubA, initT, wkZ, wk, wants, resOf, tupOf, quiet, AOp.cls, Nat.beq_eq, Bool.or_eq_true, decide_true, decide_false, beq_self_eq_true, Bool.true_or, Bool.or_true, true_and, and_true, lenA, eqv, eqB, eqP, scal, new_box_self, List.getElem?_cons_zero, List.getElem?_cons_succ, key_ii, key_ss, findM, updM, esc_i, esc_s, esc_b, Int.reduceEq, ret1, new_nb, new_set, reduceCtorEq, Bool.xor_true, Bool.xor_false, Bool.false_eq_true, List.all_cons, List.all_nil, noTok, Bool.and_self, Bool.and_true, Bool.true_and, or_true, false_or]
  refine W_loop (fun n e q => s.enter = q ∧ ∃ m : List Nat, m.length = n ∧ n ≤ l.length ∧ e.get 0 = .s m ∧ e.get 1 = .i .u8 47 ∧ trimR m = trimR l) ?_ l.length _ _ ?_
  · rintro n e q ⟨rfl, m, hm, hn, g0, g1, ht⟩
    by_cases hz : m = []
    · have h0 : ((0 : Int) < 0) = False := by simp
      have hl0 : List.length ([] : List Nat) = 0 := rfl
      rw [hz] at g0 ht
      simp only [W_seq, W_reg, W_cond, W_blk, W_skip, W_exit, W_ret, W_regD, WO_nil, WO_cons, WO_guard2, wantV_b, bq_tt, bq_ft, bq_tf, bq_ff, Bool.not_true, Bool.not_false, WD_nil, WD_cons, WD_guard2, WS_some, WS_none, KS_n, KS_x, KS_r, KB_n, KB_x, KB_r, KN_ap, KO_ap, KD_ap, KC_nil, KF_n, KF_r, KG_n, KG_r, KL_n, KL_x, KL_r, CP_true, CP_false, evOp, evX, X.ev, optX, put_some, put_none, get_set2, sel_t, sel_f, Nat.reduceBEq, Nat.reduceAdd, Nat.reduceLT, Nat.reduceLeDiff, Nat.reduceEqDiff, reduceIte, if_true, if_false, bi_add, bi_sub, bi_mul, bi_eql, bi_neq, bi_lss, bi_leq, bi_gtr, bi_geq, bs_eql, bs_neq, bs_lss, Am.unOp, ret1, pubL, pubC_agg, pubC_s, pubC_i, pubC_b, pubC_p, pubC_np, pubC_nsl, pubC_ws, pubC_full, pubC_shut, pubC_fn, pubA, initT, wkZ, wk, wants, resOf, tupOf, quiet, AOp.cls, Nat.beq_eq, Bool.or_eq_true, decide_true, decide_false, beq_self_eq_true, Bool.true_or, Bool.or_true, true_and, and_true, lenA, eqv, eqB, eqP, scal, new_box_self, List.getElem?_cons_zero, List.getElem?_cons_succ, key_ii, key_ss, findM, updM, esc_i, esc_s, esc_b, Int.reduceEq, ret1, new_nb, new_set, reduceCtorEq, Bool.xor_true, Bool.xor_false, Bool.false_eq_true, List.all_cons, List.all_nil, noTok, Bool.and_self, Bool.and_true, Bool.true_and, or_true, false_or, g0, g1, hl0, ofNat_len, Int.ofNat_zero, Int.natCast_zero, h0]
      exact KR_some (Over.enter s) rfl (by rw [← ht]; rfl)
    · obtain ⟨k, c, rfl⟩ : ∃ k c, m = k ++ [c] := ⟨m.dropLast, m.getLast hz, (List.dropLast_concat_getLast _).symm⟩
      have hlen : (k ++ [c]).length = k.length + 1 := by simp
      have hpos : ((0 : Int) < ((k.length + 1 : Nat) : Int)) = True := eq_true (by omega)
      have hsub : IntKind.i64.wrap (((k.length + 1 : Nat) : Int) - 1) = (k.length : Int) := by
        rw [show ((k.length + 1 : Nat) : Int) - 1 = (k.length : Int) by omega, wrap_nat (by rw [hlen] at hm; omega)]
      have hget : (k ++ [c])[k.length]? = some c := by simp
      have htk : (((k ++ [c]).drop 0).take (k.length - 0)) = k := by simp
      by_cases hc : c = 47
      · have hc' : ((c : Int) = 47) = True := by simp; omega
        simp only [W_seq, W_reg, W_cond, W_blk, W_skip, W_exit, W_ret, W_regD, WO_nil, WO_cons, WO_guard2, wantV_b, bq_tt, bq_ft, bq_tf, bq_ff, Bool.not_true, Bool.not_false, WD_nil, WD_cons, WD_guard2, WS_some, WS_none, KS_n, KS_x, KS_r, KB_n, KB_x, KB_r, KN_ap, KO_ap, KD_ap, KC_nil, KF_n, KF_r, KG_n, KG_r, KL_n, KL_x, KL_r, CP_true, CP_false, evOp, evX, X.ev, optX, put_some, put_none, get_set2, sel_t, sel_f, Nat.reduceBEq, Nat.reduceAdd, Nat.reduceLT, Nat.reduceLeDiff, Nat.reduceEqDiff, reduceIte, if_true, if_false, bi_add, bi_sub, bi_mul, bi_eql, bi_neq, bi_lss, bi_leq, bi_gtr, bi_geq, bs_eql, bs_neq, bs_lss, Am.unOp, ret1, pubL, pubC_agg, pubC_s, pubC_i, pubC_b, pubC_p, pubC_np, pubC_nsl, pubC_ws, pubC_full, pubC_shut, pubC_fn, pubA, initT, wkZ, wk, wants, resOf, tupOf, quiet, AOp.cls, Nat.beq_eq, Bool.or_eq_true, decide_true, decide_false, beq_self_eq_true, Bool.true_or, Bool.or_true, true_and, and_true, lenA, eqv, eqB, eqP, scal, new_box_self, List.getElem?_cons_zero, List.getElem?_cons_succ, key_ii, key_ss, findM, updM, esc_i, esc_s, esc_b, Int.reduceEq, ret1, new_nb, new_set, reduceCtorEq, Bool.xor_true, Bool.xor_false, Bool.false_eq_true, List.all_cons, List.all_nil, noTok, Bool.and_self, Bool.and_true, Bool.true_and, or_true, false_or, g0, g1, hlen, ofNat_len, hpos, hsub, natOf_i64, hget, hc', bounds_oi (show k.length ≤ k.length + 1 by omega), htk]
        refine ⟨k.length, by rw [hlen] at hm; omega, k, rfl, by rw [hlen] at hm; omega, rfl, ?_⟩
        rw [← ht, hc, trimR_snoc]
      · have hc' : ((c : Int) = 47) = False := by simp; omega
        simp only [W_seq, W_reg, W_cond, W_blk, W_skip, W_exit, W_ret, W_regD, WO_nil, WO_cons, WO_guard2, wantV_b, bq_tt, bq_ft, bq_tf, bq_ff, Bool.not_true, Bool.not_false, WD_nil, WD_cons, WD_guard2, WS_some, WS_none, KS_n, KS_x, KS_r, KB_n, KB_x, KB_r, KN_ap, KO_ap, KD_ap, KC_nil, KF_n, KF_r, KG_n, KG_r, KL_n, KL_x, KL_r, CP_true, CP_false, evOp, evX, X.ev, optX, put_some, put_none, get_set2, sel_t, sel_f, Nat.reduceBEq, Nat.reduceAdd, Nat.reduceLT, Nat.reduceLeDiff, Nat.reduceEqDiff, reduceIte, if_true, if_false, bi_add, bi_sub, bi_mul, bi_eql, bi_neq, bi_lss, bi_leq, bi_gtr, bi_geq, bs_eql, bs_neq, bs_lss, Am.unOp, ret1, pubL, pubC_agg, pubC_s, pubC_i, pubC_b, pubC_p, pubC_np, pubC_nsl, pubC_ws, pubC_full, pubC_shut, pubC_fn, pubA, initT, wkZ, wk, wants, resOf, tupOf, quiet, AOp.cls, Nat.beq_eq, Bool.or_eq_true, decide_true, decide_false, beq_self_eq_true, Bool.true_or, Bool.or_true, true_and, and_true, lenA, eqv, eqB, eqP, scal, new_box_self, List.getElem?_cons_zero, List.getElem?_cons_succ, key_ii, key_ss, findM, updM, esc_i, esc_s, esc_b, Int.reduceEq, ret1, new_nb, new_set, reduceCtorEq, Bool.xor_true, Bool.xor_false, Bool.false_eq_true, List.all_cons, List.all_nil, noTok, Bool.and_self, Bool.and_true, Bool.true_and, or_true, false_or, g0, g1, hlen, ofNat_len, hpos, hsub, natOf_i64, hget, hc']
        exact KR_some (Over.enter s) rfl (by rw [← ht, trimR_keep k hc]; rfl)
  · simp only [W_seq, W_reg, W_cond, W_blk, W_skip, W_exit, W_ret, W_regD, WO_nil, WO_cons, WO_guard2, wantV_b, bq_tt, bq_ft, bq_tf, bq_ff, Bool.not_true, Bool.not_false, WD_nil, WD_cons, WD_guard2, WS_some, WS_none, KS_n, KS_x, KS_r, KB_n, KB_x, KB_r, KN_ap, KO_ap, KD_ap, KC_nil, KF_n, KF_r, KG_n, KG_r, KL_n, KL_x, KL_r, CP_true, CP_false, evOp, evX, X.ev, optX, put_some, put_none, get_set2, sel_t, sel_f, Nat.reduceBEq, Nat.reduceAdd, Nat.reduceLT, Nat.reduceLeDiff, Nat.reduceEqDiff, reduceIte, if_true, if_false, bi_add, bi_sub, bi_mul, bi_eql, bi_neq, bi_lss, bi_leq, bi_gtr, bi_geq, bs_eql, bs_neq, bs_lss, Am.unOp, ret1, pubL, pubC_agg, pubC_s, pubC_i, pubC_b, pubC_p, pubC_np, pubC_nsl, pubC_ws, pubC_full, pubC_shut, pubC_fn, pubA, initT, wkZ, wk, wants, resOf, tupOf, quiet, AOp.cls, Nat.beq_eq, Bool.or_eq_true, decide_true, decide_false, beq_self_eq_true, Bool.true_or, Bool.or_true, true_and, and_true, lenA, eqv, eqB, eqP, scal, new_box_self, List.getElem?_cons_zero, List.getElem?_cons_succ, key_ii, key_ss, findM, updM, esc_i, esc_s, esc_b, Int.reduceEq, ret1, new_nb, new_set, reduceCtorEq, Bool.xor_true, Bool.xor_false, Bool.false_eq_true, List.all_cons, List.all_nil, noTok, Bool.and_self, Bool.and_true, Bool.true_and, or_true, false_or]
    exact ⟨l, rfl, Nat.le_refl _, rfl, rfl⟩

theorem trim_body : c_strings_TrimRight.cin = [.id, .id] ∧ c_strings_TrimRight.cout = [.id] ∧ c_strings_TrimRight.res = [(4, none)] := ⟨rfl, rfl, rfl⟩
theorem trimRight_ok (l : List Nat) (hl : l.length < 2 ^ 62) (s : St) : (lim prog).call f_strings_TrimRight [.s l, .s [47]] s = some (.s (trimR l), s) := by
  refine fn_W p_strings_TrimRight rfl rfl ?_
  have h1 : ((([47] : List Nat)) = []) = False := by simp
  have hl1 : List.length ([47] : List Nat) = 1 := rfl
  have h2 : (((1 : Nat) : Int) = 1) = True := by simp
  have h3 : ((47 : Int) < 128) = True := by simp
  by_cases hz : l = []
  · subst hz
    have h0 : ((([] : List Nat)) = []) = True := by simp
    simp only [c_strings_TrimRight, W_seq, W_reg, W_cond, W_blk, W_skip, W_exit, W_ret, W_regD, WO_nil, WO_cons, WO_guard2, wantV_b, bq_tt, bq_ft, bq_tf, bq_ff, Bool.not_true, Bool.not_false, WD_nil, WD_cons, WD_guard2, WS_some, WS_none, KS_n, KS_x, KS_r, KB_n, KB_x, KB_r, KN_ap, KO_ap, KD_ap, KC_nil, KF_n, KF_r, KG_n, KG_r, KL_n, KL_x, KL_r, CP_true, CP_false, evOp, evX, X.ev, optX, put_some, put_none, get_set2, sel_t, sel_f, Nat.reduceBEq, Nat.reduceAdd, Nat.reduceLT, Nat.reduceLeDiff, Nat.reduceEqDiff, reduceIte, if_true, if_false, bi_add, bi_sub, bi_mul, bi_eql, bi_neq, bi_lss, bi_leq, bi_gtr, bi_geq, bs_eql, bs_neq, bs_lss, Am.unOp, ret1, pubL, pubC_agg, pubC_s, pubC_i, pubC_b, pubC_p, pubC_np, pubC_nsl, pubC_ws, pubC_full, pubC_shut, pubC_fn, pubA, initT, wkZ, wk, wants, resOf, tupOf, quiet, AOp.cls, Nat.beq_eq, Bool.or_eq_true, decide_true, decide_false, beq_self_eq_true, Bool.true_or, Bool.or_true, true_and, and_true, lenA, eqv, eqB, eqP, scal, new_box_self, List.getElem?_cons_zero, List.getElem?_cons_succ, key_ii, key_ss, findM, updM, esc_i, esc_s, esc_b, Int.reduceEq, ret1, new_nb, new_set, reduceCtorEq, Bool.xor_true, Bool.xor_false, Bool.false_eq_true, List.all_cons, List.all_nil, noTok, Bool.and_self, Bool.and_true, Bool.true_and, or_true, false_or, h0]
    exact KR_some (Over.enter s) rfl rfl
  · have h0 : (l = []) = False := by simp [hz]
    simp only [c_strings_TrimRight, W_seq, W_reg, W_cond, W_blk, W_skip, W_exit, W_ret, W_regD, WO_nil, WO_cons, WO_guard2, wantV_b, bq_tt, bq_ft, bq_tf, bq_ff, Bool.not_true, Bool.not_false, WD_nil, WD_cons, WD_guard2, WS_some, WS_none, KS_n, KS_x, KS_r, KB_n, KB_x, KB_r, KN_ap, KO_ap, KD_ap, KC_nil, KF_n, KF_r, KG_n, KG_r, KL_n, KL_x, KL_r, CP_true, CP_false, evOp, evX, X.ev, optX, put_some, put_none, get_set2, sel_t, sel_f, Nat.reduceBEq, Nat.reduceAdd, Nat.reduceLT, Nat.reduceLeDiff, Nat.reduceEqDiff, reduceIte, if_true, if_false, bi_add, bi_sub, bi_mul, bi_eql, bi_neq, bi_lss, bi_leq, bi_gtr, bi_geq, bs_eql, bs_neq, bs_lss, Am.unOp, ret1, pubL, pubC_agg, pubC_s, pubC_i, pubC_b, pubC_p, pubC_np, pubC_nsl, pubC_ws, pubC_full, pubC_shut, pubC_fn, pubA, initT, wkZ, wk, wants, resOf, tupOf, quiet, AOp.cls, Nat.beq_eq, Bool.or_eq_true, decide_true, decide_false, beq_self_eq_true, Bool.true_or, Bool.or_true, true_and, and_true, lenA, eqv, eqB, eqP, scal, new_box_self, List.getElem?_cons_zero, List.getElem?_cons_succ, key_ii, key_ss, findM, updM, esc_i, esc_s, esc_b, Int.reduceEq, ret1, new_nb, new_set, reduceCtorEq, Bool.xor_true, Bool.xor_false, Bool.false_eq_true, List.all_cons, List.all_nil, noTok, Bool.and_self, Bool.and_true, Bool.true_and, or_true, false_or, h0, h1, hl1, ofNat_len, h2, natOf0, Int.cast_ofNat_Int, h3, trimByte_ok l hl]
    exact KR_some (Over.enter s) rfl rfl

/-- A path's last name. -/
def lastN (l : List Nat) : List Nat := lastP (trimR l)
def LastR (l : List Nat) : AV := if nameP (lastN l) = true then .tup [.s (lastN l), .b true] else .tup [.s [], .b false]

theorem pathLast_ok (l : List Nat) (hl : Txt l) (hlen : l.length < 2 ^ 36) (s : St) (hw : Wf s) : (lim prog).call f_path_Last [.s l] s = some (LastR l, s) := by
  refine fn_W p_path_Last rfl rfl ?_
  have htl := trimR_le l
  have ht := trimRight_ok l (by omega) s.enter
  obtain ⟨m, hm⟩ : ∃ m, trimR l = m := ⟨_, rfl⟩
  have hmt : ∀ n ∈ m, n < 256 := fun n hn => hl.lt n (trimR_mem (by rw [hm]; exact hn))
  have hR : LastR l = if nameP (lastP m) = true then .tup [.s (lastP m), .b true] else .tup [.s [], .b false] := by unfold LastR lastN; rw [hm]
  rw [hm] at ht htl
  have hb := bounds_io (len := m.length) (a := m.length - (lastP m).length) (by omega)
  have hd := last_drop m
  have hadd := lastIx_add m (by omega)
  have hli := lastIndex_ok m (by omega) s.enter
  have hle := last_le m
  obtain ⟨a, hsuf⟩ := last_suffix m
  obtain ⟨x, hx⟩ : ∃ x, lastP m = x := ⟨_, rfl⟩
  rw [hx] at hb hd hadd hR hle hsuf
  have hxt : Txt x := ⟨fun n hn => hmt n (by rw [hsuf]; simp [hn]), by omega⟩
  have hname := name_ok x hxt s.enter hw.enter
  cases hb2 : nameP x with
  | true =>
    rw [hb2] at hname hR
    rw [if_pos rfl] at hR
    simp only [c_path_Last, W_seq, W_reg, W_cond, W_blk, W_skip, W_exit, W_ret, W_regD, WO_nil, WO_cons, WO_guard2, wantV_b, bq_tt, bq_ft, bq_tf, bq_ff, Bool.not_true, Bool.not_false, WD_nil, WD_cons, WD_guard2, WS_some, WS_none, KS_n, KS_x, KS_r, KB_n, KB_x, KB_r, KN_ap, KO_ap, KD_ap, KC_nil, KF_n, KF_r, KG_n, KG_r, KL_n, KL_x, KL_r, CP_true, CP_false, evOp, evX, X.ev, optX, put_some, put_none, get_set2, sel_t, sel_f, Nat.reduceBEq, Nat.reduceAdd, Nat.reduceLT, Nat.reduceLeDiff, Nat.reduceEqDiff, reduceIte, if_true, if_false, bi_add, bi_sub, bi_mul, bi_eql, bi_neq, bi_lss, bi_leq, bi_gtr, bi_geq, bs_eql, bs_neq, bs_lss, Am.unOp, ret1, pubL, pubC_agg, pubC_s, pubC_i, pubC_b, pubC_p, pubC_np, pubC_nsl, pubC_ws, pubC_full, pubC_shut, pubC_fn, pubA, initT, wkZ, wk, wants, resOf, tupOf, quiet, AOp.cls, Nat.beq_eq, Bool.or_eq_true, decide_true, decide_false, beq_self_eq_true, Bool.true_or, Bool.or_true, true_and, and_true, lenA, eqv, eqB, eqP, scal, new_box_self, List.getElem?_cons_zero, List.getElem?_cons_succ, key_ii, key_ss, findM, updM, esc_i, esc_s, esc_b, Int.reduceEq, ret1, new_nb, new_set, reduceCtorEq, Bool.xor_true, Bool.xor_false, Bool.false_eq_true, List.all_cons, List.all_nil, noTok, Bool.and_self, Bool.and_true, Bool.true_and, or_true, false_or, ht, hli, hadd, hb, hd, hname]
    exact KR_some (Over.enter s) rfl (by rw [hR]; rfl)
  | false =>
    rw [hb2] at hname hR
    rw [if_neg (by simp)] at hR
    simp only [c_path_Last, W_seq, W_reg, W_cond, W_blk, W_skip, W_exit, W_ret, W_regD, WO_nil, WO_cons, WO_guard2, wantV_b, bq_tt, bq_ft, bq_tf, bq_ff, Bool.not_true, Bool.not_false, WD_nil, WD_cons, WD_guard2, WS_some, WS_none, KS_n, KS_x, KS_r, KB_n, KB_x, KB_r, KN_ap, KO_ap, KD_ap, KC_nil, KF_n, KF_r, KG_n, KG_r, KL_n, KL_x, KL_r, CP_true, CP_false, evOp, evX, X.ev, optX, put_some, put_none, get_set2, sel_t, sel_f, Nat.reduceBEq, Nat.reduceAdd, Nat.reduceLT, Nat.reduceLeDiff, Nat.reduceEqDiff, reduceIte, if_true, if_false, bi_add, bi_sub, bi_mul, bi_eql, bi_neq, bi_lss, bi_leq, bi_gtr, bi_geq, bs_eql, bs_neq, bs_lss, Am.unOp, ret1, pubL, pubC_agg, pubC_s, pubC_i, pubC_b, pubC_p, pubC_np, pubC_nsl, pubC_ws, pubC_full, pubC_shut, pubC_fn, pubA, initT, wkZ, wk, wants, resOf, tupOf, quiet, AOp.cls, Nat.beq_eq, Bool.or_eq_true, decide_true, decide_false, beq_self_eq_true, Bool.true_or, Bool.or_true, true_and, and_true, lenA, eqv, eqB, eqP, scal, new_box_self, List.getElem?_cons_zero, List.getElem?_cons_succ, key_ii, key_ss, findM, updM, esc_i, esc_s, esc_b, Int.reduceEq, ret1, new_nb, new_set, reduceCtorEq, Bool.xor_true, Bool.xor_false, Bool.false_eq_true, List.all_cons, List.all_nil, noTok, Bool.and_self, Bool.and_true, Bool.true_and, or_true, false_or, ht, hli, hadd, hb, hd, hname]
    exact KR_some (Over.enter s) rfl (by rw [hR]; rfl)

/-- The last piece that is not empty. -/
def lastNE (L : List (List Nat)) : List Nat := (L.reverse.find? (fun x => decide (x ≠ []))).getD []
theorem lastNE_snoc_nil (L : List (List Nat)) : lastNE (L ++ [[]]) = lastNE L := by simp [lastNE, List.find?_cons]
theorem lastNE_snoc (L : List (List Nat)) {x : List Nat} (h : x ≠ []) : lastNE (L ++ [x]) = x := by simp [lastNE, List.find?_cons, h]
theorem split_snoc47 (l : List Nat) : splitL (l ++ [47]) = splitL l ++ [[]] := by
  have := split_app l []
  simpa [splitL, segs] using this
theorem lastNE_split : ∀ (n : Nat) (l : List Nat), l.length = n → lastNE (splitL l) = lastN l
  | 0, l, h => by
    have : l = [] := List.length_eq_zero_iff.1 h
    subst this; rfl
  | n + 1, l, h => by
    obtain ⟨m, c, rfl⟩ : ∃ m c, l = m ++ [c] := ⟨l.dropLast, l.getLast (by rintro rfl; simp at h), (List.dropLast_concat_getLast _).symm⟩
    by_cases hc : c = 47
    · subst hc
      unfold lastN
      rw [split_snoc47, lastNE_snoc_nil, trimR_snoc]
      exact lastNE_split n m (by simpa using h)
    · have ht : lastN (m ++ [c]) = lastP (m ++ [c]) := by unfold lastN; rw [trimR_keep m hc]
      rw [ht]
      by_cases h47 : 47 ∈ m ++ [c]
      · obtain ⟨a, b, hab, hb⟩ := rcut_of h47
        rw [hab, last_cut hb, last_of_cut hb]
        refine lastNE_snoc _ ?_
        rintro rfl
        have := congrArg (fun l => l.getLast?) hab
        simp at this
        exact hc this
      · rw [split_none h47, last_none h47]
        exact lastNE_snoc [] (by simp)

theorem refLast_ok (l : List Nat) (hlen : l.length < 2 ^ 36) (s : St) (hw : Wf s) : (lim prog).call f_touchstoneref06_Last [.s l] s = some (LastR l, s) := by
  refine fn_W p_touchstoneref06_Last rfl rfl ?_
  have hp := refParts_ok l hlen s.enter hw.enter
  have hne := split_ne l
  have hpl := splitL_len l
  have hNE := lastNE_split _ l rfl
  have hmem : ∀ x ∈ splitL l, x.length ≤ l.length := fun x hx => by
    have := (segs_mem l [] (by simp) x hx).2.1
    simpa using this
  obtain ⟨L, hL⟩ : ∃ L, splitL l = L := ⟨_, rfl⟩
  rw [hL] at hp hne hpl hNE hmem
  have hsub : ∀ m : Nat, m ≤ L.length → IntKind.i64.wrap ((m : Int) - 1) = (m : Int) - 1 := fun m hm => by
    have e : IntKind.i64.wrap ((m : Int) - 1) = if (9223372036854775808 : Int) ≤ ((m : Int) - 1) % 18446744073709551616 then ((m : Int) - 1) % 18446744073709551616 - 18446744073709551616 else ((m : Int) - 1) % 18446744073709551616 := by
      simp [IntKind.wrap, IntKind.signed, IntKind.bits]
    rw [e]
    split <;> omega
  simp only [c_touchstoneref06_Last, W_seq, W_reg, W_cond, W_blk, W_skip, W_exit, W_ret, W_regD, WO_nil, WO_cons, WO_guard2, wantV_b, bq_tt, bq_ft, bq_tf, bq_ff, Bool.not_true, Bool.not_false, WD_nil, WD_cons, WD_guard2, WS_some, WS_none, KS_n, KS_x, KS_r, KB_n, KB_x, KB_r, KN_ap, KO_ap, KD_ap, KC_nil, KF_n, KF_r, KG_n, KG_r, KL_n, KL_x, KL_r, CP_true, CP_false, evOp, evX, X.ev, optX, put_some, put_none, get_set2, sel_t, sel_f, Nat.reduceBEq, Nat.reduceAdd, Nat.reduceLT, Nat.reduceLeDiff, Nat.reduceEqDiff, reduceIte, if_true, if_false, bi_add, bi_sub, bi_mul, bi_eql, bi_neq, bi_lss, bi_leq, bi_gtr, bi_geq, bs_eql, bs_neq, bs_lss, Am.unOp, ret1, pubL, pubC_agg, pubC_s, pubC_i, pubC_b, pubC_p, pubC_np, pubC_nsl, pubC_ws, pubC_full, pubC_shut, pubC_fn, pubA, initT, wkZ, wk, wants, resOf, tupOf, quiet, AOp.cls, Nat.beq_eq, Bool.or_eq_true, decide_true, decide_false, beq_self_eq_true, Bool.true_or, Bool.or_true, true_and, and_true, lenA, eqv, eqB, eqP, scal, new_box_self, List.getElem?_cons_zero, List.getElem?_cons_succ, key_ii, key_ss, findM, updM, esc_i, esc_s, esc_b, Int.reduceEq, ret1, new_nb, new_set, reduceCtorEq, Bool.xor_true, Bool.xor_false, Bool.false_eq_true, List.all_cons, List.all_nil, noTok, Bool.and_self, Bool.and_true, Bool.true_and, or_true, false_or, hp, List.length_map, ofNat_len, hsub L.length (Nat.le_refl _)]
  refine W_loop (fun n e q => s.enter = q ∧ e.get 4 = tx L ∧ n ≤ L.length ∧ e.get 5 = .i .i64 ((n : Int) - 1) ∧ lastNE (L.take n) = lastNE L) ?_ L.length _ _ ?_
  · rintro n e q ⟨rfl, g4, hn, g5, hne2⟩
    simp only [W_seq, W_reg, W_cond, W_blk, W_skip, W_exit, W_ret, W_regD, WO_nil, WO_cons, WO_guard2, wantV_b, bq_tt, bq_ft, bq_tf, bq_ff, Bool.not_true, Bool.not_false, WD_nil, WD_cons, WD_guard2, WS_some, WS_none, KS_n, KS_x, KS_r, KB_n, KB_x, KB_r, KN_ap, KO_ap, KD_ap, KC_nil, KF_n, KF_r, KG_n, KG_r, KL_n, KL_x, KL_r, CP_true, CP_false, evOp, evX, X.ev, optX, put_some, put_none, get_set2, sel_t, sel_f, Nat.reduceBEq, Nat.reduceAdd, Nat.reduceLT, Nat.reduceLeDiff, Nat.reduceEqDiff, reduceIte, if_true, if_false, bi_add, bi_sub, bi_mul, bi_eql, bi_neq, bi_lss, bi_leq, bi_gtr, bi_geq, bs_eql, bs_neq, bs_lss, Am.unOp, ret1, pubL, pubC_agg, pubC_s, pubC_i, pubC_b, pubC_p, pubC_np, pubC_nsl, pubC_ws, pubC_full, pubC_shut, pubC_fn, pubA, initT, wkZ, wk, wants, resOf, tupOf, quiet, AOp.cls, Nat.beq_eq, Bool.or_eq_true, decide_true, decide_false, beq_self_eq_true, Bool.true_or, Bool.or_true, true_and, and_true, lenA, eqv, eqB, eqP, scal, new_box_self, List.getElem?_cons_zero, List.getElem?_cons_succ, key_ii, key_ss, findM, updM, esc_i, esc_s, esc_b, Int.reduceEq, ret1, new_nb, new_set, reduceCtorEq, Bool.xor_true, Bool.xor_false, Bool.false_eq_true, List.all_cons, List.all_nil, noTok, Bool.and_self, Bool.and_true, Bool.true_and, or_true, false_or, g4, g5]
    refine CP_dec (fun hge => ?_) (fun hlt => ?_)
    · obtain ⟨m, rfl⟩ : ∃ m, n = m + 1 := ⟨n - 1, by omega⟩
      have hm : ((m + 1 : Nat) : Int) - 1 = (m : Int) := by omega
      have hget := tx_get (show m < L.length by omega)
      obtain ⟨x, hx⟩ : ∃ x, L[m] = x := ⟨_, rfl⟩
      have hxl := hmem L[m] (List.getElem_mem (by omega))
      rw [List.take_succ_eq_append_getElem (show m < L.length by omega), hx] at hne2
      rw [hx] at hget hxl
      rw [hm] at g5
      by_cases hz : x = []
      · have hz' : (x ≠ []) = False := by simp [hz]
        rw [hz, lastNE_snoc_nil] at hne2
        simp only [W_seq, W_reg, W_cond, W_blk, W_skip, W_exit, W_ret, W_regD, WO_nil, WO_cons, WO_guard2, wantV_b, bq_tt, bq_ft, bq_tf, bq_ff, Bool.not_true, Bool.not_false, WD_nil, WD_cons, WD_guard2, WS_some, WS_none, KS_n, KS_x, KS_r, KB_n, KB_x, KB_r, KN_ap, KO_ap, KD_ap, KC_nil, KF_n, KF_r, KG_n, KG_r, KL_n, KL_x, KL_r, CP_true, CP_false, evOp, evX, X.ev, optX, put_some, put_none, get_set2, sel_t, sel_f, Nat.reduceBEq, Nat.reduceAdd, Nat.reduceLT, Nat.reduceLeDiff, Nat.reduceEqDiff, reduceIte, if_true, if_false, bi_add, bi_sub, bi_mul, bi_eql, bi_neq, bi_lss, bi_leq, bi_gtr, bi_geq, bs_eql, bs_neq, bs_lss, Am.unOp, ret1, pubL, pubC_agg, pubC_s, pubC_i, pubC_b, pubC_p, pubC_np, pubC_nsl, pubC_ws, pubC_full, pubC_shut, pubC_fn, pubA, initT, wkZ, wk, wants, resOf, tupOf, quiet, AOp.cls, Nat.beq_eq, Bool.or_eq_true, decide_true, decide_false, beq_self_eq_true, Bool.true_or, Bool.or_true, true_and, and_true, lenA, eqv, eqB, eqP, scal, new_box_self, List.getElem?_cons_zero, List.getElem?_cons_succ, key_ii, key_ss, findM, updM, esc_i, esc_s, esc_b, Int.reduceEq, ret1, new_nb, new_set, reduceCtorEq, Bool.xor_true, Bool.xor_false, Bool.false_eq_true, List.all_cons, List.all_nil, noTok, Bool.and_self, Bool.and_true, Bool.true_and, or_true, false_or, g4, g5, hm, natOf_i64, hget, cells_s, ldA_1, hz', hsub m (by omega)]
        exact ⟨m, by omega, by omega, rfl, hne2⟩
      · have hz' : (x ≠ []) = True := by simp [hz]
        rw [lastNE_snoc _ hz] at hne2
        have hR : LastR l = if nameP x = true then .tup [.s x, .b true] else .tup [.s [], .b false] := by unfold LastR; rw [← hNE, ← hne2]
        have hname := refName_ok x (by omega) s.enter
        cases hb2 : nameP x with
        | true =>
          rw [hb2] at hname hR
          rw [if_pos rfl] at hR
          simp only [W_seq, W_reg, W_cond, W_blk, W_skip, W_exit, W_ret, W_regD, WO_nil, WO_cons, WO_guard2, wantV_b, bq_tt, bq_ft, bq_tf, bq_ff, Bool.not_true, Bool.not_false, WD_nil, WD_cons, WD_guard2, WS_some, WS_none, KS_n, KS_x, KS_r, KB_n, KB_x, KB_r, KN_ap, KO_ap, KD_ap, KC_nil, KF_n, KF_r, KG_n, KG_r, KL_n, KL_x, KL_r, CP_true, CP_false, evOp, evX, X.ev, optX, put_some, put_none, get_set2, sel_t, sel_f, Nat.reduceBEq, Nat.reduceAdd, Nat.reduceLT, Nat.reduceLeDiff, Nat.reduceEqDiff, reduceIte, if_true, if_false, bi_add, bi_sub, bi_mul, bi_eql, bi_neq, bi_lss, bi_leq, bi_gtr, bi_geq, bs_eql, bs_neq, bs_lss, Am.unOp, ret1, pubL, pubC_agg, pubC_s, pubC_i, pubC_b, pubC_p, pubC_np, pubC_nsl, pubC_ws, pubC_full, pubC_shut, pubC_fn, pubA, initT, wkZ, wk, wants, resOf, tupOf, quiet, AOp.cls, Nat.beq_eq, Bool.or_eq_true, decide_true, decide_false, beq_self_eq_true, Bool.true_or, Bool.or_true, true_and, and_true, lenA, eqv, eqB, eqP, scal, new_box_self, List.getElem?_cons_zero, List.getElem?_cons_succ, key_ii, key_ss, findM, updM, esc_i, esc_s, esc_b, Int.reduceEq, ret1, new_nb, new_set, reduceCtorEq, Bool.xor_true, Bool.xor_false, Bool.false_eq_true, List.all_cons, List.all_nil, noTok, Bool.and_self, Bool.and_true, Bool.true_and, or_true, false_or, g4, g5, hm, natOf_i64, hget, cells_s, ldA_1, hz', hname]
          exact KR_some (Over.enter s) rfl (by rw [hR]; rfl)
        | false =>
          rw [hb2] at hname hR
          rw [if_neg (by simp)] at hR
          simp only [W_seq, W_reg, W_cond, W_blk, W_skip, W_exit, W_ret, W_regD, WO_nil, WO_cons, WO_guard2, wantV_b, bq_tt, bq_ft, bq_tf, bq_ff, Bool.not_true, Bool.not_false, WD_nil, WD_cons, WD_guard2, WS_some, WS_none, KS_n, KS_x, KS_r, KB_n, KB_x, KB_r, KN_ap, KO_ap, KD_ap, KC_nil, KF_n, KF_r, KG_n, KG_r, KL_n, KL_x, KL_r, CP_true, CP_false, evOp, evX, X.ev, optX, put_some, put_none, get_set2, sel_t, sel_f, Nat.reduceBEq, Nat.reduceAdd, Nat.reduceLT, Nat.reduceLeDiff, Nat.reduceEqDiff, reduceIte, if_true, if_false, bi_add, bi_sub, bi_mul, bi_eql, bi_neq, bi_lss, bi_leq, bi_gtr, bi_geq, bs_eql, bs_neq, bs_lss, Am.unOp, ret1, pubL, pubC_agg, pubC_s, pubC_i, pubC_b, pubC_p, pubC_np, pubC_nsl, pubC_ws, pubC_full, pubC_shut, pubC_fn, pubA, initT, wkZ, wk, wants, resOf, tupOf, quiet, AOp.cls, Nat.beq_eq, Bool.or_eq_true, decide_true, decide_false, beq_self_eq_true, Bool.true_or, Bool.or_true, true_and, and_true, lenA, eqv, eqB, eqP, scal, new_box_self, List.getElem?_cons_zero, List.getElem?_cons_succ, key_ii, key_ss, findM, updM, esc_i, esc_s, esc_b, Int.reduceEq, ret1, new_nb, new_set, reduceCtorEq, Bool.xor_true, Bool.xor_false, Bool.false_eq_true, List.all_cons, List.all_nil, noTok, Bool.and_self, Bool.and_true, Bool.true_and, or_true, false_or, g4, g5, hm, natOf_i64, hget, cells_s, ldA_1, hz', hname]
          exact KR_some (Over.enter s) rfl (by rw [hR]; rfl)
    · have hn0 : n = 0 := by omega
      subst hn0
      have hz : lastN l = [] := by rw [← hNE, ← hne2]; rfl
      have hR : LastR l = .tup [.s [], .b false] := by
        unfold LastR
        rw [hz, if_neg (by simp [nameP])]
      refine KR_some (Over.enter s) rfl (by rw [hR]; rfl)
  · simp only [W_seq, W_reg, W_cond, W_blk, W_skip, W_exit, W_ret, W_regD, WO_nil, WO_cons, WO_guard2, wantV_b, bq_tt, bq_ft, bq_tf, bq_ff, Bool.not_true, Bool.not_false, WD_nil, WD_cons, WD_guard2, WS_some, WS_none, KS_n, KS_x, KS_r, KB_n, KB_x, KB_r, KN_ap, KO_ap, KD_ap, KC_nil, KF_n, KF_r, KG_n, KG_r, KL_n, KL_x, KL_r, CP_true, CP_false, evOp, evX, X.ev, optX, put_some, put_none, get_set2, sel_t, sel_f, Nat.reduceBEq, Nat.reduceAdd, Nat.reduceLT, Nat.reduceLeDiff, Nat.reduceEqDiff, reduceIte, if_true, if_false, bi_add, bi_sub, bi_mul, bi_eql, bi_neq, bi_lss, bi_leq, bi_gtr, bi_geq, bs_eql, bs_neq, bs_lss, Am.unOp, ret1, pubL, pubC_agg, pubC_s, pubC_i, pubC_b, pubC_p, pubC_np, pubC_nsl, pubC_ws, pubC_full, pubC_shut, pubC_fn, pubA, initT, wkZ, wk, wants, resOf, tupOf, quiet, AOp.cls, Nat.beq_eq, Bool.or_eq_true, decide_true, decide_false, beq_self_eq_true, Bool.true_or, Bool.or_true, true_and, and_true, lenA, eqv, eqB, eqP, scal, new_box_self, List.getElem?_cons_zero, List.getElem?_cons_succ, key_ii, key_ss, findM, updM, esc_i, esc_s, esc_b, Int.reduceEq, ret1, new_nb, new_set, reduceCtorEq, Bool.xor_true, Bool.xor_false, Bool.false_eq_true, List.all_cons, List.all_nil, noTok, Bool.and_self, Bool.and_true, Bool.true_and, or_true, false_or]
    exact ⟨Nat.le_refl _, by rw [List.take_length]⟩
end Go.Proofs.YtfaodjpibdhdjaaDoor

/-
  What is wrong with a path.
-/
set_option maxRecDepth 100000
set_option linter.unusedSimpArgs false
set_option linter.constructorNameAsVariable false
namespace Go.Proofs.YtfaodjpibdhdjaaDoor
open Go.Proofs.YtfaodjpibdhdjaaDoor.Am

def ckOk (x : List Nat) : Bool := decide (x = [46, 46]) || nameP x
def checkL (l : List Nat) : Int := if l = [] ∨ 0 ∈ l then 4 else if 256 < l.length then 40 else if (stepsL l).all ckOk = true then 0 else 4

theorem refCheck_ok (l : List Nat) (hlen : l.length < 2 ^ 36) (s : St) (hw : Wf s) : (lim prog).call f_touchstoneref06_Check [.s l] s = some (.i .i64 (checkL l), s) := by
  refine fn_W p_touchstoneref06_Check rfl rfl ?_
  have hk : ∀ z, z = checkL l → KR s [CT.id] (.i .i64 (checkL l)) (some ([.i .i64 z], s.enter)) := fun z hz => KR_some (Over.enter s) rfl (by rw [hz]; rfl)
  simp only [c_touchstoneref06_Check, W_seq, W_reg, W_cond, W_blk, W_skip, W_exit, W_ret, W_regD, WO_nil, WO_cons, WO_guard2, wantV_b, bq_tt, bq_ft, bq_tf, bq_ff, Bool.not_true, Bool.not_false, WD_nil, WD_cons, WD_guard2, WS_some, WS_none, KS_n, KS_x, KS_r, KB_n, KB_x, KB_r, KN_ap, KO_ap, KD_ap, KC_nil, KF_n, KF_r, KG_n, KG_r, KL_n, KL_x, KL_r, CP_true, CP_false, evOp, evX, X.ev, optX, put_some, put_none, get_set2, sel_t, sel_f, Nat.reduceBEq, Nat.reduceAdd, Nat.reduceLT, Nat.reduceLeDiff, Nat.reduceEqDiff, reduceIte, if_true, if_false, bi_add, bi_sub, bi_mul, bi_eql, bi_neq, bi_lss, bi_leq, bi_gtr, bi_geq, bs_eql, bs_neq, bs_lss, Am.unOp, ret1, pubL, pubC_agg, pubC_s, pubC_i, pubC_b, pubC_p, pubC_np, pubC_nsl, pubC_ws, pubC_full, pubC_shut, pubC_fn, pubA, initT, wkZ, wk, wants, resOf, tupOf, quiet, AOp.cls, Nat.beq_eq, Bool.or_eq_true, decide_true, decide_false, beq_self_eq_true, Bool.true_or, Bool.or_true, true_and, and_true, lenA, eqv, eqB, eqP, scal, new_box_self, List.getElem?_cons_zero, List.getElem?_cons_succ, key_ii, key_ss, findM, updM, esc_i, esc_s, esc_b, Int.reduceEq, ret1, new_nb, new_set, reduceCtorEq, Bool.xor_true, Bool.xor_false, Bool.false_eq_true, List.all_cons, List.all_nil, noTok, Bool.and_self, Bool.and_true, Bool.true_and, or_true, false_or]
  refine W_loop (fun n e q => s.enter = q ∧ e.get 0 = .s l ∧ ∃ i : Nat, i + n = l.length ∧ e.get 3 = .i .i64 i ∧ ∀ (j : Nat) (h : j < l.length), j < i → l[j] ≠ 0) ?_ l.length _ _ ?_
  · rintro n e q ⟨rfl, g0, i, hi, g3, hno⟩
    simp only [W_seq, W_reg, W_cond, W_blk, W_skip, W_exit, W_ret, W_regD, WO_nil, WO_cons, WO_guard2, wantV_b, bq_tt, bq_ft, bq_tf, bq_ff, Bool.not_true, Bool.not_false, WD_nil, WD_cons, WD_guard2, WS_some, WS_none, KS_n, KS_x, KS_r, KB_n, KB_x, KB_r, KN_ap, KO_ap, KD_ap, KC_nil, KF_n, KF_r, KG_n, KG_r, KL_n, KL_x, KL_r, CP_true, CP_false, evOp, evX, X.ev, optX, put_some, put_none, get_set2, sel_t, sel_f, Nat.reduceBEq, Nat.reduceAdd, Nat.reduceLT, Nat.reduceLeDiff, Nat.reduceEqDiff, reduceIte, if_true, if_false, bi_add, bi_sub, bi_mul, bi_eql, bi_neq, bi_lss, bi_leq, bi_gtr, bi_geq, bs_eql, bs_neq, bs_lss, Am.unOp, ret1, pubL, pubC_agg, pubC_s, pubC_i, pubC_b, pubC_p, pubC_np, pubC_nsl, pubC_ws, pubC_full, pubC_shut, pubC_fn, pubA, initT, wkZ, wk, wants, resOf, tupOf, quiet, AOp.cls, Nat.beq_eq, Bool.or_eq_true, decide_true, decide_false, beq_self_eq_true, Bool.true_or, Bool.or_true, true_and, and_true, lenA, eqv, eqB, eqP, scal, new_box_self, List.getElem?_cons_zero, List.getElem?_cons_succ, key_ii, key_ss, findM, updM, esc_i, esc_s, esc_b, Int.reduceEq, ret1, new_nb, new_set, reduceCtorEq, Bool.xor_true, Bool.xor_false, Bool.false_eq_true, List.all_cons, List.all_nil, noTok, Bool.and_self, Bool.and_true, Bool.true_and, or_true, false_or, g0, g3, ofNat_len]
    refine CP_dec (fun hlt => ?_) (fun hge => ?_)
    · have hlt : i < l.length := by omega
      have hget : l[i]? = some l[i] := List.getElem?_eq_getElem hlt
      by_cases c0 : l[i] = 0
      · have c0' : ((l[i] : Int) = 0) = True := by simp [c0]
        simp only [W_seq, W_reg, W_cond, W_blk, W_skip, W_exit, W_ret, W_regD, WO_nil, WO_cons, WO_guard2, wantV_b, bq_tt, bq_ft, bq_tf, bq_ff, Bool.not_true, Bool.not_false, WD_nil, WD_cons, WD_guard2, WS_some, WS_none, KS_n, KS_x, KS_r, KB_n, KB_x, KB_r, KN_ap, KO_ap, KD_ap, KC_nil, KF_n, KF_r, KG_n, KG_r, KL_n, KL_x, KL_r, CP_true, CP_false, evOp, evX, X.ev, optX, put_some, put_none, get_set2, sel_t, sel_f, Nat.reduceBEq, Nat.reduceAdd, Nat.reduceLT, Nat.reduceLeDiff, Nat.reduceEqDiff, reduceIte, if_true, if_false, bi_add, bi_sub, bi_mul, bi_eql, bi_neq, bi_lss, bi_leq, bi_gtr, bi_geq, bs_eql, bs_neq, bs_lss, Am.unOp, ret1, pubL, pubC_agg, pubC_s, pubC_i, pubC_b, pubC_p, pubC_np, pubC_nsl, pubC_ws, pubC_full, pubC_shut, pubC_fn, pubA, initT, wkZ, wk, wants, resOf, tupOf, quiet, AOp.cls, Nat.beq_eq, Bool.or_eq_true, decide_true, decide_false, beq_self_eq_true, Bool.true_or, Bool.or_true, true_and, and_true, lenA, eqv, eqB, eqP, scal, new_box_self, List.getElem?_cons_zero, List.getElem?_cons_succ, key_ii, key_ss, findM, updM, esc_i, esc_s, esc_b, Int.reduceEq, ret1, new_nb, new_set, reduceCtorEq, Bool.xor_true, Bool.xor_false, Bool.false_eq_true, List.all_cons, List.all_nil, noTok, Bool.and_self, Bool.and_true, Bool.true_and, or_true, false_or, g0, g3, natOf_i64, hget, ofNat_len, c0']
        have hm : 0 ∈ l := by rw [← c0]; exact List.getElem_mem hlt
        exact hk _ (by unfold checkL; rw [if_pos (.inr hm)])
      · have c0' : ((l[i] : Int) = 0) = False := by simp; omega
        simp only [W_seq, W_reg, W_cond, W_blk, W_skip, W_exit, W_ret, W_regD, WO_nil, WO_cons, WO_guard2, wantV_b, bq_tt, bq_ft, bq_tf, bq_ff, Bool.not_true, Bool.not_false, WD_nil, WD_cons, WD_guard2, WS_some, WS_none, KS_n, KS_x, KS_r, KB_n, KB_x, KB_r, KN_ap, KO_ap, KD_ap, KC_nil, KF_n, KF_r, KG_n, KG_r, KL_n, KL_x, KL_r, CP_true, CP_false, evOp, evX, X.ev, optX, put_some, put_none, get_set2, sel_t, sel_f, Nat.reduceBEq, Nat.reduceAdd, Nat.reduceLT, Nat.reduceLeDiff, Nat.reduceEqDiff, reduceIte, if_true, if_false, bi_add, bi_sub, bi_mul, bi_eql, bi_neq, bi_lss, bi_leq, bi_gtr, bi_geq, bs_eql, bs_neq, bs_lss, Am.unOp, ret1, pubL, pubC_agg, pubC_s, pubC_i, pubC_b, pubC_p, pubC_np, pubC_nsl, pubC_ws, pubC_full, pubC_shut, pubC_fn, pubA, initT, wkZ, wk, wants, resOf, tupOf, quiet, AOp.cls, Nat.beq_eq, Bool.or_eq_true, decide_true, decide_false, beq_self_eq_true, Bool.true_or, Bool.or_true, true_and, and_true, lenA, eqv, eqB, eqP, scal, new_box_self, List.getElem?_cons_zero, List.getElem?_cons_succ, key_ii, key_ss, findM, updM, esc_i, esc_s, esc_b, Int.reduceEq, ret1, new_nb, new_set, reduceCtorEq, Bool.xor_true, Bool.xor_false, Bool.false_eq_true, List.all_cons, List.all_nil, noTok, Bool.and_self, Bool.and_true, Bool.true_and, or_true, false_or, g0, g3, natOf_i64, hget, ofNat_len, c0', wrap_succ (show i + 1 < 2 ^ 63 by omega)]
        refine ⟨n - 1, by omega, i + 1, by omega, rfl, fun j hj hji => ?_⟩
        by_cases hje : j = i
        · subst hje; exact c0
        · exact hno j hj (by omega)
    · have h0 : 0 ∉ l := fun hm => by
        obtain ⟨j, hj, hj2⟩ := List.mem_iff_getElem.1 hm
        exact hno j hj (by omega) hj2
      by_cases hz : l = []
      · have hz' : (l = []) = True := by simp [hz]
        simp only [W_seq, W_reg, W_cond, W_blk, W_skip, W_exit, W_ret, W_regD, WO_nil, WO_cons, WO_guard2, wantV_b, bq_tt, bq_ft, bq_tf, bq_ff, Bool.not_true, Bool.not_false, WD_nil, WD_cons, WD_guard2, WS_some, WS_none, KS_n, KS_x, KS_r, KB_n, KB_x, KB_r, KN_ap, KO_ap, KD_ap, KC_nil, KF_n, KF_r, KG_n, KG_r, KL_n, KL_x, KL_r, CP_true, CP_false, evOp, evX, X.ev, optX, put_some, put_none, get_set2, sel_t, sel_f, Nat.reduceBEq, Nat.reduceAdd, Nat.reduceLT, Nat.reduceLeDiff, Nat.reduceEqDiff, reduceIte, if_true, if_false, bi_add, bi_sub, bi_mul, bi_eql, bi_neq, bi_lss, bi_leq, bi_gtr, bi_geq, bs_eql, bs_neq, bs_lss, Am.unOp, ret1, pubL, pubC_agg, pubC_s, pubC_i, pubC_b, pubC_p, pubC_np, pubC_nsl, pubC_ws, pubC_full, pubC_shut, pubC_fn, pubA, initT, wkZ, wk, wants, resOf, tupOf, quiet, AOp.cls, Nat.beq_eq, Bool.or_eq_true, decide_true, decide_false, beq_self_eq_true, Bool.true_or, Bool.or_true, true_and, and_true, lenA, eqv, eqB, eqP, scal, new_box_self, List.getElem?_cons_zero, List.getElem?_cons_succ, key_ii, key_ss, findM, updM, esc_i, esc_s, esc_b, Int.reduceEq, ret1, new_nb, new_set, reduceCtorEq, Bool.xor_true, Bool.xor_false, Bool.false_eq_true, List.all_cons, List.all_nil, noTok, Bool.and_self, Bool.and_true, Bool.true_and, or_true, false_or, g0, hz']
        exact hk _ (by unfold checkL; rw [if_pos (.inl hz)])
      have hz' : (l = []) = False := by simp [hz]
      have hc1 : checkL l = if 256 < l.length then 40 else if (stepsL l).all ckOk = true then 0 else 4 := by unfold checkL; rw [if_neg (by simp [hz, h0])]
      by_cases h256 : (256 : Int) < (l.length : Int)
      · simp only [W_seq, W_reg, W_cond, W_blk, W_skip, W_exit, W_ret, W_regD, WO_nil, WO_cons, WO_guard2, wantV_b, bq_tt, bq_ft, bq_tf, bq_ff, Bool.not_true, Bool.not_false, WD_nil, WD_cons, WD_guard2, WS_some, WS_none, KS_n, KS_x, KS_r, KB_n, KB_x, KB_r, KN_ap, KO_ap, KD_ap, KC_nil, KF_n, KF_r, KG_n, KG_r, KL_n, KL_x, KL_r, CP_true, CP_false, evOp, evX, X.ev, optX, put_some, put_none, get_set2, sel_t, sel_f, Nat.reduceBEq, Nat.reduceAdd, Nat.reduceLT, Nat.reduceLeDiff, Nat.reduceEqDiff, reduceIte, if_true, if_false, bi_add, bi_sub, bi_mul, bi_eql, bi_neq, bi_lss, bi_leq, bi_gtr, bi_geq, bs_eql, bs_neq, bs_lss, Am.unOp, ret1, pubL, pubC_agg, pubC_s, pubC_i, pubC_b, pubC_p, pubC_np, pubC_nsl, pubC_ws, pubC_full, pubC_shut, pubC_fn, pubA, initT, wkZ, wk, wants, resOf, tupOf, quiet, AOp.cls, Nat.beq_eq, Bool.or_eq_true, decide_true, decide_false, beq_self_eq_true, Bool.true_or, Bool.or_true, true_and, and_true, lenA, eqv, eqB, eqP, scal, new_box_self, List.getElem?_cons_zero, List.getElem?_cons_succ, key_ii, key_ss, findM, updM, esc_i, esc_s, esc_b, Int.reduceEq, ret1, new_nb, new_set, reduceCtorEq, Bool.xor_true, Bool.xor_false, Bool.false_eq_true, List.all_cons, List.all_nil, noTok, Bool.and_self, Bool.and_true, Bool.true_and, or_true, false_or, g0, hz', ofNat_len, h256]
        exact hk _ (by rw [hc1, if_pos (by omega)])
      have hc2 : checkL l = if (stepsL l).all ckOk = true then 0 else 4 := by rw [hc1, if_neg (by omega)]
      have hst := refSteps_ok l hlen s.enter hw.enter
      have hmem : ∀ x ∈ stepsL l, x.length ≤ l.length := fun x hx => (stepsL_mem hx).2.1
      have hcnt := stepsL_len l
      obtain ⟨L, hL⟩ : ∃ L, stepsL l = L := ⟨_, rfl⟩
      rw [hL] at hst hc2 hmem hcnt
      simp only [W_seq, W_reg, W_cond, W_blk, W_skip, W_exit, W_ret, W_regD, WO_nil, WO_cons, WO_guard2, wantV_b, bq_tt, bq_ft, bq_tf, bq_ff, Bool.not_true, Bool.not_false, WD_nil, WD_cons, WD_guard2, WS_some, WS_none, KS_n, KS_x, KS_r, KB_n, KB_x, KB_r, KN_ap, KO_ap, KD_ap, KC_nil, KF_n, KF_r, KG_n, KG_r, KL_n, KL_x, KL_r, CP_true, CP_false, evOp, evX, X.ev, optX, put_some, put_none, get_set2, sel_t, sel_f, Nat.reduceBEq, Nat.reduceAdd, Nat.reduceLT, Nat.reduceLeDiff, Nat.reduceEqDiff, reduceIte, if_true, if_false, bi_add, bi_sub, bi_mul, bi_eql, bi_neq, bi_lss, bi_leq, bi_gtr, bi_geq, bs_eql, bs_neq, bs_lss, Am.unOp, ret1, pubL, pubC_agg, pubC_s, pubC_i, pubC_b, pubC_p, pubC_np, pubC_nsl, pubC_ws, pubC_full, pubC_shut, pubC_fn, pubA, initT, wkZ, wk, wants, resOf, tupOf, quiet, AOp.cls, Nat.beq_eq, Bool.or_eq_true, decide_true, decide_false, beq_self_eq_true, Bool.true_or, Bool.or_true, true_and, and_true, lenA, eqv, eqB, eqP, scal, new_box_self, List.getElem?_cons_zero, List.getElem?_cons_succ, key_ii, key_ss, findM, updM, esc_i, esc_s, esc_b, Int.reduceEq, ret1, new_nb, new_set, reduceCtorEq, Bool.xor_true, Bool.xor_false, Bool.false_eq_true, List.all_cons, List.all_nil, noTok, Bool.and_self, Bool.and_true, Bool.true_and, or_true, false_or, g0, hz', ofNat_len, h256, hst]
      refine W_loop (fun n e q => s.enter = q ∧ e.get 4 = tx L ∧ ∃ i : Nat, i + n = L.length ∧ e.get 5 = .i .i64 i ∧ (L.take i).all ckOk = true) ?_ L.length _ _ ?_
      · rintro n e q ⟨rfl, g4, i, hi, g5, hall⟩
        simp only [W_seq, W_reg, W_cond, W_blk, W_skip, W_exit, W_ret, W_regD, WO_nil, WO_cons, WO_guard2, wantV_b, bq_tt, bq_ft, bq_tf, bq_ff, Bool.not_true, Bool.not_false, WD_nil, WD_cons, WD_guard2, WS_some, WS_none, KS_n, KS_x, KS_r, KB_n, KB_x, KB_r, KN_ap, KO_ap, KD_ap, KC_nil, KF_n, KF_r, KG_n, KG_r, KL_n, KL_x, KL_r, CP_true, CP_false, evOp, evX, X.ev, optX, put_some, put_none, get_set2, sel_t, sel_f, Nat.reduceBEq, Nat.reduceAdd, Nat.reduceLT, Nat.reduceLeDiff, Nat.reduceEqDiff, reduceIte, if_true, if_false, bi_add, bi_sub, bi_mul, bi_eql, bi_neq, bi_lss, bi_leq, bi_gtr, bi_geq, bs_eql, bs_neq, bs_lss, Am.unOp, ret1, pubL, pubC_agg, pubC_s, pubC_i, pubC_b, pubC_p, pubC_np, pubC_nsl, pubC_ws, pubC_full, pubC_shut, pubC_fn, pubA, initT, wkZ, wk, wants, resOf, tupOf, quiet, AOp.cls, Nat.beq_eq, Bool.or_eq_true, decide_true, decide_false, beq_self_eq_true, Bool.true_or, Bool.or_true, true_and, and_true, lenA, eqv, eqB, eqP, scal, new_box_self, List.getElem?_cons_zero, List.getElem?_cons_succ, key_ii, key_ss, findM, updM, esc_i, esc_s, esc_b, Int.reduceEq, ret1, new_nb, new_set, reduceCtorEq, Bool.xor_true, Bool.xor_false, Bool.false_eq_true, List.all_cons, List.all_nil, noTok, Bool.and_self, Bool.and_true, Bool.true_and, or_true, false_or, g4, g5, List.length_map, ofNat_len]
        refine CP_dec (fun hlt => ?_) (fun hge => ?_)
        · have hlt : i < L.length := by omega
          obtain ⟨x, hx⟩ : ∃ x, L[i] = x := ⟨_, rfl⟩
          have hget := tx_get hlt
          have hxl := hmem L[i] (List.getElem_mem hlt)
          rw [hx] at hget hxl
          have hst2 : (L.take (i + 1)).all ckOk = ((L.take i).all ckOk && ckOk x) := by
            rw [List.take_succ_eq_append_getElem hlt, List.all_append, hx]; simp
          have hw64 := wrap_succ (show i + 1 < 2 ^ 63 by omega)
          by_cases hd : x = [46, 46]
          · have hd' : (x ≠ [46, 46]) = False := by simp [hd]
            simp only [W_seq, W_reg, W_cond, W_blk, W_skip, W_exit, W_ret, W_regD, WO_nil, WO_cons, WO_guard2, wantV_b, bq_tt, bq_ft, bq_tf, bq_ff, Bool.not_true, Bool.not_false, WD_nil, WD_cons, WD_guard2, WS_some, WS_none, KS_n, KS_x, KS_r, KB_n, KB_x, KB_r, KN_ap, KO_ap, KD_ap, KC_nil, KF_n, KF_r, KG_n, KG_r, KL_n, KL_x, KL_r, CP_true, CP_false, evOp, evX, X.ev, optX, put_some, put_none, get_set2, sel_t, sel_f, Nat.reduceBEq, Nat.reduceAdd, Nat.reduceLT, Nat.reduceLeDiff, Nat.reduceEqDiff, reduceIte, if_true, if_false, bi_add, bi_sub, bi_mul, bi_eql, bi_neq, bi_lss, bi_leq, bi_gtr, bi_geq, bs_eql, bs_neq, bs_lss, Am.unOp, ret1, pubL, pubC_agg, pubC_s, pubC_i, pubC_b, pubC_p, pubC_np, pubC_nsl, pubC_ws, pubC_full, pubC_shut, pubC_fn, pubA, initT, wkZ, wk, wants, resOf, tupOf, quiet, AOp.cls, Nat.beq_eq, Bool.or_eq_true, decide_true, decide_false, beq_self_eq_true, Bool.true_or, Bool.or_true, true_and, and_true, lenA, eqv, eqB, eqP, scal, new_box_self, List.getElem?_cons_zero, List.getElem?_cons_succ, key_ii, key_ss, findM, updM, esc_i, esc_s, esc_b, Int.reduceEq, ret1, new_nb, new_set, reduceCtorEq, Bool.xor_true, Bool.xor_false, Bool.false_eq_true, List.all_cons, List.all_nil, noTok, Bool.and_self, Bool.and_true, Bool.true_and, or_true, false_or, g4, g5, natOf_nat, hget, cells_s, ldA_1, hd', hw64]
            exact ⟨n - 1, by omega, i + 1, by omega, rfl, by rw [hst2, hall]; simp [ckOk, hd]⟩
          have hd' : (x ≠ [46, 46]) = True := by simp [hd]
          have hname := refName_ok x (by omega) s.enter
          cases hb2 : nameP x with
          | true =>
            rw [hb2] at hname
            simp only [W_seq, W_reg, W_cond, W_blk, W_skip, W_exit, W_ret, W_regD, WO_nil, WO_cons, WO_guard2, wantV_b, bq_tt, bq_ft, bq_tf, bq_ff, Bool.not_true, Bool.not_false, WD_nil, WD_cons, WD_guard2, WS_some, WS_none, KS_n, KS_x, KS_r, KB_n, KB_x, KB_r, KN_ap, KO_ap, KD_ap, KC_nil, KF_n, KF_r, KG_n, KG_r, KL_n, KL_x, KL_r, CP_true, CP_false, evOp, evX, X.ev, optX, put_some, put_none, get_set2, sel_t, sel_f, Nat.reduceBEq, Nat.reduceAdd, Nat.reduceLT, Nat.reduceLeDiff, Nat.reduceEqDiff, reduceIte, if_true, if_false, bi_add, bi_sub, bi_mul, bi_eql, bi_neq, bi_lss, bi_leq, bi_gtr, bi_geq, bs_eql, bs_neq, bs_lss, Am.unOp, ret1, pubL, pubC_agg, pubC_s, pubC_i, pubC_b, pubC_p, pubC_np, pubC_nsl, pubC_ws, pubC_full, pubC_shut, pubC_fn, pubA, initT, wkZ, wk, wants, resOf, tupOf, quiet, AOp.cls, Nat.beq_eq, Bool.or_eq_true, decide_true, decide_false, beq_self_eq_true, Bool.true_or, Bool.or_true, true_and, and_true, lenA, eqv, eqB, eqP, scal, new_box_self, List.getElem?_cons_zero, List.getElem?_cons_succ, key_ii, key_ss, findM, updM, esc_i, esc_s, esc_b, Int.reduceEq, ret1, new_nb, new_set, reduceCtorEq, Bool.xor_true, Bool.xor_false, Bool.false_eq_true, List.all_cons, List.all_nil, noTok, Bool.and_self, Bool.and_true, Bool.true_and, or_true, false_or, g4, g5, natOf_nat, hget, cells_s, ldA_1, hd', hname, hw64]
            exact ⟨n - 1, by omega, i + 1, by omega, rfl, by rw [hst2, hall]; simp [ckOk, hb2]⟩
          | false =>
            rw [hb2] at hname
            simp only [W_seq, W_reg, W_cond, W_blk, W_skip, W_exit, W_ret, W_regD, WO_nil, WO_cons, WO_guard2, wantV_b, bq_tt, bq_ft, bq_tf, bq_ff, Bool.not_true, Bool.not_false, WD_nil, WD_cons, WD_guard2, WS_some, WS_none, KS_n, KS_x, KS_r, KB_n, KB_x, KB_r, KN_ap, KO_ap, KD_ap, KC_nil, KF_n, KF_r, KG_n, KG_r, KL_n, KL_x, KL_r, CP_true, CP_false, evOp, evX, X.ev, optX, put_some, put_none, get_set2, sel_t, sel_f, Nat.reduceBEq, Nat.reduceAdd, Nat.reduceLT, Nat.reduceLeDiff, Nat.reduceEqDiff, reduceIte, if_true, if_false, bi_add, bi_sub, bi_mul, bi_eql, bi_neq, bi_lss, bi_leq, bi_gtr, bi_geq, bs_eql, bs_neq, bs_lss, Am.unOp, ret1, pubL, pubC_agg, pubC_s, pubC_i, pubC_b, pubC_p, pubC_np, pubC_nsl, pubC_ws, pubC_full, pubC_shut, pubC_fn, pubA, initT, wkZ, wk, wants, resOf, tupOf, quiet, AOp.cls, Nat.beq_eq, Bool.or_eq_true, decide_true, decide_false, beq_self_eq_true, Bool.true_or, Bool.or_true, true_and, and_true, lenA, eqv, eqB, eqP, scal, new_box_self, List.getElem?_cons_zero, List.getElem?_cons_succ, key_ii, key_ss, findM, updM, esc_i, esc_s, esc_b, Int.reduceEq, ret1, new_nb, new_set, reduceCtorEq, Bool.xor_true, Bool.xor_false, Bool.false_eq_true, List.all_cons, List.all_nil, noTok, Bool.and_self, Bool.and_true, Bool.true_and, or_true, false_or, g4, g5, natOf_nat, hget, cells_s, ldA_1, hd', hname]
            refine hk _ ?_
            have : L.all ckOk = false := by
              rw [List.all_eq_false]
              exact ⟨L[i], List.getElem_mem hlt, by rw [hx]; simp [ckOk, hd, hb2]⟩
            rw [hc2, this, if_neg (by simp)]
        · have hil : i = L.length := by omega
          rw [hil, List.take_length] at hall
          exact hk _ (by rw [hc2, if_pos hall])
      · simp only [W_seq, W_reg, W_cond, W_blk, W_skip, W_exit, W_ret, W_regD, WO_nil, WO_cons, WO_guard2, wantV_b, bq_tt, bq_ft, bq_tf, bq_ff, Bool.not_true, Bool.not_false, WD_nil, WD_cons, WD_guard2, WS_some, WS_none, KS_n, KS_x, KS_r, KB_n, KB_x, KB_r, KN_ap, KO_ap, KD_ap, KC_nil, KF_n, KF_r, KG_n, KG_r, KL_n, KL_x, KL_r, CP_true, CP_false, evOp, evX, X.ev, optX, put_some, put_none, get_set2, sel_t, sel_f, Nat.reduceBEq, Nat.reduceAdd, Nat.reduceLT, Nat.reduceLeDiff, Nat.reduceEqDiff, reduceIte, if_true, if_false, bi_add, bi_sub, bi_mul, bi_eql, bi_neq, bi_lss, bi_leq, bi_gtr, bi_geq, bs_eql, bs_neq, bs_lss, Am.unOp, ret1, pubL, pubC_agg, pubC_s, pubC_i, pubC_b, pubC_p, pubC_np, pubC_nsl, pubC_ws, pubC_full, pubC_shut, pubC_fn, pubA, initT, wkZ, wk, wants, resOf, tupOf, quiet, AOp.cls, Nat.beq_eq, Bool.or_eq_true, decide_true, decide_false, beq_self_eq_true, Bool.true_or, Bool.or_true, true_and, and_true, lenA, eqv, eqB, eqP, scal, new_box_self, List.getElem?_cons_zero, List.getElem?_cons_succ, key_ii, key_ss, findM, updM, esc_i, esc_s, esc_b, Int.reduceEq, ret1, new_nb, new_set, reduceCtorEq, Bool.xor_true, Bool.xor_false, Bool.false_eq_true, List.all_cons, List.all_nil, noTok, Bool.and_self, Bool.and_true, Bool.true_and, or_true, false_or]
        exact ⟨0, by omega, rfl, rfl⟩
  · simp only [W_seq, W_reg, W_cond, W_blk, W_skip, W_exit, W_ret, W_regD, WO_nil, WO_cons, WO_guard2, wantV_b, bq_tt, bq_ft, bq_tf, bq_ff, Bool.not_true, Bool.not_false, WD_nil, WD_cons, WD_guard2, WS_some, WS_none, KS_n, KS_x, KS_r, KB_n, KB_x, KB_r, KN_ap, KO_ap, KD_ap, KC_nil, KF_n, KF_r, KG_n, KG_r, KL_n, KL_x, KL_r, CP_true, CP_false, evOp, evX, X.ev, optX, put_some, put_none, get_set2, sel_t, sel_f, Nat.reduceBEq, Nat.reduceAdd, Nat.reduceLT, Nat.reduceLeDiff, Nat.reduceEqDiff, reduceIte, if_true, if_false, bi_add, bi_sub, bi_mul, bi_eql, bi_neq, bi_lss, bi_leq, bi_gtr, bi_geq, bs_eql, bs_neq, bs_lss, Am.unOp, ret1, pubL, pubC_agg, pubC_s, pubC_i, pubC_b, pubC_p, pubC_np, pubC_nsl, pubC_ws, pubC_full, pubC_shut, pubC_fn, pubA, initT, wkZ, wk, wants, resOf, tupOf, quiet, AOp.cls, Nat.beq_eq, Bool.or_eq_true, decide_true, decide_false, beq_self_eq_true, Bool.true_or, Bool.or_true, true_and, and_true, lenA, eqv, eqB, eqP, scal, new_box_self, List.getElem?_cons_zero, List.getElem?_cons_succ, key_ii, key_ss, findM, updM, esc_i, esc_s, esc_b, Int.reduceEq, ret1, new_nb, new_set, reduceCtorEq, Bool.xor_true, Bool.xor_false, Bool.false_eq_true, List.all_cons, List.all_nil, noTok, Bool.and_self, Bool.and_true, Bool.true_and, or_true, false_or]
    exact ⟨0, by omega, rfl, fun j hj h => by omega⟩

theorem contains0_ok (l : List Nat) (s : St) : (lim prog).call f_strings_Contains [.s l, .s [0]] s = some (.b (decide (0 ∈ l)), s) := by
  refine fn_W p_strings_Contains rfl rfl ?_
  have hix := index_ok l 0 (by decide) s.enter
  simp only [c_strings_Contains, W_seq, W_reg, W_cond, W_blk, W_skip, W_exit, W_ret, W_regD, WO_nil, WO_cons, WO_guard2, wantV_b, bq_tt, bq_ft, bq_tf, bq_ff, Bool.not_true, Bool.not_false, WD_nil, WD_cons, WD_guard2, WS_some, WS_none, KS_n, KS_x, KS_r, KB_n, KB_x, KB_r, KN_ap, KO_ap, KD_ap, KC_nil, KF_n, KF_r, KG_n, KG_r, KL_n, KL_x, KL_r, CP_true, CP_false, evOp, evX, X.ev, optX, put_some, put_none, get_set2, sel_t, sel_f, Nat.reduceBEq, Nat.reduceAdd, Nat.reduceLT, Nat.reduceLeDiff, Nat.reduceEqDiff, reduceIte, if_true, if_false, bi_add, bi_sub, bi_mul, bi_eql, bi_neq, bi_lss, bi_leq, bi_gtr, bi_geq, bs_eql, bs_neq, bs_lss, Am.unOp, ret1, pubL, pubC_agg, pubC_s, pubC_i, pubC_b, pubC_p, pubC_np, pubC_nsl, pubC_ws, pubC_full, pubC_shut, pubC_fn, pubA, initT, wkZ, wk, wants, resOf, tupOf, quiet, AOp.cls, Nat.beq_eq, Bool.or_eq_true, decide_true, decide_false, beq_self_eq_true, Bool.true_or, Bool.or_true, true_and, and_true, lenA, eqv, eqB, eqP, scal, new_box_self, List.getElem?_cons_zero, List.getElem?_cons_succ, key_ii, key_ss, findM, updM, esc_i, esc_s, esc_b, Int.reduceEq, ret1, new_nb, new_set, reduceCtorEq, Bool.xor_true, Bool.xor_false, Bool.false_eq_true, List.all_cons, List.all_nil, noTok, Bool.and_self, Bool.and_true, Bool.true_and, or_true, false_or, hix]
  refine KR_some (Over.enter s) rfl ?_
  have := idxB_neg (c := 0) (l := l) (n := 0)
  have h2 : (0 ≤ idxB 0 0 l) = (0 ∈ l) := by
    apply propext
    constructor
    · intro h
      by_cases hm : 0 ∈ l
      · exact hm
      · exact absurd (this.2 hm) (by omega)
    · intro h
      by_cases hn : idxB 0 0 l < 0
      · exact absurd h (this.1 hn)
      · omega
  simp [tupOf, wkZ, wk, h2]

abbrev ckA : C := subC c_path_Check.body [1, 1, 0, 1, 0, 0]
abbrev ckC : C := subC c_path_Check.body [1, 1, 0, 1, 0, 1]
def CkI (l : List Nat) (k ido : Nat) (e : Tr) (j : Nat) (q : St) : Prop :=
  q.box? k = some (.loop 0 none e [17] ckA ckC) ∧ q.box? ido = some (.cells 33 [.i .i64 0]) ∧ ((stepsL l).take j).all ckOk = true
def CkR (l : List Nat) (k ido : Nat) (q : St) : Prop :=
  (∃ tm ps a b, q.box? k = some (.loop 2 (some .ret) tm ps a b)) ∧ q.box? ido = some (.cells 33 [.i .i64 4]) ∧ (stepsL l).all ckOk = false

theorem checkBody {l : List Nat} (hl : Txt l) {s : St} {k ido tB : Nat} {e : Tr} (hido : ido < k) (hs : s.nb ≤ ido) (g2 : e.get 2 = .p ido 0) :
    Body prog (fun _ => False) s (k + 1) tB (.yld k) ((stepsL l).map .s) (CkI l k ido e) (CkR l k ido) where
  stab := fun j q q' ⟨h1, h2, h3⟩ f => ⟨by rw [f.box k (by omega) (by simp)]; exact h1, by rw [f.box ido (by omega) (by simp)]; exact h2, h3⟩
  stab0 := fun q q' ⟨h1, h2, h3⟩ f => ⟨by rw [f.box k (by omega) (by simp)]; exact h1, by rw [f.box ido (by omega) (by simp)]; exact h2, h3⟩
  stabR := fun q q' ⟨⟨tm, ps, a, b, h1⟩, h2, h3⟩ f => ⟨⟨tm, ps, a, b, by rw [f.box k (by omega) (by simp)]; exact h1⟩, by rw [f.box ido (by omega) (by simp)]; exact h2, h3⟩
  step := by
    intro j hj q ⟨hk, hI, hall⟩ hov hw hh ht
    have hj' : j < (stepsL l).length := by simpa using hj
    have hLj : ((stepsL l).map AV.s)[j] = .s (stepsL l)[j] := by simp
    rw [hLj]
    have hmem := stepsL_mem (List.getElem_mem hj')
    obtain ⟨x, hx⟩ : ∃ x, (stepsL l)[j] = x := ⟨_, rfl⟩
    rw [hx] at hmem
    rw [hx]
    have hxt : Txt x := ⟨fun n hn => hl.lt n (hmem.2.2 n hn), by have := hl.len; omega⟩
    have hst : ((stepsL l).take (j + 1)).all ckOk = (((stepsL l).take j).all ckOk && ckOk x) := by
      rw [List.take_succ_eq_append_getElem hj', List.all_append, hx]; simp
    obtain ⟨q1, hq1⟩ : ∃ q1, q.setBox k (.loop 1 none e [17] ckA ckC) = q1 := ⟨_, rfl⟩
    have w1 : Wf q1 := by rw [← hq1]; exact hw.setBox _ _
    have nb1 : q1.nb = q.nb ∧ q1.nt = q.nt := by rw [← hq1]; exact ⟨rfl, rfl⟩
    have bx1 : ∀ i, q1.box? i = if i = k then some (.loop 1 none e [17] ckA ckC) else q.box? i := fun i => by rw [← hq1]; exact setBox_box? hw.b (by omega) i
    have ov1 : Over s q1 := by rw [← hq1]; exact Over.setBox hov (by omega) (by omega) _
    have hb1 : q1.box? ido = some (.cells 33 [.i .i64 0]) := by rw [bx1, if_neg (by omega)]; exact hI
    have keep1 : ∀ i, (False ∨ k + 1 ≤ i) → i < q.nb → q1.box? i = q.box? i := fun i hi hlt => by
      have hi' : k + 1 ≤ i := hi.resolve_left id
      rw [bx1, if_neg (by omega)]
    have b1k := bx1 k
    rw [if_pos rfl] at b1k
    have hgo : ckOk x = true → ∀ e' : Tr, YK k (RoundK (fun _ => False) (k + 1) s q (CkI l k ido e (j + 1)) (CkR l k ido)) .n e' q1 := fun hs' e' => by
      refine round_end b1k (by omega) w1 ov1 (by omega) (by omega) (by omega) (by simp) keep1 (fun _ => ⟨?_, ?_, ?_⟩) (fun hh => by simp at hh) (fun i hh => by simp at hh)
      · rw [setBox_box? w1.b (by omega), if_pos rfl]
      · rw [setBox_box? w1.b (by omega), if_neg (by omega)]; exact hb1
      · rw [hst, hall, hs']; rfl
    refine round_step ?_
    refine callY_W (t := e.set 10 17 (.s x)) hk rfl ?_
    simp only [ckA, c_path_Check, subC, W_seq, W_reg, W_cond, W_blk, W_skip, W_exit, W_ret, W_regD, WO_nil, WO_cons, WO_guard2, wantV_b, bq_tt, bq_ft, bq_tf, bq_ff, Bool.not_true, Bool.not_false, WD_nil, WD_cons, WD_guard2, WS_some, WS_none, KS_n, KS_x, KS_r, KB_n, KB_x, KB_r, KN_ap, KO_ap, KD_ap, KC_nil, KF_n, KF_r, KG_n, KG_r, KL_n, KL_x, KL_r, CP_true, CP_false, evOp, evX, X.ev, optX, put_some, put_none, get_set2, sel_t, sel_f, Nat.reduceBEq, Nat.reduceAdd, Nat.reduceLT, Nat.reduceLeDiff, Nat.reduceEqDiff, reduceIte, if_true, if_false, bi_add, bi_sub, bi_mul, bi_eql, bi_neq, bi_lss, bi_leq, bi_gtr, bi_geq, bs_eql, bs_neq, bs_lss, Am.unOp, ret1, pubL, pubC_agg, pubC_s, pubC_i, pubC_b, pubC_p, pubC_np, pubC_nsl, pubC_ws, pubC_full, pubC_shut, pubC_fn, pubA, initT, wkZ, wk, wants, resOf, tupOf, quiet, AOp.cls, Nat.beq_eq, Bool.or_eq_true, decide_true, decide_false, beq_self_eq_true, Bool.true_or, Bool.or_true, true_and, and_true, lenA, eqv, eqB, eqP, scal, new_box_self, List.getElem?_cons_zero, List.getElem?_cons_succ, key_ii, key_ss, findM, updM, esc_i, esc_s, esc_b, Int.reduceEq, ret1, new_nb, new_set, reduceCtorEq, Bool.xor_true, Bool.xor_false, Bool.false_eq_true, List.all_cons, List.all_nil, noTok, Bool.and_self, Bool.and_true, Bool.true_and, or_true, false_or]
    refine ⟨_, _, _, _, hk, ?_⟩
    rw [hq1]
    by_cases hd : x = [46, 46]
    · have hd' : (x ≠ [46, 46]) = False := by simp [hd]
      simp only [ckC, c_path_Check, subC, W_seq, W_reg, W_cond, W_blk, W_skip, W_exit, W_ret, W_regD, WO_nil, WO_cons, WO_guard2, wantV_b, bq_tt, bq_ft, bq_tf, bq_ff, Bool.not_true, Bool.not_false, WD_nil, WD_cons, WD_guard2, WS_some, WS_none, KS_n, KS_x, KS_r, KB_n, KB_x, KB_r, KN_ap, KO_ap, KD_ap, KC_nil, KF_n, KF_r, KG_n, KG_r, KL_n, KL_x, KL_r, CP_true, CP_false, evOp, evX, X.ev, optX, put_some, put_none, get_set2, sel_t, sel_f, Nat.reduceBEq, Nat.reduceAdd, Nat.reduceLT, Nat.reduceLeDiff, Nat.reduceEqDiff, reduceIte, if_true, if_false, bi_add, bi_sub, bi_mul, bi_eql, bi_neq, bi_lss, bi_leq, bi_gtr, bi_geq, bs_eql, bs_neq, bs_lss, Am.unOp, ret1, pubL, pubC_agg, pubC_s, pubC_i, pubC_b, pubC_p, pubC_np, pubC_nsl, pubC_ws, pubC_full, pubC_shut, pubC_fn, pubA, initT, wkZ, wk, wants, resOf, tupOf, quiet, AOp.cls, Nat.beq_eq, Bool.or_eq_true, decide_true, decide_false, beq_self_eq_true, Bool.true_or, Bool.or_true, true_and, and_true, lenA, eqv, eqB, eqP, scal, new_box_self, List.getElem?_cons_zero, List.getElem?_cons_succ, key_ii, key_ss, findM, updM, esc_i, esc_s, esc_b, Int.reduceEq, ret1, new_nb, new_set, reduceCtorEq, Bool.xor_true, Bool.xor_false, Bool.false_eq_true, List.all_cons, List.all_nil, noTok, Bool.and_self, Bool.and_true, Bool.true_and, or_true, false_or, hd']
      exact hgo (by simp [ckOk, hd]) _
    have hd' : (x ≠ [46, 46]) = True := by simp [hd]
    have hname := name_ok x hxt q1 w1
    cases hb2 : nameP x with
    | true =>
      rw [hb2] at hname
      simp only [ckC, c_path_Check, subC, W_seq, W_reg, W_cond, W_blk, W_skip, W_exit, W_ret, W_regD, WO_nil, WO_cons, WO_guard2, wantV_b, bq_tt, bq_ft, bq_tf, bq_ff, Bool.not_true, Bool.not_false, WD_nil, WD_cons, WD_guard2, WS_some, WS_none, KS_n, KS_x, KS_r, KB_n, KB_x, KB_r, KN_ap, KO_ap, KD_ap, KC_nil, KF_n, KF_r, KG_n, KG_r, KL_n, KL_x, KL_r, CP_true, CP_false, evOp, evX, X.ev, optX, put_some, put_none, get_set2, sel_t, sel_f, Nat.reduceBEq, Nat.reduceAdd, Nat.reduceLT, Nat.reduceLeDiff, Nat.reduceEqDiff, reduceIte, if_true, if_false, bi_add, bi_sub, bi_mul, bi_eql, bi_neq, bi_lss, bi_leq, bi_gtr, bi_geq, bs_eql, bs_neq, bs_lss, Am.unOp, ret1, pubL, pubC_agg, pubC_s, pubC_i, pubC_b, pubC_p, pubC_np, pubC_nsl, pubC_ws, pubC_full, pubC_shut, pubC_fn, pubA, initT, wkZ, wk, wants, resOf, tupOf, quiet, AOp.cls, Nat.beq_eq, Bool.or_eq_true, decide_true, decide_false, beq_self_eq_true, Bool.true_or, Bool.or_true, true_and, and_true, lenA, eqv, eqB, eqP, scal, new_box_self, List.getElem?_cons_zero, List.getElem?_cons_succ, key_ii, key_ss, findM, updM, esc_i, esc_s, esc_b, Int.reduceEq, ret1, new_nb, new_set, reduceCtorEq, Bool.xor_true, Bool.xor_false, Bool.false_eq_true, List.all_cons, List.all_nil, noTok, Bool.and_self, Bool.and_true, Bool.true_and, or_true, false_or, hd', hname]
      exact hgo (by simp [ckOk, hb2]) _
    | false =>
      rw [hb2] at hname
      have est := st_box (s := q1) (v := .i .i64 4) (off := 0) hb1 rfl rfl (by simp)
      have hes : esc (q1.setBox ido (.cells 33 ([AV.i .i64 0].set 0 (.i .i64 4)))) ido (.i .i64 4) = q1.setBox ido (.cells 33 [.i .i64 4]) := rfl
      rw [hes] at est
      obtain ⟨q2, hq2⟩ : ∃ q2, q1.setBox ido (.cells 33 [.i .i64 4]) = q2 := ⟨_, rfl⟩
      rw [hq2] at est
      have w2 : Wf q2 := by rw [← hq2]; exact w1.setBox _ _
      have nb2 : q2.nb = q1.nb ∧ q2.nt = q1.nt := by rw [← hq2]; exact ⟨rfl, rfl⟩
      have bx2 : ∀ i, q2.box? i = if i = ido then some (.cells 33 [.i .i64 4]) else q1.box? i := fun i => by rw [← hq2]; exact setBox_box? w1.b (by omega) i
      have ov2 : Over s q2 := by rw [← hq2]; exact Over.setBox ov1 hs (by omega) _
      have b2k : q2.box? k = some (.loop 1 none e [17] ckA ckC) := by rw [bx2, if_neg (by omega)]; exact b1k
      have hbad : (stepsL l).all ckOk = false := by
        rw [List.all_eq_false]
        exact ⟨(stepsL l)[j], List.getElem_mem hj', by rw [hx]; simp [ckOk, hd, hb2]⟩
      have hfin : ∀ e' : Tr, YK k (RoundK (fun _ => False) (k + 1) s q (CkI l k ido e (j + 1)) (CkR l k ido)) .r e' q2 := fun e' => by
        refine round_end b2k (by omega) w2 ov2 (by omega) (by omega) (by omega) (by simp) (fun i hi hlt => by
          have hi' : k + 1 ≤ i := hi.resolve_left id
          rw [bx2, if_neg (by omega)]; exact keep1 i hi hlt) (fun hh => by simp at hh) (fun _ => ⟨⟨_, _, _, _, by rw [setBox_box? w2.b (by omega), if_pos rfl]⟩, ?_, hbad⟩) (fun i hh => by simp at hh)
        rw [setBox_box? w2.b (by omega), if_neg (by omega), bx2, if_pos rfl]
      simp only [ckC, c_path_Check, subC, W_seq, W_reg, W_cond, W_blk, W_skip, W_exit, W_ret, W_regD, WO_nil, WO_cons, WO_guard2, wantV_b, bq_tt, bq_ft, bq_tf, bq_ff, Bool.not_true, Bool.not_false, WD_nil, WD_cons, WD_guard2, WS_some, WS_none, KS_n, KS_x, KS_r, KB_n, KB_x, KB_r, KN_ap, KO_ap, KD_ap, KC_nil, KF_n, KF_r, KG_n, KG_r, KL_n, KL_x, KL_r, CP_true, CP_false, evOp, evX, X.ev, optX, put_some, put_none, get_set2, sel_t, sel_f, Nat.reduceBEq, Nat.reduceAdd, Nat.reduceLT, Nat.reduceLeDiff, Nat.reduceEqDiff, reduceIte, if_true, if_false, bi_add, bi_sub, bi_mul, bi_eql, bi_neq, bi_lss, bi_leq, bi_gtr, bi_geq, bs_eql, bs_neq, bs_lss, Am.unOp, ret1, pubL, pubC_agg, pubC_s, pubC_i, pubC_b, pubC_p, pubC_np, pubC_nsl, pubC_ws, pubC_full, pubC_shut, pubC_fn, pubA, initT, wkZ, wk, wants, resOf, tupOf, quiet, AOp.cls, Nat.beq_eq, Bool.or_eq_true, decide_true, decide_false, beq_self_eq_true, Bool.true_or, Bool.or_true, true_and, and_true, lenA, eqv, eqB, eqP, scal, new_box_self, List.getElem?_cons_zero, List.getElem?_cons_succ, key_ii, key_ss, findM, updM, esc_i, esc_s, esc_b, Int.reduceEq, ret1, new_nb, new_set, reduceCtorEq, Bool.xor_true, Bool.xor_false, Bool.false_eq_true, List.all_cons, List.all_nil, noTok, Bool.and_self, Bool.and_true, Bool.true_and, or_true, false_or, g2, hd', hname, Nat.zero_add, est]
      exact hfin _

theorem pathCheck_ok (l : List Nat) (hl : Txt l) (hlen : l.length < 2 ^ 36) (s : St) (hw : Wf s) : (lim prog).call f_path_Check [.s l] s = some (.i .i64 (checkL l), s) := by
  refine fn_W p_path_Check rfl rfl ?_
  obtain ⟨q1, hq1⟩ : ∃ q1, s.enter.new (.cells 33 [.i .i64 0]) = q1 := ⟨_, rfl⟩
  have w1 : Wf q1 := by rw [← hq1]; exact hw.enter.new _
  have n1 : q1.nb = s.nb + 1 ∧ q1.nt = s.nt ∧ q1.lo = s.nb := by rw [← hq1]; exact ⟨rfl, rfl, rfl⟩
  have ov1 : Over s q1 := by rw [← hq1]; exact (Over.enter s).new _
  have bo1 : q1.box? s.nb = some (.cells 33 [.i .i64 0]) := by rw [← hq1]; exact new_box_self s.enter _
  have hnb : s.enter.nb = s.nb := rfl
  -- a number is stored and told
  have hput : ∀ (q : St) (z y : Int), Wf q → Over s q → s.nb < q.nb → q.box? s.nb = some (.cells 33 [.i .i64 z]) → stA q 1 (.p s.nb 0) (.i .i64 y) = some (q.setBox s.nb (.cells 33 [.i .i64 y])) ∧ Over s (q.setBox s.nb (.cells 33 [.i .i64 y])) ∧ ldA (q.setBox s.nb (.cells 33 [.i .i64 y])) false 1 (.p s.nb 0) = some (.i .i64 y) := fun q z y hwq hov hlt hb => by
    refine ⟨?_, Over.setBox hov (Nat.le_refl _) hlt _, ld_box (v := .i .i64 y) (by rw [setBox_box? hwq.b hlt, if_pos rfl]) rfl⟩
    have est := st_box (s := q) (v := .i .i64 y) (off := 0) hb rfl rfl (by simp)
    exact est
  have hc0 := contains0_ok l q1
  by_cases hz : l = []
  · have hz' : (l = []) = True := by simp [hz]
    obtain ⟨e1, e2, e3⟩ := hput q1 0 4 w1 ov1 (by omega) bo1
    simp only [c_path_Check, W_seq, W_reg, W_cond, W_blk, W_skip, W_exit, W_ret, W_regD, WO_nil, WO_cons, WO_guard2, wantV_b, bq_tt, bq_ft, bq_tf, bq_ff, Bool.not_true, Bool.not_false, WD_nil, WD_cons, WD_guard2, WS_some, WS_none, KS_n, KS_x, KS_r, KB_n, KB_x, KB_r, KN_ap, KO_ap, KD_ap, KC_nil, KF_n, KF_r, KG_n, KG_r, KL_n, KL_x, KL_r, CP_true, CP_false, evOp, evX, X.ev, optX, put_some, put_none, get_set2, sel_t, sel_f, Nat.reduceBEq, Nat.reduceAdd, Nat.reduceLT, Nat.reduceLeDiff, Nat.reduceEqDiff, reduceIte, if_true, if_false, bi_add, bi_sub, bi_mul, bi_eql, bi_neq, bi_lss, bi_leq, bi_gtr, bi_geq, bs_eql, bs_neq, bs_lss, Am.unOp, ret1, pubL, pubC_agg, pubC_s, pubC_i, pubC_b, pubC_p, pubC_np, pubC_nsl, pubC_ws, pubC_full, pubC_shut, pubC_fn, pubA, initT, wkZ, wk, wants, resOf, tupOf, quiet, AOp.cls, Nat.beq_eq, Bool.or_eq_true, decide_true, decide_false, beq_self_eq_true, Bool.true_or, Bool.or_true, true_and, and_true, lenA, eqv, eqB, eqP, scal, new_box_self, List.getElem?_cons_zero, List.getElem?_cons_succ, key_ii, key_ss, findM, updM, esc_i, esc_s, esc_b, Int.reduceEq, ret1, new_nb, new_set, reduceCtorEq, Bool.xor_true, Bool.xor_false, Bool.false_eq_true, List.all_cons, List.all_nil, noTok, Bool.and_self, Bool.and_true, Bool.true_and, or_true, false_or, hnb, hq1, hz', e1, e3, frz]
    exact KR_some e2 rfl (by unfold checkL; rw [if_pos (.inl hz)]; rfl)
  have hz' : (l = []) = False := by simp [hz]
  by_cases h0 : 0 ∈ l
  · have h0' : (0 ∈ l) = True := by simp [h0]
    obtain ⟨e1, e2, e3⟩ := hput q1 0 4 w1 ov1 (by omega) bo1
    simp only [c_path_Check, W_seq, W_reg, W_cond, W_blk, W_skip, W_exit, W_ret, W_regD, WO_nil, WO_cons, WO_guard2, wantV_b, bq_tt, bq_ft, bq_tf, bq_ff, Bool.not_true, Bool.not_false, WD_nil, WD_cons, WD_guard2, WS_some, WS_none, KS_n, KS_x, KS_r, KB_n, KB_x, KB_r, KN_ap, KO_ap, KD_ap, KC_nil, KF_n, KF_r, KG_n, KG_r, KL_n, KL_x, KL_r, CP_true, CP_false, evOp, evX, X.ev, optX, put_some, put_none, get_set2, sel_t, sel_f, Nat.reduceBEq, Nat.reduceAdd, Nat.reduceLT, Nat.reduceLeDiff, Nat.reduceEqDiff, reduceIte, if_true, if_false, bi_add, bi_sub, bi_mul, bi_eql, bi_neq, bi_lss, bi_leq, bi_gtr, bi_geq, bs_eql, bs_neq, bs_lss, Am.unOp, ret1, pubL, pubC_agg, pubC_s, pubC_i, pubC_b, pubC_p, pubC_np, pubC_nsl, pubC_ws, pubC_full, pubC_shut, pubC_fn, pubA, initT, wkZ, wk, wants, resOf, tupOf, quiet, AOp.cls, Nat.beq_eq, Bool.or_eq_true, decide_true, decide_false, beq_self_eq_true, Bool.true_or, Bool.or_true, true_and, and_true, lenA, eqv, eqB, eqP, scal, new_box_self, List.getElem?_cons_zero, List.getElem?_cons_succ, key_ii, key_ss, findM, updM, esc_i, esc_s, esc_b, Int.reduceEq, ret1, new_nb, new_set, reduceCtorEq, Bool.xor_true, Bool.xor_false, Bool.false_eq_true, List.all_cons, List.all_nil, noTok, Bool.and_self, Bool.and_true, Bool.true_and, or_true, false_or, hnb, hq1, hz', hc0, h0', e1, e3, frz]
    exact KR_some e2 rfl (by unfold checkL; rw [if_pos (.inr h0)]; rfl)
  have h0' : (0 ∈ l) = False := by simp [h0]
  have hc1 : checkL l = if 256 < l.length then 40 else if (stepsL l).all ckOk = true then 0 else 4 := by unfold checkL; rw [if_neg (by simp [hz, h0])]
  by_cases h256 : (256 : Int) < (l.length : Int)
  · obtain ⟨e1, e2, e3⟩ := hput q1 0 40 w1 ov1 (by omega) bo1
    simp only [c_path_Check, W_seq, W_reg, W_cond, W_blk, W_skip, W_exit, W_ret, W_regD, WO_nil, WO_cons, WO_guard2, wantV_b, bq_tt, bq_ft, bq_tf, bq_ff, Bool.not_true, Bool.not_false, WD_nil, WD_cons, WD_guard2, WS_some, WS_none, KS_n, KS_x, KS_r, KB_n, KB_x, KB_r, KN_ap, KO_ap, KD_ap, KC_nil, KF_n, KF_r, KG_n, KG_r, KL_n, KL_x, KL_r, CP_true, CP_false, evOp, evX, X.ev, optX, put_some, put_none, get_set2, sel_t, sel_f, Nat.reduceBEq, Nat.reduceAdd, Nat.reduceLT, Nat.reduceLeDiff, Nat.reduceEqDiff, reduceIte, if_true, if_false, bi_add, bi_sub, bi_mul, bi_eql, bi_neq, bi_lss, bi_leq, bi_gtr, bi_geq, bs_eql, bs_neq, bs_lss, Am.unOp, ret1, pubL, pubC_agg, pubC_s, pubC_i, pubC_b, pubC_p, pubC_np, pubC_nsl, pubC_ws, pubC_full, pubC_shut, pubC_fn, pubA, initT, wkZ, wk, wants, resOf, tupOf, quiet, AOp.cls, Nat.beq_eq, Bool.or_eq_true, decide_true, decide_false, beq_self_eq_true, Bool.true_or, Bool.or_true, true_and, and_true, lenA, eqv, eqB, eqP, scal, new_box_self, List.getElem?_cons_zero, List.getElem?_cons_succ, key_ii, key_ss, findM, updM, esc_i, esc_s, esc_b, Int.reduceEq, ret1, new_nb, new_set, reduceCtorEq, Bool.xor_true, Bool.xor_false, Bool.false_eq_true, List.all_cons, List.all_nil, noTok, Bool.and_self, Bool.and_true, Bool.true_and, or_true, false_or, hnb, hq1, hz', hc0, h0', ofNat_len, h256, e1, e3, frz]
    exact KR_some e2 rfl (by rw [hc1, if_pos (by omega)]; rfl)
  have hc2 : checkL l = if (stepsL l).all ckOk = true then 0 else 4 := by rw [hc1, if_neg (by omega)]
  have hst := steps_ok l q1
  obtain ⟨q2, hq2⟩ : ∃ q2, ({ q1.new (.cells 9 [.s l]) with lo := min q1.lo q1.nb } : St) = q2 := ⟨_, rfl⟩
  rw [hq2] at hst
  have w2 : Wf q2 := by rw [← hq2]; exact (w1.new _).lo _
  have n2 : q2.nb = s.nb + 2 ∧ q2.nt = s.nt := by rw [← hq2]; exact ⟨by show q1.nb + 1 = _; omega, n1.2.1⟩
  have ov2 : Over s q2 := by rw [← hq2]; exact Over.setLo (ov1.new _) (by omega)
  have bo2 : q2.box? s.nb = some (.cells 33 [.i .i64 0]) := by
    rw [← hq2]
    show (q1.new _).box? s.nb = _
    rw [new_box_lt (by omega)]; exact bo1
  have bs2 : q2.box? q1.nb = some (.cells 9 [.s l]) := by rw [← hq2]; exact new_box_self q1 _
  simp only [c_path_Check, W_seq, W_reg, W_cond, W_blk, W_skip, W_exit, W_ret, W_regD, WO_nil, WO_cons, WO_guard2, wantV_b, bq_tt, bq_ft, bq_tf, bq_ff, Bool.not_true, Bool.not_false, WD_nil, WD_cons, WD_guard2, WS_some, WS_none, KS_n, KS_x, KS_r, KB_n, KB_x, KB_r, KN_ap, KO_ap, KD_ap, KC_nil, KF_n, KF_r, KG_n, KG_r, KL_n, KL_x, KL_r, CP_true, CP_false, evOp, evX, X.ev, optX, put_some, put_none, get_set2, sel_t, sel_f, Nat.reduceBEq, Nat.reduceAdd, Nat.reduceLT, Nat.reduceLeDiff, Nat.reduceEqDiff, reduceIte, if_true, if_false, bi_add, bi_sub, bi_mul, bi_eql, bi_neq, bi_lss, bi_leq, bi_gtr, bi_geq, bs_eql, bs_neq, bs_lss, Am.unOp, ret1, pubL, pubC_agg, pubC_s, pubC_i, pubC_b, pubC_p, pubC_np, pubC_nsl, pubC_ws, pubC_full, pubC_shut, pubC_fn, pubA, initT, wkZ, wk, wants, resOf, tupOf, quiet, AOp.cls, Nat.beq_eq, Bool.or_eq_true, decide_true, decide_false, beq_self_eq_true, Bool.true_or, Bool.or_true, true_and, and_true, lenA, eqv, eqB, eqP, scal, new_box_self, List.getElem?_cons_zero, List.getElem?_cons_succ, key_ii, key_ss, findM, updM, esc_i, esc_s, esc_b, Int.reduceEq, ret1, new_nb, new_set, reduceCtorEq, Bool.xor_true, Bool.xor_false, Bool.false_eq_true, List.all_cons, List.all_nil, noTok, Bool.and_self, Bool.and_true, Bool.true_and, or_true, false_or, hnb, hq1, hz', hc0, h0', ofNat_len, h256, hst]
  refine W_cut (fun e => e.get 2 = .p s.nb 0 ∧ e.get 16 = .fn f_path_steps_1 [.p q1.nb 0]) ⟨by simp only [W_seq, W_reg, W_cond, W_blk, W_skip, W_exit, W_ret, W_regD, WO_nil, WO_cons, WO_guard2, wantV_b, bq_tt, bq_ft, bq_tf, bq_ff, Bool.not_true, Bool.not_false, WD_nil, WD_cons, WD_guard2, WS_some, WS_none, KS_n, KS_x, KS_r, KB_n, KB_x, KB_r, KN_ap, KO_ap, KD_ap, KC_nil, KF_n, KF_r, KG_n, KG_r, KL_n, KL_x, KL_r, CP_true, CP_false, evOp, evX, X.ev, optX, put_some, put_none, get_set2, sel_t, sel_f, Nat.reduceBEq, Nat.reduceAdd, Nat.reduceLT, Nat.reduceLeDiff, Nat.reduceEqDiff, reduceIte, if_true, if_false, bi_add, bi_sub, bi_mul, bi_eql, bi_neq, bi_lss, bi_leq, bi_gtr, bi_geq, bs_eql, bs_neq, bs_lss, Am.unOp, ret1, pubL, pubC_agg, pubC_s, pubC_i, pubC_b, pubC_p, pubC_np, pubC_nsl, pubC_ws, pubC_full, pubC_shut, pubC_fn, pubA, initT, wkZ, wk, wants, resOf, tupOf, quiet, AOp.cls, Nat.beq_eq, Bool.or_eq_true, decide_true, decide_false, beq_self_eq_true, Bool.true_or, Bool.or_true, true_and, and_true, lenA, eqv, eqB, eqP, scal, new_box_self, List.getElem?_cons_zero, List.getElem?_cons_succ, key_ii, key_ss, findM, updM, esc_i, esc_s, esc_b, Int.reduceEq, ret1, new_nb, new_set, reduceCtorEq, Bool.xor_true, Bool.xor_false, Bool.false_eq_true, List.all_cons, List.all_nil, noTok, Bool.and_self, Bool.and_true, Bool.true_and, or_true, false_or], by simp only [W_seq, W_reg, W_cond, W_blk, W_skip, W_exit, W_ret, W_regD, WO_nil, WO_cons, WO_guard2, wantV_b, bq_tt, bq_ft, bq_tf, bq_ff, Bool.not_true, Bool.not_false, WD_nil, WD_cons, WD_guard2, WS_some, WS_none, KS_n, KS_x, KS_r, KB_n, KB_x, KB_r, KN_ap, KO_ap, KD_ap, KC_nil, KF_n, KF_r, KG_n, KG_r, KL_n, KL_x, KL_r, CP_true, CP_false, evOp, evX, X.ev, optX, put_some, put_none, get_set2, sel_t, sel_f, Nat.reduceBEq, Nat.reduceAdd, Nat.reduceLT, Nat.reduceLeDiff, Nat.reduceEqDiff, reduceIte, if_true, if_false, bi_add, bi_sub, bi_mul, bi_eql, bi_neq, bi_lss, bi_leq, bi_gtr, bi_geq, bs_eql, bs_neq, bs_lss, Am.unOp, ret1, pubL, pubC_agg, pubC_s, pubC_i, pubC_b, pubC_p, pubC_np, pubC_nsl, pubC_ws, pubC_full, pubC_shut, pubC_fn, pubA, initT, wkZ, wk, wants, resOf, tupOf, quiet, AOp.cls, Nat.beq_eq, Bool.or_eq_true, decide_true, decide_false, beq_self_eq_true, Bool.true_or, Bool.or_true, true_and, and_true, lenA, eqv, eqB, eqP, scal, new_box_self, List.getElem?_cons_zero, List.getElem?_cons_succ, key_ii, key_ss, findM, updM, esc_i, esc_s, esc_b, Int.reduceEq, ret1, new_nb, new_set, reduceCtorEq, Bool.xor_true, Bool.xor_false, Bool.false_eq_true, List.all_cons, List.all_nil, noTok, Bool.and_self, Bool.and_true, Bool.true_and, or_true, false_or]⟩ ?_
  rintro e ⟨g2, g16⟩
  obtain ⟨q3, hq3⟩ : ∃ q3, q2.new (.loop 0 none e [17] ckA ckC) = q3 := ⟨_, rfl⟩
  have w3 : Wf q3 := by rw [← hq3]; exact w2.new _
  have n3 : q3.nb = s.nb + 3 ∧ q3.nt = s.nt := by rw [← hq3]; exact ⟨by show q2.nb + 1 = _; omega, n2.2⟩
  have ov3 : Over s q3 := by rw [← hq3]; exact ov2.new _
  have bx3 : ∀ i, i < q2.nb → q3.box? i = q2.box? i := fun i hi => by rw [← hq3]; exact new_box_lt hi
  have bk3 : q3.box? q2.nb = some (.loop 0 none e [17] ckA ckC) := by rw [← hq3]; exact new_box_self _ _
  obtain ⟨q4, hc4, ov4, w4, n4, t4, hI4⟩ := stepsIter (O := fun _ => False) (m := q3.nb) hl (s := q3) (a := q1.nb) (by rw [bx3 _ (by omega)]; exact bs2) (by omega) s (q2.nb + 1) s.nt q2.nb _ _
    (checkBody hl (k := q2.nb) (ido := s.nb) (e := e) (by omega) (Nat.le_refl _) g2)
    ⟨bk3, by rw [bx3 _ (by omega)]; exact bo2, rfl⟩ ov3 w3 (by omega) (by omega) (by omega) (by omega)
  rw [← hq3] at hc4
  refine W_rf g16 hc4 ?_
  have w5 : Wf (q4.setBox q2.nb .used) := w4.setBox _ _
  have ov5 : Over s (q4.setBox q2.nb .used) := Over.setBox ov4 (by omega) (by omega) _
  have bx5 : (q4.setBox q2.nb .used).box? s.nb = q4.box? s.nb := by rw [setBox_box? w4.b (by omega), if_neg (by omega)]
  have n5 : s.nb < (q4.setBox q2.nb .used).nb := by show s.nb < q4.nb; omega
  rcases hI4 with ⟨k1, k2, k3⟩ | ⟨⟨tm, ps, a, b, k1⟩, k2, k3⟩
  · refine ⟨_, _, _, _, _, _, k1, by decide, ?_⟩
    rw [List.length_map, List.take_length] at k3
    obtain ⟨e1, e2, e3⟩ := hput _ 0 0 w5 ov5 n5 (by rw [bx5]; exact k2)
    simp only [W_seq, W_reg, W_cond, W_blk, W_skip, W_exit, W_ret, W_regD, WO_nil, WO_cons, WO_guard2, wantV_b, bq_tt, bq_ft, bq_tf, bq_ff, Bool.not_true, Bool.not_false, WD_nil, WD_cons, WD_guard2, WS_some, WS_none, KS_n, KS_x, KS_r, KB_n, KB_x, KB_r, KN_ap, KO_ap, KD_ap, KC_nil, KF_n, KF_r, KG_n, KG_r, KL_n, KL_x, KL_r, CP_true, CP_false, evOp, evX, X.ev, optX, put_some, put_none, get_set2, sel_t, sel_f, Nat.reduceBEq, Nat.reduceAdd, Nat.reduceLT, Nat.reduceLeDiff, Nat.reduceEqDiff, reduceIte, if_true, if_false, bi_add, bi_sub, bi_mul, bi_eql, bi_neq, bi_lss, bi_leq, bi_gtr, bi_geq, bs_eql, bs_neq, bs_lss, Am.unOp, ret1, pubL, pubC_agg, pubC_s, pubC_i, pubC_b, pubC_p, pubC_np, pubC_nsl, pubC_ws, pubC_full, pubC_shut, pubC_fn, pubA, initT, wkZ, wk, wants, resOf, tupOf, quiet, AOp.cls, Nat.beq_eq, Bool.or_eq_true, decide_true, decide_false, beq_self_eq_true, Bool.true_or, Bool.or_true, true_and, and_true, lenA, eqv, eqB, eqP, scal, new_box_self, List.getElem?_cons_zero, List.getElem?_cons_succ, key_ii, key_ss, findM, updM, esc_i, esc_s, esc_b, Int.reduceEq, ret1, new_nb, new_set, reduceCtorEq, Bool.xor_true, Bool.xor_false, Bool.false_eq_true, List.all_cons, List.all_nil, noTok, Bool.and_self, Bool.and_true, Bool.true_and, or_true, false_or, g2, e1, e3, frz]
    exact KR_some e2 rfl (by rw [hc2, if_pos k3]; rfl)
  · refine ⟨_, _, _, _, _, _, k1, by decide, ?_⟩
    have lda := ld_box (s := q4.setBox q2.nb .used) (v := .i .i64 4) (off := 0) (by rw [bx5]; exact k2) rfl
    simp only [W_seq, W_reg, W_cond, W_blk, W_skip, W_exit, W_ret, W_regD, WO_nil, WO_cons, WO_guard2, wantV_b, bq_tt, bq_ft, bq_tf, bq_ff, Bool.not_true, Bool.not_false, WD_nil, WD_cons, WD_guard2, WS_some, WS_none, KS_n, KS_x, KS_r, KB_n, KB_x, KB_r, KN_ap, KO_ap, KD_ap, KC_nil, KF_n, KF_r, KG_n, KG_r, KL_n, KL_x, KL_r, CP_true, CP_false, evOp, evX, X.ev, optX, put_some, put_none, get_set2, sel_t, sel_f, Nat.reduceBEq, Nat.reduceAdd, Nat.reduceLT, Nat.reduceLeDiff, Nat.reduceEqDiff, reduceIte, if_true, if_false, bi_add, bi_sub, bi_mul, bi_eql, bi_neq, bi_lss, bi_leq, bi_gtr, bi_geq, bs_eql, bs_neq, bs_lss, Am.unOp, ret1, pubL, pubC_agg, pubC_s, pubC_i, pubC_b, pubC_p, pubC_np, pubC_nsl, pubC_ws, pubC_full, pubC_shut, pubC_fn, pubA, initT, wkZ, wk, wants, resOf, tupOf, quiet, AOp.cls, Nat.beq_eq, Bool.or_eq_true, decide_true, decide_false, beq_self_eq_true, Bool.true_or, Bool.or_true, true_and, and_true, lenA, eqv, eqB, eqP, scal, new_box_self, List.getElem?_cons_zero, List.getElem?_cons_succ, key_ii, key_ss, findM, updM, esc_i, esc_s, esc_b, Int.reduceEq, ret1, new_nb, new_set, reduceCtorEq, Bool.xor_true, Bool.xor_false, Bool.false_eq_true, List.all_cons, List.all_nil, noTok, Bool.and_self, Bool.and_true, Bool.true_and, or_true, false_or, g2, lda, frz]
    exact KR_some ov5 rfl (by rw [hc2, k3, if_neg (by simp)]; rfl)
end Go.Proofs.YtfaodjpibdhdjaaDoor

/-
  Rows that are boxes: compared, written over.
-/
set_option maxRecDepth 100000
set_option linter.unusedSimpArgs false
set_option linter.constructorNameAsVariable false
namespace Go.Proofs.YtfaodjpibdhdjaaDoor
open Go.Proofs.YtfaodjpibdhdjaaDoor.Am

/-- A row of texts that is a box. -/
def BX (s : St) (id : Nat) (M : List (List Nat)) : Prop := ∃ T rm, s.box? id = some (.row T (M.map .s) false rm)
theorem bx_ld {s : St} {id : Nat} {M : List (List Nat)} (h : BX s id M) {i : Nat} (hi : i < M.length) : ldA s false 1 (.p id i) = some (.s M[i]) := by
  obtain ⟨T, rm, h⟩ := h
  have hc : cut (M.map AV.s) i 1 = some [.s M[i]] := by
    unfold cut
    have : ((M.map AV.s).drop i).take 1 = [.s M[i]] := by
      rw [List.drop_eq_getElem_cons (by simpa using hi)]
      simp
    rw [this]; rfl
  simp only [ldA, St.cells?, h, hc, scal]
theorem bx_st {s : St} (hw : Wf s) {id : Nat} {M : List (List Nat)} (h : BX s id M) (hid : id < s.nb) {i : Nat} (hi : i < M.length) (x : List Nat) : ∃ s', stA s 1 (.p id i) (.s x) = some s' ∧ BX s' id (M.set i x) ∧ Wf s' ∧ s'.nb = s.nb ∧ s'.nt = s.nt ∧ ∀ s0 : St, s0.nb ≤ id → Over s0 s → Over s0 s' := by
  obtain ⟨T, rm, h⟩ := h
  have ho : overR (M.map AV.s) i [.s x] rm = some ((M.set i x).map .s) := by
    unfold overR
    rw [if_pos ⟨by simp; omega, by simp; omega⟩]
    rw [List.map_set, List.set_eq_take_append_cons_drop, if_pos (by simpa using hi)]
    rfl
  refine ⟨s.setBox id (.row T ((M.set i x).map .s) false rm), ?_, ⟨T, rm, by rw [setBox_box? hw.b hid, if_pos rfl]⟩, hw.setBox _ _, rfl, rfl, fun s0 h0 hov => Over.setBox hov h0 hid _⟩
  have hc : (AV.s x).cells = [.s x] := rfl
  have h1 : ones [AV.s x] = true := rfl
  simp only [stA, h, hc, h1, List.length_cons, List.length_nil, and_self, if_true, ho]
  rfl

theorem under_bl {s : St} {id : Nat} {L M : List (List Nat)} (hb : BX s id L) (hL : L.length < 2 ^ 62) (p : Nat × Bool) (hEq : L = M) : (lim prog).call f_touchstoneref06_Under [.bl id 1 0 L.length p, tx M] s = some (.b true, s) := by
  subst hEq
  refine fn_W p_touchstoneref06_Under rfl rfl ?_
  have hb' : BX s.enter id L := hb
  have hgt : ((L.length : Int) < (L.length : Int)) = False := by simp
  simp only [c_touchstoneref06_Under, W_seq, W_reg, W_cond, W_blk, W_skip, W_exit, W_ret, W_regD, WO_nil, WO_cons, WO_guard2, wantV_b, bq_tt, bq_ft, bq_tf, bq_ff, Bool.not_true, Bool.not_false, WD_nil, WD_cons, WD_guard2, WS_some, WS_none, KS_n, KS_x, KS_r, KB_n, KB_x, KB_r, KN_ap, KO_ap, KD_ap, KC_nil, KF_n, KF_r, KG_n, KG_r, KL_n, KL_x, KL_r, CP_true, CP_false, evOp, evX, X.ev, optX, put_some, put_none, get_set2, sel_t, sel_f, Nat.reduceBEq, Nat.reduceAdd, Nat.reduceLT, Nat.reduceLeDiff, Nat.reduceEqDiff, reduceIte, if_true, if_false, bi_add, bi_sub, bi_mul, bi_eql, bi_neq, bi_lss, bi_leq, bi_gtr, bi_geq, bs_eql, bs_neq, bs_lss, Am.unOp, ret1, pubL, pubC_agg, pubC_s, pubC_i, pubC_b, pubC_p, pubC_np, pubC_nsl, pubC_ws, pubC_full, pubC_shut, pubC_fn, pubA, initT, wkZ, wk, wants, resOf, tupOf, quiet, AOp.cls, Nat.beq_eq, Bool.or_eq_true, decide_true, decide_false, beq_self_eq_true, Bool.true_or, Bool.or_true, true_and, and_true, lenA, eqv, eqB, eqP, scal, new_box_self, List.getElem?_cons_zero, List.getElem?_cons_succ, key_ii, key_ss, findM, updM, esc_i, esc_s, esc_b, Int.reduceEq, ret1, new_nb, new_set, reduceCtorEq, Bool.xor_true, Bool.xor_false, Bool.false_eq_true, List.all_cons, List.all_nil, noTok, Bool.and_self, Bool.and_true, Bool.true_and, or_true, false_or, List.length_map, ofNat_len, hgt]
  refine W_loop (fun n e q => s.enter = q ∧ e.get 0 = .bl id 1 0 L.length p ∧ e.get 1 = tx L ∧ ∃ i : Nat, i + n = L.length ∧ e.get 5 = .i .i64 i) ?_ L.length _ _ ?_
  · rintro n e q ⟨rfl, g0, g1, i, hi, g5⟩
    simp only [W_seq, W_reg, W_cond, W_blk, W_skip, W_exit, W_ret, W_regD, WO_nil, WO_cons, WO_guard2, wantV_b, bq_tt, bq_ft, bq_tf, bq_ff, Bool.not_true, Bool.not_false, WD_nil, WD_cons, WD_guard2, WS_some, WS_none, KS_n, KS_x, KS_r, KB_n, KB_x, KB_r, KN_ap, KO_ap, KD_ap, KC_nil, KF_n, KF_r, KG_n, KG_r, KL_n, KL_x, KL_r, CP_true, CP_false, evOp, evX, X.ev, optX, put_some, put_none, get_set2, sel_t, sel_f, Nat.reduceBEq, Nat.reduceAdd, Nat.reduceLT, Nat.reduceLeDiff, Nat.reduceEqDiff, reduceIte, if_true, if_false, bi_add, bi_sub, bi_mul, bi_eql, bi_neq, bi_lss, bi_leq, bi_gtr, bi_geq, bs_eql, bs_neq, bs_lss, Am.unOp, ret1, pubL, pubC_agg, pubC_s, pubC_i, pubC_b, pubC_p, pubC_np, pubC_nsl, pubC_ws, pubC_full, pubC_shut, pubC_fn, pubA, initT, wkZ, wk, wants, resOf, tupOf, quiet, AOp.cls, Nat.beq_eq, Bool.or_eq_true, decide_true, decide_false, beq_self_eq_true, Bool.true_or, Bool.or_true, true_and, and_true, lenA, eqv, eqB, eqP, scal, new_box_self, List.getElem?_cons_zero, List.getElem?_cons_succ, key_ii, key_ss, findM, updM, esc_i, esc_s, esc_b, Int.reduceEq, ret1, new_nb, new_set, reduceCtorEq, Bool.xor_true, Bool.xor_false, Bool.false_eq_true, List.all_cons, List.all_nil, noTok, Bool.and_self, Bool.and_true, Bool.true_and, or_true, false_or, g0, g1, g5, ofNat_len]
    refine CP_dec (fun hlt => ?_) (fun hge => ?_)
    · have hlt : i < L.length := by omega
      have hlt' : (1 = 1 ∧ i < L.length) := ⟨rfl, hlt⟩
      have hl1 := bx_ld hb' hlt
      have hne : (L[i] ≠ L[i]) = False := by simp
      simp only [W_seq, W_reg, W_cond, W_blk, W_skip, W_exit, W_ret, W_regD, WO_nil, WO_cons, WO_guard2, wantV_b, bq_tt, bq_ft, bq_tf, bq_ff, Bool.not_true, Bool.not_false, WD_nil, WD_cons, WD_guard2, WS_some, WS_none, KS_n, KS_x, KS_r, KB_n, KB_x, KB_r, KN_ap, KO_ap, KD_ap, KC_nil, KF_n, KF_r, KG_n, KG_r, KL_n, KL_x, KL_r, CP_true, CP_false, evOp, evX, X.ev, optX, put_some, put_none, get_set2, sel_t, sel_f, Nat.reduceBEq, Nat.reduceAdd, Nat.reduceLT, Nat.reduceLeDiff, Nat.reduceEqDiff, reduceIte, if_true, if_false, bi_add, bi_sub, bi_mul, bi_eql, bi_neq, bi_lss, bi_leq, bi_gtr, bi_geq, bs_eql, bs_neq, bs_lss, Am.unOp, ret1, pubL, pubC_agg, pubC_s, pubC_i, pubC_b, pubC_p, pubC_np, pubC_nsl, pubC_ws, pubC_full, pubC_shut, pubC_fn, pubA, initT, wkZ, wk, wants, resOf, tupOf, quiet, AOp.cls, Nat.beq_eq, Bool.or_eq_true, decide_true, decide_false, beq_self_eq_true, Bool.true_or, Bool.or_true, true_and, and_true, lenA, eqv, eqB, eqP, scal, new_box_self, List.getElem?_cons_zero, List.getElem?_cons_succ, key_ii, key_ss, findM, updM, esc_i, esc_s, esc_b, Int.reduceEq, ret1, new_nb, new_set, reduceCtorEq, Bool.xor_true, Bool.xor_false, Bool.false_eq_true, List.all_cons, List.all_nil, noTok, Bool.and_self, Bool.and_true, Bool.true_and, or_true, false_or, g0, g1, g5, natOf_nat, eq_self, hlt, Nat.mul_one, Nat.zero_add, hl1, tx_get hlt, cells_s, ldA_1, hne, wrap_succ (show i + 1 < 2 ^ 63 by omega)]
      exact ⟨n - 1, by omega, i + 1, by omega, rfl⟩
    · exact KR_some (Over.enter s) rfl rfl
  · simp only [W_seq, W_reg, W_cond, W_blk, W_skip, W_exit, W_ret, W_regD, WO_nil, WO_cons, WO_guard2, wantV_b, bq_tt, bq_ft, bq_tf, bq_ff, Bool.not_true, Bool.not_false, WD_nil, WD_cons, WD_guard2, WS_some, WS_none, KS_n, KS_x, KS_r, KB_n, KB_x, KB_r, KN_ap, KO_ap, KD_ap, KC_nil, KF_n, KF_r, KG_n, KG_r, KL_n, KL_x, KL_r, CP_true, CP_false, evOp, evX, X.ev, optX, put_some, put_none, get_set2, sel_t, sel_f, Nat.reduceBEq, Nat.reduceAdd, Nat.reduceLT, Nat.reduceLeDiff, Nat.reduceEqDiff, reduceIte, if_true, if_false, bi_add, bi_sub, bi_mul, bi_eql, bi_neq, bi_lss, bi_leq, bi_gtr, bi_geq, bs_eql, bs_neq, bs_lss, Am.unOp, ret1, pubL, pubC_agg, pubC_s, pubC_i, pubC_b, pubC_p, pubC_np, pubC_nsl, pubC_ws, pubC_full, pubC_shut, pubC_fn, pubA, initT, wkZ, wk, wants, resOf, tupOf, quiet, AOp.cls, Nat.beq_eq, Bool.or_eq_true, decide_true, decide_false, beq_self_eq_true, Bool.true_or, Bool.or_true, true_and, and_true, lenA, eqv, eqB, eqP, scal, new_box_self, List.getElem?_cons_zero, List.getElem?_cons_succ, key_ii, key_ss, findM, updM, esc_i, esc_s, esc_b, Int.reduceEq, ret1, new_nb, new_set, reduceCtorEq, Bool.xor_true, Bool.xor_false, Bool.false_eq_true, List.all_cons, List.all_nil, noTok, Bool.and_self, Bool.and_true, Bool.true_and, or_true, false_or]
    exact ⟨0, by omega, rfl⟩
theorem pubC_bl (s : St) (a b c d : Nat) (x : Nat × Bool) : pub s (.bl a b c d x) = some (.bl a b c d x, s) := rfl
theorem same_bl {s : St} {id : Nat} {L : List (List Nat)} (hb : BX s id L) (hL : L.length < 2 ^ 62) (p : Nat × Bool) : (lim prog).call f_touchstoneref06_Same [.bl id 1 0 L.length p, tx L] s = some (.b true, s) := by
  refine fn_W p_touchstoneref06_Same rfl rfl ?_
  have hu := under_bl (s := s.enter) (M := L) hb hL p rfl
  simp only [c_touchstoneref06_Same, W_seq, W_reg, W_cond, W_blk, W_skip, W_exit, W_ret, W_regD, WO_nil, WO_cons, WO_guard2, wantV_b, bq_tt, bq_ft, bq_tf, bq_ff, Bool.not_true, Bool.not_false, WD_nil, WD_cons, WD_guard2, WS_some, WS_none, KS_n, KS_x, KS_r, KB_n, KB_x, KB_r, KN_ap, KO_ap, KD_ap, KC_nil, KF_n, KF_r, KG_n, KG_r, KL_n, KL_x, KL_r, CP_true, CP_false, evOp, evX, X.ev, optX, put_some, put_none, get_set2, sel_t, sel_f, Nat.reduceBEq, Nat.reduceAdd, Nat.reduceLT, Nat.reduceLeDiff, Nat.reduceEqDiff, reduceIte, if_true, if_false, bi_add, bi_sub, bi_mul, bi_eql, bi_neq, bi_lss, bi_leq, bi_gtr, bi_geq, bs_eql, bs_neq, bs_lss, Am.unOp, ret1, pubL, pubC_agg, pubC_s, pubC_i, pubC_b, pubC_p, pubC_np, pubC_nsl, pubC_ws, pubC_full, pubC_shut, pubC_fn, pubA, initT, wkZ, wk, wants, resOf, tupOf, quiet, AOp.cls, Nat.beq_eq, Bool.or_eq_true, decide_true, decide_false, beq_self_eq_true, Bool.true_or, Bool.or_true, true_and, and_true, lenA, eqv, eqB, eqP, scal, new_box_self, List.getElem?_cons_zero, List.getElem?_cons_succ, key_ii, key_ss, findM, updM, esc_i, esc_s, esc_b, Int.reduceEq, ret1, new_nb, new_set, reduceCtorEq, Bool.xor_true, Bool.xor_false, Bool.false_eq_true, List.all_cons, List.all_nil, noTok, Bool.and_self, Bool.and_true, Bool.true_and, or_true, false_or, pubC_bl, List.length_map, ofNat_len, eq_self, hu]
  exact KR_some (Over.enter s) rfl rfl

theorem flatC_s : ∀ M : List (List Nat), flatC (M.map AV.s) = M.map .s
  | [] => rfl
  | x :: M => by
    simp only [List.map_cons, flatC]
    rw [flatC_s M]
    rfl
/-- What a thawed row is. -/
theorem thaw_rowP {s0 s : St} {a : AV} {M : List (List Nat)} (hw : Wf s) (hov : Over s0 s) (hr : RowP 1 s0.nt s 9 a (M.map .s)) :
    (a = .nsl ∧ M = [] ∧ thawA s a = some (.nsl, s)) ∨ ∃ s', thawA s a = some (.bl s.nb 1 0 M.length (M.length, false), s') ∧ BX s' s.nb M ∧ Wf s' ∧ s'.nb = s.nb + 1 ∧ s'.nt = s.nt ∧ Over s0 s' := by
  rcases hr with ⟨rfl, h⟩ | ⟨k, v, t, rfl, k1, k2, k3, k4, k5, k6, k7⟩
  · exact .inl ⟨rfl, by simpa using h, rfl⟩
  · refine .inr ⟨(s.killTok k).new (.row 9 (M.map .s) false 0), ?_, ⟨9, 0, new_box_self (s.killTok k) _⟩, ⟨by simp [St.new, St.killTok, hw.b], by simp [St.new, St.killTok, hw.t]⟩, rfl, rfl, ?_⟩
    · have hf := flatC_s M
      obtain ⟨fr, ve, pu, ty⟩ := t
      simp only at k4 k5 k6 k7
      subst k4; subst k7; subst k6
      simp only [thawA, k3]
      rw [if_pos ⟨trivial, k5, trivial⟩, hf]
      simp
    · have h1 : Over s0 (s.killTok k) := by
        refine ⟨hov.nb, hov.boxes, hov.nt, ?_, hov.lo⟩
        simp only [St.killTok]
        rw [List.drop_set_of_lt (by omega)]
        exact hov.toks
      exact h1.new _

theorem thaw_bl (s : St) (a b c d : Nat) (x : Nat × Bool) : thawA s (.bl a b c d x) = some (.bl a b c d x, s) := rfl
theorem thaw_ws (s : St) (f : Bool) (n : Nat) (l : List AV) : thawA s (.ws f n l) = some (.ws f n l, s) := rfl
theorem ref_same_nil (s : St) : (lim prog).call f_touchstoneref06_Same [.nsl, tx []] s = some (.b true, s) := by
  refine fn_W p_touchstoneref06_Same rfl rfl ?_
  have hu : (lim prog).call f_touchstoneref06_Under [.ws false 1 [], .ws false 1 []] s.enter = some (.b true, s.enter) := ref_under_ok [] [] (by simp) s.enter
  simp only [c_touchstoneref06_Same, W_seq, W_reg, W_cond, W_blk, W_skip, W_exit, W_ret, W_regD, WO_nil, WO_cons, WO_guard2, wantV_b, bq_tt, bq_ft, bq_tf, bq_ff, Bool.not_true, Bool.not_false, WD_nil, WD_cons, WD_guard2, WS_some, WS_none, KS_n, KS_x, KS_r, KB_n, KB_x, KB_r, KN_ap, KO_ap, KD_ap, KC_nil, KF_n, KF_r, KG_n, KG_r, KL_n, KL_x, KL_r, CP_true, CP_false, evOp, evX, X.ev, optX, put_some, put_none, get_set2, sel_t, sel_f, Nat.reduceBEq, Nat.reduceAdd, Nat.reduceLT, Nat.reduceLeDiff, Nat.reduceEqDiff, reduceIte, if_true, if_false, bi_add, bi_sub, bi_mul, bi_eql, bi_neq, bi_lss, bi_leq, bi_gtr, bi_geq, bs_eql, bs_neq, bs_lss, Am.unOp, ret1, pubL, pubC_agg, pubC_s, pubC_i, pubC_b, pubC_p, pubC_np, pubC_nsl, pubC_ws, pubC_full, pubC_shut, pubC_fn, pubA, initT, wkZ, wk, wants, resOf, tupOf, quiet, AOp.cls, Nat.beq_eq, Bool.or_eq_true, decide_true, decide_false, beq_self_eq_true, Bool.true_or, Bool.or_true, true_and, and_true, lenA, eqv, eqB, eqP, scal, new_box_self, List.getElem?_cons_zero, List.getElem?_cons_succ, key_ii, key_ss, findM, updM, esc_i, esc_s, esc_b, Int.reduceEq, ret1, new_nb, new_set, reduceCtorEq, Bool.xor_true, Bool.xor_false, Bool.false_eq_true, List.all_cons, List.all_nil, noTok, Bool.and_self, Bool.and_true, Bool.true_and, or_true, false_or, List.map_nil, List.length_nil, ofNat_len, eq_self, hu]
  exact KR_some (Over.enter s) rfl rfl

/-- The law's 'same': the same texts; the first ones are written over. -/
theorem lsame_ok {s0 s : St} {a : AV} {M : List (List Nat)} (hw : Wf s) (hov : Over s0 s) (hM : M.length < 2 ^ 62) (hr : RowP 1 s0.nt s 9 a (M.map .s)) :
    ∃ s', (lim prog).call f_touchstonelaw06_same [a, tx M] s = some (.b true, s') ∧ Over s0 s' ∧ Wf s' := by
  obtain ⟨r, s', hc, rfl, h1, h2⟩ := fn_G (f := f_touchstonelaw06_same) (args := [a, tx M]) (s := s) (Post := fun r s' => r = .b true ∧ Over s0 s' ∧ Wf s') p_touchstonelaw06_same rfl rfl (by
    have hend : ∀ q, Over s0 q → Wf q → s.nb ≤ q.nb → s.nt ≤ q.nt → KH s [] (fun r s' => r = .b true ∧ Over s0 s' ∧ Wf s') (some ([.b true], q)) := fun q k1 k2 k3 k4 => by
      obtain ⟨f1, f2, f3, f4, f5⟩ := leave_fr (O := fun _ => False) (h := s.nb) (tB := s.nt) (v := .b true) k2 (Nat.le_refl _) k3 k4 (Nat.le_refl _) rfl
      exact ⟨_, _, rfl, rfl, f5 s0 hov k1, f2⟩
    have hwe := hw.enter
    have hre : RowP 1 s0.nt s.enter 9 a (M.map .s) := hr.mono (Nat.le_refl _) fun _ _ => rfl
    rcases thaw_rowP hwe hov.toEnter hre with ⟨rfl, rfl, ht⟩ | ⟨q1, ht, hb, w1, n1, t1, ov1⟩
    · have hs : (lim prog).call f_touchstoneref06_Same [.nsl, .ws false 1 []] s.enter = some (.b true, s.enter) := ref_same_nil s.enter
      have h00 : ((0 : Int) < 0) = False := by simp
      have hn : thawA s.enter .nsl = some (.nsl, s.enter) := rfl
      simp only [c_touchstonelaw06_same, W_seq, W_reg, W_cond, W_blk, W_skip, W_exit, W_ret, W_regD, WO_nil, WO_cons, WO_guard2, wantV_b, bq_tt, bq_ft, bq_tf, bq_ff, Bool.not_true, Bool.not_false, WD_nil, WD_cons, WD_guard2, WS_some, WS_none, KS_n, KS_x, KS_r, KB_n, KB_x, KB_r, KN_ap, KO_ap, KD_ap, KC_nil, KF_n, KF_r, KG_n, KG_r, KL_n, KL_x, KL_r, CP_true, CP_false, evOp, evX, X.ev, optX, put_some, put_none, get_set2, sel_t, sel_f, Nat.reduceBEq, Nat.reduceAdd, Nat.reduceLT, Nat.reduceLeDiff, Nat.reduceEqDiff, reduceIte, if_true, if_false, bi_add, bi_sub, bi_mul, bi_eql, bi_neq, bi_lss, bi_leq, bi_gtr, bi_geq, bs_eql, bs_neq, bs_lss, Am.unOp, ret1, pubL, pubC_agg, pubC_s, pubC_i, pubC_b, pubC_p, pubC_np, pubC_nsl, pubC_ws, pubC_full, pubC_shut, pubC_fn, pubA, initT, wkZ, wk, wants, resOf, tupOf, quiet, AOp.cls, Nat.beq_eq, Bool.or_eq_true, decide_true, decide_false, beq_self_eq_true, Bool.true_or, Bool.or_true, true_and, and_true, lenA, eqv, eqB, eqP, scal, new_box_self, List.getElem?_cons_zero, List.getElem?_cons_succ, key_ii, key_ss, findM, updM, esc_i, esc_s, esc_b, Int.reduceEq, ret1, new_nb, new_set, reduceCtorEq, Bool.xor_true, Bool.xor_false, Bool.false_eq_true, List.all_cons, List.all_nil, noTok, Bool.and_self, Bool.and_true, Bool.true_and, or_true, false_or, W_thw, hn, thaw_ws, List.map_nil, hs]
      refine W_loop (fun n e q => s.enter = q ∧ e.get 0 = .nsl ∧ e.get 5 = .b true ∧ e.get 6 = .i .i64 0) ?_ 0 _ _ ?_
      · rintro n e q ⟨rfl, g0, g5, g6⟩
        simp only [W_seq, W_reg, W_cond, W_blk, W_skip, W_exit, W_ret, W_regD, WO_nil, WO_cons, WO_guard2, wantV_b, bq_tt, bq_ft, bq_tf, bq_ff, Bool.not_true, Bool.not_false, WD_nil, WD_cons, WD_guard2, WS_some, WS_none, KS_n, KS_x, KS_r, KB_n, KB_x, KB_r, KN_ap, KO_ap, KD_ap, KC_nil, KF_n, KF_r, KG_n, KG_r, KL_n, KL_x, KL_r, CP_true, CP_false, evOp, evX, X.ev, optX, put_some, put_none, get_set2, sel_t, sel_f, Nat.reduceBEq, Nat.reduceAdd, Nat.reduceLT, Nat.reduceLeDiff, Nat.reduceEqDiff, reduceIte, if_true, if_false, bi_add, bi_sub, bi_mul, bi_eql, bi_neq, bi_lss, bi_leq, bi_gtr, bi_geq, bs_eql, bs_neq, bs_lss, Am.unOp, ret1, pubL, pubC_agg, pubC_s, pubC_i, pubC_b, pubC_p, pubC_np, pubC_nsl, pubC_ws, pubC_full, pubC_shut, pubC_fn, pubA, initT, wkZ, wk, wants, resOf, tupOf, quiet, AOp.cls, Nat.beq_eq, Bool.or_eq_true, decide_true, decide_false, beq_self_eq_true, Bool.true_or, Bool.or_true, true_and, and_true, lenA, eqv, eqB, eqP, scal, new_box_self, List.getElem?_cons_zero, List.getElem?_cons_succ, key_ii, key_ss, findM, updM, esc_i, esc_s, esc_b, Int.reduceEq, ret1, new_nb, new_set, reduceCtorEq, Bool.xor_true, Bool.xor_false, Bool.false_eq_true, List.all_cons, List.all_nil, noTok, Bool.and_self, Bool.and_true, Bool.true_and, or_true, false_or, g0, g5, g6, h00]
        exact hend _ hov.toEnter hwe (Nat.le_refl _) (Nat.le_refl _)
      · simp only [W_seq, W_reg, W_cond, W_blk, W_skip, W_exit, W_ret, W_regD, WO_nil, WO_cons, WO_guard2, wantV_b, bq_tt, bq_ft, bq_tf, bq_ff, Bool.not_true, Bool.not_false, WD_nil, WD_cons, WD_guard2, WS_some, WS_none, KS_n, KS_x, KS_r, KB_n, KB_x, KB_r, KN_ap, KO_ap, KD_ap, KC_nil, KF_n, KF_r, KG_n, KG_r, KL_n, KL_x, KL_r, CP_true, CP_false, evOp, evX, X.ev, optX, put_some, put_none, get_set2, sel_t, sel_f, Nat.reduceBEq, Nat.reduceAdd, Nat.reduceLT, Nat.reduceLeDiff, Nat.reduceEqDiff, reduceIte, if_true, if_false, bi_add, bi_sub, bi_mul, bi_eql, bi_neq, bi_lss, bi_leq, bi_gtr, bi_geq, bs_eql, bs_neq, bs_lss, Am.unOp, ret1, pubL, pubC_agg, pubC_s, pubC_i, pubC_b, pubC_p, pubC_np, pubC_nsl, pubC_ws, pubC_full, pubC_shut, pubC_fn, pubA, initT, wkZ, wk, wants, resOf, tupOf, quiet, AOp.cls, Nat.beq_eq, Bool.or_eq_true, decide_true, decide_false, beq_self_eq_true, Bool.true_or, Bool.or_true, true_and, and_true, lenA, eqv, eqB, eqP, scal, new_box_self, List.getElem?_cons_zero, List.getElem?_cons_succ, key_ii, key_ss, findM, updM, esc_i, esc_s, esc_b, Int.reduceEq, ret1, new_nb, new_set, reduceCtorEq, Bool.xor_true, Bool.xor_false, Bool.false_eq_true, List.all_cons, List.all_nil, noTok, Bool.and_self, Bool.and_true, Bool.true_and, or_true, false_or, and_self]
    · have hs := same_bl hb hM (M.length, false)
      have hnb : s.enter.nb = s.nb := rfl
      have hnt : s.enter.nt = s.nt := rfl
      simp only [c_touchstonelaw06_same, W_seq, W_reg, W_cond, W_blk, W_skip, W_exit, W_ret, W_regD, WO_nil, WO_cons, WO_guard2, wantV_b, bq_tt, bq_ft, bq_tf, bq_ff, Bool.not_true, Bool.not_false, WD_nil, WD_cons, WD_guard2, WS_some, WS_none, KS_n, KS_x, KS_r, KB_n, KB_x, KB_r, KN_ap, KO_ap, KD_ap, KC_nil, KF_n, KF_r, KG_n, KG_r, KL_n, KL_x, KL_r, CP_true, CP_false, evOp, evX, X.ev, optX, put_some, put_none, get_set2, sel_t, sel_f, Nat.reduceBEq, Nat.reduceAdd, Nat.reduceLT, Nat.reduceLeDiff, Nat.reduceEqDiff, reduceIte, if_true, if_false, bi_add, bi_sub, bi_mul, bi_eql, bi_neq, bi_lss, bi_leq, bi_gtr, bi_geq, bs_eql, bs_neq, bs_lss, Am.unOp, ret1, pubL, pubC_agg, pubC_s, pubC_i, pubC_b, pubC_p, pubC_np, pubC_nsl, pubC_ws, pubC_full, pubC_shut, pubC_fn, pubA, initT, wkZ, wk, wants, resOf, tupOf, quiet, AOp.cls, Nat.beq_eq, Bool.or_eq_true, decide_true, decide_false, beq_self_eq_true, Bool.true_or, Bool.or_true, true_and, and_true, lenA, eqv, eqB, eqP, scal, new_box_self, List.getElem?_cons_zero, List.getElem?_cons_succ, key_ii, key_ss, findM, updM, esc_i, esc_s, esc_b, Int.reduceEq, ret1, new_nb, new_set, reduceCtorEq, Bool.xor_true, Bool.xor_false, Bool.false_eq_true, List.all_cons, List.all_nil, noTok, Bool.and_self, Bool.and_true, Bool.true_and, or_true, false_or, W_thw, ht, thaw_ws, pubC_bl, hs]
      refine W_loop (fun n e q => ∃ (i : Nat) (L : List (List Nat)), i + n = M.length ∧ e.get 0 = .bl s.enter.nb 1 0 M.length (M.length, false) ∧ e.get 5 = .b true ∧ e.get 6 = .i .i64 i ∧ BX q s.enter.nb L ∧ L.length = M.length ∧ Over s0 q ∧ Wf q ∧ q.nb = s.nb + 1 ∧ q.nt = s.nt) ?_ M.length _ _ ?_
      · rintro n e q ⟨i, L, hi, g0, g5, g6, hbx, hLl, hovq, hwq, nq, tq⟩
        simp only [W_seq, W_reg, W_cond, W_blk, W_skip, W_exit, W_ret, W_regD, WO_nil, WO_cons, WO_guard2, wantV_b, bq_tt, bq_ft, bq_tf, bq_ff, Bool.not_true, Bool.not_false, WD_nil, WD_cons, WD_guard2, WS_some, WS_none, KS_n, KS_x, KS_r, KB_n, KB_x, KB_r, KN_ap, KO_ap, KD_ap, KC_nil, KF_n, KF_r, KG_n, KG_r, KL_n, KL_x, KL_r, CP_true, CP_false, evOp, evX, X.ev, optX, put_some, put_none, get_set2, sel_t, sel_f, Nat.reduceBEq, Nat.reduceAdd, Nat.reduceLT, Nat.reduceLeDiff, Nat.reduceEqDiff, reduceIte, if_true, if_false, bi_add, bi_sub, bi_mul, bi_eql, bi_neq, bi_lss, bi_leq, bi_gtr, bi_geq, bs_eql, bs_neq, bs_lss, Am.unOp, ret1, pubL, pubC_agg, pubC_s, pubC_i, pubC_b, pubC_p, pubC_np, pubC_nsl, pubC_ws, pubC_full, pubC_shut, pubC_fn, pubA, initT, wkZ, wk, wants, resOf, tupOf, quiet, AOp.cls, Nat.beq_eq, Bool.or_eq_true, decide_true, decide_false, beq_self_eq_true, Bool.true_or, Bool.or_true, true_and, and_true, lenA, eqv, eqB, eqP, scal, new_box_self, List.getElem?_cons_zero, List.getElem?_cons_succ, key_ii, key_ss, findM, updM, esc_i, esc_s, esc_b, Int.reduceEq, ret1, new_nb, new_set, reduceCtorEq, Bool.xor_true, Bool.xor_false, Bool.false_eq_true, List.all_cons, List.all_nil, noTok, Bool.and_self, Bool.and_true, Bool.true_and, or_true, false_or, g0, g6, ofNat_len]
        refine CP_dec (fun hlt => ?_) (fun hge => ?_)
        · have hlt : i < M.length := by omega
          obtain ⟨q2, e2, b2, w2, nb2, nt2, ov2⟩ := bx_st hwq hbx (by omega) (show i < L.length by omega) [115, 112, 111, 105, 108, 116]
          simp only [W_seq, W_reg, W_cond, W_blk, W_skip, W_exit, W_ret, W_regD, WO_nil, WO_cons, WO_guard2, wantV_b, bq_tt, bq_ft, bq_tf, bq_ff, Bool.not_true, Bool.not_false, WD_nil, WD_cons, WD_guard2, WS_some, WS_none, KS_n, KS_x, KS_r, KB_n, KB_x, KB_r, KN_ap, KO_ap, KD_ap, KC_nil, KF_n, KF_r, KG_n, KG_r, KL_n, KL_x, KL_r, CP_true, CP_false, evOp, evX, X.ev, optX, put_some, put_none, get_set2, sel_t, sel_f, Nat.reduceBEq, Nat.reduceAdd, Nat.reduceLT, Nat.reduceLeDiff, Nat.reduceEqDiff, reduceIte, if_true, if_false, bi_add, bi_sub, bi_mul, bi_eql, bi_neq, bi_lss, bi_leq, bi_gtr, bi_geq, bs_eql, bs_neq, bs_lss, Am.unOp, ret1, pubL, pubC_agg, pubC_s, pubC_i, pubC_b, pubC_p, pubC_np, pubC_nsl, pubC_ws, pubC_full, pubC_shut, pubC_fn, pubA, initT, wkZ, wk, wants, resOf, tupOf, quiet, AOp.cls, Nat.beq_eq, Bool.or_eq_true, decide_true, decide_false, beq_self_eq_true, Bool.true_or, Bool.or_true, true_and, and_true, lenA, eqv, eqB, eqP, scal, new_box_self, List.getElem?_cons_zero, List.getElem?_cons_succ, key_ii, key_ss, findM, updM, esc_i, esc_s, esc_b, Int.reduceEq, ret1, new_nb, new_set, reduceCtorEq, Bool.xor_true, Bool.xor_false, Bool.false_eq_true, List.all_cons, List.all_nil, noTok, Bool.and_self, Bool.and_true, Bool.true_and, or_true, false_or, W_thw, g0, g5, g6, thaw_bl, natOf_nat, eq_self, hlt, Nat.mul_one, Nat.zero_add, e2, wrap_succ (show i + 1 < 2 ^ 63 by omega)]
          exact ⟨n - 1, by omega, i + 1, _, by omega, rfl, b2, by simpa using hLl, ov2 s0 hov.nb hovq, w2, by omega, by omega⟩
        · simp only [W_seq, W_reg, W_cond, W_blk, W_skip, W_exit, W_ret, W_regD, WO_nil, WO_cons, WO_guard2, wantV_b, bq_tt, bq_ft, bq_tf, bq_ff, Bool.not_true, Bool.not_false, WD_nil, WD_cons, WD_guard2, WS_some, WS_none, KS_n, KS_x, KS_r, KB_n, KB_x, KB_r, KN_ap, KO_ap, KD_ap, KC_nil, KF_n, KF_r, KG_n, KG_r, KL_n, KL_x, KL_r, CP_true, CP_false, evOp, evX, X.ev, optX, put_some, put_none, get_set2, sel_t, sel_f, Nat.reduceBEq, Nat.reduceAdd, Nat.reduceLT, Nat.reduceLeDiff, Nat.reduceEqDiff, reduceIte, if_true, if_false, bi_add, bi_sub, bi_mul, bi_eql, bi_neq, bi_lss, bi_leq, bi_gtr, bi_geq, bs_eql, bs_neq, bs_lss, Am.unOp, ret1, pubL, pubC_agg, pubC_s, pubC_i, pubC_b, pubC_p, pubC_np, pubC_nsl, pubC_ws, pubC_full, pubC_shut, pubC_fn, pubA, initT, wkZ, wk, wants, resOf, tupOf, quiet, AOp.cls, Nat.beq_eq, Bool.or_eq_true, decide_true, decide_false, beq_self_eq_true, Bool.true_or, Bool.or_true, true_and, and_true, lenA, eqv, eqB, eqP, scal, new_box_self, List.getElem?_cons_zero, List.getElem?_cons_succ, key_ii, key_ss, findM, updM, esc_i, esc_s, esc_b, Int.reduceEq, ret1, new_nb, new_set, reduceCtorEq, Bool.xor_true, Bool.xor_false, Bool.false_eq_true, List.all_cons, List.all_nil, noTok, Bool.and_self, Bool.and_true, Bool.true_and, or_true, false_or, g5]
          exact hend _ hovq hwq (by omega) (by omega)
      · simp only [W_seq, W_reg, W_cond, W_blk, W_skip, W_exit, W_ret, W_regD, WO_nil, WO_cons, WO_guard2, wantV_b, bq_tt, bq_ft, bq_tf, bq_ff, Bool.not_true, Bool.not_false, WD_nil, WD_cons, WD_guard2, WS_some, WS_none, KS_n, KS_x, KS_r, KB_n, KB_x, KB_r, KN_ap, KO_ap, KD_ap, KC_nil, KF_n, KF_r, KG_n, KG_r, KL_n, KL_x, KL_r, CP_true, CP_false, evOp, evX, X.ev, optX, put_some, put_none, get_set2, sel_t, sel_f, Nat.reduceBEq, Nat.reduceAdd, Nat.reduceLT, Nat.reduceLeDiff, Nat.reduceEqDiff, reduceIte, if_true, if_false, bi_add, bi_sub, bi_mul, bi_eql, bi_neq, bi_lss, bi_leq, bi_gtr, bi_geq, bs_eql, bs_neq, bs_lss, Am.unOp, ret1, pubL, pubC_agg, pubC_s, pubC_i, pubC_b, pubC_p, pubC_np, pubC_nsl, pubC_ws, pubC_full, pubC_shut, pubC_fn, pubA, initT, wkZ, wk, wants, resOf, tupOf, quiet, AOp.cls, Nat.beq_eq, Bool.or_eq_true, decide_true, decide_false, beq_self_eq_true, Bool.true_or, Bool.or_true, true_and, and_true, lenA, eqv, eqB, eqP, scal, new_box_self, List.getElem?_cons_zero, List.getElem?_cons_succ, key_ii, key_ss, findM, updM, esc_i, esc_s, esc_b, Int.reduceEq, ret1, new_nb, new_set, reduceCtorEq, Bool.xor_true, Bool.xor_false, Bool.false_eq_true, List.all_cons, List.all_nil, noTok, Bool.and_self, Bool.and_true, Bool.true_and, or_true, false_or]
        exact ⟨0, M, by omega, rfl, hb, rfl, ov1, w1, by omega, by omega⟩)
  exact ⟨s', hc, h1, h2⟩
end Go.Proofs.YtfaodjpibdhdjaaDoor
