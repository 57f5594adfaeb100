/-
  What the functions of path come to on the abstract machine.
-/
import Derived.Test.YtmeahkccilkofaaDoorFns
import Derived.Test.YtmeahkccilkofaaDoorAmWp
set_option linter.all false
set_option linter.unusedVariables false
set_option linter.unusedSimpArgs false
set_option linter.unusedSectionVars false
set_option maxRecDepth 100000
set_option linter.unusedSimpArgs false
namespace Go.Proofs.YtmeahkccilkofaaDoor
open Go.Proofs.YtmeahkccilkofaaDoor.Am

/-- A row of texts, as it is told at a call's border. -/
abbrev tx (L : List (List Nat)) : AV := .ws false 1 (L.map .s)

theorem natOf_nat (k : IntKind) (i : Nat) : natOf (.i k (i : Int)) = some i := by simp [natOf]
theorem tx_get {L : List (List Nat)} {i : Nat} (h : i < L.length) : (L.map AV.s)[i]? = some (.s L[i]) := by simp [h]
theorem ldA_1 (s : St) (v : AV) : ldA s false 1 (.ep [v] 0 .shut) = some v := rfl
theorem cells_s (l : List Nat) : (AV.s l).cells = [.s l] := rfl
theorem wrap_nat {i : Nat} (h : i < 2 ^ 63) : IntKind.i64.wrap (i : Int) = i := by
  have e1 : ((i : Int) % 2 ^ 64) = i := by omega
  simp only [IntKind.wrap, IntKind.signed, IntKind.bits, e1]
  rw [if_neg]
  simp; omega
theorem wrap_succ {i : Nat} (h : i + 1 < 2 ^ 63) : IntKind.i64.wrap ((i : Int) + 1) = ((i + 1 : Nat) : Int) := by
  rw [← wrap_nat h]; simp
theorem ofNat_len (n : Nat) : Int.ofNat n = (n : Int) := rfl

def longP (L : List (List Nat)) : Bool := decide (100 < L.length) || L.any fun x => decide (500 < x.length)

theorem long_ok (L : List (List Nat)) (s : St) : (lim prog).call f_touchstonelaw06_long [tx L] s = some (.b (longP L), s) := by
  refine fn_W p_touchstonelaw06_long rfl rfl ?_
  simp only [c_touchstonelaw06_long, W_seq, W_reg, W_cond, W_blk, W_skip, W_exit, W_ret, W_regD, WO_nil, WO_cons, WO_guard2, wantV_b, bq_tt, bq_ft, bq_tf, bq_ff, Bool.not_true, Bool.not_false, WD_nil, WD_cons, WD_guard2, WS_some, WS_none, KS_n, KS_x, KS_r, KB_n, KB_x, KB_r, KN_ap, KO_ap, KD_ap, KC_nil, KF_n, KF_r, KL_n, KL_x, KL_r, CP_true, CP_false, evOp, evX, X.ev, optX, put_some, put_none, get_set2, sel_t, sel_f, Nat.reduceBEq, Nat.reduceAdd, Nat.reduceLT, Nat.reduceLeDiff, Nat.reduceEqDiff, reduceIte, if_true, if_false, bi_add, bi_sub, bi_mul, bi_eql, bi_neq, bi_lss, bi_leq, bi_gtr, bi_geq, bs_eql, bs_neq, bs_lss, Am.unOp, ret1, pubL, pub, pubA, initT, wkZ, wk, wants, resOf, tupOf, quiet, AOp.cls, Nat.beq_eq, Bool.or_eq_true, decide_true, decide_false, beq_self_eq_true, Bool.true_or, Bool.or_true, true_and, and_true, lenA, eqv, eqB, eqP, scal, new_box_self, List.getElem?_cons_zero, List.getElem?_cons_succ, key_ii, key_ss, findM, updM, esc_i, esc_s, esc_b, Int.reduceEq, ret1, new_nb, new_set, reduceCtorEq, Bool.xor_true, Bool.xor_false, Bool.false_eq_true, List.all_cons, List.all_nil, noTok, Bool.and_self, Bool.and_true, Bool.true_and, List.length_map, ofNat_len]
  refine CP_dec (fun h => KR_some (Over.enter s) rfl ?_) (fun h => ?_)
  · have : 100 < L.length := by omega
    simp [tupOf, wkZ, wk, longP, this]
  have hl : L.length ≤ 100 := by omega
  refine W_loop (fun n e s1 => s1 = s.enter ∧ e.get 0 = tx L ∧ ∃ i : Nat, i + n = L.length ∧ e.get 3 = .i .i64 i ∧ longP L = (L.drop i).any fun x => decide (500 < x.length)) ?_ L.length _ _ ?_
  · rintro n e s1 ⟨rfl, h0, i, hi, h3, hp⟩
    simp only [W_seq, W_reg, W_cond, W_blk, W_skip, W_exit, W_ret, W_regD, WO_nil, WO_cons, WO_guard2, wantV_b, bq_tt, bq_ft, bq_tf, bq_ff, Bool.not_true, Bool.not_false, WD_nil, WD_cons, WD_guard2, WS_some, WS_none, KS_n, KS_x, KS_r, KB_n, KB_x, KB_r, KN_ap, KO_ap, KD_ap, KC_nil, KF_n, KF_r, KL_n, KL_x, KL_r, CP_true, CP_false, evOp, evX, X.ev, optX, put_some, put_none, get_set2, sel_t, sel_f, Nat.reduceBEq, Nat.reduceAdd, Nat.reduceLT, Nat.reduceLeDiff, Nat.reduceEqDiff, reduceIte, if_true, if_false, bi_add, bi_sub, bi_mul, bi_eql, bi_neq, bi_lss, bi_leq, bi_gtr, bi_geq, bs_eql, bs_neq, bs_lss, Am.unOp, ret1, pubL, pub, pubA, initT, wkZ, wk, wants, resOf, tupOf, quiet, AOp.cls, Nat.beq_eq, Bool.or_eq_true, decide_true, decide_false, beq_self_eq_true, Bool.true_or, Bool.or_true, true_and, and_true, lenA, eqv, eqB, eqP, scal, new_box_self, List.getElem?_cons_zero, List.getElem?_cons_succ, key_ii, key_ss, findM, updM, esc_i, esc_s, esc_b, Int.reduceEq, ret1, new_nb, new_set, reduceCtorEq, Bool.xor_true, Bool.xor_false, Bool.false_eq_true, List.all_cons, List.all_nil, noTok, Bool.and_self, Bool.and_true, Bool.true_and, h0, h3, List.length_map, ofNat_len]
    refine CP_dec (fun hlt => ?_) (fun hge => ?_)
    · have hlt : i < L.length := by omega
      simp only [W_seq, W_reg, W_cond, W_blk, W_skip, W_exit, W_ret, W_regD, WO_nil, WO_cons, WO_guard2, wantV_b, bq_tt, bq_ft, bq_tf, bq_ff, Bool.not_true, Bool.not_false, WD_nil, WD_cons, WD_guard2, WS_some, WS_none, KS_n, KS_x, KS_r, KB_n, KB_x, KB_r, KN_ap, KO_ap, KD_ap, KC_nil, KF_n, KF_r, KL_n, KL_x, KL_r, CP_true, CP_false, evOp, evX, X.ev, optX, put_some, put_none, get_set2, sel_t, sel_f, Nat.reduceBEq, Nat.reduceAdd, Nat.reduceLT, Nat.reduceLeDiff, Nat.reduceEqDiff, reduceIte, if_true, if_false, bi_add, bi_sub, bi_mul, bi_eql, bi_neq, bi_lss, bi_leq, bi_gtr, bi_geq, bs_eql, bs_neq, bs_lss, Am.unOp, ret1, pubL, pub, pubA, initT, wkZ, wk, wants, resOf, tupOf, quiet, AOp.cls, Nat.beq_eq, Bool.or_eq_true, decide_true, decide_false, beq_self_eq_true, Bool.true_or, Bool.or_true, true_and, and_true, lenA, eqv, eqB, eqP, scal, new_box_self, List.getElem?_cons_zero, List.getElem?_cons_succ, key_ii, key_ss, findM, updM, esc_i, esc_s, esc_b, Int.reduceEq, ret1, new_nb, new_set, reduceCtorEq, Bool.xor_true, Bool.xor_false, Bool.false_eq_true, List.all_cons, List.all_nil, noTok, Bool.and_self, Bool.and_true, Bool.true_and, h0, h3, List.length_map, ofNat_len, natOf_nat, tx_get hlt, cells_s, ldA_1, wrap_succ (show i + 1 < 2 ^ 63 by omega)]
      rw [List.drop_eq_getElem_cons hlt, List.any_cons] at hp
      refine CP_dec (fun h5 => KR_some (Over.enter s) rfl ?_) (fun h5 => ⟨n - 1, by omega, i + 1, by omega, rfl, ?_⟩)
      · have : 500 < L[i].length := by omega
        simp [tupOf, wkZ, wk, hp, this]
      · have : ¬ 500 < L[i].length := by omega
        rw [hp]; simp [this]
    · refine KR_some (Over.enter s) rfl ?_
      have : L.drop i = [] := List.drop_eq_nil_iff.2 (by omega)
      simp [tupOf, wkZ, wk, hp, this]
  · simp only [W_seq, W_reg, W_cond, W_blk, W_skip, W_exit, W_ret, W_regD, WO_nil, WO_cons, WO_guard2, wantV_b, bq_tt, bq_ft, bq_tf, bq_ff, Bool.not_true, Bool.not_false, WD_nil, WD_cons, WD_guard2, WS_some, WS_none, KS_n, KS_x, KS_r, KB_n, KB_x, KB_r, KN_ap, KO_ap, KD_ap, KC_nil, KF_n, KF_r, KL_n, KL_x, KL_r, CP_true, CP_false, evOp, evX, X.ev, optX, put_some, put_none, get_set2, sel_t, sel_f, Nat.reduceBEq, Nat.reduceAdd, Nat.reduceLT, Nat.reduceLeDiff, Nat.reduceEqDiff, reduceIte, if_true, if_false, bi_add, bi_sub, bi_mul, bi_eql, bi_neq, bi_lss, bi_leq, bi_gtr, bi_geq, bs_eql, bs_neq, bs_lss, Am.unOp, ret1, pubL, pub, pubA, initT, wkZ, wk, wants, resOf, tupOf, quiet, AOp.cls, Nat.beq_eq, Bool.or_eq_true, decide_true, decide_false, beq_self_eq_true, Bool.true_or, Bool.or_true, true_and, and_true, lenA, eqv, eqB, eqP, scal, new_box_self, List.getElem?_cons_zero, List.getElem?_cons_succ, key_ii, key_ss, findM, updM, esc_i, esc_s, esc_b, Int.reduceEq, ret1, new_nb, new_set, reduceCtorEq, Bool.xor_true, Bool.xor_false, Bool.false_eq_true, List.all_cons, List.all_nil, noTok, Bool.and_self, Bool.and_true, Bool.true_and]
    refine ⟨0, by omega, rfl, ?_⟩
    have : ¬ 100 < L.length := by omega
    simp [longP, this]

def undP (L M : List (List Nat)) : Bool := decide (M.take L.length = L)

theorem und_len {L M : List (List Nat)} (h : M.take L.length = L) : L.length ≤ M.length := by
  have := congrArg List.length h
  rw [List.length_take] at this
  omega
theorem und_get {L M : List (List Nat)} (h : M.take L.length = L) {i : Nat} (h1 : i < L.length) (h2 : i < M.length) : L[i] = M[i] := by
  have := congrArg (fun l => l[i]?) h
  simp only [List.getElem?_take, if_pos h1, List.getElem?_eq_getElem h1, List.getElem?_eq_getElem h2, Option.some.injEq] at this
  exact this.symm
theorem take_step {L M : List (List Nat)} {i : Nat} (h : L.take i = M.take i) (h1 : i < L.length) (h2 : i < M.length) (he : L[i] = M[i]) : L.take (i + 1) = M.take (i + 1) := by
  rw [List.take_succ_eq_append_getElem h1, List.take_succ_eq_append_getElem h2, h, he]

theorem ref_under_ok (L M : List (List Nat)) (hL : L.length < 2 ^ 62) (s : St) : (lim prog).call f_touchstoneref06_Under [tx L, tx M] s = some (.b (undP L M), s) := by
  refine fn_W p_touchstoneref06_Under rfl rfl ?_
  simp only [c_touchstoneref06_Under, W_seq, W_reg, W_cond, W_blk, W_skip, W_exit, W_ret, W_regD, WO_nil, WO_cons, WO_guard2, wantV_b, bq_tt, bq_ft, bq_tf, bq_ff, Bool.not_true, Bool.not_false, WD_nil, WD_cons, WD_guard2, WS_some, WS_none, KS_n, KS_x, KS_r, KB_n, KB_x, KB_r, KN_ap, KO_ap, KD_ap, KC_nil, KF_n, KF_r, KL_n, KL_x, KL_r, CP_true, CP_false, evOp, evX, X.ev, optX, put_some, put_none, get_set2, sel_t, sel_f, Nat.reduceBEq, Nat.reduceAdd, Nat.reduceLT, Nat.reduceLeDiff, Nat.reduceEqDiff, reduceIte, if_true, if_false, bi_add, bi_sub, bi_mul, bi_eql, bi_neq, bi_lss, bi_leq, bi_gtr, bi_geq, bs_eql, bs_neq, bs_lss, Am.unOp, ret1, pubL, pub, pubA, initT, wkZ, wk, wants, resOf, tupOf, quiet, AOp.cls, Nat.beq_eq, Bool.or_eq_true, decide_true, decide_false, beq_self_eq_true, Bool.true_or, Bool.or_true, true_and, and_true, lenA, eqv, eqB, eqP, scal, new_box_self, List.getElem?_cons_zero, List.getElem?_cons_succ, key_ii, key_ss, findM, updM, esc_i, esc_s, esc_b, Int.reduceEq, ret1, new_nb, new_set, reduceCtorEq, Bool.xor_true, Bool.xor_false, Bool.false_eq_true, List.all_cons, List.all_nil, noTok, Bool.and_self, Bool.and_true, Bool.true_and, List.length_map, ofNat_len]
  refine CP_dec (fun h => KR_some (Over.enter s) rfl ?_) (fun h => ?_)
  · have : ¬ M.take L.length = L := fun hh => by have := und_len hh; omega
    simp [tupOf, wkZ, wk, undP, this]
  have hl : L.length ≤ M.length := by omega
  refine W_loop (fun n e s1 => s1 = s.enter ∧ e.get 0 = tx L ∧ e.get 1 = tx M ∧ ∃ i : Nat, i + n = L.length ∧ e.get 5 = .i .i64 i ∧ L.take i = M.take i) ?_ L.length _ _ ?_
  · rintro n e s1 ⟨rfl, h0, h1, i, hi, h5, hp⟩
    simp only [W_seq, W_reg, W_cond, W_blk, W_skip, W_exit, W_ret, W_regD, WO_nil, WO_cons, WO_guard2, wantV_b, bq_tt, bq_ft, bq_tf, bq_ff, Bool.not_true, Bool.not_false, WD_nil, WD_cons, WD_guard2, WS_some, WS_none, KS_n, KS_x, KS_r, KB_n, KB_x, KB_r, KN_ap, KO_ap, KD_ap, KC_nil, KF_n, KF_r, KL_n, KL_x, KL_r, CP_true, CP_false, evOp, evX, X.ev, optX, put_some, put_none, get_set2, sel_t, sel_f, Nat.reduceBEq, Nat.reduceAdd, Nat.reduceLT, Nat.reduceLeDiff, Nat.reduceEqDiff, reduceIte, if_true, if_false, bi_add, bi_sub, bi_mul, bi_eql, bi_neq, bi_lss, bi_leq, bi_gtr, bi_geq, bs_eql, bs_neq, bs_lss, Am.unOp, ret1, pubL, pub, pubA, initT, wkZ, wk, wants, resOf, tupOf, quiet, AOp.cls, Nat.beq_eq, Bool.or_eq_true, decide_true, decide_false, beq_self_eq_true, Bool.true_or, Bool.or_true, true_and, and_true, lenA, eqv, eqB, eqP, scal, new_box_self, List.getElem?_cons_zero, List.getElem?_cons_succ, key_ii, key_ss, findM, updM, esc_i, esc_s, esc_b, Int.reduceEq, ret1, new_nb, new_set, reduceCtorEq, Bool.xor_true, Bool.xor_false, Bool.false_eq_true, List.all_cons, List.all_nil, noTok, Bool.and_self, Bool.and_true, Bool.true_and, h0, h1, h5, List.length_map, ofNat_len]
    refine CP_dec (fun hlt => ?_) (fun hge => ?_)
    · have hlt : i < L.length := by omega
      have hlm : i < M.length := by omega
      simp only [W_seq, W_reg, W_cond, W_blk, W_skip, W_exit, W_ret, W_regD, WO_nil, WO_cons, WO_guard2, wantV_b, bq_tt, bq_ft, bq_tf, bq_ff, Bool.not_true, Bool.not_false, WD_nil, WD_cons, WD_guard2, WS_some, WS_none, KS_n, KS_x, KS_r, KB_n, KB_x, KB_r, KN_ap, KO_ap, KD_ap, KC_nil, KF_n, KF_r, KL_n, KL_x, KL_r, CP_true, CP_false, evOp, evX, X.ev, optX, put_some, put_none, get_set2, sel_t, sel_f, Nat.reduceBEq, Nat.reduceAdd, Nat.reduceLT, Nat.reduceLeDiff, Nat.reduceEqDiff, reduceIte, if_true, if_false, bi_add, bi_sub, bi_mul, bi_eql, bi_neq, bi_lss, bi_leq, bi_gtr, bi_geq, bs_eql, bs_neq, bs_lss, Am.unOp, ret1, pubL, pub, pubA, initT, wkZ, wk, wants, resOf, tupOf, quiet, AOp.cls, Nat.beq_eq, Bool.or_eq_true, decide_true, decide_false, beq_self_eq_true, Bool.true_or, Bool.or_true, true_and, and_true, lenA, eqv, eqB, eqP, scal, new_box_self, List.getElem?_cons_zero, List.getElem?_cons_succ, key_ii, key_ss, findM, updM, esc_i, esc_s, esc_b, Int.reduceEq, ret1, new_nb, new_set, reduceCtorEq, Bool.xor_true, Bool.xor_false, Bool.false_eq_true, List.all_cons, List.all_nil, noTok, Bool.and_self, Bool.and_true, Bool.true_and, h0, h1, h5, List.length_map, ofNat_len, natOf_nat, tx_get hlt, tx_get hlm, cells_s, ldA_1, wrap_succ (show i + 1 < 2 ^ 63 by omega)]
      refine CP_dec (fun hne => KR_some (Over.enter s) rfl ?_) (fun he => ⟨n - 1, by omega, i + 1, by omega, rfl, ?_⟩)
      · have : ¬ M.take L.length = L := fun hh => hne (und_get hh hlt hlm)
        simp [tupOf, wkZ, wk, undP, this]
      · exact take_step hp hlt hlm (by simpa using he)
    · refine KR_some (Over.enter s) rfl ?_
      have hi' : i = L.length := by omega
      subst hi'
      rw [List.take_length] at hp
      simp [tupOf, wkZ, wk, undP, ← hp]
  · simp only [W_seq, W_reg, W_cond, W_blk, W_skip, W_exit, W_ret, W_regD, WO_nil, WO_cons, WO_guard2, wantV_b, bq_tt, bq_ft, bq_tf, bq_ff, Bool.not_true, Bool.not_false, WD_nil, WD_cons, WD_guard2, WS_some, WS_none, KS_n, KS_x, KS_r, KB_n, KB_x, KB_r, KN_ap, KO_ap, KD_ap, KC_nil, KF_n, KF_r, KL_n, KL_x, KL_r, CP_true, CP_false, evOp, evX, X.ev, optX, put_some, put_none, get_set2, sel_t, sel_f, Nat.reduceBEq, Nat.reduceAdd, Nat.reduceLT, Nat.reduceLeDiff, Nat.reduceEqDiff, reduceIte, if_true, if_false, bi_add, bi_sub, bi_mul, bi_eql, bi_neq, bi_lss, bi_leq, bi_gtr, bi_geq, bs_eql, bs_neq, bs_lss, Am.unOp, ret1, pubL, pub, pubA, initT, wkZ, wk, wants, resOf, tupOf, quiet, AOp.cls, Nat.beq_eq, Bool.or_eq_true, decide_true, decide_false, beq_self_eq_true, Bool.true_or, Bool.or_true, true_and, and_true, lenA, eqv, eqB, eqP, scal, new_box_self, List.getElem?_cons_zero, List.getElem?_cons_succ, key_ii, key_ss, findM, updM, esc_i, esc_s, esc_b, Int.reduceEq, ret1, new_nb, new_set, reduceCtorEq, Bool.xor_true, Bool.xor_false, Bool.false_eq_true, List.all_cons, List.all_nil, noTok, Bool.and_self, Bool.and_true, Bool.true_and]
    exact ⟨0, by omega, rfl, by simp⟩

def sameP (L M : List (List Nat)) : Bool := decide (L = M)
theorem same_und {L M : List (List Nat)} (h : L.length = M.length) : undP L M = sameP L M := by
  unfold undP sameP
  rw [h, List.take_length]
  by_cases hh : L = M
  · subst hh; simp
  · rw [decide_eq_false hh, decide_eq_false fun h => hh h.symm]

theorem cast_eq {a b : Nat} (h : a = b) : ((a : Int) = (b : Int)) = True := by simp [h]
theorem cast_ne {a b : Nat} (h : a ≠ b) : ((a : Int) = (b : Int)) = False := by simp; omega
theorem cast_lt {a b : Nat} (h : a < b) : ((a : Int) < (b : Int)) = True := by simp; omega
theorem cast_nlt {a b : Nat} (h : ¬ a < b) : ((a : Int) < (b : Int)) = False := by simp; omega
theorem cast_le {a b : Nat} (h : a ≤ b) : ((a : Int) ≤ (b : Int)) = True := by simp; omega
theorem cast_nle {a b : Nat} (h : ¬ a ≤ b) : ((a : Int) ≤ (b : Int)) = False := by simp; omega
theorem beq_tt : (true == true) = true := rfl
theorem beq_ft : (false == true) = false := rfl
theorem beq_tf : (true == false) = false := rfl
theorem beq_ff : (false == false) = true := rfl

theorem ref_same_ok (L M : List (List Nat)) (hL : L.length < 2 ^ 62) (s : St) : (lim prog).call f_touchstoneref06_Same [tx L, tx M] s = some (.b (sameP L M), s) := by
  refine fn_W p_touchstoneref06_Same rfl rfl ?_
  by_cases h : L.length = M.length
  · simp only [c_touchstoneref06_Same, W_seq, W_reg, W_cond, W_blk, W_skip, W_exit, W_ret, W_regD, WO_nil, WO_cons, WO_guard2, wantV_b, bq_tt, bq_ft, bq_tf, bq_ff, Bool.not_true, Bool.not_false, WD_nil, WD_cons, WD_guard2, WS_some, WS_none, KS_n, KS_x, KS_r, KB_n, KB_x, KB_r, KN_ap, KO_ap, KD_ap, KC_nil, KF_n, KF_r, KL_n, KL_x, KL_r, CP_true, CP_false, evOp, evX, X.ev, optX, put_some, put_none, get_set2, sel_t, sel_f, Nat.reduceBEq, Nat.reduceAdd, Nat.reduceLT, Nat.reduceLeDiff, Nat.reduceEqDiff, reduceIte, if_true, if_false, bi_add, bi_sub, bi_mul, bi_eql, bi_neq, bi_lss, bi_leq, bi_gtr, bi_geq, bs_eql, bs_neq, bs_lss, Am.unOp, ret1, pubL, pub, pubA, initT, wkZ, wk, wants, resOf, tupOf, quiet, AOp.cls, Nat.beq_eq, Bool.or_eq_true, decide_true, decide_false, beq_self_eq_true, Bool.true_or, Bool.or_true, true_and, and_true, lenA, eqv, eqB, eqP, scal, new_box_self, List.getElem?_cons_zero, List.getElem?_cons_succ, key_ii, key_ss, findM, updM, esc_i, esc_s, esc_b, Int.reduceEq, ret1, new_nb, new_set, reduceCtorEq, Bool.xor_true, Bool.xor_false, Bool.false_eq_true, List.all_cons, List.all_nil, noTok, Bool.and_self, Bool.and_true, Bool.true_and, List.length_map, ofNat_len, ref_under_ok L M hL, cast_eq h]
    exact KR_some (Over.enter s) rfl (by simp [tupOf, wkZ, wk, same_und h])
  · simp only [c_touchstoneref06_Same, W_seq, W_reg, W_cond, W_blk, W_skip, W_exit, W_ret, W_regD, WO_nil, WO_cons, WO_guard2, wantV_b, bq_tt, bq_ft, bq_tf, bq_ff, Bool.not_true, Bool.not_false, WD_nil, WD_cons, WD_guard2, WS_some, WS_none, KS_n, KS_x, KS_r, KB_n, KB_x, KB_r, KN_ap, KO_ap, KD_ap, KC_nil, KF_n, KF_r, KL_n, KL_x, KL_r, CP_true, CP_false, evOp, evX, X.ev, optX, put_some, put_none, get_set2, sel_t, sel_f, Nat.reduceBEq, Nat.reduceAdd, Nat.reduceLT, Nat.reduceLeDiff, Nat.reduceEqDiff, reduceIte, if_true, if_false, bi_add, bi_sub, bi_mul, bi_eql, bi_neq, bi_lss, bi_leq, bi_gtr, bi_geq, bs_eql, bs_neq, bs_lss, Am.unOp, ret1, pubL, pub, pubA, initT, wkZ, wk, wants, resOf, tupOf, quiet, AOp.cls, Nat.beq_eq, Bool.or_eq_true, decide_true, decide_false, beq_self_eq_true, Bool.true_or, Bool.or_true, true_and, and_true, lenA, eqv, eqB, eqP, scal, new_box_self, List.getElem?_cons_zero, List.getElem?_cons_succ, key_ii, key_ss, findM, updM, esc_i, esc_s, esc_b, Int.reduceEq, ret1, new_nb, new_set, reduceCtorEq, Bool.xor_true, Bool.xor_false, Bool.false_eq_true, List.all_cons, List.all_nil, noTok, Bool.and_self, Bool.and_true, Bool.true_and, List.length_map, ofNat_len, ref_under_ok L M hL, cast_ne h, beq_ft]
    refine KR_some (Over.enter s) rfl ?_
    have : ¬ L = M := fun hh => h (by rw [hh])
    simp [tupOf, wkZ, wk, sameP, this]

theorem bs_gtr (x y : List Nat) : Am.binOp .gtr (.s x) (.s y) = some (.b (!(ltN x y || decide (x = y)))) := by simp [Am.binOp, strOp, beqN_dec]

def cmpS (a b : List Nat) : Int := if ltN a b = true then -1 else if a = b then 0 else 1

theorem isNaN_ok (a : List Nat) (s : St) : (lim prog).call f_cmp_isNaN_string [.s a] s = some (.b false, s) := by
  refine fn_W p_cmp_isNaN_string rfl rfl ?_
  simp only [c_cmp_isNaN_string, W_seq, W_reg, W_cond, W_blk, W_skip, W_exit, W_ret, W_regD, WO_nil, WO_cons, WO_guard2, wantV_b, bq_tt, bq_ft, bq_tf, bq_ff, Bool.not_true, Bool.not_false, WD_nil, WD_cons, WD_guard2, WS_some, WS_none, KS_n, KS_x, KS_r, KB_n, KB_x, KB_r, KN_ap, KO_ap, KD_ap, KC_nil, KF_n, KF_r, KL_n, KL_x, KL_r, CP_true, CP_false, evOp, evX, X.ev, optX, put_some, put_none, get_set2, sel_t, sel_f, Nat.reduceBEq, Nat.reduceAdd, Nat.reduceLT, Nat.reduceLeDiff, Nat.reduceEqDiff, reduceIte, if_true, if_false, bi_add, bi_sub, bi_mul, bi_eql, bi_neq, bi_lss, bi_leq, bi_gtr, bi_geq, bs_eql, bs_neq, bs_lss, Am.unOp, ret1, pubL, pub, pubA, initT, wkZ, wk, wants, resOf, tupOf, quiet, AOp.cls, Nat.beq_eq, Bool.or_eq_true, decide_true, decide_false, beq_self_eq_true, Bool.true_or, Bool.or_true, true_and, and_true, lenA, eqv, eqB, eqP, scal, new_box_self, List.getElem?_cons_zero, List.getElem?_cons_succ, key_ii, key_ss, findM, updM, esc_i, esc_s, esc_b, Int.reduceEq, ret1, new_nb, new_set, reduceCtorEq, Bool.xor_true, Bool.xor_false, Bool.false_eq_true, List.all_cons, List.all_nil, noTok, Bool.and_self, Bool.and_true, Bool.true_and]
  exact KR_some (Over.enter s) rfl (by simp [tupOf, wkZ, wk])

theorem cmp_ok (a b : List Nat) (s : St) : (lim prog).call f_cmp_Compare_string [.s a, .s b] s = some (.i .i64 (cmpS a b), s) := by
  refine fn_W p_cmp_Compare_string rfl rfl ?_
  simp only [c_cmp_Compare_string, W_seq, W_reg, W_cond, W_blk, W_skip, W_exit, W_ret, W_regD, WO_nil, WO_cons, WO_guard2, wantV_b, bq_tt, bq_ft, bq_tf, bq_ff, Bool.not_true, Bool.not_false, WD_nil, WD_cons, WD_guard2, WS_some, WS_none, KS_n, KS_x, KS_r, KB_n, KB_x, KB_r, KN_ap, KO_ap, KD_ap, KC_nil, KF_n, KF_r, KL_n, KL_x, KL_r, CP_true, CP_false, evOp, evX, X.ev, optX, put_some, put_none, get_set2, sel_t, sel_f, Nat.reduceBEq, Nat.reduceAdd, Nat.reduceLT, Nat.reduceLeDiff, Nat.reduceEqDiff, reduceIte, if_true, if_false, bi_add, bi_sub, bi_mul, bi_eql, bi_neq, bi_lss, bi_leq, bi_gtr, bi_geq, bs_eql, bs_neq, bs_lss, Am.unOp, ret1, pubL, pub, pubA, initT, wkZ, wk, wants, resOf, tupOf, quiet, AOp.cls, Nat.beq_eq, Bool.or_eq_true, decide_true, decide_false, beq_self_eq_true, Bool.true_or, Bool.or_true, true_and, and_true, lenA, eqv, eqB, eqP, scal, new_box_self, List.getElem?_cons_zero, List.getElem?_cons_succ, key_ii, key_ss, findM, updM, esc_i, esc_s, esc_b, Int.reduceEq, ret1, new_nb, new_set, reduceCtorEq, Bool.xor_true, Bool.xor_false, Bool.false_eq_true, List.all_cons, List.all_nil, noTok, Bool.and_self, Bool.and_true, Bool.true_and, isNaN_ok, bs_gtr]
  refine CP_of (fun h => KR_some (Over.enter s) rfl (by simp [tupOf, wkZ, wk, cmpS, h])) (fun h => ?_)
  refine CP_of (fun h2 => KR_some (Over.enter s) rfl ?_) (fun h2 => KR_some (Over.enter s) rfl ?_)
  · simp [h] at h2
    simp [tupOf, wkZ, wk, cmpS, h, h2]
  · simp [h] at h2
    subst h2
    simp [tupOf, wkZ, wk, cmpS, h]

def cmpT : List (List Nat) → List (List Nat) → Int
  | [], [] => 0
  | [], _ :: _ => -1
  | _ :: _, [] => 1
  | a :: L, b :: M => if cmpS a b = 0 then cmpT L M else cmpS a b

theorem compare_ok (L M : List (List Nat)) (hL : L.length < 2 ^ 62) (s : St) : (lim prog).call f_slices_Compare_string_string [tx L, tx M] s = some (.i .i64 (cmpT L M), s) := by
  refine fn_W p_slices_Compare_string_string rfl rfl ?_
  simp only [c_slices_Compare_string_string, W_seq, W_reg, W_cond, W_blk, W_skip, W_exit, W_ret, W_regD, WO_nil, WO_cons, WO_guard2, wantV_b, bq_tt, bq_ft, bq_tf, bq_ff, Bool.not_true, Bool.not_false, WD_nil, WD_cons, WD_guard2, WS_some, WS_none, KS_n, KS_x, KS_r, KB_n, KB_x, KB_r, KN_ap, KO_ap, KD_ap, KC_nil, KF_n, KF_r, KL_n, KL_x, KL_r, CP_true, CP_false, evOp, evX, X.ev, optX, put_some, put_none, get_set2, sel_t, sel_f, Nat.reduceBEq, Nat.reduceAdd, Nat.reduceLT, Nat.reduceLeDiff, Nat.reduceEqDiff, reduceIte, if_true, if_false, bi_add, bi_sub, bi_mul, bi_eql, bi_neq, bi_lss, bi_leq, bi_gtr, bi_geq, bs_eql, bs_neq, bs_lss, Am.unOp, ret1, pubL, pub, pubA, initT, wkZ, wk, wants, resOf, tupOf, quiet, AOp.cls, Nat.beq_eq, Bool.or_eq_true, decide_true, decide_false, beq_self_eq_true, Bool.true_or, Bool.or_true, true_and, and_true, lenA, eqv, eqB, eqP, scal, new_box_self, List.getElem?_cons_zero, List.getElem?_cons_succ, key_ii, key_ss, findM, updM, esc_i, esc_s, esc_b, Int.reduceEq, ret1, new_nb, new_set, reduceCtorEq, Bool.xor_true, Bool.xor_false, Bool.false_eq_true, List.all_cons, List.all_nil, noTok, Bool.and_self, Bool.and_true, Bool.true_and, List.length_map, ofNat_len]
  refine W_loop (fun n e s1 => s1 = s.enter ∧ e.get 0 = tx L ∧ e.get 1 = tx M ∧ e.get 9 = tx L ∧ e.get 10 = .i .i64 L.length ∧ ∃ i : Nat, i + n = L.length ∧ e.get 11 = .i .i64 i ∧ i ≤ M.length ∧ cmpT L M = cmpT (L.drop i) (M.drop i)) ?_ L.length _ _ ?_
  · rintro n e s1 ⟨rfl, h0, h1, h9, h10, i, hi, h11, him, hp⟩
    simp only [W_seq, W_reg, W_cond, W_blk, W_skip, W_exit, W_ret, W_regD, WO_nil, WO_cons, WO_guard2, wantV_b, bq_tt, bq_ft, bq_tf, bq_ff, Bool.not_true, Bool.not_false, WD_nil, WD_cons, WD_guard2, WS_some, WS_none, KS_n, KS_x, KS_r, KB_n, KB_x, KB_r, KN_ap, KO_ap, KD_ap, KC_nil, KF_n, KF_r, KL_n, KL_x, KL_r, CP_true, CP_false, evOp, evX, X.ev, optX, put_some, put_none, get_set2, sel_t, sel_f, Nat.reduceBEq, Nat.reduceAdd, Nat.reduceLT, Nat.reduceLeDiff, Nat.reduceEqDiff, reduceIte, if_true, if_false, bi_add, bi_sub, bi_mul, bi_eql, bi_neq, bi_lss, bi_leq, bi_gtr, bi_geq, bs_eql, bs_neq, bs_lss, Am.unOp, ret1, pubL, pub, pubA, initT, wkZ, wk, wants, resOf, tupOf, quiet, AOp.cls, Nat.beq_eq, Bool.or_eq_true, decide_true, decide_false, beq_self_eq_true, Bool.true_or, Bool.or_true, true_and, and_true, lenA, eqv, eqB, eqP, scal, new_box_self, List.getElem?_cons_zero, List.getElem?_cons_succ, key_ii, key_ss, findM, updM, esc_i, esc_s, esc_b, Int.reduceEq, ret1, new_nb, new_set, reduceCtorEq, Bool.xor_true, Bool.xor_false, Bool.false_eq_true, List.all_cons, List.all_nil, noTok, Bool.and_self, Bool.and_true, Bool.true_and, h0, h1, h9, h10, h11, List.length_map, ofNat_len]
    refine CP_dec (fun hlt => ?_) (fun hge => ?_)
    · have hlt : i < L.length := by omega
      simp only [W_seq, W_reg, W_cond, W_blk, W_skip, W_exit, W_ret, W_regD, WO_nil, WO_cons, WO_guard2, wantV_b, bq_tt, bq_ft, bq_tf, bq_ff, Bool.not_true, Bool.not_false, WD_nil, WD_cons, WD_guard2, WS_some, WS_none, KS_n, KS_x, KS_r, KB_n, KB_x, KB_r, KN_ap, KO_ap, KD_ap, KC_nil, KF_n, KF_r, KL_n, KL_x, KL_r, CP_true, CP_false, evOp, evX, X.ev, optX, put_some, put_none, get_set2, sel_t, sel_f, Nat.reduceBEq, Nat.reduceAdd, Nat.reduceLT, Nat.reduceLeDiff, Nat.reduceEqDiff, reduceIte, if_true, if_false, bi_add, bi_sub, bi_mul, bi_eql, bi_neq, bi_lss, bi_leq, bi_gtr, bi_geq, bs_eql, bs_neq, bs_lss, Am.unOp, ret1, pubL, pub, pubA, initT, wkZ, wk, wants, resOf, tupOf, quiet, AOp.cls, Nat.beq_eq, Bool.or_eq_true, decide_true, decide_false, beq_self_eq_true, Bool.true_or, Bool.or_true, true_and, and_true, lenA, eqv, eqB, eqP, scal, new_box_self, List.getElem?_cons_zero, List.getElem?_cons_succ, key_ii, key_ss, findM, updM, esc_i, esc_s, esc_b, Int.reduceEq, ret1, new_nb, new_set, reduceCtorEq, Bool.xor_true, Bool.xor_false, Bool.false_eq_true, List.all_cons, List.all_nil, noTok, Bool.and_self, Bool.and_true, Bool.true_and, h0, h1, h9, h10, h11, List.length_map, ofNat_len, natOf_nat, tx_get hlt, cells_s, ldA_1, wrap_succ (show i + 1 < 2 ^ 63 by omega)]
      refine CP_dec (fun hge => KR_some (Over.enter s) rfl ?_) (fun hl2 => ?_)
      · have h2 : M.drop i = [] := List.drop_eq_nil_iff.2 (by omega)
        rw [List.drop_eq_getElem_cons hlt, h2] at hp
        simp [tupOf, wkZ, wk, hp, cmpT]
      · have hl2 : i < M.length := by omega
        simp only [W_seq, W_reg, W_cond, W_blk, W_skip, W_exit, W_ret, W_regD, WO_nil, WO_cons, WO_guard2, wantV_b, bq_tt, bq_ft, bq_tf, bq_ff, Bool.not_true, Bool.not_false, WD_nil, WD_cons, WD_guard2, WS_some, WS_none, KS_n, KS_x, KS_r, KB_n, KB_x, KB_r, KN_ap, KO_ap, KD_ap, KC_nil, KF_n, KF_r, KL_n, KL_x, KL_r, CP_true, CP_false, evOp, evX, X.ev, optX, put_some, put_none, get_set2, sel_t, sel_f, Nat.reduceBEq, Nat.reduceAdd, Nat.reduceLT, Nat.reduceLeDiff, Nat.reduceEqDiff, reduceIte, if_true, if_false, bi_add, bi_sub, bi_mul, bi_eql, bi_neq, bi_lss, bi_leq, bi_gtr, bi_geq, bs_eql, bs_neq, bs_lss, Am.unOp, ret1, pubL, pub, pubA, initT, wkZ, wk, wants, resOf, tupOf, quiet, AOp.cls, Nat.beq_eq, Bool.or_eq_true, decide_true, decide_false, beq_self_eq_true, Bool.true_or, Bool.or_true, true_and, and_true, lenA, eqv, eqB, eqP, scal, new_box_self, List.getElem?_cons_zero, List.getElem?_cons_succ, key_ii, key_ss, findM, updM, esc_i, esc_s, esc_b, Int.reduceEq, ret1, new_nb, new_set, reduceCtorEq, Bool.xor_true, Bool.xor_false, Bool.false_eq_true, List.all_cons, List.all_nil, noTok, Bool.and_self, Bool.and_true, Bool.true_and, h0, h1, h9, h10, h11, List.length_map, ofNat_len, natOf_nat, tx_get hlt, tx_get hl2, cells_s, ldA_1, wrap_succ (show i + 1 < 2 ^ 63 by omega), cmp_ok]
        rw [List.drop_eq_getElem_cons hlt, List.drop_eq_getElem_cons hl2] at hp
        refine CP_dec (fun hne => KR_some (Over.enter s) rfl ?_) (fun he => ⟨n - 1, by omega, i + 1, by omega, rfl, by omega, ?_⟩)
        · simp only [cmpT, if_neg hne] at hp
          simp [tupOf, wkZ, wk, hp]
        · have he : cmpS L[i] M[i] = 0 := by simpa using he
          simp only [cmpT, if_pos he] at hp
          exact hp
    · have hi' : i = L.length := by omega
      rw [List.drop_eq_nil_iff.2 (show L.length ≤ i by omega)] at hp
      refine CP_dec (fun hlt => KR_some (Over.enter s) rfl ?_) (fun hge => KR_some (Over.enter s) rfl ?_)
      · have hlm : i < M.length := by omega
        rw [List.drop_eq_getElem_cons hlm] at hp
        simp [tupOf, wkZ, wk, hp, cmpT]
      · rw [List.drop_eq_nil_iff.2 (show M.length ≤ i by omega)] at hp
        simp [tupOf, wkZ, wk, hp, cmpT]
  · simp only [W_seq, W_reg, W_cond, W_blk, W_skip, W_exit, W_ret, W_regD, WO_nil, WO_cons, WO_guard2, wantV_b, bq_tt, bq_ft, bq_tf, bq_ff, Bool.not_true, Bool.not_false, WD_nil, WD_cons, WD_guard2, WS_some, WS_none, KS_n, KS_x, KS_r, KB_n, KB_x, KB_r, KN_ap, KO_ap, KD_ap, KC_nil, KF_n, KF_r, KL_n, KL_x, KL_r, CP_true, CP_false, evOp, evX, X.ev, optX, put_some, put_none, get_set2, sel_t, sel_f, Nat.reduceBEq, Nat.reduceAdd, Nat.reduceLT, Nat.reduceLeDiff, Nat.reduceEqDiff, reduceIte, if_true, if_false, bi_add, bi_sub, bi_mul, bi_eql, bi_neq, bi_lss, bi_leq, bi_gtr, bi_geq, bs_eql, bs_neq, bs_lss, Am.unOp, ret1, pubL, pub, pubA, initT, wkZ, wk, wants, resOf, tupOf, quiet, AOp.cls, Nat.beq_eq, Bool.or_eq_true, decide_true, decide_false, beq_self_eq_true, Bool.true_or, Bool.or_true, true_and, and_true, lenA, eqv, eqB, eqP, scal, new_box_self, List.getElem?_cons_zero, List.getElem?_cons_succ, key_ii, key_ss, findM, updM, esc_i, esc_s, esc_b, Int.reduceEq, ret1, new_nb, new_set, reduceCtorEq, Bool.xor_true, Bool.xor_false, Bool.false_eq_true, List.all_cons, List.all_nil, noTok, Bool.and_self, Bool.and_true, Bool.true_and]
    exact ⟨0, by omega, rfl, by omega, rfl⟩

def lessP (L M : List (List Nat)) : Bool := decide (cmpT L M < 0)
theorem less_ok (L M : List (List Nat)) (hL : L.length < 2 ^ 62) (s : St) : (lim prog).call f_path_Less [tx L, tx M] s = some (.b (lessP L M), s) := by
  refine fn_W p_path_Less rfl rfl ?_
  simp only [c_path_Less, W_seq, W_reg, W_cond, W_blk, W_skip, W_exit, W_ret, W_regD, WO_nil, WO_cons, WO_guard2, wantV_b, bq_tt, bq_ft, bq_tf, bq_ff, Bool.not_true, Bool.not_false, WD_nil, WD_cons, WD_guard2, WS_some, WS_none, KS_n, KS_x, KS_r, KB_n, KB_x, KB_r, KN_ap, KO_ap, KD_ap, KC_nil, KF_n, KF_r, KL_n, KL_x, KL_r, CP_true, CP_false, evOp, evX, X.ev, optX, put_some, put_none, get_set2, sel_t, sel_f, Nat.reduceBEq, Nat.reduceAdd, Nat.reduceLT, Nat.reduceLeDiff, Nat.reduceEqDiff, reduceIte, if_true, if_false, bi_add, bi_sub, bi_mul, bi_eql, bi_neq, bi_lss, bi_leq, bi_gtr, bi_geq, bs_eql, bs_neq, bs_lss, Am.unOp, ret1, pubL, pub, pubA, initT, wkZ, wk, wants, resOf, tupOf, quiet, AOp.cls, Nat.beq_eq, Bool.or_eq_true, decide_true, decide_false, beq_self_eq_true, Bool.true_or, Bool.or_true, true_and, and_true, lenA, eqv, eqB, eqP, scal, new_box_self, List.getElem?_cons_zero, List.getElem?_cons_succ, key_ii, key_ss, findM, updM, esc_i, esc_s, esc_b, Int.reduceEq, ret1, new_nb, new_set, reduceCtorEq, Bool.xor_true, Bool.xor_false, Bool.false_eq_true, List.all_cons, List.all_nil, noTok, Bool.and_self, Bool.and_true, Bool.true_and, compare_ok L M hL]
  exact KR_some (Over.enter s) rfl rfl

theorem equal_ok (L M : List (List Nat)) (hL : L.length < 2 ^ 62) (s : St) : (lim prog).call f_slices_Equal_string_string [tx L, tx M] s = some (.b (sameP L M), s) := by
  refine fn_W p_slices_Equal_string_string rfl rfl ?_
  simp only [c_slices_Equal_string_string, W_seq, W_reg, W_cond, W_blk, W_skip, W_exit, W_ret, W_regD, WO_nil, WO_cons, WO_guard2, wantV_b, bq_tt, bq_ft, bq_tf, bq_ff, Bool.not_true, Bool.not_false, WD_nil, WD_cons, WD_guard2, WS_some, WS_none, KS_n, KS_x, KS_r, KB_n, KB_x, KB_r, KN_ap, KO_ap, KD_ap, KC_nil, KF_n, KF_r, KL_n, KL_x, KL_r, CP_true, CP_false, evOp, evX, X.ev, optX, put_some, put_none, get_set2, sel_t, sel_f, Nat.reduceBEq, Nat.reduceAdd, Nat.reduceLT, Nat.reduceLeDiff, Nat.reduceEqDiff, reduceIte, if_true, if_false, bi_add, bi_sub, bi_mul, bi_eql, bi_neq, bi_lss, bi_leq, bi_gtr, bi_geq, bs_eql, bs_neq, bs_lss, Am.unOp, ret1, pubL, pub, pubA, initT, wkZ, wk, wants, resOf, tupOf, quiet, AOp.cls, Nat.beq_eq, Bool.or_eq_true, decide_true, decide_false, beq_self_eq_true, Bool.true_or, Bool.or_true, true_and, and_true, lenA, eqv, eqB, eqP, scal, new_box_self, List.getElem?_cons_zero, List.getElem?_cons_succ, key_ii, key_ss, findM, updM, esc_i, esc_s, esc_b, Int.reduceEq, ret1, new_nb, new_set, reduceCtorEq, Bool.xor_true, Bool.xor_false, Bool.false_eq_true, List.all_cons, List.all_nil, noTok, Bool.and_self, Bool.and_true, Bool.true_and, List.length_map, ofNat_len]
  refine CP_dec (fun h => KR_some (Over.enter s) rfl ?_) (fun h => ?_)
  · have : ¬ L = M := fun hh => by subst hh; exact absurd rfl h
    simp [tupOf, wkZ, wk, sameP, this]
  have hl : L.length = M.length := by simp at h; omega
  refine W_loop (fun n e s1 => s1 = s.enter ∧ e.get 0 = tx L ∧ e.get 1 = tx M ∧ e.get 12 = .i .i64 L.length ∧ ∃ i : Nat, i + n = L.length ∧ e.get 13 = .i .i64 i ∧ L.take i = M.take i) ?_ L.length _ _ ?_
  · rintro n e s1 ⟨rfl, h0, h1, h12, i, hi, h13, hp⟩
    simp only [W_seq, W_reg, W_cond, W_blk, W_skip, W_exit, W_ret, W_regD, WO_nil, WO_cons, WO_guard2, wantV_b, bq_tt, bq_ft, bq_tf, bq_ff, Bool.not_true, Bool.not_false, WD_nil, WD_cons, WD_guard2, WS_some, WS_none, KS_n, KS_x, KS_r, KB_n, KB_x, KB_r, KN_ap, KO_ap, KD_ap, KC_nil, KF_n, KF_r, KL_n, KL_x, KL_r, CP_true, CP_false, evOp, evX, X.ev, optX, put_some, put_none, get_set2, sel_t, sel_f, Nat.reduceBEq, Nat.reduceAdd, Nat.reduceLT, Nat.reduceLeDiff, Nat.reduceEqDiff, reduceIte, if_true, if_false, bi_add, bi_sub, bi_mul, bi_eql, bi_neq, bi_lss, bi_leq, bi_gtr, bi_geq, bs_eql, bs_neq, bs_lss, Am.unOp, ret1, pubL, pub, pubA, initT, wkZ, wk, wants, resOf, tupOf, quiet, AOp.cls, Nat.beq_eq, Bool.or_eq_true, decide_true, decide_false, beq_self_eq_true, Bool.true_or, Bool.or_true, true_and, and_true, lenA, eqv, eqB, eqP, scal, new_box_self, List.getElem?_cons_zero, List.getElem?_cons_succ, key_ii, key_ss, findM, updM, esc_i, esc_s, esc_b, Int.reduceEq, ret1, new_nb, new_set, reduceCtorEq, Bool.xor_true, Bool.xor_false, Bool.false_eq_true, List.all_cons, List.all_nil, noTok, Bool.and_self, Bool.and_true, Bool.true_and, h0, h1, h12, h13, List.length_map, ofNat_len]
    refine CP_dec (fun hlt => ?_) (fun hge => ?_)
    · have hlt : i < L.length := by omega
      have hlm : i < M.length := by omega
      simp only [W_seq, W_reg, W_cond, W_blk, W_skip, W_exit, W_ret, W_regD, WO_nil, WO_cons, WO_guard2, wantV_b, bq_tt, bq_ft, bq_tf, bq_ff, Bool.not_true, Bool.not_false, WD_nil, WD_cons, WD_guard2, WS_some, WS_none, KS_n, KS_x, KS_r, KB_n, KB_x, KB_r, KN_ap, KO_ap, KD_ap, KC_nil, KF_n, KF_r, KL_n, KL_x, KL_r, CP_true, CP_false, evOp, evX, X.ev, optX, put_some, put_none, get_set2, sel_t, sel_f, Nat.reduceBEq, Nat.reduceAdd, Nat.reduceLT, Nat.reduceLeDiff, Nat.reduceEqDiff, reduceIte, if_true, if_false, bi_add, bi_sub, bi_mul, bi_eql, bi_neq, bi_lss, bi_leq, bi_gtr, bi_geq, bs_eql, bs_neq, bs_lss, Am.unOp, ret1, pubL, pub, pubA, initT, wkZ, wk, wants, resOf, tupOf, quiet, AOp.cls, Nat.beq_eq, Bool.or_eq_true, decide_true, decide_false, beq_self_eq_true, Bool.true_or, Bool.or_true, true_and, and_true, lenA, eqv, eqB, eqP, scal, new_box_self, List.getElem?_cons_zero, List.getElem?_cons_succ, key_ii, key_ss, findM, updM, esc_i, esc_s, esc_b, Int.reduceEq, ret1, new_nb, new_set, reduceCtorEq, Bool.xor_true, Bool.xor_false, Bool.false_eq_true, List.all_cons, List.all_nil, noTok, Bool.and_self, Bool.and_true, Bool.true_and, h0, h1, h12, h13, List.length_map, ofNat_len, natOf_nat, tx_get hlt, tx_get hlm, cells_s, ldA_1, wrap_succ (show i + 1 < 2 ^ 63 by omega)]
      refine CP_dec (fun hne => KR_some (Over.enter s) rfl ?_) (fun he => ⟨n - 1, by omega, i + 1, by omega, rfl, ?_⟩)
      · have : ¬ L = M := fun hh => by subst hh; exact hne rfl
        simp [tupOf, wkZ, wk, sameP, this]
      · exact take_step hp hlt hlm (by simpa using he)
    · refine KR_some (Over.enter s) rfl ?_
      have hi' : i = L.length := by omega
      subst hi'
      rw [List.take_length, hl, List.take_length] at hp
      simp [tupOf, wkZ, wk, sameP, hp]
  · simp only [W_seq, W_reg, W_cond, W_blk, W_skip, W_exit, W_ret, W_regD, WO_nil, WO_cons, WO_guard2, wantV_b, bq_tt, bq_ft, bq_tf, bq_ff, Bool.not_true, Bool.not_false, WD_nil, WD_cons, WD_guard2, WS_some, WS_none, KS_n, KS_x, KS_r, KB_n, KB_x, KB_r, KN_ap, KO_ap, KD_ap, KC_nil, KF_n, KF_r, KL_n, KL_x, KL_r, CP_true, CP_false, evOp, evX, X.ev, optX, put_some, put_none, get_set2, sel_t, sel_f, Nat.reduceBEq, Nat.reduceAdd, Nat.reduceLT, Nat.reduceLeDiff, Nat.reduceEqDiff, reduceIte, if_true, if_false, bi_add, bi_sub, bi_mul, bi_eql, bi_neq, bi_lss, bi_leq, bi_gtr, bi_geq, bs_eql, bs_neq, bs_lss, Am.unOp, ret1, pubL, pub, pubA, initT, wkZ, wk, wants, resOf, tupOf, quiet, AOp.cls, Nat.beq_eq, Bool.or_eq_true, decide_true, decide_false, beq_self_eq_true, Bool.true_or, Bool.or_true, true_and, and_true, lenA, eqv, eqB, eqP, scal, new_box_self, List.getElem?_cons_zero, List.getElem?_cons_succ, key_ii, key_ss, findM, updM, esc_i, esc_s, esc_b, Int.reduceEq, ret1, new_nb, new_set, reduceCtorEq, Bool.xor_true, Bool.xor_false, Bool.false_eq_true, List.all_cons, List.all_nil, noTok, Bool.and_self, Bool.and_true, Bool.true_and]
    exact ⟨0, by omega, rfl, by simp⟩

theorem slice_tx (s : St) (M : List (List Nat)) (n : Nat) (h : n ≤ M.length) : sliceA s false 1 (tx M) none (some (.i .i64 n)) none = some (tx (M.take n), s) := by
  simp only [sliceA, bounds, natOf_nat, List.length_map]
  rw [if_pos (by trivial), if_pos ⟨Nat.zero_le _, h⟩]
  simp only [List.drop_zero, Nat.sub_zero]
  by_cases hn : n = M.length
  · subst hn; simp
  · rw [if_neg (by simp [hn])]; simp

theorem und_take {L M : List (List Nat)} : sameP L (M.take L.length) = undP L M := by
  unfold undP sameP
  by_cases h : M.take L.length = L
  · rw [decide_eq_true h, decide_eq_true h.symm]
  · rw [decide_eq_false h, decide_eq_false fun hh => h hh.symm]

theorem under_ok (L M : List (List Nat)) (hL : L.length < 2 ^ 62) (s : St) : (lim prog).call f_path_Under [tx L, tx M] s = some (.b (undP L M), s) := by
  refine fn_W p_path_Under rfl rfl ?_
  by_cases h : L.length ≤ M.length
  · simp only [c_path_Under, W_seq, W_reg, W_cond, W_blk, W_skip, W_exit, W_ret, W_regD, WO_nil, WO_cons, WO_guard2, wantV_b, bq_tt, bq_ft, bq_tf, bq_ff, Bool.not_true, Bool.not_false, WD_nil, WD_cons, WD_guard2, WS_some, WS_none, KS_n, KS_x, KS_r, KB_n, KB_x, KB_r, KN_ap, KO_ap, KD_ap, KC_nil, KF_n, KF_r, KL_n, KL_x, KL_r, CP_true, CP_false, evOp, evX, X.ev, optX, put_some, put_none, get_set2, sel_t, sel_f, Nat.reduceBEq, Nat.reduceAdd, Nat.reduceLT, Nat.reduceLeDiff, Nat.reduceEqDiff, reduceIte, if_true, if_false, bi_add, bi_sub, bi_mul, bi_eql, bi_neq, bi_lss, bi_leq, bi_gtr, bi_geq, bs_eql, bs_neq, bs_lss, Am.unOp, ret1, pubL, pub, pubA, initT, wkZ, wk, wants, resOf, tupOf, quiet, AOp.cls, Nat.beq_eq, Bool.or_eq_true, decide_true, decide_false, beq_self_eq_true, Bool.true_or, Bool.or_true, true_and, and_true, lenA, eqv, eqB, eqP, scal, new_box_self, List.getElem?_cons_zero, List.getElem?_cons_succ, key_ii, key_ss, findM, updM, esc_i, esc_s, esc_b, Int.reduceEq, ret1, new_nb, new_set, reduceCtorEq, Bool.xor_true, Bool.xor_false, Bool.false_eq_true, List.all_cons, List.all_nil, noTok, Bool.and_self, Bool.and_true, Bool.true_and, List.length_map, ofNat_len, cast_le h, beq_tt, slice_tx _ _ _ h, equal_ok L _ hL, und_take]
    exact KR_some (Over.enter s) rfl rfl
  · simp only [c_path_Under, W_seq, W_reg, W_cond, W_blk, W_skip, W_exit, W_ret, W_regD, WO_nil, WO_cons, WO_guard2, wantV_b, bq_tt, bq_ft, bq_tf, bq_ff, Bool.not_true, Bool.not_false, WD_nil, WD_cons, WD_guard2, WS_some, WS_none, KS_n, KS_x, KS_r, KB_n, KB_x, KB_r, KN_ap, KO_ap, KD_ap, KC_nil, KF_n, KF_r, KL_n, KL_x, KL_r, CP_true, CP_false, evOp, evX, X.ev, optX, put_some, put_none, get_set2, sel_t, sel_f, Nat.reduceBEq, Nat.reduceAdd, Nat.reduceLT, Nat.reduceLeDiff, Nat.reduceEqDiff, reduceIte, if_true, if_false, bi_add, bi_sub, bi_mul, bi_eql, bi_neq, bi_lss, bi_leq, bi_gtr, bi_geq, bs_eql, bs_neq, bs_lss, Am.unOp, ret1, pubL, pub, pubA, initT, wkZ, wk, wants, resOf, tupOf, quiet, AOp.cls, Nat.beq_eq, Bool.or_eq_true, decide_true, decide_false, beq_self_eq_true, Bool.true_or, Bool.or_true, true_and, and_true, lenA, eqv, eqB, eqP, scal, new_box_self, List.getElem?_cons_zero, List.getElem?_cons_succ, key_ii, key_ss, findM, updM, esc_i, esc_s, esc_b, Int.reduceEq, ret1, new_nb, new_set, reduceCtorEq, Bool.xor_true, Bool.xor_false, Bool.false_eq_true, List.all_cons, List.all_nil, noTok, Bool.and_self, Bool.and_true, Bool.true_and, List.length_map, ofNat_len, cast_nle h, beq_ft]
    refine KR_some (Over.enter s) rfl ?_
    have : ¬ M.take L.length = L := fun hh => h (und_len hh)
    simp [tupOf, wkZ, wk, undP, this]
end Go.Proofs.YtmeahkccilkofaaDoor
