/-
  What the functions of path come to on the abstract machine.
-/
import Derived.Test.YtfaodjpibdhdjaaDoorFns
import Derived.Test.YtfaodjpibdhdjaaDoorAmWp
import Derived.Test.YtfaodjpibdhdjaaDoorAmRows
import Derived.KernelRfl
import Derived.Test.YtfaodjpibdhdjaaDoorAmRead
import Derived.Laws.RangeAny
import Derived.Test.YtfaodjpibdhdjaaDoorAmRf
set_option linter.all false
set_option linter.unusedVariables false
set_option linter.unusedSimpArgs false
set_option linter.unusedSectionVars false
set_option maxRecDepth 100000
set_option linter.unusedSimpArgs false
namespace Go.Proofs.YtfaodjpibdhdjaaDoor
open Go.Proofs.YtfaodjpibdhdjaaDoor.Am

/-- A row of texts, as it is told at a call's border. -/
abbrev tx (L : List (List Nat)) : AV := .ws false 1 (L.map .s)

theorem natOf_nat (k : IntKind) (i : Nat) : natOf (.i k (i : Int)) = some i := by simp [natOf]
theorem tx_get {L : List (List Nat)} {i : Nat} (h : i < L.length) : (L.map AV.s)[i]? = some (.s L[i]) := by simp [h]
theorem ldA_1 (s : St) (v : AV) : ldA s false 1 (.ep [v] 0 .shut) = some v := rfl
theorem cells_s (l : List Nat) : (AV.s l).cells = [.s l] := rfl
theorem wrap_nat {i : Nat} (h : i < 2 ^ 63) : IntKind.i64.wrap (i : Int) = i := by
  have e1 : ((i : Int) % 2 ^ 64) = i := by omega
  simp only [IntKind.wrap, IntKind.signed, IntKind.bits, e1]
  rw [if_neg]
  simp; omega
theorem wrap_succ {i : Nat} (h : i + 1 < 2 ^ 63) : IntKind.i64.wrap ((i : Int) + 1) = ((i + 1 : Nat) : Int) := by
  rw [← wrap_nat h]; simp
theorem ofNat_len (n : Nat) : Int.ofNat n = (n : Int) := rfl

def longP (L : List (List Nat)) : Bool := decide (100 < L.length) || L.any fun x => decide (500 < x.length)

theorem long_ok (L : List (List Nat)) (s : St) : (lim prog).call f_touchstonelaw06_long [tx L] s = some (.b (longP L), s) := by
  refine fn_W p_touchstonelaw06_long rfl rfl ?_
  simp only [c_touchstonelaw06_long, W_seq, W_reg, W_cond, W_blk, W_skip, W_exit, W_ret, W_regD, WO_nil, WO_cons, WO_guard2, wantV_b, bq_tt, bq_ft, bq_tf, bq_ff, Bool.not_true, Bool.not_false, WD_nil, WD_cons, WD_guard2, WS_some, WS_none, KS_n, KS_x, KS_r, KB_n, KB_x, KB_r, KN_ap, KO_ap, KD_ap, KC_nil, KF_n, KF_r, KG_n, KG_r, KL_n, KL_x, KL_r, CP_true, CP_false, evOp, evX, X.ev, optX, put_some, put_none, get_set2, sel_t, sel_f, Nat.reduceBEq, Nat.reduceAdd, Nat.reduceLT, Nat.reduceLeDiff, Nat.reduceEqDiff, reduceIte, if_true, if_false, bi_add, bi_sub, bi_mul, bi_eql, bi_neq, bi_lss, bi_leq, bi_gtr, bi_geq, bs_eql, bs_neq, bs_lss, Am.unOp, ret1, pubL, pub, pubA, initT, wkZ, wk, wants, resOf, tupOf, quiet, AOp.cls, Nat.beq_eq, Bool.or_eq_true, decide_true, decide_false, beq_self_eq_true, Bool.true_or, Bool.or_true, true_and, and_true, lenA, eqv, eqB, eqP, scal, new_box_self, List.getElem?_cons_zero, List.getElem?_cons_succ, key_ii, key_ss, findM, updM, esc_i, esc_s, esc_b, Int.reduceEq, ret1, new_nb, new_set, reduceCtorEq, Bool.xor_true, Bool.xor_false, Bool.false_eq_true, List.all_cons, List.all_nil, noTok, Bool.and_self, Bool.and_true, Bool.true_and, List.length_map, ofNat_len]
  refine CP_dec (fun h => KR_some (Over.enter s) rfl ?_) (fun h => ?_)
  · have : 100 < L.length := by omega
    simp [tupOf, wkZ, wk, longP, this]
  have hl : L.length ≤ 100 := by omega
  refine W_loop (fun n e s1 => s1 = s.enter ∧ e.get 0 = tx L ∧ ∃ i : Nat, i + n = L.length ∧ e.get 3 = .i .i64 i ∧ longP L = (L.drop i).any fun x => decide (500 < x.length)) ?_ L.length _ _ ?_
  · rintro n e s1 ⟨rfl, h0, i, hi, h3, hp⟩
    simp only [W_seq, W_reg, W_cond, W_blk, W_skip, W_exit, W_ret, W_regD, WO_nil, WO_cons, WO_guard2, wantV_b, bq_tt, bq_ft, bq_tf, bq_ff, Bool.not_true, Bool.not_false, WD_nil, WD_cons, WD_guard2, WS_some, WS_none, KS_n, KS_x, KS_r, KB_n, KB_x, KB_r, KN_ap, KO_ap, KD_ap, KC_nil, KF_n, KF_r, KG_n, KG_r, KL_n, KL_x, KL_r, CP_true, CP_false, evOp, evX, X.ev, optX, put_some, put_none, get_set2, sel_t, sel_f, Nat.reduceBEq, Nat.reduceAdd, Nat.reduceLT, Nat.reduceLeDiff, Nat.reduceEqDiff, reduceIte, if_true, if_false, bi_add, bi_sub, bi_mul, bi_eql, bi_neq, bi_lss, bi_leq, bi_gtr, bi_geq, bs_eql, bs_neq, bs_lss, Am.unOp, ret1, pubL, pub, pubA, initT, wkZ, wk, wants, resOf, tupOf, quiet, AOp.cls, Nat.beq_eq, Bool.or_eq_true, decide_true, decide_false, beq_self_eq_true, Bool.true_or, Bool.or_true, true_and, and_true, lenA, eqv, eqB, eqP, scal, new_box_self, List.getElem?_cons_zero, List.getElem?_cons_succ, key_ii, key_ss, findM, updM, esc_i, esc_s, esc_b, Int.reduceEq, ret1, new_nb, new_set, reduceCtorEq, Bool.xor_true, Bool.xor_false, Bool.false_eq_true, List.all_cons, List.all_nil, noTok, Bool.and_self, Bool.and_true, Bool.true_and, h0, h3, List.length_map, ofNat_len]
    refine CP_dec (fun hlt => ?_) (fun hge => ?_)
    · have hlt : i < L.length := by omega
      simp only [W_seq, W_reg, W_cond, W_blk, W_skip, W_exit, W_ret, W_regD, WO_nil, WO_cons, WO_guard2, wantV_b, bq_tt, bq_ft, bq_tf, bq_ff, Bool.not_true, Bool.not_false, WD_nil, WD_cons, WD_guard2, WS_some, WS_none, KS_n, KS_x, KS_r, KB_n, KB_x, KB_r, KN_ap, KO_ap, KD_ap, KC_nil, KF_n, KF_r, KG_n, KG_r, KL_n, KL_x, KL_r, CP_true, CP_false, evOp, evX, X.ev, optX, put_some, put_none, get_set2, sel_t, sel_f, Nat.reduceBEq, Nat.reduceAdd, Nat.reduceLT, Nat.reduceLeDiff, Nat.reduceEqDiff, reduceIte, if_true, if_false, bi_add, bi_sub, bi_mul, bi_eql, bi_neq, bi_lss, bi_leq, bi_gtr, bi_geq, bs_eql, bs_neq, bs_lss, Am.unOp, ret1, pubL, pub, pubA, initT, wkZ, wk, wants, resOf, tupOf, quiet, AOp.cls, Nat.beq_eq, Bool.or_eq_true, decide_true, decide_false, beq_self_eq_true, Bool.true_or, Bool.or_true, true_and, and_true, lenA, eqv, eqB, eqP, scal, new_box_self, List.getElem?_cons_zero, List.getElem?_cons_succ, key_ii, key_ss, findM, updM, esc_i, esc_s, esc_b, Int.reduceEq, ret1, new_nb, new_set, reduceCtorEq, Bool.xor_true, Bool.xor_false, Bool.false_eq_true, List.all_cons, List.all_nil, noTok, Bool.and_self, Bool.and_true, Bool.true_and, h0, h3, List.length_map, ofNat_len, natOf_nat, tx_get hlt, cells_s, ldA_1, wrap_succ (show i + 1 < 2 ^ 63 by omega)]
      rw [List.drop_eq_getElem_cons hlt, List.any_cons] at hp
      refine CP_dec (fun h5 => KR_some (Over.enter s) rfl ?_) (fun h5 => ⟨n - 1, by omega, i + 1, by omega, rfl, ?_⟩)
      · have : 500 < L[i].length := by omega
        simp [tupOf, wkZ, wk, hp, this]
      · have : ¬ 500 < L[i].length := by omega
        rw [hp]; simp [this]
    · refine KR_some (Over.enter s) rfl ?_
      have : L.drop i = [] := List.drop_eq_nil_iff.2 (by omega)
      simp [tupOf, wkZ, wk, hp, this]
  · simp only [W_seq, W_reg, W_cond, W_blk, W_skip, W_exit, W_ret, W_regD, WO_nil, WO_cons, WO_guard2, wantV_b, bq_tt, bq_ft, bq_tf, bq_ff, Bool.not_true, Bool.not_false, WD_nil, WD_cons, WD_guard2, WS_some, WS_none, KS_n, KS_x, KS_r, KB_n, KB_x, KB_r, KN_ap, KO_ap, KD_ap, KC_nil, KF_n, KF_r, KG_n, KG_r, KL_n, KL_x, KL_r, CP_true, CP_false, evOp, evX, X.ev, optX, put_some, put_none, get_set2, sel_t, sel_f, Nat.reduceBEq, Nat.reduceAdd, Nat.reduceLT, Nat.reduceLeDiff, Nat.reduceEqDiff, reduceIte, if_true, if_false, bi_add, bi_sub, bi_mul, bi_eql, bi_neq, bi_lss, bi_leq, bi_gtr, bi_geq, bs_eql, bs_neq, bs_lss, Am.unOp, ret1, pubL, pub, pubA, initT, wkZ, wk, wants, resOf, tupOf, quiet, AOp.cls, Nat.beq_eq, Bool.or_eq_true, decide_true, decide_false, beq_self_eq_true, Bool.true_or, Bool.or_true, true_and, and_true, lenA, eqv, eqB, eqP, scal, new_box_self, List.getElem?_cons_zero, List.getElem?_cons_succ, key_ii, key_ss, findM, updM, esc_i, esc_s, esc_b, Int.reduceEq, ret1, new_nb, new_set, reduceCtorEq, Bool.xor_true, Bool.xor_false, Bool.false_eq_true, List.all_cons, List.all_nil, noTok, Bool.and_self, Bool.and_true, Bool.true_and]
    refine ⟨0, by omega, rfl, ?_⟩
    have : ¬ 100 < L.length := by omega
    simp [longP, this]

def undP (L M : List (List Nat)) : Bool := decide (M.take L.length = L)

theorem und_len {L M : List (List Nat)} (h : M.take L.length = L) : L.length ≤ M.length := by
  have := congrArg List.length h
  rw [List.length_take] at this
  omega
theorem und_get {L M : List (List Nat)} (h : M.take L.length = L) {i : Nat} (h1 : i < L.length) (h2 : i < M.length) : L[i] = M[i] := by
  have := congrArg (fun l => l[i]?) h
  simp only [List.getElem?_take, if_pos h1, List.getElem?_eq_getElem h1, List.getElem?_eq_getElem h2, Option.some.injEq] at this
  exact this.symm
theorem take_step {L M : List (List Nat)} {i : Nat} (h : L.take i = M.take i) (h1 : i < L.length) (h2 : i < M.length) (he : L[i] = M[i]) : L.take (i + 1) = M.take (i + 1) := by
  rw [List.take_succ_eq_append_getElem h1, List.take_succ_eq_append_getElem h2, h, he]

theorem ref_under_ok (L M : List (List Nat)) (hL : L.length < 2 ^ 62) (s : St) : (lim prog).call f_touchstoneref06_Under [tx L, tx M] s = some (.b (undP L M), s) := by
  refine fn_W p_touchstoneref06_Under rfl rfl ?_
  simp only [c_touchstoneref06_Under, W_seq, W_reg, W_cond, W_blk, W_skip, W_exit, W_ret, W_regD, WO_nil, WO_cons, WO_guard2, wantV_b, bq_tt, bq_ft, bq_tf, bq_ff, Bool.not_true, Bool.not_false, WD_nil, WD_cons, WD_guard2, WS_some, WS_none, KS_n, KS_x, KS_r, KB_n, KB_x, KB_r, KN_ap, KO_ap, KD_ap, KC_nil, KF_n, KF_r, KG_n, KG_r, KL_n, KL_x, KL_r, CP_true, CP_false, evOp, evX, X.ev, optX, put_some, put_none, get_set2, sel_t, sel_f, Nat.reduceBEq, Nat.reduceAdd, Nat.reduceLT, Nat.reduceLeDiff, Nat.reduceEqDiff, reduceIte, if_true, if_false, bi_add, bi_sub, bi_mul, bi_eql, bi_neq, bi_lss, bi_leq, bi_gtr, bi_geq, bs_eql, bs_neq, bs_lss, Am.unOp, ret1, pubL, pub, pubA, initT, wkZ, wk, wants, resOf, tupOf, quiet, AOp.cls, Nat.beq_eq, Bool.or_eq_true, decide_true, decide_false, beq_self_eq_true, Bool.true_or, Bool.or_true, true_and, and_true, lenA, eqv, eqB, eqP, scal, new_box_self, List.getElem?_cons_zero, List.getElem?_cons_succ, key_ii, key_ss, findM, updM, esc_i, esc_s, esc_b, Int.reduceEq, ret1, new_nb, new_set, reduceCtorEq, Bool.xor_true, Bool.xor_false, Bool.false_eq_true, List.all_cons, List.all_nil, noTok, Bool.and_self, Bool.and_true, Bool.true_and, List.length_map, ofNat_len]
  refine CP_dec (fun h => KR_some (Over.enter s) rfl ?_) (fun h => ?_)
  · have : ¬ M.take L.length = L := fun hh => by have := und_len hh; omega
    simp [tupOf, wkZ, wk, undP, this]
  have hl : L.length ≤ M.length := by omega
  refine W_loop (fun n e s1 => s1 = s.enter ∧ e.get 0 = tx L ∧ e.get 1 = tx M ∧ ∃ i : Nat, i + n = L.length ∧ e.get 5 = .i .i64 i ∧ L.take i = M.take i) ?_ L.length _ _ ?_
  · rintro n e s1 ⟨rfl, h0, h1, i, hi, h5, hp⟩
    simp only [W_seq, W_reg, W_cond, W_blk, W_skip, W_exit, W_ret, W_regD, WO_nil, WO_cons, WO_guard2, wantV_b, bq_tt, bq_ft, bq_tf, bq_ff, Bool.not_true, Bool.not_false, WD_nil, WD_cons, WD_guard2, WS_some, WS_none, KS_n, KS_x, KS_r, KB_n, KB_x, KB_r, KN_ap, KO_ap, KD_ap, KC_nil, KF_n, KF_r, KG_n, KG_r, KL_n, KL_x, KL_r, CP_true, CP_false, evOp, evX, X.ev, optX, put_some, put_none, get_set2, sel_t, sel_f, Nat.reduceBEq, Nat.reduceAdd, Nat.reduceLT, Nat.reduceLeDiff, Nat.reduceEqDiff, reduceIte, if_true, if_false, bi_add, bi_sub, bi_mul, bi_eql, bi_neq, bi_lss, bi_leq, bi_gtr, bi_geq, bs_eql, bs_neq, bs_lss, Am.unOp, ret1, pubL, pub, pubA, initT, wkZ, wk, wants, resOf, tupOf, quiet, AOp.cls, Nat.beq_eq, Bool.or_eq_true, decide_true, decide_false, beq_self_eq_true, Bool.true_or, Bool.or_true, true_and, and_true, lenA, eqv, eqB, eqP, scal, new_box_self, List.getElem?_cons_zero, List.getElem?_cons_succ, key_ii, key_ss, findM, updM, esc_i, esc_s, esc_b, Int.reduceEq, ret1, new_nb, new_set, reduceCtorEq, Bool.xor_true, Bool.xor_false, Bool.false_eq_true, List.all_cons, List.all_nil, noTok, Bool.and_self, Bool.and_true, Bool.true_and, h0, h1, h5, List.length_map, ofNat_len]
    refine CP_dec (fun hlt => ?_) (fun hge => ?_)
    · have hlt : i < L.length := by omega
      have hlm : i < M.length := by omega
      simp only [W_seq, W_reg, W_cond, W_blk, W_skip, W_exit, W_ret, W_regD, WO_nil, WO_cons, WO_guard2, wantV_b, bq_tt, bq_ft, bq_tf, bq_ff, Bool.not_true, Bool.not_false, WD_nil, WD_cons, WD_guard2, WS_some, WS_none, KS_n, KS_x, KS_r, KB_n, KB_x, KB_r, KN_ap, KO_ap, KD_ap, KC_nil, KF_n, KF_r, KG_n, KG_r, KL_n, KL_x, KL_r, CP_true, CP_false, evOp, evX, X.ev, optX, put_some, put_none, get_set2, sel_t, sel_f, Nat.reduceBEq, Nat.reduceAdd, Nat.reduceLT, Nat.reduceLeDiff, Nat.reduceEqDiff, reduceIte, if_true, if_false, bi_add, bi_sub, bi_mul, bi_eql, bi_neq, bi_lss, bi_leq, bi_gtr, bi_geq, bs_eql, bs_neq, bs_lss, Am.unOp, ret1, pubL, pub, pubA, initT, wkZ, wk, wants, resOf, tupOf, quiet, AOp.cls, Nat.beq_eq, Bool.or_eq_true, decide_true, decide_false, beq_self_eq_true, Bool.true_or, Bool.or_true, true_and, and_true, lenA, eqv, eqB, eqP, scal, new_box_self, List.getElem?_cons_zero, List.getElem?_cons_succ, key_ii, key_ss, findM, updM, esc_i, esc_s, esc_b, Int.reduceEq, ret1, new_nb, new_set, reduceCtorEq, Bool.xor_true, Bool.xor_false, Bool.false_eq_true, List.all_cons, List.all_nil, noTok, Bool.and_self, Bool.and_true, Bool.true_and, h0, h1, h5, List.length_map, ofNat_len, natOf_nat, tx_get hlt, tx_get hlm, cells_s, ldA_1, wrap_succ (show i + 1 < 2 ^ 63 by omega)]
      refine CP_dec (fun hne => KR_some (Over.enter s) rfl ?_) (fun he => ⟨n - 1, by omega, i + 1, by omega, rfl, ?_⟩)
      · have : ¬ M.take L.length = L := fun hh => hne (und_get hh hlt hlm)
        simp [tupOf, wkZ, wk, undP, this]
      · exact take_step hp hlt hlm (by simpa using he)
    · refine KR_some (Over.enter s) rfl ?_
      have hi' : i = L.length := by omega
      subst hi'
      rw [List.take_length] at hp
      simp [tupOf, wkZ, wk, undP, ← hp]
  · simp only [W_seq, W_reg, W_cond, W_blk, W_skip, W_exit, W_ret, W_regD, WO_nil, WO_cons, WO_guard2, wantV_b, bq_tt, bq_ft, bq_tf, bq_ff, Bool.not_true, Bool.not_false, WD_nil, WD_cons, WD_guard2, WS_some, WS_none, KS_n, KS_x, KS_r, KB_n, KB_x, KB_r, KN_ap, KO_ap, KD_ap, KC_nil, KF_n, KF_r, KG_n, KG_r, KL_n, KL_x, KL_r, CP_true, CP_false, evOp, evX, X.ev, optX, put_some, put_none, get_set2, sel_t, sel_f, Nat.reduceBEq, Nat.reduceAdd, Nat.reduceLT, Nat.reduceLeDiff, Nat.reduceEqDiff, reduceIte, if_true, if_false, bi_add, bi_sub, bi_mul, bi_eql, bi_neq, bi_lss, bi_leq, bi_gtr, bi_geq, bs_eql, bs_neq, bs_lss, Am.unOp, ret1, pubL, pub, pubA, initT, wkZ, wk, wants, resOf, tupOf, quiet, AOp.cls, Nat.beq_eq, Bool.or_eq_true, decide_true, decide_false, beq_self_eq_true, Bool.true_or, Bool.or_true, true_and, and_true, lenA, eqv, eqB, eqP, scal, new_box_self, List.getElem?_cons_zero, List.getElem?_cons_succ, key_ii, key_ss, findM, updM, esc_i, esc_s, esc_b, Int.reduceEq, ret1, new_nb, new_set, reduceCtorEq, Bool.xor_true, Bool.xor_false, Bool.false_eq_true, List.all_cons, List.all_nil, noTok, Bool.and_self, Bool.and_true, Bool.true_and]
    exact ⟨0, by omega, rfl, by simp⟩

def sameP (L M : List (List Nat)) : Bool := decide (L = M)
theorem same_und {L M : List (List Nat)} (h : L.length = M.length) : undP L M = sameP L M := by
  unfold undP sameP
  rw [h, List.take_length]
  by_cases hh : L = M
  · subst hh; simp
  · rw [decide_eq_false hh, decide_eq_false fun h => hh h.symm]

theorem cast_eq {a b : Nat} (h : a = b) : ((a : Int) = (b : Int)) = True := by simp [h]
theorem cast_ne {a b : Nat} (h : a ≠ b) : ((a : Int) = (b : Int)) = False := by simp; omega
theorem cast_lt {a b : Nat} (h : a < b) : ((a : Int) < (b : Int)) = True := by simp; omega
theorem cast_nlt {a b : Nat} (h : ¬ a < b) : ((a : Int) < (b : Int)) = False := by simp; omega
theorem cast_le {a b : Nat} (h : a ≤ b) : ((a : Int) ≤ (b : Int)) = True := by simp; omega
theorem cast_nle {a b : Nat} (h : ¬ a ≤ b) : ((a : Int) ≤ (b : Int)) = False := by simp; omega
theorem beq_tt : (true == true) = true := rfl
theorem beq_ft : (false == true) = false := rfl
theorem beq_tf : (true == false) = false := rfl
theorem beq_ff : (false == false) = true := rfl

theorem ref_same_ok (L M : List (List Nat)) (hL : L.length < 2 ^ 62) (s : St) : (lim prog).call f_touchstoneref06_Same [tx L, tx M] s = some (.b (sameP L M), s) := by
  refine fn_W p_touchstoneref06_Same rfl rfl ?_
  by_cases h : L.length = M.length
  · simp only [c_touchstoneref06_Same, W_seq, W_reg, W_cond, W_blk, W_skip, W_exit, W_ret, W_regD, WO_nil, WO_cons, WO_guard2, wantV_b, bq_tt, bq_ft, bq_tf, bq_ff, Bool.not_true, Bool.not_false, WD_nil, WD_cons, WD_guard2, WS_some, WS_none, KS_n, KS_x, KS_r, KB_n, KB_x, KB_r, KN_ap, KO_ap, KD_ap, KC_nil, KF_n, KF_r, KG_n, KG_r, KL_n, KL_x, KL_r, CP_true, CP_false, evOp, evX, X.ev, optX, put_some, put_none, get_set2, sel_t, sel_f, Nat.reduceBEq, Nat.reduceAdd, Nat.reduceLT, Nat.reduceLeDiff, Nat.reduceEqDiff, reduceIte, if_true, if_false, bi_add, bi_sub, bi_mul, bi_eql, bi_neq, bi_lss, bi_leq, bi_gtr, bi_geq, bs_eql, bs_neq, bs_lss, Am.unOp, ret1, pubL, pub, pubA, initT, wkZ, wk, wants, resOf, tupOf, quiet, AOp.cls, Nat.beq_eq, Bool.or_eq_true, decide_true, decide_false, beq_self_eq_true, Bool.true_or, Bool.or_true, true_and, and_true, lenA, eqv, eqB, eqP, scal, new_box_self, List.getElem?_cons_zero, List.getElem?_cons_succ, key_ii, key_ss, findM, updM, esc_i, esc_s, esc_b, Int.reduceEq, ret1, new_nb, new_set, reduceCtorEq, Bool.xor_true, Bool.xor_false, Bool.false_eq_true, List.all_cons, List.all_nil, noTok, Bool.and_self, Bool.and_true, Bool.true_and, List.length_map, ofNat_len, ref_under_ok L M hL, cast_eq h]
    exact KR_some (Over.enter s) rfl (by simp [tupOf, wkZ, wk, same_und h])
  · simp only [c_touchstoneref06_Same, W_seq, W_reg, W_cond, W_blk, W_skip, W_exit, W_ret, W_regD, WO_nil, WO_cons, WO_guard2, wantV_b, bq_tt, bq_ft, bq_tf, bq_ff, Bool.not_true, Bool.not_false, WD_nil, WD_cons, WD_guard2, WS_some, WS_none, KS_n, KS_x, KS_r, KB_n, KB_x, KB_r, KN_ap, KO_ap, KD_ap, KC_nil, KF_n, KF_r, KG_n, KG_r, KL_n, KL_x, KL_r, CP_true, CP_false, evOp, evX, X.ev, optX, put_some, put_none, get_set2, sel_t, sel_f, Nat.reduceBEq, Nat.reduceAdd, Nat.reduceLT, Nat.reduceLeDiff, Nat.reduceEqDiff, reduceIte, if_true, if_false, bi_add, bi_sub, bi_mul, bi_eql, bi_neq, bi_lss, bi_leq, bi_gtr, bi_geq, bs_eql, bs_neq, bs_lss, Am.unOp, ret1, pubL, pub, pubA, initT, wkZ, wk, wants, resOf, tupOf, quiet, AOp.cls, Nat.beq_eq, Bool.or_eq_true, decide_true, decide_false, beq_self_eq_true, Bool.true_or, Bool.or_true, true_and, and_true, lenA, eqv, eqB, eqP, scal, new_box_self, List.getElem?_cons_zero, List.getElem?_cons_succ, key_ii, key_ss, findM, updM, esc_i, esc_s, esc_b, Int.reduceEq, ret1, new_nb, new_set, reduceCtorEq, Bool.xor_true, Bool.xor_false, Bool.false_eq_true, List.all_cons, List.all_nil, noTok, Bool.and_self, Bool.and_true, Bool.true_and, List.length_map, ofNat_len, ref_under_ok L M hL, cast_ne h, beq_ft]
    refine KR_some (Over.enter s) rfl ?_
    have : ¬ L = M := fun hh => h (by rw [hh])
    simp [tupOf, wkZ, wk, sameP, this]

theorem bs_gtr (x y : List Nat) : Am.binOp .gtr (.s x) (.s y) = some (.b (!(ltN x y || decide (x = y)))) := by simp [Am.binOp, strOp, beqN_dec]

def cmpS (a b : List Nat) : Int := if ltN a b = true then -1 else if a = b then 0 else 1

theorem isNaN_ok (a : List Nat) (s : St) : (lim prog).call f_cmp_isNaN_string [.s a] s = some (.b false, s) := by
  refine fn_W p_cmp_isNaN_string rfl rfl ?_
  simp only [c_cmp_isNaN_string, W_seq, W_reg, W_cond, W_blk, W_skip, W_exit, W_ret, W_regD, WO_nil, WO_cons, WO_guard2, wantV_b, bq_tt, bq_ft, bq_tf, bq_ff, Bool.not_true, Bool.not_false, WD_nil, WD_cons, WD_guard2, WS_some, WS_none, KS_n, KS_x, KS_r, KB_n, KB_x, KB_r, KN_ap, KO_ap, KD_ap, KC_nil, KF_n, KF_r, KG_n, KG_r, KL_n, KL_x, KL_r, CP_true, CP_false, evOp, evX, X.ev, optX, put_some, put_none, get_set2, sel_t, sel_f, Nat.reduceBEq, Nat.reduceAdd, Nat.reduceLT, Nat.reduceLeDiff, Nat.reduceEqDiff, reduceIte, if_true, if_false, bi_add, bi_sub, bi_mul, bi_eql, bi_neq, bi_lss, bi_leq, bi_gtr, bi_geq, bs_eql, bs_neq, bs_lss, Am.unOp, ret1, pubL, pub, pubA, initT, wkZ, wk, wants, resOf, tupOf, quiet, AOp.cls, Nat.beq_eq, Bool.or_eq_true, decide_true, decide_false, beq_self_eq_true, Bool.true_or, Bool.or_true, true_and, and_true, lenA, eqv, eqB, eqP, scal, new_box_self, List.getElem?_cons_zero, List.getElem?_cons_succ, key_ii, key_ss, findM, updM, esc_i, esc_s, esc_b, Int.reduceEq, ret1, new_nb, new_set, reduceCtorEq, Bool.xor_true, Bool.xor_false, Bool.false_eq_true, List.all_cons, List.all_nil, noTok, Bool.and_self, Bool.and_true, Bool.true_and]
  exact KR_some (Over.enter s) rfl (by simp [tupOf, wkZ, wk])

theorem cmp_ok (a b : List Nat) (s : St) : (lim prog).call f_cmp_Compare_string [.s a, .s b] s = some (.i .i64 (cmpS a b), s) := by
  refine fn_W p_cmp_Compare_string rfl rfl ?_
  simp only [c_cmp_Compare_string, W_seq, W_reg, W_cond, W_blk, W_skip, W_exit, W_ret, W_regD, WO_nil, WO_cons, WO_guard2, wantV_b, bq_tt, bq_ft, bq_tf, bq_ff, Bool.not_true, Bool.not_false, WD_nil, WD_cons, WD_guard2, WS_some, WS_none, KS_n, KS_x, KS_r, KB_n, KB_x, KB_r, KN_ap, KO_ap, KD_ap, KC_nil, KF_n, KF_r, KG_n, KG_r, KL_n, KL_x, KL_r, CP_true, CP_false, evOp, evX, X.ev, optX, put_some, put_none, get_set2, sel_t, sel_f, Nat.reduceBEq, Nat.reduceAdd, Nat.reduceLT, Nat.reduceLeDiff, Nat.reduceEqDiff, reduceIte, if_true, if_false, bi_add, bi_sub, bi_mul, bi_eql, bi_neq, bi_lss, bi_leq, bi_gtr, bi_geq, bs_eql, bs_neq, bs_lss, Am.unOp, ret1, pubL, pub, pubA, initT, wkZ, wk, wants, resOf, tupOf, quiet, AOp.cls, Nat.beq_eq, Bool.or_eq_true, decide_true, decide_false, beq_self_eq_true, Bool.true_or, Bool.or_true, true_and, and_true, lenA, eqv, eqB, eqP, scal, new_box_self, List.getElem?_cons_zero, List.getElem?_cons_succ, key_ii, key_ss, findM, updM, esc_i, esc_s, esc_b, Int.reduceEq, ret1, new_nb, new_set, reduceCtorEq, Bool.xor_true, Bool.xor_false, Bool.false_eq_true, List.all_cons, List.all_nil, noTok, Bool.and_self, Bool.and_true, Bool.true_and, isNaN_ok, bs_gtr]
  refine CP_of (fun h => KR_some (Over.enter s) rfl (by simp [tupOf, wkZ, wk, cmpS, h])) (fun h => ?_)
  refine CP_of (fun h2 => KR_some (Over.enter s) rfl ?_) (fun h2 => KR_some (Over.enter s) rfl ?_)
  · simp [h] at h2
    simp [tupOf, wkZ, wk, cmpS, h, h2]
  · simp [h] at h2
    subst h2
    simp [tupOf, wkZ, wk, cmpS, h]

def cmpT : List (List Nat) → List (List Nat) → Int
  | [], [] => 0
  | [], _ :: _ => -1
  | _ :: _, [] => 1
  | a :: L, b :: M => if cmpS a b = 0 then cmpT L M else cmpS a b

theorem compare_ok (L M : List (List Nat)) (hL : L.length < 2 ^ 62) (s : St) : (lim prog).call f_slices_Compare_string_string [tx L, tx M] s = some (.i .i64 (cmpT L M), s) := by
  refine fn_W p_slices_Compare_string_string rfl rfl ?_
  simp only [c_slices_Compare_string_string, W_seq, W_reg, W_cond, W_blk, W_skip, W_exit, W_ret, W_regD, WO_nil, WO_cons, WO_guard2, wantV_b, bq_tt, bq_ft, bq_tf, bq_ff, Bool.not_true, Bool.not_false, WD_nil, WD_cons, WD_guard2, WS_some, WS_none, KS_n, KS_x, KS_r, KB_n, KB_x, KB_r, KN_ap, KO_ap, KD_ap, KC_nil, KF_n, KF_r, KG_n, KG_r, KL_n, KL_x, KL_r, CP_true, CP_false, evOp, evX, X.ev, optX, put_some, put_none, get_set2, sel_t, sel_f, Nat.reduceBEq, Nat.reduceAdd, Nat.reduceLT, Nat.reduceLeDiff, Nat.reduceEqDiff, reduceIte, if_true, if_false, bi_add, bi_sub, bi_mul, bi_eql, bi_neq, bi_lss, bi_leq, bi_gtr, bi_geq, bs_eql, bs_neq, bs_lss, Am.unOp, ret1, pubL, pub, pubA, initT, wkZ, wk, wants, resOf, tupOf, quiet, AOp.cls, Nat.beq_eq, Bool.or_eq_true, decide_true, decide_false, beq_self_eq_true, Bool.true_or, Bool.or_true, true_and, and_true, lenA, eqv, eqB, eqP, scal, new_box_self, List.getElem?_cons_zero, List.getElem?_cons_succ, key_ii, key_ss, findM, updM, esc_i, esc_s, esc_b, Int.reduceEq, ret1, new_nb, new_set, reduceCtorEq, Bool.xor_true, Bool.xor_false, Bool.false_eq_true, List.all_cons, List.all_nil, noTok, Bool.and_self, Bool.and_true, Bool.true_and, List.length_map, ofNat_len]
  refine W_loop (fun n e s1 => s1 = s.enter ∧ e.get 0 = tx L ∧ e.get 1 = tx M ∧ e.get 9 = tx L ∧ e.get 10 = .i .i64 L.length ∧ ∃ i : Nat, i + n = L.length ∧ e.get 11 = .i .i64 i ∧ i ≤ M.length ∧ cmpT L M = cmpT (L.drop i) (M.drop i)) ?_ L.length _ _ ?_
  · rintro n e s1 ⟨rfl, h0, h1, h9, h10, i, hi, h11, him, hp⟩
    simp only [W_seq, W_reg, W_cond, W_blk, W_skip, W_exit, W_ret, W_regD, WO_nil, WO_cons, WO_guard2, wantV_b, bq_tt, bq_ft, bq_tf, bq_ff, Bool.not_true, Bool.not_false, WD_nil, WD_cons, WD_guard2, WS_some, WS_none, KS_n, KS_x, KS_r, KB_n, KB_x, KB_r, KN_ap, KO_ap, KD_ap, KC_nil, KF_n, KF_r, KG_n, KG_r, KL_n, KL_x, KL_r, CP_true, CP_false, evOp, evX, X.ev, optX, put_some, put_none, get_set2, sel_t, sel_f, Nat.reduceBEq, Nat.reduceAdd, Nat.reduceLT, Nat.reduceLeDiff, Nat.reduceEqDiff, reduceIte, if_true, if_false, bi_add, bi_sub, bi_mul, bi_eql, bi_neq, bi_lss, bi_leq, bi_gtr, bi_geq, bs_eql, bs_neq, bs_lss, Am.unOp, ret1, pubL, pub, pubA, initT, wkZ, wk, wants, resOf, tupOf, quiet, AOp.cls, Nat.beq_eq, Bool.or_eq_true, decide_true, decide_false, beq_self_eq_true, Bool.true_or, Bool.or_true, true_and, and_true, lenA, eqv, eqB, eqP, scal, new_box_self, List.getElem?_cons_zero, List.getElem?_cons_succ, key_ii, key_ss, findM, updM, esc_i, esc_s, esc_b, Int.reduceEq, ret1, new_nb, new_set, reduceCtorEq, Bool.xor_true, Bool.xor_false, Bool.false_eq_true, List.all_cons, List.all_nil, noTok, Bool.and_self, Bool.and_true, Bool.true_and, h0, h1, h9, h10, h11, List.length_map, ofNat_len]
    refine CP_dec (fun hlt => ?_) (fun hge => ?_)
    · have hlt : i < L.length := by omega
      simp only [W_seq, W_reg, W_cond, W_blk, W_skip, W_exit, W_ret, W_regD, WO_nil, WO_cons, WO_guard2, wantV_b, bq_tt, bq_ft, bq_tf, bq_ff, Bool.not_true, Bool.not_false, WD_nil, WD_cons, WD_guard2, WS_some, WS_none, KS_n, KS_x, KS_r, KB_n, KB_x, KB_r, KN_ap, KO_ap, KD_ap, KC_nil, KF_n, KF_r, KG_n, KG_r, KL_n, KL_x, KL_r, CP_true, CP_false, evOp, evX, X.ev, optX, put_some, put_none, get_set2, sel_t, sel_f, Nat.reduceBEq, Nat.reduceAdd, Nat.reduceLT, Nat.reduceLeDiff, Nat.reduceEqDiff, reduceIte, if_true, if_false, bi_add, bi_sub, bi_mul, bi_eql, bi_neq, bi_lss, bi_leq, bi_gtr, bi_geq, bs_eql, bs_neq, bs_lss, Am.unOp, ret1, pubL, pub, pubA, initT, wkZ, wk, wants, resOf, tupOf, quiet, AOp.cls, Nat.beq_eq, Bool.or_eq_true, decide_true, decide_false, beq_self_eq_true, Bool.true_or, Bool.or_true, true_and, and_true, lenA, eqv, eqB, eqP, scal, new_box_self, List.getElem?_cons_zero, List.getElem?_cons_succ, key_ii, key_ss, findM, updM, esc_i, esc_s, esc_b, Int.reduceEq, ret1, new_nb, new_set, reduceCtorEq, Bool.xor_true, Bool.xor_false, Bool.false_eq_true, List.all_cons, List.all_nil, noTok, Bool.and_self, Bool.and_true, Bool.true_and, h0, h1, h9, h10, h11, List.length_map, ofNat_len, natOf_nat, tx_get hlt, cells_s, ldA_1, wrap_succ (show i + 1 < 2 ^ 63 by omega)]
      refine CP_dec (fun hge => KR_some (Over.enter s) rfl ?_) (fun hl2 => ?_)
      · have h2 : M.drop i = [] := List.drop_eq_nil_iff.2 (by omega)
        rw [List.drop_eq_getElem_cons hlt, h2] at hp
        simp [tupOf, wkZ, wk, hp, cmpT]
      · have hl2 : i < M.length := by omega
        simp only [W_seq, W_reg, W_cond, W_blk, W_skip, W_exit, W_ret, W_regD, WO_nil, WO_cons, WO_guard2, wantV_b, bq_tt, bq_ft, bq_tf, bq_ff, Bool.not_true, Bool.not_false, WD_nil, WD_cons, WD_guard2, WS_some, WS_none, KS_n, KS_x, KS_r, KB_n, KB_x, KB_r, KN_ap, KO_ap, KD_ap, KC_nil, KF_n, KF_r, KG_n, KG_r, KL_n, KL_x, KL_r, CP_true, CP_false, evOp, evX, X.ev, optX, put_some, put_none, get_set2, sel_t, sel_f, Nat.reduceBEq, Nat.reduceAdd, Nat.reduceLT, Nat.reduceLeDiff, Nat.reduceEqDiff, reduceIte, if_true, if_false, bi_add, bi_sub, bi_mul, bi_eql, bi_neq, bi_lss, bi_leq, bi_gtr, bi_geq, bs_eql, bs_neq, bs_lss, Am.unOp, ret1, pubL, pub, pubA, initT, wkZ, wk, wants, resOf, tupOf, quiet, AOp.cls, Nat.beq_eq, Bool.or_eq_true, decide_true, decide_false, beq_self_eq_true, Bool.true_or, Bool.or_true, true_and, and_true, lenA, eqv, eqB, eqP, scal, new_box_self, List.getElem?_cons_zero, List.getElem?_cons_succ, key_ii, key_ss, findM, updM, esc_i, esc_s, esc_b, Int.reduceEq, ret1, new_nb, new_set, reduceCtorEq, Bool.xor_true, Bool.xor_false, Bool.false_eq_true, List.all_cons, List.all_nil, noTok, Bool.and_self, Bool.and_true, Bool.true_and, h0, h1, h9, h10, h11, List.length_map, ofNat_len, natOf_nat, tx_get hlt, tx_get hl2, cells_s, ldA_1, wrap_succ (show i + 1 < 2 ^ 63 by omega), cmp_ok]
        rw [List.drop_eq_getElem_cons hlt, List.drop_eq_getElem_cons hl2] at hp
        refine CP_dec (fun hne => KR_some (Over.enter s) rfl ?_) (fun he => ⟨n - 1, by omega, i + 1, by omega, rfl, by omega, ?_⟩)
        · simp only [cmpT, if_neg hne] at hp
          simp [tupOf, wkZ, wk, hp]
        · have he : cmpS L[i] M[i] = 0 := by simpa using he
          simp only [cmpT, if_pos he] at hp
          exact hp
    · have hi' : i = L.length := by omega
      rw [List.drop_eq_nil_iff.2 (show L.length ≤ i by omega)] at hp
      refine CP_dec (fun hlt => KR_some (Over.enter s) rfl ?_) (fun hge => KR_some (Over.enter s) rfl ?_)
      · have hlm : i < M.length := by omega
        rw [List.drop_eq_getElem_cons hlm] at hp
        simp [tupOf, wkZ, wk, hp, cmpT]
      · rw [List.drop_eq_nil_iff.2 (show M.length ≤ i by omega)] at hp
        simp [tupOf, wkZ, wk, hp, cmpT]
  · simp only [W_seq, W_reg, W_cond, W_blk, W_skip, W_exit, W_ret, W_regD, WO_nil, WO_cons, WO_guard2, wantV_b, bq_tt, bq_ft, bq_tf, bq_ff, Bool.not_true, Bool.not_false, WD_nil, WD_cons, WD_guard2, WS_some, WS_none, KS_n, KS_x, KS_r, KB_n, KB_x, KB_r, KN_ap, KO_ap, KD_ap, KC_nil, KF_n, KF_r, KG_n, KG_r, KL_n, KL_x, KL_r, CP_true, CP_false, evOp, evX, X.ev, optX, put_some, put_none, get_set2, sel_t, sel_f, Nat.reduceBEq, Nat.reduceAdd, Nat.reduceLT, Nat.reduceLeDiff, Nat.reduceEqDiff, reduceIte, if_true, if_false, bi_add, bi_sub, bi_mul, bi_eql, bi_neq, bi_lss, bi_leq, bi_gtr, bi_geq, bs_eql, bs_neq, bs_lss, Am.unOp, ret1, pubL, pub, pubA, initT, wkZ, wk, wants, resOf, tupOf, quiet, AOp.cls, Nat.beq_eq, Bool.or_eq_true, decide_true, decide_false, beq_self_eq_true, Bool.true_or, Bool.or_true, true_and, and_true, lenA, eqv, eqB, eqP, scal, new_box_self, List.getElem?_cons_zero, List.getElem?_cons_succ, key_ii, key_ss, findM, updM, esc_i, esc_s, esc_b, Int.reduceEq, ret1, new_nb, new_set, reduceCtorEq, Bool.xor_true, Bool.xor_false, Bool.false_eq_true, List.all_cons, List.all_nil, noTok, Bool.and_self, Bool.and_true, Bool.true_and]
    exact ⟨0, by omega, rfl, by omega, rfl⟩

def lessP (L M : List (List Nat)) : Bool := decide (cmpT L M < 0)
theorem less_ok (L M : List (List Nat)) (hL : L.length < 2 ^ 62) (s : St) : (lim prog).call f_path_Less [tx L, tx M] s = some (.b (lessP L M), s) := by
  refine fn_W p_path_Less rfl rfl ?_
  simp only [c_path_Less, W_seq, W_reg, W_cond, W_blk, W_skip, W_exit, W_ret, W_regD, WO_nil, WO_cons, WO_guard2, wantV_b, bq_tt, bq_ft, bq_tf, bq_ff, Bool.not_true, Bool.not_false, WD_nil, WD_cons, WD_guard2, WS_some, WS_none, KS_n, KS_x, KS_r, KB_n, KB_x, KB_r, KN_ap, KO_ap, KD_ap, KC_nil, KF_n, KF_r, KG_n, KG_r, KL_n, KL_x, KL_r, CP_true, CP_false, evOp, evX, X.ev, optX, put_some, put_none, get_set2, sel_t, sel_f, Nat.reduceBEq, Nat.reduceAdd, Nat.reduceLT, Nat.reduceLeDiff, Nat.reduceEqDiff, reduceIte, if_true, if_false, bi_add, bi_sub, bi_mul, bi_eql, bi_neq, bi_lss, bi_leq, bi_gtr, bi_geq, bs_eql, bs_neq, bs_lss, Am.unOp, ret1, pubL, pub, pubA, initT, wkZ, wk, wants, resOf, tupOf, quiet, AOp.cls, Nat.beq_eq, Bool.or_eq_true, decide_true, decide_false, beq_self_eq_true, Bool.true_or, Bool.or_true, true_and, and_true, lenA, eqv, eqB, eqP, scal, new_box_self, List.getElem?_cons_zero, List.getElem?_cons_succ, key_ii, key_ss, findM, updM, esc_i, esc_s, esc_b, Int.reduceEq, ret1, new_nb, new_set, reduceCtorEq, Bool.xor_true, Bool.xor_false, Bool.false_eq_true, List.all_cons, List.all_nil, noTok, Bool.and_self, Bool.and_true, Bool.true_and, compare_ok L M hL]
  exact KR_some (Over.enter s) rfl rfl

theorem equal_ok (L M : List (List Nat)) (hL : L.length < 2 ^ 62) (s : St) : (lim prog).call f_slices_Equal_string_string [tx L, tx M] s = some (.b (sameP L M), s) := by
  refine fn_W p_slices_Equal_string_string rfl rfl ?_
  simp only [c_slices_Equal_string_string, W_seq, W_reg, W_cond, W_blk, W_skip, W_exit, W_ret, W_regD, WO_nil, WO_cons, WO_guard2, wantV_b, bq_tt, bq_ft, bq_tf, bq_ff, Bool.not_true, Bool.not_false, WD_nil, WD_cons, WD_guard2, WS_some, WS_none, KS_n, KS_x, KS_r, KB_n, KB_x, KB_r, KN_ap, KO_ap, KD_ap, KC_nil, KF_n, KF_r, KG_n, KG_r, KL_n, KL_x, KL_r, CP_true, CP_false, evOp, evX, X.ev, optX, put_some, put_none, get_set2, sel_t, sel_f, Nat.reduceBEq, Nat.reduceAdd, Nat.reduceLT, Nat.reduceLeDiff, Nat.reduceEqDiff, reduceIte, if_true, if_false, bi_add, bi_sub, bi_mul, bi_eql, bi_neq, bi_lss, bi_leq, bi_gtr, bi_geq, bs_eql, bs_neq, bs_lss, Am.unOp, ret1, pubL, pub, pubA, initT, wkZ, wk, wants, resOf, tupOf, quiet, AOp.cls, Nat.beq_eq, Bool.or_eq_true, decide_true, decide_false, beq_self_eq_true, Bool.true_or, Bool.or_true, true_and, and_true, lenA, eqv, eqB, eqP, scal, new_box_self, List.getElem?_cons_zero, List.getElem?_cons_succ, key_ii, key_ss, findM, updM, esc_i, esc_s, esc_b, Int.reduceEq, ret1, new_nb, new_set, reduceCtorEq, Bool.xor_true, Bool.xor_false, Bool.false_eq_true, List.all_cons, List.all_nil, noTok, Bool.and_self, Bool.and_true, Bool.true_and, List.length_map, ofNat_len]
  refine CP_dec (fun h => KR_some (Over.enter s) rfl ?_) (fun h => ?_)
  · have : ¬ L = M := fun hh => by subst hh; exact absurd rfl h
    simp [tupOf, wkZ, wk, sameP, this]
  have hl : L.length = M.length := by simp at h; omega
  refine W_loop (fun n e s1 => s1 = s.enter ∧ e.get 0 = tx L ∧ e.get 1 = tx M ∧ e.get 12 = .i .i64 L.length ∧ ∃ i : Nat, i + n = L.length ∧ e.get 13 = .i .i64 i ∧ L.take i = M.take i) ?_ L.length _ _ ?_
  · rintro n e s1 ⟨rfl, h0, h1, h12, i, hi, h13, hp⟩
    simp only [W_seq, W_reg, W_cond, W_blk, W_skip, W_exit, W_ret, W_regD, WO_nil, WO_cons, WO_guard2, wantV_b, bq_tt, bq_ft, bq_tf, bq_ff, Bool.not_true, Bool.not_false, WD_nil, WD_cons, WD_guard2, WS_some, WS_none, KS_n, KS_x, KS_r, KB_n, KB_x, KB_r, KN_ap, KO_ap, KD_ap, KC_nil, KF_n, KF_r, KG_n, KG_r, KL_n, KL_x, KL_r, CP_true, CP_false, evOp, evX, X.ev, optX, put_some, put_none, get_set2, sel_t, sel_f, Nat.reduceBEq, Nat.reduceAdd, Nat.reduceLT, Nat.reduceLeDiff, Nat.reduceEqDiff, reduceIte, if_true, if_false, bi_add, bi_sub, bi_mul, bi_eql, bi_neq, bi_lss, bi_leq, bi_gtr, bi_geq, bs_eql, bs_neq, bs_lss, Am.unOp, ret1, pubL, pub, pubA, initT, wkZ, wk, wants, resOf, tupOf, quiet, AOp.cls, Nat.beq_eq, Bool.or_eq_true, decide_true, decide_false, beq_self_eq_true, Bool.true_or, Bool.or_true, true_and, and_true, lenA, eqv, eqB, eqP, scal, new_box_self, List.getElem?_cons_zero, List.getElem?_cons_succ, key_ii, key_ss, findM, updM, esc_i, esc_s, esc_b, Int.reduceEq, ret1, new_nb, new_set, reduceCtorEq, Bool.xor_true, Bool.xor_false, Bool.false_eq_true, List.all_cons, List.all_nil, noTok, Bool.and_self, Bool.and_true, Bool.true_and, h0, h1, h12, h13, List.length_map, ofNat_len]
    refine CP_dec (fun hlt => ?_) (fun hge => ?_)
    · have hlt : i < L.length := by omega
      have hlm : i < M.length := by omega
      simp only [W_seq, W_reg, W_cond, W_blk, W_skip, W_exit, W_ret, W_regD, WO_nil, WO_cons, WO_guard2, wantV_b, bq_tt, bq_ft, bq_tf, bq_ff, Bool.not_true, Bool.not_false, WD_nil, WD_cons, WD_guard2, WS_some, WS_none, KS_n, KS_x, KS_r, KB_n, KB_x, KB_r, KN_ap, KO_ap, KD_ap, KC_nil, KF_n, KF_r, KG_n, KG_r, KL_n, KL_x, KL_r, CP_true, CP_false, evOp, evX, X.ev, optX, put_some, put_none, get_set2, sel_t, sel_f, Nat.reduceBEq, Nat.reduceAdd, Nat.reduceLT, Nat.reduceLeDiff, Nat.reduceEqDiff, reduceIte, if_true, if_false, bi_add, bi_sub, bi_mul, bi_eql, bi_neq, bi_lss, bi_leq, bi_gtr, bi_geq, bs_eql, bs_neq, bs_lss, Am.unOp, ret1, pubL, pub, pubA, initT, wkZ, wk, wants, resOf, tupOf, quiet, AOp.cls, Nat.beq_eq, Bool.or_eq_true, decide_true, decide_false, beq_self_eq_true, Bool.true_or, Bool.or_true, true_and, and_true, lenA, eqv, eqB, eqP, scal, new_box_self, List.getElem?_cons_zero, List.getElem?_cons_succ, key_ii, key_ss, findM, updM, esc_i, esc_s, esc_b, Int.reduceEq, ret1, new_nb, new_set, reduceCtorEq, Bool.xor_true, Bool.xor_false, Bool.false_eq_true, List.all_cons, List.all_nil, noTok, Bool.and_self, Bool.and_true, Bool.true_and, h0, h1, h12, h13, List.length_map, ofNat_len, natOf_nat, tx_get hlt, tx_get hlm, cells_s, ldA_1, wrap_succ (show i + 1 < 2 ^ 63 by omega)]
      refine CP_dec (fun hne => KR_some (Over.enter s) rfl ?_) (fun he => ⟨n - 1, by omega, i + 1, by omega, rfl, ?_⟩)
      · have : ¬ L = M := fun hh => by subst hh; exact hne rfl
        simp [tupOf, wkZ, wk, sameP, this]
      · exact take_step hp hlt hlm (by simpa using he)
    · refine KR_some (Over.enter s) rfl ?_
      have hi' : i = L.length := by omega
      subst hi'
      rw [List.take_length, hl, List.take_length] at hp
      simp [tupOf, wkZ, wk, sameP, hp]
  · simp only [W_seq, W_reg, W_cond, W_blk, W_skip, W_exit, W_ret, W_regD, WO_nil, WO_cons, WO_guard2, wantV_b, bq_tt, bq_ft, bq_tf, bq_ff, Bool.not_true, Bool.not_false, WD_nil, WD_cons, WD_guard2, WS_some, WS_none, KS_n, KS_x, KS_r, KB_n, KB_x, KB_r, KN_ap, KO_ap, KD_ap, KC_nil, KF_n, KF_r, KG_n, KG_r, KL_n, KL_x, KL_r, CP_true, CP_false, evOp, evX, X.ev, optX, put_some, put_none, get_set2, sel_t, sel_f, Nat.reduceBEq, Nat.reduceAdd, Nat.reduceLT, Nat.reduceLeDiff, Nat.reduceEqDiff, reduceIte, if_true, if_false, bi_add, bi_sub, bi_mul, bi_eql, bi_neq, bi_lss, bi_leq, bi_gtr, bi_geq, bs_eql, bs_neq, bs_lss, Am.unOp, ret1, pubL, pub, pubA, initT, wkZ, wk, wants, resOf, tupOf, quiet, AOp.cls, Nat.beq_eq, Bool.or_eq_true, decide_true, decide_false, beq_self_eq_true, Bool.true_or, Bool.or_true, true_and, and_true, lenA, eqv, eqB, eqP, scal, new_box_self, List.getElem?_cons_zero, List.getElem?_cons_succ, key_ii, key_ss, findM, updM, esc_i, esc_s, esc_b, Int.reduceEq, ret1, new_nb, new_set, reduceCtorEq, Bool.xor_true, Bool.xor_false, Bool.false_eq_true, List.all_cons, List.all_nil, noTok, Bool.and_self, Bool.and_true, Bool.true_and]
    exact ⟨0, by omega, rfl, by simp⟩

theorem slice_tx (s : St) (M : List (List Nat)) (n : Nat) (h : n ≤ M.length) : sliceA s false 1 (tx M) none (some (.i .i64 n)) none = some (tx (M.take n), s) := by
  simp only [sliceA, bounds, natOf_nat, List.length_map]
  rw [if_pos (by trivial), if_pos ⟨Nat.zero_le _, h⟩]
  simp only [List.drop_zero, Nat.sub_zero]
  by_cases hn : n = M.length
  · subst hn; simp
  · rw [if_neg (by simp [hn])]; simp

theorem und_take {L M : List (List Nat)} : sameP L (M.take L.length) = undP L M := by
  unfold undP sameP
  by_cases h : M.take L.length = L
  · rw [decide_eq_true h, decide_eq_true h.symm]
  · rw [decide_eq_false h, decide_eq_false fun hh => h hh.symm]

theorem under_ok (L M : List (List Nat)) (hL : L.length < 2 ^ 62) (s : St) : (lim prog).call f_path_Under [tx L, tx M] s = some (.b (undP L M), s) := by
  refine fn_W p_path_Under rfl rfl ?_
  by_cases h : L.length ≤ M.length
  · simp only [c_path_Under, W_seq, W_reg, W_cond, W_blk, W_skip, W_exit, W_ret, W_regD, WO_nil, WO_cons, WO_guard2, wantV_b, bq_tt, bq_ft, bq_tf, bq_ff, Bool.not_true, Bool.not_false, WD_nil, WD_cons, WD_guard2, WS_some, WS_none, KS_n, KS_x, KS_r, KB_n, KB_x, KB_r, KN_ap, KO_ap, KD_ap, KC_nil, KF_n, KF_r, KG_n, KG_r, KL_n, KL_x, KL_r, CP_true, CP_false, evOp, evX, X.ev, optX, put_some, put_none, get_set2, sel_t, sel_f, Nat.reduceBEq, Nat.reduceAdd, Nat.reduceLT, Nat.reduceLeDiff, Nat.reduceEqDiff, reduceIte, if_true, if_false, bi_add, bi_sub, bi_mul, bi_eql, bi_neq, bi_lss, bi_leq, bi_gtr, bi_geq, bs_eql, bs_neq, bs_lss, Am.unOp, ret1, pubL, pub, pubA, initT, wkZ, wk, wants, resOf, tupOf, quiet, AOp.cls, Nat.beq_eq, Bool.or_eq_true, decide_true, decide_false, beq_self_eq_true, Bool.true_or, Bool.or_true, true_and, and_true, lenA, eqv, eqB, eqP, scal, new_box_self, List.getElem?_cons_zero, List.getElem?_cons_succ, key_ii, key_ss, findM, updM, esc_i, esc_s, esc_b, Int.reduceEq, ret1, new_nb, new_set, reduceCtorEq, Bool.xor_true, Bool.xor_false, Bool.false_eq_true, List.all_cons, List.all_nil, noTok, Bool.and_self, Bool.and_true, Bool.true_and, List.length_map, ofNat_len, cast_le h, beq_tt, slice_tx _ _ _ h, equal_ok L _ hL, und_take]
    exact KR_some (Over.enter s) rfl rfl
  · simp only [c_path_Under, W_seq, W_reg, W_cond, W_blk, W_skip, W_exit, W_ret, W_regD, WO_nil, WO_cons, WO_guard2, wantV_b, bq_tt, bq_ft, bq_tf, bq_ff, Bool.not_true, Bool.not_false, WD_nil, WD_cons, WD_guard2, WS_some, WS_none, KS_n, KS_x, KS_r, KB_n, KB_x, KB_r, KN_ap, KO_ap, KD_ap, KC_nil, KF_n, KF_r, KG_n, KG_r, KL_n, KL_x, KL_r, CP_true, CP_false, evOp, evX, X.ev, optX, put_some, put_none, get_set2, sel_t, sel_f, Nat.reduceBEq, Nat.reduceAdd, Nat.reduceLT, Nat.reduceLeDiff, Nat.reduceEqDiff, reduceIte, if_true, if_false, bi_add, bi_sub, bi_mul, bi_eql, bi_neq, bi_lss, bi_leq, bi_gtr, bi_geq, bs_eql, bs_neq, bs_lss, Am.unOp, ret1, pubL, pub, pubA, initT, wkZ, wk, wants, resOf, tupOf, quiet, AOp.cls, Nat.beq_eq, Bool.or_eq_true, decide_true, decide_false, beq_self_eq_true, Bool.true_or, Bool.or_true, true_and, and_true, lenA, eqv, eqB, eqP, scal, new_box_self, List.getElem?_cons_zero, List.getElem?_cons_succ, key_ii, key_ss, findM, updM, esc_i, esc_s, esc_b, Int.reduceEq, ret1, new_nb, new_set, reduceCtorEq, Bool.xor_true, Bool.xor_false, Bool.false_eq_true, List.all_cons, List.all_nil, noTok, Bool.and_self, Bool.and_true, Bool.true_and, List.length_map, ofNat_len, cast_nle h, beq_ft]
    refine KR_some (Over.enter s) rfl ?_
    have : ¬ M.take L.length = L := fun hh => h (und_len hh)
    simp [tupOf, wkZ, wk, undP, this]
end Go.Proofs.YtfaodjpibdhdjaaDoor

/-
  Bytes and runes in texts; names.
-/
set_option maxRecDepth 100000
set_option linter.unusedSimpArgs false
set_option linter.constructorNameAsVariable false
namespace Go.Proofs.YtfaodjpibdhdjaaDoor
open Go.Proofs.YtfaodjpibdhdjaaDoor.Am

/-! ### A byte in a text -/
theorem nbeq_ne {a c : Nat} (h : ¬ a = c) : Nat.beq a c = false := Bool.eq_false_iff.2 (by rw [Ne, Nat.beq_eq]; exact h)
theorem idxB_neg {c : Nat} : ∀ {l : List Nat} {n : Nat}, idxB c n l < 0 ↔ c ∉ l
  | [], n => by simp [idxB]
  | a :: l, n => by
    simp only [idxB]
    by_cases h : a = c
    · subst h
      simp [Nat.beq_eq]
    · have hb : Nat.beq a c = false := nbeq_ne h
      rw [hb, cond_false, idxB_neg]
      simp; omega
theorem idxB_miss {c : Nat} : ∀ {l : List Nat} {n : Nat}, c ∉ l → idxB c n l = -1
  | [], n, _ => rfl
  | a :: l, n, h => by
    simp only [List.mem_cons, not_or] at h
    have hb : Nat.beq a c = false := nbeq_ne (Ne.symm h.1)
    simp only [idxB]
    rw [hb, cond_false, idxB_miss h.2]
theorem idxB_app {c : Nat} : ∀ {a b : List Nat} {n : Nat}, c ∉ a → idxB c n (a ++ c :: b) = ((n + a.length : Nat) : Int)
  | [], b, n, _ => by simp [idxB]
  | x :: a, b, n, h => by
    simp only [List.mem_cons, not_or] at h
    have hb : Nat.beq x c = false := nbeq_ne (Ne.symm h.1)
    simp only [List.cons_append, idxB]
    rw [hb, cond_false, idxB_app h.2]
    simp; omega

theorem ext0 (s : St) (l : List Nat) (c : Nat) (hc : c < 256) : extA s 0 [.s l, .i .u8 (c : Int)] = some (.i .i64 (idxB c 0 l), s) := by
  have h : ((IntKind.u8 = IntKind.u8) ∧ (0 : Int) ≤ (c : Int) ∧ (c : Int) < 256) := ⟨rfl, by omega, by omega⟩
  show (if _ then _ else _) = _
  rw [if_pos h]
  simp
theorem indexByteL_ok (l : List Nat) (c : Nat) (hc : c < 256) (s : St) : (lim prog).call f_internal_stringslite_IndexByte [.s l, .i .u8 (c : Int)] s = some (.i .i64 (idxB c 0 l), s) := by
  refine fn_W p_internal_stringslite_IndexByte rfl rfl ?_
  simp only [c_internal_stringslite_IndexByte, W_seq, W_reg, W_cond, W_blk, W_skip, W_exit, W_ret, W_regD, WO_nil, WO_cons, WO_guard2, wantV_b, bq_tt, bq_ft, bq_tf, bq_ff, Bool.not_true, Bool.not_false, WD_nil, WD_cons, WD_guard2, WS_some, WS_none, KS_n, KS_x, KS_r, KB_n, KB_x, KB_r, KN_ap, KO_ap, KD_ap, KC_nil, KF_n, KF_r, KG_n, KG_r, KL_n, KL_x, KL_r, CP_true, CP_false, evOp, evX, X.ev, optX, put_some, put_none, get_set2, sel_t, sel_f, Nat.reduceBEq, Nat.reduceAdd, Nat.reduceLT, Nat.reduceLeDiff, Nat.reduceEqDiff, reduceIte, if_true, if_false, bi_add, bi_sub, bi_mul, bi_eql, bi_neq, bi_lss, bi_leq, bi_gtr, bi_geq, bs_eql, bs_neq, bs_lss, Am.unOp, ret1, pubL, pubC_agg, pubC_s, pubC_i, pubC_b, pubC_p, pubC_np, pubC_nsl, pubC_ws, pubC_full, pubC_shut, pubC_fn, pubA, initT, wkZ, wk, wants, resOf, tupOf, quiet, AOp.cls, Nat.beq_eq, Bool.or_eq_true, decide_true, decide_false, beq_self_eq_true, Bool.true_or, Bool.or_true, true_and, and_true, lenA, eqv, eqB, eqP, scal, new_box_self, List.getElem?_cons_zero, List.getElem?_cons_succ, key_ii, key_ss, findM, updM, esc_i, esc_s, esc_b, Int.reduceEq, ret1, new_nb, new_set, reduceCtorEq, Bool.xor_true, Bool.xor_false, Bool.false_eq_true, List.all_cons, List.all_nil, noTok, Bool.and_self, Bool.and_true, Bool.true_and, or_true, false_or, ext0 _ l c hc]
  exact KR_some (Over.enter s) rfl rfl
theorem indexByte_ok (l : List Nat) (c : Nat) (hc : c < 256) (s : St) : (lim prog).call f_strings_IndexByte [.s l, .i .u8 (c : Int)] s = some (.i .i64 (idxB c 0 l), s) := by
  refine fn_W p_strings_IndexByte rfl rfl ?_
  simp only [c_strings_IndexByte, W_seq, W_reg, W_cond, W_blk, W_skip, W_exit, W_ret, W_regD, WO_nil, WO_cons, WO_guard2, wantV_b, bq_tt, bq_ft, bq_tf, bq_ff, Bool.not_true, Bool.not_false, WD_nil, WD_cons, WD_guard2, WS_some, WS_none, KS_n, KS_x, KS_r, KB_n, KB_x, KB_r, KN_ap, KO_ap, KD_ap, KC_nil, KF_n, KF_r, KG_n, KG_r, KL_n, KL_x, KL_r, CP_true, CP_false, evOp, evX, X.ev, optX, put_some, put_none, get_set2, sel_t, sel_f, Nat.reduceBEq, Nat.reduceAdd, Nat.reduceLT, Nat.reduceLeDiff, Nat.reduceEqDiff, reduceIte, if_true, if_false, bi_add, bi_sub, bi_mul, bi_eql, bi_neq, bi_lss, bi_leq, bi_gtr, bi_geq, bs_eql, bs_neq, bs_lss, Am.unOp, ret1, pubL, pubC_agg, pubC_s, pubC_i, pubC_b, pubC_p, pubC_np, pubC_nsl, pubC_ws, pubC_full, pubC_shut, pubC_fn, pubA, initT, wkZ, wk, wants, resOf, tupOf, quiet, AOp.cls, Nat.beq_eq, Bool.or_eq_true, decide_true, decide_false, beq_self_eq_true, Bool.true_or, Bool.or_true, true_and, and_true, lenA, eqv, eqB, eqP, scal, new_box_self, List.getElem?_cons_zero, List.getElem?_cons_succ, key_ii, key_ss, findM, updM, esc_i, esc_s, esc_b, Int.reduceEq, ret1, new_nb, new_set, reduceCtorEq, Bool.xor_true, Bool.xor_false, Bool.false_eq_true, List.all_cons, List.all_nil, noTok, Bool.and_self, Bool.and_true, Bool.true_and, or_true, false_or, indexByteL_ok l c hc]
  exact KR_some (Over.enter s) rfl rfl
theorem natOf0 : natOf (.i .i64 0) = some 0 := rfl
theorem indexL_ok (l : List Nat) (c : Nat) (hc : c < 256) (s : St) : (lim prog).call f_internal_stringslite_Index [.s l, .s [c]] s = some (.i .i64 (idxB c 0 l), s) := by
  refine fn_W p_internal_stringslite_Index rfl rfl ?_
  have h1 : (((List.length [c] : Nat) : Int) = 0) = False := by simp
  have h2 : (((List.length [c] : Nat) : Int) = 1) = True := by simp
  simp only [c_internal_stringslite_Index, W_seq, W_reg, W_cond, W_blk, W_skip, W_exit, W_ret, W_regD, WO_nil, WO_cons, WO_guard2, wantV_b, bq_tt, bq_ft, bq_tf, bq_ff, Bool.not_true, Bool.not_false, WD_nil, WD_cons, WD_guard2, WS_some, WS_none, KS_n, KS_x, KS_r, KB_n, KB_x, KB_r, KN_ap, KO_ap, KD_ap, KC_nil, KF_n, KF_r, KG_n, KG_r, KL_n, KL_x, KL_r, CP_true, CP_false, evOp, evX, X.ev, optX, put_some, put_none, get_set2, sel_t, sel_f, Nat.reduceBEq, Nat.reduceAdd, Nat.reduceLT, Nat.reduceLeDiff, Nat.reduceEqDiff, reduceIte, if_true, if_false, bi_add, bi_sub, bi_mul, bi_eql, bi_neq, bi_lss, bi_leq, bi_gtr, bi_geq, bs_eql, bs_neq, bs_lss, Am.unOp, ret1, pubL, pubC_agg, pubC_s, pubC_i, pubC_b, pubC_p, pubC_np, pubC_nsl, pubC_ws, pubC_full, pubC_shut, pubC_fn, pubA, initT, wkZ, wk, wants, resOf, tupOf, quiet, AOp.cls, Nat.beq_eq, Bool.or_eq_true, decide_true, decide_false, beq_self_eq_true, Bool.true_or, Bool.or_true, true_and, and_true, lenA, eqv, eqB, eqP, scal, new_box_self, List.getElem?_cons_zero, List.getElem?_cons_succ, key_ii, key_ss, findM, updM, esc_i, esc_s, esc_b, Int.reduceEq, ret1, new_nb, new_set, reduceCtorEq, Bool.xor_true, Bool.xor_false, Bool.false_eq_true, List.all_cons, List.all_nil, noTok, Bool.and_self, Bool.and_true, Bool.true_and, or_true, false_or, ofNat_len, h1, natOf0, h2]
  have hk : KR s [CT.id] (.i .i64 (idxB c 0 l)) (some ([.i .i64 (idxB c 0 l)], s.enter)) := KR_some (Over.enter s) rfl rfl
  by_cases hl : [c] = l
  · subst hl
    simp only [W_seq, W_reg, W_cond, W_blk, W_skip, W_exit, W_ret, W_regD, WO_nil, WO_cons, WO_guard2, wantV_b, bq_tt, bq_ft, bq_tf, bq_ff, Bool.not_true, Bool.not_false, WD_nil, WD_cons, WD_guard2, WS_some, WS_none, KS_n, KS_x, KS_r, KB_n, KB_x, KB_r, KN_ap, KO_ap, KD_ap, KC_nil, KF_n, KF_r, KG_n, KG_r, KL_n, KL_x, KL_r, CP_true, CP_false, evOp, evX, X.ev, optX, put_some, put_none, get_set2, sel_t, sel_f, Nat.reduceBEq, Nat.reduceAdd, Nat.reduceLT, Nat.reduceLeDiff, Nat.reduceEqDiff, reduceIte, if_true, if_false, bi_add, bi_sub, bi_mul, bi_eql, bi_neq, bi_lss, bi_leq, bi_gtr, bi_geq, bs_eql, bs_neq, bs_lss, Am.unOp, ret1, pubL, pubC_agg, pubC_s, pubC_i, pubC_b, pubC_p, pubC_np, pubC_nsl, pubC_ws, pubC_full, pubC_shut, pubC_fn, pubA, initT, wkZ, wk, wants, resOf, tupOf, quiet, AOp.cls, Nat.beq_eq, Bool.or_eq_true, decide_true, decide_false, beq_self_eq_true, Bool.true_or, Bool.or_true, true_and, and_true, lenA, eqv, eqB, eqP, scal, new_box_self, List.getElem?_cons_zero, List.getElem?_cons_succ, key_ii, key_ss, findM, updM, esc_i, esc_s, esc_b, Int.reduceEq, ret1, new_nb, new_set, reduceCtorEq, Bool.xor_true, Bool.xor_false, Bool.false_eq_true, List.all_cons, List.all_nil, noTok, Bool.and_self, Bool.and_true, Bool.true_and, or_true, false_or, ofNat_len, h1, natOf0, h2, eq_self, indexByteL_ok _ c hc]
    exact KR_some (Over.enter s) rfl (by simp [tupOf, wkZ, wk, idxB])
  · have hl' : ([c] = l) = False := by simp [hl]
    simp only [W_seq, W_reg, W_cond, W_blk, W_skip, W_exit, W_ret, W_regD, WO_nil, WO_cons, WO_guard2, wantV_b, bq_tt, bq_ft, bq_tf, bq_ff, Bool.not_true, Bool.not_false, WD_nil, WD_cons, WD_guard2, WS_some, WS_none, KS_n, KS_x, KS_r, KB_n, KB_x, KB_r, KN_ap, KO_ap, KD_ap, KC_nil, KF_n, KF_r, KG_n, KG_r, KL_n, KL_x, KL_r, CP_true, CP_false, evOp, evX, X.ev, optX, put_some, put_none, get_set2, sel_t, sel_f, Nat.reduceBEq, Nat.reduceAdd, Nat.reduceLT, Nat.reduceLeDiff, Nat.reduceEqDiff, reduceIte, if_true, if_false, bi_add, bi_sub, bi_mul, bi_eql, bi_neq, bi_lss, bi_leq, bi_gtr, bi_geq, bs_eql, bs_neq, bs_lss, Am.unOp, ret1, pubL, pubC_agg, pubC_s, pubC_i, pubC_b, pubC_p, pubC_np, pubC_nsl, pubC_ws, pubC_full, pubC_shut, pubC_fn, pubA, initT, wkZ, wk, wants, resOf, tupOf, quiet, AOp.cls, Nat.beq_eq, Bool.or_eq_true, decide_true, decide_false, beq_self_eq_true, Bool.true_or, Bool.or_true, true_and, and_true, lenA, eqv, eqB, eqP, scal, new_box_self, List.getElem?_cons_zero, List.getElem?_cons_succ, key_ii, key_ss, findM, updM, esc_i, esc_s, esc_b, Int.reduceEq, ret1, new_nb, new_set, reduceCtorEq, Bool.xor_true, Bool.xor_false, Bool.false_eq_true, List.all_cons, List.all_nil, noTok, Bool.and_self, Bool.and_true, Bool.true_and, or_true, false_or, ofNat_len, h1, natOf0, h2, hl', indexByteL_ok _ c hc]
    exact hk
theorem index_ok (l : List Nat) (c : Nat) (hc : c < 256) (s : St) : (lim prog).call f_strings_Index [.s l, .s [c]] s = some (.i .i64 (idxB c 0 l), s) := by
  refine fn_W p_strings_Index rfl rfl ?_
  simp only [c_strings_Index, W_seq, W_reg, W_cond, W_blk, W_skip, W_exit, W_ret, W_regD, WO_nil, WO_cons, WO_guard2, wantV_b, bq_tt, bq_ft, bq_tf, bq_ff, Bool.not_true, Bool.not_false, WD_nil, WD_cons, WD_guard2, WS_some, WS_none, KS_n, KS_x, KS_r, KB_n, KB_x, KB_r, KN_ap, KO_ap, KD_ap, KC_nil, KF_n, KF_r, KG_n, KG_r, KL_n, KL_x, KL_r, CP_true, CP_false, evOp, evX, X.ev, optX, put_some, put_none, get_set2, sel_t, sel_f, Nat.reduceBEq, Nat.reduceAdd, Nat.reduceLT, Nat.reduceLeDiff, Nat.reduceEqDiff, reduceIte, if_true, if_false, bi_add, bi_sub, bi_mul, bi_eql, bi_neq, bi_lss, bi_leq, bi_gtr, bi_geq, bs_eql, bs_neq, bs_lss, Am.unOp, ret1, pubL, pubC_agg, pubC_s, pubC_i, pubC_b, pubC_p, pubC_np, pubC_nsl, pubC_ws, pubC_full, pubC_shut, pubC_fn, pubA, initT, wkZ, wk, wants, resOf, tupOf, quiet, AOp.cls, Nat.beq_eq, Bool.or_eq_true, decide_true, decide_false, beq_self_eq_true, Bool.true_or, Bool.or_true, true_and, and_true, lenA, eqv, eqB, eqP, scal, new_box_self, List.getElem?_cons_zero, List.getElem?_cons_succ, key_ii, key_ss, findM, updM, esc_i, esc_s, esc_b, Int.reduceEq, ret1, new_nb, new_set, reduceCtorEq, Bool.xor_true, Bool.xor_false, Bool.false_eq_true, List.all_cons, List.all_nil, noTok, Bool.and_self, Bool.and_true, Bool.true_and, or_true, false_or, indexL_ok l c hc]
  exact KR_some (Over.enter s) rfl rfl
end Go.Proofs.YtfaodjpibdhdjaaDoor

/-
  Runes in "/\0\n".
-/
set_option maxRecDepth 100000
set_option linter.unusedSimpArgs false
set_option linter.constructorNameAsVariable false
namespace Go.Proofs.YtfaodjpibdhdjaaDoor
open Go.Proofs.YtfaodjpibdhdjaaDoor.Am

theorem u8N {n : Nat} (h : n < 256) : (UInt8.ofNat n).toNat = n := by simp [UInt8.toNat_ofNat']; omega
/-- A rune that is no byte: its last byte is none below 128. -/
theorem encN_high {r : Int} (h0 : 128 ≤ r) (hv : Utf8.valid r = true) : (∃ a b, encN r = [a, b] ∧ 128 ≤ b ∧ b < 256) ∨ (∃ a b c, encN r = [a, b, c] ∧ 128 ≤ c ∧ c < 256) ∨ ∃ a b c d, encN r = [a, b, c, d] := by
  have hr : r ≤ 1114111 := by
    simp only [Utf8.valid, Bool.or_eq_true, Bool.and_eq_true, decide_eq_true_eq] at hv
    omega
  obtain ⟨n, rfl⟩ : ∃ n : Nat, r = n := ⟨r.toNat, by omega⟩
  simp only [encN, Utf8.encode, hv, if_true, Int.toNat_natCast]
  by_cases h1 : n < 128
  · omega
  rw [if_neg h1]
  by_cases h2 : n < 2048
  · rw [if_pos h2]
    exact .inl ⟨_, _, rfl, by show 128 ≤ (UInt8.ofNat _).toNat; rw [u8N (by omega)]; omega, by show (UInt8.ofNat _).toNat < 256; rw [u8N (by omega)]; omega⟩
  rw [if_neg h2]
  by_cases h3 : n < 65536
  · rw [if_pos h3]
    exact .inr (.inl ⟨_, _, _, rfl, by show 128 ≤ (UInt8.ofNat _).toNat; rw [u8N (by omega)]; omega, by show (UInt8.ofNat _).toNat < 256; rw [u8N (by omega)]; omega⟩)
  rw [if_neg h3]
  exact .inr (.inr ⟨_, _, _, _, rfl⟩)

theorem validRune_ok (r : Int) (s : St) : (lim prog).call f_unicode_utf8_ValidRune [.i .i32 r] s = some (.b (Utf8.valid r), s) := by
  refine fn_W p_unicode_utf8_ValidRune rfl rfl ?_
  simp only [c_unicode_utf8_ValidRune, W_seq, W_reg, W_cond, W_blk, W_skip, W_exit, W_ret, W_regD, WO_nil, WO_cons, WO_guard2, wantV_b, bq_tt, bq_ft, bq_tf, bq_ff, Bool.not_true, Bool.not_false, WD_nil, WD_cons, WD_guard2, WS_some, WS_none, KS_n, KS_x, KS_r, KB_n, KB_x, KB_r, KN_ap, KO_ap, KD_ap, KC_nil, KF_n, KF_r, KG_n, KG_r, KL_n, KL_x, KL_r, CP_true, CP_false, evOp, evX, X.ev, optX, put_some, put_none, get_set2, sel_t, sel_f, Nat.reduceBEq, Nat.reduceAdd, Nat.reduceLT, Nat.reduceLeDiff, Nat.reduceEqDiff, reduceIte, if_true, if_false, bi_add, bi_sub, bi_mul, bi_eql, bi_neq, bi_lss, bi_leq, bi_gtr, bi_geq, bs_eql, bs_neq, bs_lss, Am.unOp, ret1, pubL, pubC_agg, pubC_s, pubC_i, pubC_b, pubC_p, pubC_np, pubC_nsl, pubC_ws, pubC_full, pubC_shut, pubC_fn, pubA, initT, wkZ, wk, wants, resOf, tupOf, quiet, AOp.cls, Nat.beq_eq, Bool.or_eq_true, decide_true, decide_false, beq_self_eq_true, Bool.true_or, Bool.or_true, true_and, and_true, lenA, eqv, eqB, eqP, scal, new_box_self, List.getElem?_cons_zero, List.getElem?_cons_succ, key_ii, key_ss, findM, updM, esc_i, esc_s, esc_b, Int.reduceEq, ret1, new_nb, new_set, reduceCtorEq, Bool.xor_true, Bool.xor_false, Bool.false_eq_true, List.all_cons, List.all_nil, noTok, Bool.and_self, Bool.and_true, Bool.true_and, or_true, false_or]
  by_cases h0 : 0 ≤ r
  · by_cases h1 : r < 55296
    · simp only [W_seq, W_reg, W_cond, W_blk, W_skip, W_exit, W_ret, W_regD, WO_nil, WO_cons, WO_guard2, wantV_b, bq_tt, bq_ft, bq_tf, bq_ff, Bool.not_true, Bool.not_false, WD_nil, WD_cons, WD_guard2, WS_some, WS_none, KS_n, KS_x, KS_r, KB_n, KB_x, KB_r, KN_ap, KO_ap, KD_ap, KC_nil, KF_n, KF_r, KG_n, KG_r, KL_n, KL_x, KL_r, CP_true, CP_false, evOp, evX, X.ev, optX, put_some, put_none, get_set2, sel_t, sel_f, Nat.reduceBEq, Nat.reduceAdd, Nat.reduceLT, Nat.reduceLeDiff, Nat.reduceEqDiff, reduceIte, if_true, if_false, bi_add, bi_sub, bi_mul, bi_eql, bi_neq, bi_lss, bi_leq, bi_gtr, bi_geq, bs_eql, bs_neq, bs_lss, Am.unOp, ret1, pubL, pubC_agg, pubC_s, pubC_i, pubC_b, pubC_p, pubC_np, pubC_nsl, pubC_ws, pubC_full, pubC_shut, pubC_fn, pubA, initT, wkZ, wk, wants, resOf, tupOf, quiet, AOp.cls, Nat.beq_eq, Bool.or_eq_true, decide_true, decide_false, beq_self_eq_true, Bool.true_or, Bool.or_true, true_and, and_true, lenA, eqv, eqB, eqP, scal, new_box_self, List.getElem?_cons_zero, List.getElem?_cons_succ, key_ii, key_ss, findM, updM, esc_i, esc_s, esc_b, Int.reduceEq, ret1, new_nb, new_set, reduceCtorEq, Bool.xor_true, Bool.xor_false, Bool.false_eq_true, List.all_cons, List.all_nil, noTok, Bool.and_self, Bool.and_true, Bool.true_and, or_true, false_or, h0, h1]
      exact KR_some (Over.enter s) rfl (by simp [tupOf, wkZ, wk, Utf8.valid, h0, h1])
    · by_cases h2 : 57343 < r
      · by_cases h3 : r ≤ 1114111
        · simp only [W_seq, W_reg, W_cond, W_blk, W_skip, W_exit, W_ret, W_regD, WO_nil, WO_cons, WO_guard2, wantV_b, bq_tt, bq_ft, bq_tf, bq_ff, Bool.not_true, Bool.not_false, WD_nil, WD_cons, WD_guard2, WS_some, WS_none, KS_n, KS_x, KS_r, KB_n, KB_x, KB_r, KN_ap, KO_ap, KD_ap, KC_nil, KF_n, KF_r, KG_n, KG_r, KL_n, KL_x, KL_r, CP_true, CP_false, evOp, evX, X.ev, optX, put_some, put_none, get_set2, sel_t, sel_f, Nat.reduceBEq, Nat.reduceAdd, Nat.reduceLT, Nat.reduceLeDiff, Nat.reduceEqDiff, reduceIte, if_true, if_false, bi_add, bi_sub, bi_mul, bi_eql, bi_neq, bi_lss, bi_leq, bi_gtr, bi_geq, bs_eql, bs_neq, bs_lss, Am.unOp, ret1, pubL, pubC_agg, pubC_s, pubC_i, pubC_b, pubC_p, pubC_np, pubC_nsl, pubC_ws, pubC_full, pubC_shut, pubC_fn, pubA, initT, wkZ, wk, wants, resOf, tupOf, quiet, AOp.cls, Nat.beq_eq, Bool.or_eq_true, decide_true, decide_false, beq_self_eq_true, Bool.true_or, Bool.or_true, true_and, and_true, lenA, eqv, eqB, eqP, scal, new_box_self, List.getElem?_cons_zero, List.getElem?_cons_succ, key_ii, key_ss, findM, updM, esc_i, esc_s, esc_b, Int.reduceEq, ret1, new_nb, new_set, reduceCtorEq, Bool.xor_true, Bool.xor_false, Bool.false_eq_true, List.all_cons, List.all_nil, noTok, Bool.and_self, Bool.and_true, Bool.true_and, or_true, false_or, h0, h1, h2, h3]
          refine KR_some (Over.enter s) rfl ?_
          have h4 : 57344 ≤ r := by omega
          simp [tupOf, wkZ, wk, Utf8.valid, h3, h4]
        · simp only [W_seq, W_reg, W_cond, W_blk, W_skip, W_exit, W_ret, W_regD, WO_nil, WO_cons, WO_guard2, wantV_b, bq_tt, bq_ft, bq_tf, bq_ff, Bool.not_true, Bool.not_false, WD_nil, WD_cons, WD_guard2, WS_some, WS_none, KS_n, KS_x, KS_r, KB_n, KB_x, KB_r, KN_ap, KO_ap, KD_ap, KC_nil, KF_n, KF_r, KG_n, KG_r, KL_n, KL_x, KL_r, CP_true, CP_false, evOp, evX, X.ev, optX, put_some, put_none, get_set2, sel_t, sel_f, Nat.reduceBEq, Nat.reduceAdd, Nat.reduceLT, Nat.reduceLeDiff, Nat.reduceEqDiff, reduceIte, if_true, if_false, bi_add, bi_sub, bi_mul, bi_eql, bi_neq, bi_lss, bi_leq, bi_gtr, bi_geq, bs_eql, bs_neq, bs_lss, Am.unOp, ret1, pubL, pubC_agg, pubC_s, pubC_i, pubC_b, pubC_p, pubC_np, pubC_nsl, pubC_ws, pubC_full, pubC_shut, pubC_fn, pubA, initT, wkZ, wk, wants, resOf, tupOf, quiet, AOp.cls, Nat.beq_eq, Bool.or_eq_true, decide_true, decide_false, beq_self_eq_true, Bool.true_or, Bool.or_true, true_and, and_true, lenA, eqv, eqB, eqP, scal, new_box_self, List.getElem?_cons_zero, List.getElem?_cons_succ, key_ii, key_ss, findM, updM, esc_i, esc_s, esc_b, Int.reduceEq, ret1, new_nb, new_set, reduceCtorEq, Bool.xor_true, Bool.xor_false, Bool.false_eq_true, List.all_cons, List.all_nil, noTok, Bool.and_self, Bool.and_true, Bool.true_and, or_true, false_or, h0, h1, h2, h3]
          refine KR_some (Over.enter s) rfl ?_
          simp [tupOf, wkZ, wk, Utf8.valid, h1, h3]
      · simp only [W_seq, W_reg, W_cond, W_blk, W_skip, W_exit, W_ret, W_regD, WO_nil, WO_cons, WO_guard2, wantV_b, bq_tt, bq_ft, bq_tf, bq_ff, Bool.not_true, Bool.not_false, WD_nil, WD_cons, WD_guard2, WS_some, WS_none, KS_n, KS_x, KS_r, KB_n, KB_x, KB_r, KN_ap, KO_ap, KD_ap, KC_nil, KF_n, KF_r, KG_n, KG_r, KL_n, KL_x, KL_r, CP_true, CP_false, evOp, evX, X.ev, optX, put_some, put_none, get_set2, sel_t, sel_f, Nat.reduceBEq, Nat.reduceAdd, Nat.reduceLT, Nat.reduceLeDiff, Nat.reduceEqDiff, reduceIte, if_true, if_false, bi_add, bi_sub, bi_mul, bi_eql, bi_neq, bi_lss, bi_leq, bi_gtr, bi_geq, bs_eql, bs_neq, bs_lss, Am.unOp, ret1, pubL, pubC_agg, pubC_s, pubC_i, pubC_b, pubC_p, pubC_np, pubC_nsl, pubC_ws, pubC_full, pubC_shut, pubC_fn, pubA, initT, wkZ, wk, wants, resOf, tupOf, quiet, AOp.cls, Nat.beq_eq, Bool.or_eq_true, decide_true, decide_false, beq_self_eq_true, Bool.true_or, Bool.or_true, true_and, and_true, lenA, eqv, eqB, eqP, scal, new_box_self, List.getElem?_cons_zero, List.getElem?_cons_succ, key_ii, key_ss, findM, updM, esc_i, esc_s, esc_b, Int.reduceEq, ret1, new_nb, new_set, reduceCtorEq, Bool.xor_true, Bool.xor_false, Bool.false_eq_true, List.all_cons, List.all_nil, noTok, Bool.and_self, Bool.and_true, Bool.true_and, or_true, false_or, h0, h1, h2]
        refine KR_some (Over.enter s) rfl ?_
        have h4 : ¬ 57344 ≤ r := by omega
        simp [tupOf, wkZ, wk, Utf8.valid, h1, h4]
  · have h2 : ¬ 57343 < r := by omega
    simp only [W_seq, W_reg, W_cond, W_blk, W_skip, W_exit, W_ret, W_regD, WO_nil, WO_cons, WO_guard2, wantV_b, bq_tt, bq_ft, bq_tf, bq_ff, Bool.not_true, Bool.not_false, WD_nil, WD_cons, WD_guard2, WS_some, WS_none, KS_n, KS_x, KS_r, KB_n, KB_x, KB_r, KN_ap, KO_ap, KD_ap, KC_nil, KF_n, KF_r, KG_n, KG_r, KL_n, KL_x, KL_r, CP_true, CP_false, evOp, evX, X.ev, optX, put_some, put_none, get_set2, sel_t, sel_f, Nat.reduceBEq, Nat.reduceAdd, Nat.reduceLT, Nat.reduceLeDiff, Nat.reduceEqDiff, reduceIte, if_true, if_false, bi_add, bi_sub, bi_mul, bi_eql, bi_neq, bi_lss, bi_leq, bi_gtr, bi_geq, bs_eql, bs_neq, bs_lss, Am.unOp, ret1, pubL, pubC_agg, pubC_s, pubC_i, pubC_b, pubC_p, pubC_np, pubC_nsl, pubC_ws, pubC_full, pubC_shut, pubC_fn, pubA, initT, wkZ, wk, wants, resOf, tupOf, quiet, AOp.cls, Nat.beq_eq, Bool.or_eq_true, decide_true, decide_false, beq_self_eq_true, Bool.true_or, Bool.or_true, true_and, and_true, lenA, eqv, eqB, eqP, scal, new_box_self, List.getElem?_cons_zero, List.getElem?_cons_succ, key_ii, key_ss, findM, updM, esc_i, esc_s, esc_b, Int.reduceEq, ret1, new_nb, new_set, reduceCtorEq, Bool.xor_true, Bool.xor_false, Bool.false_eq_true, List.all_cons, List.all_nil, noTok, Bool.and_self, Bool.and_true, Bool.true_and, or_true, false_or, h0, h2]
    refine KR_some (Over.enter s) rfl ?_
    have h4 : ¬ 57344 ≤ r := by omega
    simp [tupOf, wkZ, wk, Utf8.valid, h0, h4]

abbrev K3 : List Nat := [47, 0, 10]
def runeP (r : Int) : Int := if r < 128 then idxB r.toNat 0 K3 else -1
theorem natOf_i64 (i : Nat) : natOf (.i .i64 (i : Int)) = some i := natOf_nat _ i
theorem natOf1 : natOf (.i .i64 1) = some 1 := rfl
theorem natOf2 : natOf (.i .i64 2) = some 2 := rfl
theorem wrapc (z : Int) (h : IntKind.i64.wrap z = z) : IntKind.i64.wrap z = z := h
theorem w1 : IntKind.i64.wrap (2 - 1) = 1 := rfl
theorem w2 : IntKind.i64.wrap (3 - 1) = 2 := rfl
theorem w3 : IntKind.i64.wrap (4 - 1) = 3 := rfl
theorem w4 : IntKind.i64.wrap (1 + 1) = 2 := rfl
theorem w5 : IntKind.i64.wrap (2 + 1) = 3 := rfl
theorem bnd2 : bounds 3 (some (.i .i64 2)) none = some (2, 3) := rfl
theorem bnd3 : bounds 3 (some (.i .i64 3)) none = some (3, 3) := rfl

theorem indexRune_ok (r : Int) (h0 : 0 ≤ r) (h1 : r ≤ 2147483647) (s : St) : (lim prog).call f_strings_IndexRune [.s K3, .i .i32 r] s = some (.i .i64 (runeP r), s) := by
  refine fn_W p_strings_IndexRune rfl rfl ?_
  have h0' : ((0 : Int) ≤ r) = True := by simp [h0]
  by_cases hr : r < 128
  · have hr' : (r < 128) = True := by simp [hr]
    obtain ⟨n, rfl⟩ : ∃ n : Nat, r = n := ⟨r.toNat, by omega⟩
    have hw : IntKind.u8.wrap (n : Int) = (n : Int) := by
      have e : (n : Int) % 2 ^ 8 = n := by omega
      simp only [IntKind.wrap, IntKind.signed, IntKind.bits, e]
      rfl
    simp only [c_strings_IndexRune, W_seq, W_reg, W_cond, W_blk, W_skip, W_exit, W_ret, W_regD, WO_nil, WO_cons, WO_guard2, wantV_b, bq_tt, bq_ft, bq_tf, bq_ff, Bool.not_true, Bool.not_false, WD_nil, WD_cons, WD_guard2, WS_some, WS_none, KS_n, KS_x, KS_r, KB_n, KB_x, KB_r, KN_ap, KO_ap, KD_ap, KC_nil, KF_n, KF_r, KG_n, KG_r, KL_n, KL_x, KL_r, CP_true, CP_false, evOp, evX, X.ev, optX, put_some, put_none, get_set2, sel_t, sel_f, Nat.reduceBEq, Nat.reduceAdd, Nat.reduceLT, Nat.reduceLeDiff, Nat.reduceEqDiff, reduceIte, if_true, if_false, bi_add, bi_sub, bi_mul, bi_eql, bi_neq, bi_lss, bi_leq, bi_gtr, bi_geq, bs_eql, bs_neq, bs_lss, Am.unOp, ret1, pubL, pubC_agg, pubC_s, pubC_i, pubC_b, pubC_p, pubC_np, pubC_nsl, pubC_ws, pubC_full, pubC_shut, pubC_fn, pubA, initT, wkZ, wk, wants, resOf, tupOf, quiet, AOp.cls, Nat.beq_eq, Bool.or_eq_true, decide_true, decide_false, beq_self_eq_true, Bool.true_or, Bool.or_true, true_and, and_true, lenA, eqv, eqB, eqP, scal, new_box_self, List.getElem?_cons_zero, List.getElem?_cons_succ, key_ii, key_ss, findM, updM, esc_i, esc_s, esc_b, Int.reduceEq, ret1, new_nb, new_set, reduceCtorEq, Bool.xor_true, Bool.xor_false, Bool.false_eq_true, List.all_cons, List.all_nil, noTok, Bool.and_self, Bool.and_true, Bool.true_and, or_true, false_or, h0', hr', hw, indexByte_ok K3 n (by omega)]
    exact KR_some (Over.enter s) rfl (by simp [tupOf, wkZ, wk, runeP, hr])
  · have hr' : (r < 128) = False := by simp [hr]
    have hP : runeP r = -1 := by unfold runeP; rw [if_neg hr]
    by_cases he : r = 65533
    · have he' : (r = 65533) = True := by simp [he]
      simp only [c_strings_IndexRune, W_seq, W_reg, W_cond, W_blk, W_skip, W_exit, W_ret, W_regD, WO_nil, WO_cons, WO_guard2, wantV_b, bq_tt, bq_ft, bq_tf, bq_ff, Bool.not_true, Bool.not_false, WD_nil, WD_cons, WD_guard2, WS_some, WS_none, KS_n, KS_x, KS_r, KB_n, KB_x, KB_r, KN_ap, KO_ap, KD_ap, KC_nil, KF_n, KF_r, KG_n, KG_r, KL_n, KL_x, KL_r, CP_true, CP_false, evOp, evX, X.ev, optX, put_some, put_none, get_set2, sel_t, sel_f, Nat.reduceBEq, Nat.reduceAdd, Nat.reduceLT, Nat.reduceLeDiff, Nat.reduceEqDiff, reduceIte, if_true, if_false, bi_add, bi_sub, bi_mul, bi_eql, bi_neq, bi_lss, bi_leq, bi_gtr, bi_geq, bs_eql, bs_neq, bs_lss, Am.unOp, ret1, pubL, pubC_agg, pubC_s, pubC_i, pubC_b, pubC_p, pubC_np, pubC_nsl, pubC_ws, pubC_full, pubC_shut, pubC_fn, pubA, initT, wkZ, wk, wants, resOf, tupOf, quiet, AOp.cls, Nat.beq_eq, Bool.or_eq_true, decide_true, decide_false, beq_self_eq_true, Bool.true_or, Bool.or_true, true_and, and_true, lenA, eqv, eqB, eqP, scal, new_box_self, List.getElem?_cons_zero, List.getElem?_cons_succ, key_ii, key_ss, findM, updM, esc_i, esc_s, esc_b, Int.reduceEq, ret1, new_nb, new_set, reduceCtorEq, Bool.xor_true, Bool.xor_false, Bool.false_eq_true, List.all_cons, List.all_nil, noTok, Bool.and_self, Bool.and_true, Bool.true_and, or_true, false_or, h0', hr', he']
      refine W_loop (fun n e q => ∃ p : Nat, p + n = 3 ∧ q = s.enter.new (.siter K3 p) ∧ e.get 175 = .p s.enter.nb 0) ?_ 3 _ _ ?_
      · rintro n e q ⟨p, hp, rfl, g⟩
        have hs : ∀ p', (s.enter.new (.siter K3 p)).setBox s.enter.nb (.siter K3 p') = s.enter.new (.siter K3 p') := fun p' => new_set _ _ _
        have h47 : ((Int.ofNat 47 : Int) = 65533) = False := by simp
        have h00 : ((Int.ofNat 0 : Int) = 65533) = False := by simp
        have h10 : ((Int.ofNat 10 : Int) = 65533) = False := by simp
        have l3 : ([47, 0, 10] : List Nat)[3]? = none := rfl
        have a1 : (47 < 128) = True := by simp
        have a2 : (0 < 128) = True := by simp
        have a3 : (10 < 128) = True := by simp
        have hov := ((Over.enter s).new (.siter K3 3))
        have : p = 0 ∨ p = 1 ∨ p = 2 ∨ p = 3 := by omega
        rcases this with rfl | rfl | rfl | rfl
        · simp only [W_seq, W_reg, W_cond, W_blk, W_skip, W_exit, W_ret, W_regD, WO_nil, WO_cons, WO_guard2, wantV_b, bq_tt, bq_ft, bq_tf, bq_ff, Bool.not_true, Bool.not_false, WD_nil, WD_cons, WD_guard2, WS_some, WS_none, KS_n, KS_x, KS_r, KB_n, KB_x, KB_r, KN_ap, KO_ap, KD_ap, KC_nil, KF_n, KF_r, KG_n, KG_r, KL_n, KL_x, KL_r, CP_true, CP_false, evOp, evX, X.ev, optX, put_some, put_none, get_set2, sel_t, sel_f, Nat.reduceBEq, Nat.reduceAdd, Nat.reduceLT, Nat.reduceLeDiff, Nat.reduceEqDiff, reduceIte, if_true, if_false, bi_add, bi_sub, bi_mul, bi_eql, bi_neq, bi_lss, bi_leq, bi_gtr, bi_geq, bs_eql, bs_neq, bs_lss, Am.unOp, ret1, pubL, pubC_agg, pubC_s, pubC_i, pubC_b, pubC_p, pubC_np, pubC_nsl, pubC_ws, pubC_full, pubC_shut, pubC_fn, pubA, initT, wkZ, wk, wants, resOf, tupOf, quiet, AOp.cls, Nat.beq_eq, Bool.or_eq_true, decide_true, decide_false, beq_self_eq_true, Bool.true_or, Bool.or_true, true_and, and_true, lenA, eqv, eqB, eqP, scal, new_box_self, List.getElem?_cons_zero, List.getElem?_cons_succ, key_ii, key_ss, findM, updM, esc_i, esc_s, esc_b, Int.reduceEq, ret1, new_nb, new_set, reduceCtorEq, Bool.xor_true, Bool.xor_false, Bool.false_eq_true, List.all_cons, List.all_nil, noTok, Bool.and_self, Bool.and_true, Bool.true_and, or_true, false_or, g, a1, a2, a3, h47, h00, h10, hs]
          exact ⟨n - 1, by omega, 1, by omega, rfl⟩
        · simp only [W_seq, W_reg, W_cond, W_blk, W_skip, W_exit, W_ret, W_regD, WO_nil, WO_cons, WO_guard2, wantV_b, bq_tt, bq_ft, bq_tf, bq_ff, Bool.not_true, Bool.not_false, WD_nil, WD_cons, WD_guard2, WS_some, WS_none, KS_n, KS_x, KS_r, KB_n, KB_x, KB_r, KN_ap, KO_ap, KD_ap, KC_nil, KF_n, KF_r, KG_n, KG_r, KL_n, KL_x, KL_r, CP_true, CP_false, evOp, evX, X.ev, optX, put_some, put_none, get_set2, sel_t, sel_f, Nat.reduceBEq, Nat.reduceAdd, Nat.reduceLT, Nat.reduceLeDiff, Nat.reduceEqDiff, reduceIte, if_true, if_false, bi_add, bi_sub, bi_mul, bi_eql, bi_neq, bi_lss, bi_leq, bi_gtr, bi_geq, bs_eql, bs_neq, bs_lss, Am.unOp, ret1, pubL, pubC_agg, pubC_s, pubC_i, pubC_b, pubC_p, pubC_np, pubC_nsl, pubC_ws, pubC_full, pubC_shut, pubC_fn, pubA, initT, wkZ, wk, wants, resOf, tupOf, quiet, AOp.cls, Nat.beq_eq, Bool.or_eq_true, decide_true, decide_false, beq_self_eq_true, Bool.true_or, Bool.or_true, true_and, and_true, lenA, eqv, eqB, eqP, scal, new_box_self, List.getElem?_cons_zero, List.getElem?_cons_succ, key_ii, key_ss, findM, updM, esc_i, esc_s, esc_b, Int.reduceEq, ret1, new_nb, new_set, reduceCtorEq, Bool.xor_true, Bool.xor_false, Bool.false_eq_true, List.all_cons, List.all_nil, noTok, Bool.and_self, Bool.and_true, Bool.true_and, or_true, false_or, g, a1, a2, a3, h47, h00, h10, hs]
          exact ⟨n - 1, by omega, 2, by omega, rfl⟩
        · simp only [W_seq, W_reg, W_cond, W_blk, W_skip, W_exit, W_ret, W_regD, WO_nil, WO_cons, WO_guard2, wantV_b, bq_tt, bq_ft, bq_tf, bq_ff, Bool.not_true, Bool.not_false, WD_nil, WD_cons, WD_guard2, WS_some, WS_none, KS_n, KS_x, KS_r, KB_n, KB_x, KB_r, KN_ap, KO_ap, KD_ap, KC_nil, KF_n, KF_r, KG_n, KG_r, KL_n, KL_x, KL_r, CP_true, CP_false, evOp, evX, X.ev, optX, put_some, put_none, get_set2, sel_t, sel_f, Nat.reduceBEq, Nat.reduceAdd, Nat.reduceLT, Nat.reduceLeDiff, Nat.reduceEqDiff, reduceIte, if_true, if_false, bi_add, bi_sub, bi_mul, bi_eql, bi_neq, bi_lss, bi_leq, bi_gtr, bi_geq, bs_eql, bs_neq, bs_lss, Am.unOp, ret1, pubL, pubC_agg, pubC_s, pubC_i, pubC_b, pubC_p, pubC_np, pubC_nsl, pubC_ws, pubC_full, pubC_shut, pubC_fn, pubA, initT, wkZ, wk, wants, resOf, tupOf, quiet, AOp.cls, Nat.beq_eq, Bool.or_eq_true, decide_true, decide_false, beq_self_eq_true, Bool.true_or, Bool.or_true, true_and, and_true, lenA, eqv, eqB, eqP, scal, new_box_self, List.getElem?_cons_zero, List.getElem?_cons_succ, key_ii, key_ss, findM, updM, esc_i, esc_s, esc_b, Int.reduceEq, ret1, new_nb, new_set, reduceCtorEq, Bool.xor_true, Bool.xor_false, Bool.false_eq_true, List.all_cons, List.all_nil, noTok, Bool.and_self, Bool.and_true, Bool.true_and, or_true, false_or, g, a1, a2, a3, h47, h00, h10, hs]
          exact ⟨n - 1, by omega, 3, by omega, rfl⟩
        · simp only [W_seq, W_reg, W_cond, W_blk, W_skip, W_exit, W_ret, W_regD, WO_nil, WO_cons, WO_guard2, wantV_b, bq_tt, bq_ft, bq_tf, bq_ff, Bool.not_true, Bool.not_false, WD_nil, WD_cons, WD_guard2, WS_some, WS_none, KS_n, KS_x, KS_r, KB_n, KB_x, KB_r, KN_ap, KO_ap, KD_ap, KC_nil, KF_n, KF_r, KG_n, KG_r, KL_n, KL_x, KL_r, CP_true, CP_false, evOp, evX, X.ev, optX, put_some, put_none, get_set2, sel_t, sel_f, Nat.reduceBEq, Nat.reduceAdd, Nat.reduceLT, Nat.reduceLeDiff, Nat.reduceEqDiff, reduceIte, if_true, if_false, bi_add, bi_sub, bi_mul, bi_eql, bi_neq, bi_lss, bi_leq, bi_gtr, bi_geq, bs_eql, bs_neq, bs_lss, Am.unOp, ret1, pubL, pubC_agg, pubC_s, pubC_i, pubC_b, pubC_p, pubC_np, pubC_nsl, pubC_ws, pubC_full, pubC_shut, pubC_fn, pubA, initT, wkZ, wk, wants, resOf, tupOf, quiet, AOp.cls, Nat.beq_eq, Bool.or_eq_true, decide_true, decide_false, beq_self_eq_true, Bool.true_or, Bool.or_true, true_and, and_true, lenA, eqv, eqB, eqP, scal, new_box_self, List.getElem?_cons_zero, List.getElem?_cons_succ, key_ii, key_ss, findM, updM, esc_i, esc_s, esc_b, Int.reduceEq, ret1, new_nb, new_set, reduceCtorEq, Bool.xor_true, Bool.xor_false, Bool.false_eq_true, List.all_cons, List.all_nil, noTok, Bool.and_self, Bool.and_true, Bool.true_and, or_true, false_or, g, l3]
          exact KR_some hov rfl (by rw [hP]; rfl)
      · simp only [W_seq, W_reg, W_cond, W_blk, W_skip, W_exit, W_ret, W_regD, WO_nil, WO_cons, WO_guard2, wantV_b, bq_tt, bq_ft, bq_tf, bq_ff, Bool.not_true, Bool.not_false, WD_nil, WD_cons, WD_guard2, WS_some, WS_none, KS_n, KS_x, KS_r, KB_n, KB_x, KB_r, KN_ap, KO_ap, KD_ap, KC_nil, KF_n, KF_r, KG_n, KG_r, KL_n, KL_x, KL_r, CP_true, CP_false, evOp, evX, X.ev, optX, put_some, put_none, get_set2, sel_t, sel_f, Nat.reduceBEq, Nat.reduceAdd, Nat.reduceLT, Nat.reduceLeDiff, Nat.reduceEqDiff, reduceIte, if_true, if_false, bi_add, bi_sub, bi_mul, bi_eql, bi_neq, bi_lss, bi_leq, bi_gtr, bi_geq, bs_eql, bs_neq, bs_lss, Am.unOp, ret1, pubL, pubC_agg, pubC_s, pubC_i, pubC_b, pubC_p, pubC_np, pubC_nsl, pubC_ws, pubC_full, pubC_shut, pubC_fn, pubA, initT, wkZ, wk, wants, resOf, tupOf, quiet, AOp.cls, Nat.beq_eq, Bool.or_eq_true, decide_true, decide_false, beq_self_eq_true, Bool.true_or, Bool.or_true, true_and, and_true, lenA, eqv, eqB, eqP, scal, new_box_self, List.getElem?_cons_zero, List.getElem?_cons_succ, key_ii, key_ss, findM, updM, esc_i, esc_s, esc_b, Int.reduceEq, ret1, new_nb, new_set, reduceCtorEq, Bool.xor_true, Bool.xor_false, Bool.false_eq_true, List.all_cons, List.all_nil, noTok, Bool.and_self, Bool.and_true, Bool.true_and, or_true, false_or]
        exact ⟨0, by omega, rfl⟩
    · have he' : (r = 65533) = False := by simp [he]
      have hv := validRune_ok r
      cases hvr : Utf8.valid r with
      | false =>
        rw [hvr] at hv
        simp only [c_strings_IndexRune, W_seq, W_reg, W_cond, W_blk, W_skip, W_exit, W_ret, W_regD, WO_nil, WO_cons, WO_guard2, wantV_b, bq_tt, bq_ft, bq_tf, bq_ff, Bool.not_true, Bool.not_false, WD_nil, WD_cons, WD_guard2, WS_some, WS_none, KS_n, KS_x, KS_r, KB_n, KB_x, KB_r, KN_ap, KO_ap, KD_ap, KC_nil, KF_n, KF_r, KG_n, KG_r, KL_n, KL_x, KL_r, CP_true, CP_false, evOp, evX, X.ev, optX, put_some, put_none, get_set2, sel_t, sel_f, Nat.reduceBEq, Nat.reduceAdd, Nat.reduceLT, Nat.reduceLeDiff, Nat.reduceEqDiff, reduceIte, if_true, if_false, bi_add, bi_sub, bi_mul, bi_eql, bi_neq, bi_lss, bi_leq, bi_gtr, bi_geq, bs_eql, bs_neq, bs_lss, Am.unOp, ret1, pubL, pubC_agg, pubC_s, pubC_i, pubC_b, pubC_p, pubC_np, pubC_nsl, pubC_ws, pubC_full, pubC_shut, pubC_fn, pubA, initT, wkZ, wk, wants, resOf, tupOf, quiet, AOp.cls, Nat.beq_eq, Bool.or_eq_true, decide_true, decide_false, beq_self_eq_true, Bool.true_or, Bool.or_true, true_and, and_true, lenA, eqv, eqB, eqP, scal, new_box_self, List.getElem?_cons_zero, List.getElem?_cons_succ, key_ii, key_ss, findM, updM, esc_i, esc_s, esc_b, Int.reduceEq, ret1, new_nb, new_set, reduceCtorEq, Bool.xor_true, Bool.xor_false, Bool.false_eq_true, List.all_cons, List.all_nil, noTok, Bool.and_self, Bool.and_true, Bool.true_and, or_true, false_or, h0', hr', he', hv]
        exact KR_some (Over.enter s) rfl (by rw [hP]; rfl)
      | true =>
        rw [hvr] at hv
        have hl3 : List.length K3 = 3 := rfl
        rcases encN_high (show 128 ≤ r by omega) hvr with ⟨a, b, h2, hb1, hb2⟩ | ⟨a, b, c, h2, hb1, hb2⟩ | ⟨a, b, c, d, h2⟩
        · simp only [c_strings_IndexRune, W_seq, W_reg, W_cond, W_blk, W_skip, W_exit, W_ret, W_regD, WO_nil, WO_cons, WO_guard2, wantV_b, bq_tt, bq_ft, bq_tf, bq_ff, Bool.not_true, Bool.not_false, WD_nil, WD_cons, WD_guard2, WS_some, WS_none, KS_n, KS_x, KS_r, KB_n, KB_x, KB_r, KN_ap, KO_ap, KD_ap, KC_nil, KF_n, KF_r, KG_n, KG_r, KL_n, KL_x, KL_r, CP_true, CP_false, evOp, evX, X.ev, optX, put_some, put_none, get_set2, sel_t, sel_f, Nat.reduceBEq, Nat.reduceAdd, Nat.reduceLT, Nat.reduceLeDiff, Nat.reduceEqDiff, reduceIte, if_true, if_false, bi_add, bi_sub, bi_mul, bi_eql, bi_neq, bi_lss, bi_leq, bi_gtr, bi_geq, bs_eql, bs_neq, bs_lss, Am.unOp, ret1, pubL, pubC_agg, pubC_s, pubC_i, pubC_b, pubC_p, pubC_np, pubC_nsl, pubC_ws, pubC_full, pubC_shut, pubC_fn, pubA, initT, wkZ, wk, wants, resOf, tupOf, quiet, AOp.cls, Nat.beq_eq, Bool.or_eq_true, decide_true, decide_false, beq_self_eq_true, Bool.true_or, Bool.or_true, true_and, and_true, lenA, eqv, eqB, eqP, scal, new_box_self, List.getElem?_cons_zero, List.getElem?_cons_succ, key_ii, key_ss, findM, updM, esc_i, esc_s, esc_b, Int.reduceEq, ret1, new_nb, new_set, reduceCtorEq, Bool.xor_true, Bool.xor_false, Bool.false_eq_true, List.all_cons, List.all_nil, noTok, Bool.and_self, Bool.and_true, Bool.true_and, or_true, false_or, h0', hr', he', hv, h2]
          refine W_loop (fun n e q => q = s.enter ∧ e.get 0 = .s K3 ∧ e.get 7 = .s [a, b] ∧ e.get 8 = .i .i64 1 ∧ e.get 9 = .i .i64 1) ?_ 0 _ _ ?_
          · rintro n e q ⟨rfl, g0, g7, g8, g9⟩
            have c1 : ((1 : Int) < 3) = True := by simp
            have c2 : ((0 : Int) ≠ (b : Int)) = True := by simp; omega
            have hix := indexByte_ok [10] b hb2 s.enter
            have hmiss : idxB b 0 [10] = -1 := idxB_miss (by simp; omega)
            rw [hmiss] at hix
            have hd : ((([47, 0, 10] : List Nat).drop 2).take (3 - 2)) = [10] := rfl
            have hm1 : ((-1 : Int) < 0) = True := by simp
            simp only [W_seq, W_reg, W_cond, W_blk, W_skip, W_exit, W_ret, W_regD, WO_nil, WO_cons, WO_guard2, wantV_b, bq_tt, bq_ft, bq_tf, bq_ff, Bool.not_true, Bool.not_false, WD_nil, WD_cons, WD_guard2, WS_some, WS_none, KS_n, KS_x, KS_r, KB_n, KB_x, KB_r, KN_ap, KO_ap, KD_ap, KC_nil, KF_n, KF_r, KG_n, KG_r, KL_n, KL_x, KL_r, CP_true, CP_false, evOp, evX, X.ev, optX, put_some, put_none, get_set2, sel_t, sel_f, Nat.reduceBEq, Nat.reduceAdd, Nat.reduceLT, Nat.reduceLeDiff, Nat.reduceEqDiff, reduceIte, if_true, if_false, bi_add, bi_sub, bi_mul, bi_eql, bi_neq, bi_lss, bi_leq, bi_gtr, bi_geq, bs_eql, bs_neq, bs_lss, Am.unOp, ret1, pubL, pubC_agg, pubC_s, pubC_i, pubC_b, pubC_p, pubC_np, pubC_nsl, pubC_ws, pubC_full, pubC_shut, pubC_fn, pubA, initT, wkZ, wk, wants, resOf, tupOf, quiet, AOp.cls, Nat.beq_eq, Bool.or_eq_true, decide_true, decide_false, beq_self_eq_true, Bool.true_or, Bool.or_true, true_and, and_true, lenA, eqv, eqB, eqP, scal, new_box_self, List.getElem?_cons_zero, List.getElem?_cons_succ, key_ii, key_ss, findM, updM, esc_i, esc_s, esc_b, Int.reduceEq, ret1, new_nb, new_set, reduceCtorEq, Bool.xor_true, Bool.xor_false, Bool.false_eq_true, List.all_cons, List.all_nil, noTok, Bool.and_self, Bool.and_true, Bool.true_and, or_true, false_or, g0, g7, g8, g9, List.length_cons, List.length_nil, ofNat_len, Int.cast_ofNat_Int, c1, natOf1, c2, w4, bnd2, hd, hix, hm1]
            exact KR_some (Over.enter s) rfl (by rw [hP]; rfl)
          · simp only [W_seq, W_reg, W_cond, W_blk, W_skip, W_exit, W_ret, W_regD, WO_nil, WO_cons, WO_guard2, wantV_b, bq_tt, bq_ft, bq_tf, bq_ff, Bool.not_true, Bool.not_false, WD_nil, WD_cons, WD_guard2, WS_some, WS_none, KS_n, KS_x, KS_r, KB_n, KB_x, KB_r, KN_ap, KO_ap, KD_ap, KC_nil, KF_n, KF_r, KG_n, KG_r, KL_n, KL_x, KL_r, CP_true, CP_false, evOp, evX, X.ev, optX, put_some, put_none, get_set2, sel_t, sel_f, Nat.reduceBEq, Nat.reduceAdd, Nat.reduceLT, Nat.reduceLeDiff, Nat.reduceEqDiff, reduceIte, if_true, if_false, bi_add, bi_sub, bi_mul, bi_eql, bi_neq, bi_lss, bi_leq, bi_gtr, bi_geq, bs_eql, bs_neq, bs_lss, Am.unOp, ret1, pubL, pubC_agg, pubC_s, pubC_i, pubC_b, pubC_p, pubC_np, pubC_nsl, pubC_ws, pubC_full, pubC_shut, pubC_fn, pubA, initT, wkZ, wk, wants, resOf, tupOf, quiet, AOp.cls, Nat.beq_eq, Bool.or_eq_true, decide_true, decide_false, beq_self_eq_true, Bool.true_or, Bool.or_true, true_and, and_true, lenA, eqv, eqB, eqP, scal, new_box_self, List.getElem?_cons_zero, List.getElem?_cons_succ, key_ii, key_ss, findM, updM, esc_i, esc_s, esc_b, Int.reduceEq, ret1, new_nb, new_set, reduceCtorEq, Bool.xor_true, Bool.xor_false, Bool.false_eq_true, List.all_cons, List.all_nil, noTok, Bool.and_self, Bool.and_true, Bool.true_and, or_true, false_or, w1, List.length_cons, List.length_nil, ofNat_len, Int.cast_ofNat_Int, and_self]
        · simp only [c_strings_IndexRune, W_seq, W_reg, W_cond, W_blk, W_skip, W_exit, W_ret, W_regD, WO_nil, WO_cons, WO_guard2, wantV_b, bq_tt, bq_ft, bq_tf, bq_ff, Bool.not_true, Bool.not_false, WD_nil, WD_cons, WD_guard2, WS_some, WS_none, KS_n, KS_x, KS_r, KB_n, KB_x, KB_r, KN_ap, KO_ap, KD_ap, KC_nil, KF_n, KF_r, KG_n, KG_r, KL_n, KL_x, KL_r, CP_true, CP_false, evOp, evX, X.ev, optX, put_some, put_none, get_set2, sel_t, sel_f, Nat.reduceBEq, Nat.reduceAdd, Nat.reduceLT, Nat.reduceLeDiff, Nat.reduceEqDiff, reduceIte, if_true, if_false, bi_add, bi_sub, bi_mul, bi_eql, bi_neq, bi_lss, bi_leq, bi_gtr, bi_geq, bs_eql, bs_neq, bs_lss, Am.unOp, ret1, pubL, pubC_agg, pubC_s, pubC_i, pubC_b, pubC_p, pubC_np, pubC_nsl, pubC_ws, pubC_full, pubC_shut, pubC_fn, pubA, initT, wkZ, wk, wants, resOf, tupOf, quiet, AOp.cls, Nat.beq_eq, Bool.or_eq_true, decide_true, decide_false, beq_self_eq_true, Bool.true_or, Bool.or_true, true_and, and_true, lenA, eqv, eqB, eqP, scal, new_box_self, List.getElem?_cons_zero, List.getElem?_cons_succ, key_ii, key_ss, findM, updM, esc_i, esc_s, esc_b, Int.reduceEq, ret1, new_nb, new_set, reduceCtorEq, Bool.xor_true, Bool.xor_false, Bool.false_eq_true, List.all_cons, List.all_nil, noTok, Bool.and_self, Bool.and_true, Bool.true_and, or_true, false_or, h0', hr', he', hv, h2]
          refine W_loop (fun n e q => q = s.enter ∧ e.get 0 = .s K3 ∧ e.get 7 = .s [a, b, c] ∧ e.get 8 = .i .i64 2 ∧ e.get 9 = .i .i64 2) ?_ 0 _ _ ?_
          · rintro n e q ⟨rfl, g0, g7, g8, g9⟩
            have c1 : ((2 : Int) < 3) = True := by simp
            have c2 : ((10 : Int) ≠ (c : Int)) = True := by simp; omega
            have hix := indexByte_ok [] c hb2 s.enter
            have hmiss : idxB c 0 [] = -1 := rfl
            rw [hmiss] at hix
            have hd : ((([47, 0, 10] : List Nat).drop 3).take (3 - 3)) = [] := rfl
            have hm1 : ((-1 : Int) < 0) = True := by simp
            simp only [W_seq, W_reg, W_cond, W_blk, W_skip, W_exit, W_ret, W_regD, WO_nil, WO_cons, WO_guard2, wantV_b, bq_tt, bq_ft, bq_tf, bq_ff, Bool.not_true, Bool.not_false, WD_nil, WD_cons, WD_guard2, WS_some, WS_none, KS_n, KS_x, KS_r, KB_n, KB_x, KB_r, KN_ap, KO_ap, KD_ap, KC_nil, KF_n, KF_r, KG_n, KG_r, KL_n, KL_x, KL_r, CP_true, CP_false, evOp, evX, X.ev, optX, put_some, put_none, get_set2, sel_t, sel_f, Nat.reduceBEq, Nat.reduceAdd, Nat.reduceLT, Nat.reduceLeDiff, Nat.reduceEqDiff, reduceIte, if_true, if_false, bi_add, bi_sub, bi_mul, bi_eql, bi_neq, bi_lss, bi_leq, bi_gtr, bi_geq, bs_eql, bs_neq, bs_lss, Am.unOp, ret1, pubL, pubC_agg, pubC_s, pubC_i, pubC_b, pubC_p, pubC_np, pubC_nsl, pubC_ws, pubC_full, pubC_shut, pubC_fn, pubA, initT, wkZ, wk, wants, resOf, tupOf, quiet, AOp.cls, Nat.beq_eq, Bool.or_eq_true, decide_true, decide_false, beq_self_eq_true, Bool.true_or, Bool.or_true, true_and, and_true, lenA, eqv, eqB, eqP, scal, new_box_self, List.getElem?_cons_zero, List.getElem?_cons_succ, key_ii, key_ss, findM, updM, esc_i, esc_s, esc_b, Int.reduceEq, ret1, new_nb, new_set, reduceCtorEq, Bool.xor_true, Bool.xor_false, Bool.false_eq_true, List.all_cons, List.all_nil, noTok, Bool.and_self, Bool.and_true, Bool.true_and, or_true, false_or, g0, g7, g8, g9, List.length_cons, List.length_nil, ofNat_len, Int.cast_ofNat_Int, c1, natOf2, c2, w5, bnd3, hd, hix, hm1]
            exact KR_some (Over.enter s) rfl (by rw [hP]; rfl)
          · simp only [W_seq, W_reg, W_cond, W_blk, W_skip, W_exit, W_ret, W_regD, WO_nil, WO_cons, WO_guard2, wantV_b, bq_tt, bq_ft, bq_tf, bq_ff, Bool.not_true, Bool.not_false, WD_nil, WD_cons, WD_guard2, WS_some, WS_none, KS_n, KS_x, KS_r, KB_n, KB_x, KB_r, KN_ap, KO_ap, KD_ap, KC_nil, KF_n, KF_r, KG_n, KG_r, KL_n, KL_x, KL_r, CP_true, CP_false, evOp, evX, X.ev, optX, put_some, put_none, get_set2, sel_t, sel_f, Nat.reduceBEq, Nat.reduceAdd, Nat.reduceLT, Nat.reduceLeDiff, Nat.reduceEqDiff, reduceIte, if_true, if_false, bi_add, bi_sub, bi_mul, bi_eql, bi_neq, bi_lss, bi_leq, bi_gtr, bi_geq, bs_eql, bs_neq, bs_lss, Am.unOp, ret1, pubL, pubC_agg, pubC_s, pubC_i, pubC_b, pubC_p, pubC_np, pubC_nsl, pubC_ws, pubC_full, pubC_shut, pubC_fn, pubA, initT, wkZ, wk, wants, resOf, tupOf, quiet, AOp.cls, Nat.beq_eq, Bool.or_eq_true, decide_true, decide_false, beq_self_eq_true, Bool.true_or, Bool.or_true, true_and, and_true, lenA, eqv, eqB, eqP, scal, new_box_self, List.getElem?_cons_zero, List.getElem?_cons_succ, key_ii, key_ss, findM, updM, esc_i, esc_s, esc_b, Int.reduceEq, ret1, new_nb, new_set, reduceCtorEq, Bool.xor_true, Bool.xor_false, Bool.false_eq_true, List.all_cons, List.all_nil, noTok, Bool.and_self, Bool.and_true, Bool.true_and, or_true, false_or, w2, List.length_cons, List.length_nil, ofNat_len, Int.cast_ofNat_Int, and_self]
        · simp only [c_strings_IndexRune, W_seq, W_reg, W_cond, W_blk, W_skip, W_exit, W_ret, W_regD, WO_nil, WO_cons, WO_guard2, wantV_b, bq_tt, bq_ft, bq_tf, bq_ff, Bool.not_true, Bool.not_false, WD_nil, WD_cons, WD_guard2, WS_some, WS_none, KS_n, KS_x, KS_r, KB_n, KB_x, KB_r, KN_ap, KO_ap, KD_ap, KC_nil, KF_n, KF_r, KG_n, KG_r, KL_n, KL_x, KL_r, CP_true, CP_false, evOp, evX, X.ev, optX, put_some, put_none, get_set2, sel_t, sel_f, Nat.reduceBEq, Nat.reduceAdd, Nat.reduceLT, Nat.reduceLeDiff, Nat.reduceEqDiff, reduceIte, if_true, if_false, bi_add, bi_sub, bi_mul, bi_eql, bi_neq, bi_lss, bi_leq, bi_gtr, bi_geq, bs_eql, bs_neq, bs_lss, Am.unOp, ret1, pubL, pubC_agg, pubC_s, pubC_i, pubC_b, pubC_p, pubC_np, pubC_nsl, pubC_ws, pubC_full, pubC_shut, pubC_fn, pubA, initT, wkZ, wk, wants, resOf, tupOf, quiet, AOp.cls, Nat.beq_eq, Bool.or_eq_true, decide_true, decide_false, beq_self_eq_true, Bool.true_or, Bool.or_true, true_and, and_true, lenA, eqv, eqB, eqP, scal, new_box_self, List.getElem?_cons_zero, List.getElem?_cons_succ, key_ii, key_ss, findM, updM, esc_i, esc_s, esc_b, Int.reduceEq, ret1, new_nb, new_set, reduceCtorEq, Bool.xor_true, Bool.xor_false, Bool.false_eq_true, List.all_cons, List.all_nil, noTok, Bool.and_self, Bool.and_true, Bool.true_and, or_true, false_or, h0', hr', he', hv, h2]
          refine W_loop (fun n e q => q = s.enter ∧ e.get 0 = .s K3 ∧ e.get 9 = .i .i64 3) ?_ 0 _ _ ?_
          · rintro n e q ⟨rfl, g0, g9⟩
            have c1 : ((3 : Int) < 3) = False := by simp
            simp only [W_seq, W_reg, W_cond, W_blk, W_skip, W_exit, W_ret, W_regD, WO_nil, WO_cons, WO_guard2, wantV_b, bq_tt, bq_ft, bq_tf, bq_ff, Bool.not_true, Bool.not_false, WD_nil, WD_cons, WD_guard2, WS_some, WS_none, KS_n, KS_x, KS_r, KB_n, KB_x, KB_r, KN_ap, KO_ap, KD_ap, KC_nil, KF_n, KF_r, KG_n, KG_r, KL_n, KL_x, KL_r, CP_true, CP_false, evOp, evX, X.ev, optX, put_some, put_none, get_set2, sel_t, sel_f, Nat.reduceBEq, Nat.reduceAdd, Nat.reduceLT, Nat.reduceLeDiff, Nat.reduceEqDiff, reduceIte, if_true, if_false, bi_add, bi_sub, bi_mul, bi_eql, bi_neq, bi_lss, bi_leq, bi_gtr, bi_geq, bs_eql, bs_neq, bs_lss, Am.unOp, ret1, pubL, pubC_agg, pubC_s, pubC_i, pubC_b, pubC_p, pubC_np, pubC_nsl, pubC_ws, pubC_full, pubC_shut, pubC_fn, pubA, initT, wkZ, wk, wants, resOf, tupOf, quiet, AOp.cls, Nat.beq_eq, Bool.or_eq_true, decide_true, decide_false, beq_self_eq_true, Bool.true_or, Bool.or_true, true_and, and_true, lenA, eqv, eqB, eqP, scal, new_box_self, List.getElem?_cons_zero, List.getElem?_cons_succ, key_ii, key_ss, findM, updM, esc_i, esc_s, esc_b, Int.reduceEq, ret1, new_nb, new_set, reduceCtorEq, Bool.xor_true, Bool.xor_false, Bool.false_eq_true, List.all_cons, List.all_nil, noTok, Bool.and_self, Bool.and_true, Bool.true_and, or_true, false_or, g0, g9, List.length_cons, List.length_nil, ofNat_len, Int.cast_ofNat_Int, c1]
            exact KR_some (Over.enter s) rfl (by rw [hP]; rfl)
          · simp only [W_seq, W_reg, W_cond, W_blk, W_skip, W_exit, W_ret, W_regD, WO_nil, WO_cons, WO_guard2, wantV_b, bq_tt, bq_ft, bq_tf, bq_ff, Bool.not_true, Bool.not_false, WD_nil, WD_cons, WD_guard2, WS_some, WS_none, KS_n, KS_x, KS_r, KB_n, KB_x, KB_r, KN_ap, KO_ap, KD_ap, KC_nil, KF_n, KF_r, KG_n, KG_r, KL_n, KL_x, KL_r, CP_true, CP_false, evOp, evX, X.ev, optX, put_some, put_none, get_set2, sel_t, sel_f, Nat.reduceBEq, Nat.reduceAdd, Nat.reduceLT, Nat.reduceLeDiff, Nat.reduceEqDiff, reduceIte, if_true, if_false, bi_add, bi_sub, bi_mul, bi_eql, bi_neq, bi_lss, bi_leq, bi_gtr, bi_geq, bs_eql, bs_neq, bs_lss, Am.unOp, ret1, pubL, pubC_agg, pubC_s, pubC_i, pubC_b, pubC_p, pubC_np, pubC_nsl, pubC_ws, pubC_full, pubC_shut, pubC_fn, pubA, initT, wkZ, wk, wants, resOf, tupOf, quiet, AOp.cls, Nat.beq_eq, Bool.or_eq_true, decide_true, decide_false, beq_self_eq_true, Bool.true_or, Bool.or_true, true_and, and_true, lenA, eqv, eqB, eqP, scal, new_box_self, List.getElem?_cons_zero, List.getElem?_cons_succ, key_ii, key_ss, findM, updM, esc_i, esc_s, esc_b, Int.reduceEq, ret1, new_nb, new_set, reduceCtorEq, Bool.xor_true, Bool.xor_false, Bool.false_eq_true, List.all_cons, List.all_nil, noTok, Bool.and_self, Bool.and_true, Bool.true_and, or_true, false_or, w3, List.length_cons, List.length_nil, ofNat_len, Int.cast_ofNat_Int, and_self]
end Go.Proofs.YtfaodjpibdhdjaaDoor

/-
  Sets of bytes; names.
-/
set_option maxRecDepth 100000
set_option linter.unusedSimpArgs false
set_option linter.constructorNameAsVariable false
namespace Go.Proofs.YtfaodjpibdhdjaaDoor
open Go.Proofs.YtfaodjpibdhdjaaDoor.Am

abbrev bs (B : List Bool) : List AV := B.map AV.b
section
variable {s : St} {id T n : Nat}
theorem bs_pubL (s : St) : ∀ B : List Bool, pubL s (bs B) = some (bs B, s)
  | [] => rfl
  | b :: B => by
    simp only [bs, List.map_cons, pubL, pubC_b]
    rw [bs_pubL s B]
theorem bs_frzL (s : St) : ∀ B : List Bool, frzL s (bs B) = some (bs B, s)
  | [] => rfl
  | b :: B => by
    simp only [bs, List.map_cons, frzL, frz, pubC_b]
    rw [bs_frzL s B]
theorem bs_ones : ∀ B : List Bool, ones (bs B) = true
  | [] => rfl
  | b :: B => by
    simp only [bs, List.map_cons, ones]
    exact bs_ones B
theorem bs_refs : ∀ B : List Bool, AV.refs.go (bs B) = false
  | [] => rfl
  | b :: B => by
    simp only [bs, List.map_cons, AV.refs.go, AV.refs, Bool.false_or]
    exact bs_refs B
theorem bs_wk : ∀ (n : Nat) (B : List Bool), wkZ (List.replicate n .id) (bs B) = bs B
  | 0, B => by simp [wkZ]
  | n + 1, [] => by simp [wkZ]
  | n + 1, b :: B => by
    have := bs_wk n B
    simp only [bs, List.map_cons, List.replicate_succ, wkZ, wk] at this ⊢
    rw [this]
theorem bs_ld {B : List Bool} (h : s.box? id = some (.cells T (bs B))) (hn : B.length = n) : ldA s true n (.p id 0) = some (.agg (bs B)) := by
  have : cut (bs B) 0 n = some (bs B) := by
    have e : (bs B).take n = bs B := List.take_of_length_le (by simp; omega)
    have e2 : (bs B).length = n := by simpa using hn
    simp only [cut, List.drop_zero, e, e2, if_true]
  simp only [ldA, St.cells?, h, this, scal]
theorem bs_ld1 {B : List Bool} {i : Nat} {b : Bool} (h : s.box? id = some (.cells T (bs B))) (hi : B[i]? = some b) : ldA s false 1 (.p id i) = some (.b b) := by
  exact ld_box h (by simp [hi])
theorem bs_st {B B' : List Bool} (h : s.box? id = some (.cells T (bs B'))) (hn : B.length = n) (hn' : B'.length = n) : stA s n (.p id 0) (.agg (bs B)) = some (s.setBox id (.cells T (bs B))) := by
  have h1 : (AV.agg (bs B)).cells = bs B := rfl
  have h2 : (bs B).length = n := by simpa using hn
  have h3 : over (bs B') 0 (bs B) = some (bs B) := by
    unfold over
    rw [if_pos (by simp; omega)]
    simp [hn, hn']
  simp only [stA, h, h1, h2, bs_ones, and_self, if_true, h3, esc]
  have h4 : (AV.agg (bs B)).refs = false := by simp only [AV.refs]; exact bs_refs B
  rw [h4]
  rfl
theorem bs_st1 {B : List Bool} {i : Nat} (h : s.box? id = some (.cells T (bs B))) (hi : i < B.length) : stA s 1 (.p id i) (.b true) = some (s.setBox id (.cells T (bs (B.set i true)))) := by
  rw [st_box h rfl rfl (by simpa using hi)]
  have : (bs B).set i (.b true) = bs (B.set i true) := by simp [bs, List.map_set]
  rw [this]
  rfl
end

def F256 : List Bool := List.replicate 256 false
abbrev Z256 : List AV := bs F256
def B3 : List Bool := ((F256.set 47 true).set 0 true).set 10 true
theorem len0 : F256.length = 256 := by simp [F256]
theorem len1' : (F256.set 47 true).length = 256 := by simp [F256]
theorem len2' : ((F256.set 47 true).set 0 true).length = 256 := by simp [F256]
theorem len3' : B3.length = 256 := by simp [B3, F256]
theorem b3_all : ((List.range 256).all fun c => B3[c]? == some (decide (c ∈ K3))) = true := by kernel_rfl
theorem b3_get {c : Nat} (h : c < 256) : B3[c]? = some (decide (c ∈ K3)) := by
  have := List.all_eq_true.1 b3_all c (by simpa using h)
  simpa using this

theorem mk_body : c_strings_makeASCIISet.body =
  (.seq (.reg [⟨(some 2), .alloc 58 Z256, none⟩,
    ⟨(some 3), .mv (.c (.b false)), none⟩])
  (.seq (.seq (.reg [⟨(some 4), .mv (.c (.i .i64 0)), none⟩])
  (.blk 0 (.loop (.seq (.seq (.reg [⟨(some 6), .mv (.t 4), none⟩,
      ⟨(some 7), .mv (.t 0), none⟩,
      ⟨(some 8), .len 0 (.t 7), none⟩,
      ⟨(some 9), .bin .lss (.t 6) (.t 8), none⟩])
    (.cond (.t 9)
     .skip
     (.exit 0)))
    (.seq (.blk 1 (.seq (.reg [⟨(some 12), .mv (.t 0), none⟩,
       ⟨(some 13), .mv (.t 4), none⟩,
       ⟨(some 14), .ixS (.t 12) (.t 13), none⟩,
       ⟨(some 5), .mv (.t 14), none⟩])
     (.seq (.seq (.reg [⟨(some 15), .mv (.t 5), none⟩,
       ⟨(some 16), .bin .geq (.t 15) (.c (.i .u8 128)), none⟩])
     (.cond (.t 16)
      (.seq (.reg [⟨(some 17), .ld true 256 (.t 2), none⟩,
        ⟨none, .st 256 (.t 2) (.t 17), none⟩,
        ⟨(some 3), .mv (.c (.b false)), none⟩])
      .ret)
      .skip))
     (.reg [⟨(some 18), .mv (.t 5), none⟩,
       ⟨(some 19), .iaA 256 1 (.t 2) (.t 18), none⟩,
       ⟨none, .st 1 (.t 19) (.c (.b true)), none⟩]))))
    (.reg [⟨(some 10), .mv (.t 4), none⟩,
      ⟨(some 11), .bin .add (.t 10) (.c (.i .i64 1)), none⟩,
      ⟨(some 4), .mv (.t 11), none⟩]))))))
  (.seq (.reg [⟨(some 20), .ld true 256 (.t 2), none⟩,
    ⟨none, .st 256 (.t 2) (.t 20), none⟩,
    ⟨(some 3), .mv (.c (.b true)), none⟩])
  .ret))) := by rfl
theorem ia_body : c_strings_IndexAny.body =
  (.seq (.reg [⟨(some 4), .mv (.c (.i .i64 0)), none⟩])
  (.seq (.seq (.reg [⟨(some 11), .mv (.t 1), none⟩,
    ⟨(some 12), .bin .eql (.t 11) (.c (.s [])), none⟩])
  (.cond (.t 12)
   (.seq (.reg [⟨(some 4), .mv (.c (.i .i64 (-1))), none⟩])
   .ret)
   .skip))
  (.seq (.seq (.reg [⟨(some 13), .mv (.t 1), none⟩,
    ⟨(some 14), .len 0 (.t 13), none⟩,
    ⟨(some 15), .bin .eql (.t 14) (.c (.i .i64 1)), none⟩])
  (.cond (.t 15)
   (.seq (.reg [⟨(some 16), .mv (.t 1), none⟩,
     ⟨(some 17), .ixS (.t 16) (.c (.i .i64 0)), none⟩,
     ⟨(some 18), .cvI .i32 (.t 17), none⟩,
     ⟨(some 5), .mv (.t 18), none⟩])
   (.seq (.seq (.reg [⟨(some 19), .mv (.t 5), none⟩,
     ⟨(some 20), .bin .geq (.t 19) (.c (.i .i32 128)), none⟩])
   (.cond (.t 20)
    (.reg [⟨(some 5), .mv (.c (.i .i32 65533)), none⟩])
    .skip))
   (.seq (.reg [⟨(some 21), .mv (.t 0), none⟩,
     ⟨(some 22), .mv (.t 5), none⟩,
     ⟨(some 23), .call f_strings_IndexRune [(.t 21), (.t 22)], none⟩,
     ⟨(some 4), .mv (.t 23), none⟩])
   .ret)))
   .skip))
  (.seq (.seq (.reg [⟨(some 24), .mv (.t 0), none⟩,
    ⟨(some 25), .len 0 (.t 24), none⟩,
    ⟨(some 26), .call f_strings_shouldUseASCIISet [(.t 25)], none⟩])
  (.cond (.t 26)
   (.seq (.reg [⟨(some 28), .mv (.t 1), none⟩,
     ⟨(some 29), .call f_strings_makeASCIISet [(.t 28)], none⟩,
     ⟨(some 27), .mv (.t 29), none⟩,
     ⟨(some 30), .ext (.t 27) 0, none⟩,
     ⟨(some 31), .ext (.t 27) 1, none⟩,
     ⟨(some 6), .alloc 58 Z256, none⟩,
     ⟨none, .st 256 (.t 6) (.t 30), none⟩,
     ⟨(some 7), .mv (.t 31), none⟩])
   (.seq (.reg [⟨(some 32), .mv (.t 7), none⟩])
   (.cond (.t 32)
    (.seq (.seq (.reg [⟨(some 8), .mv (.c (.i .i64 0)), none⟩])
    (.blk 0 (.loop (.seq (.seq (.reg [⟨(some 33), .mv (.t 8), none⟩,
        ⟨(some 34), .mv (.t 0), none⟩,
        ⟨(some 35), .len 0 (.t 34), none⟩,
        ⟨(some 36), .bin .lss (.t 33) (.t 35), none⟩])
      (.cond (.t 36)
       .skip
       (.exit 0)))
      (.seq (.blk 1 (.seq (.reg [⟨(some 39), .mv (.t 0), none⟩,
         ⟨(some 40), .mv (.t 8), none⟩,
         ⟨(some 41), .ixS (.t 39) (.t 40), none⟩,
         ⟨(some 42), .call f_strings_asciiSet_contains [(.t 6), (.t 41)], none⟩])
       (.cond (.t 42)
        (.seq (.reg [⟨(some 43), .mv (.t 8), none⟩,
          ⟨(some 4), .mv (.t 43), none⟩])
        .ret)
        .skip)))
      (.reg [⟨(some 37), .mv (.t 8), none⟩,
        ⟨(some 38), .bin .add (.t 37) (.c (.i .i64 1)), none⟩,
        ⟨(some 8), .mv (.t 38), none⟩]))))))
    (.seq (.reg [⟨(some 4), .mv (.c (.i .i64 (-1))), none⟩])
    .ret))
    .skip)))
   .skip))
  (.seq (.seq (.reg [⟨(some 44), .mv (.t 0), none⟩,
    ⟨(some 45), .siter (.t 44), none⟩])
  (.blk 2 (.loop (.seq (.reg [⟨(some 46), .snext (.t 45), none⟩,
      ⟨(some 47), .ext (.t 46) 0, none⟩])
    (.seq (.cond (.t 47)
     .skip
     (.exit 2))
    (.blk 3 (.seq (.reg [⟨(some 48), .ext (.t 46) 1, none⟩,
       ⟨(some 49), .ext (.t 46) 2, none⟩,
       ⟨(some 9), .mv (.t 48), none⟩,
       ⟨(some 10), .mv (.t 49), none⟩])
     (.seq (.reg [⟨(some 50), .mv (.t 1), none⟩,
       ⟨(some 51), .mv (.t 10), none⟩,
       ⟨(some 52), .call f_strings_IndexRune [(.t 50), (.t 51)], none⟩,
       ⟨(some 53), .bin .geq (.t 52) (.c (.i .i64 0)), none⟩])
     (.cond (.t 53)
      (.seq (.reg [⟨(some 54), .mv (.t 9), none⟩,
        ⟨(some 4), .mv (.t 54), none⟩])
      .ret)
      .skip)))))))))
  (.seq (.reg [⟨(some 4), .mv (.c (.i .i64 (-1))), none⟩])
  .ret)))))) := by rfl
theorem mk_cout : c_strings_makeASCIISet.cout = [.agg (List.replicate 256 .id), .id] := by rfl

theorem natOf_u8 (n : Nat) : natOf (.i .u8 (n : Int)) = some n := natOf_nat _ n
theorem mk_ok (s : St) (hw : Wf s) : (lim prog).call f_strings_makeASCIISet [.s K3] s = some (.tup [.agg (bs B3), .b true], s) := by
  refine fn_W p_strings_makeASCIISet rfl rfl ?_
  rw [mk_body, mk_cout]
  have hnb : s.enter.nb = s.nb := rfl
  have hwx : ∀ B, Wf (s.enter.new (.cells 58 (bs B))) := fun B => hw.enter.new _
  have hset : ∀ B B', (s.enter.new (.cells 58 (bs B))).setBox s.nb (.cells 58 (bs B')) = s.enter.new (.cells 58 (bs B')) := fun B B' => new_set s.enter _ _
  have hb : ∀ B, (s.enter.new (.cells 58 (bs B))).box? s.nb = some (.cells 58 (bs B)) := fun B => new_box_self s.enter _
  have s1 := bs_st1 (i := 47) (hb F256) (by rw [len0]; decide)
  have s2 := bs_st1 (i := 0) (hb (F256.set 47 true)) (by rw [len1']; decide)
  have s3 := bs_st1 (i := 10) (hb ((F256.set 47 true).set 0 true)) (by rw [len2']; decide)
  rw [hset] at s1 s2 s3
  have la := bs_ld (hb B3) len3'
  have st := bs_st (hb B3) len3' len3'
  rw [hset] at st
  have hres : c_strings_makeASCIISet.res = [(2, some (true, 256)), (3, none)] := rfl
  have hpl := bs_pubL (s.enter.new (.cells 58 (bs B3))) B3
  have hfl := bs_frzL (s.enter.new (.cells 58 (bs B3))) B3
  have ov : Over s (s.enter.new (.cells 58 (bs B3))) := (Over.enter s).new _
  rw [hres]
  simp only [W_seq, W_reg, W_cond, W_blk, W_skip, W_exit, W_ret, W_regD, WO_nil, WO_cons, WO_guard2, wantV_b, bq_tt, bq_ft, bq_tf, bq_ff, Bool.not_true, Bool.not_false, WD_nil, WD_cons, WD_guard2, WS_some, WS_none, KS_n, KS_x, KS_r, KB_n, KB_x, KB_r, KN_ap, KO_ap, KD_ap, KC_nil, KF_n, KF_r, KG_n, KG_r, KL_n, KL_x, KL_r, CP_true, CP_false, evOp, evX, X.ev, optX, put_some, put_none, get_set2, sel_t, sel_f, Nat.reduceBEq, Nat.reduceAdd, Nat.reduceLT, Nat.reduceLeDiff, Nat.reduceEqDiff, reduceIte, if_true, if_false, bi_add, bi_sub, bi_mul, bi_eql, bi_neq, bi_lss, bi_leq, bi_gtr, bi_geq, bs_eql, bs_neq, bs_lss, Am.unOp, ret1, pubL, pubC_agg, pubC_s, pubC_i, pubC_b, pubC_p, pubC_np, pubC_nsl, pubC_ws, pubC_full, pubC_shut, pubC_fn, pubA, initT, wkZ, wk, wants, resOf, tupOf, quiet, AOp.cls, Nat.beq_eq, Bool.or_eq_true, decide_true, decide_false, beq_self_eq_true, Bool.true_or, Bool.or_true, true_and, and_true, lenA, eqv, eqB, eqP, scal, new_box_self, List.getElem?_cons_zero, List.getElem?_cons_succ, key_ii, key_ss, findM, updM, esc_i, esc_s, esc_b, Int.reduceEq, ret1, new_nb, new_set, reduceCtorEq, Bool.xor_true, Bool.xor_false, Bool.false_eq_true, List.all_cons, List.all_nil, noTok, Bool.and_self, Bool.and_true, Bool.true_and, or_true, false_or, hnb]
  refine W_loop (fun n e q => e.get 0 = .s K3 ∧ e.get 2 = .p s.nb 0 ∧ ∃ p : Nat, p + n = 3 ∧ e.get 4 = .i .i64 p ∧ q = s.enter.new (.cells 58 (bs ((K3.take p).foldl (fun B c => B.set c true) F256)))) ?_ 3 _ _ ?_
  · rintro n e q ⟨g0, g2, p, hp, g4, rfl⟩
    have : p = 0 ∨ p = 1 ∨ p = 2 ∨ p = 3 := by omega
    have hl : List.length K3 = 3 := rfl
    rcases this with rfl | rfl | rfl | rfl
    · have c1 : ((0 : Int) < 3) = True := by simp
      have c2 : ((128 : Int) ≤ 47) = False := by simp
      have hn : natOf (.i .u8 47) = some 47 := rfl
      have hw1 : IntKind.i64.wrap (0 + 1) = 1 := rfl
      have hx : ((K3.take 0).foldl (fun B c => B.set c true) F256) = F256 := rfl
      have hc0 : ((0 : Nat) : Int) = 0 := rfl
      rw [hx]
      simp only [W_seq, W_reg, W_cond, W_blk, W_skip, W_exit, W_ret, W_regD, WO_nil, WO_cons, WO_guard2, wantV_b, bq_tt, bq_ft, bq_tf, bq_ff, Bool.not_true, Bool.not_false, WD_nil, WD_cons, WD_guard2, WS_some, WS_none, KS_n, KS_x, KS_r, KB_n, KB_x, KB_r, KN_ap, KO_ap, KD_ap, KC_nil, KF_n, KF_r, KG_n, KG_r, KL_n, KL_x, KL_r, CP_true, CP_false, evOp, evX, X.ev, optX, put_some, put_none, get_set2, sel_t, sel_f, Nat.reduceBEq, Nat.reduceAdd, Nat.reduceLT, Nat.reduceLeDiff, Nat.reduceEqDiff, reduceIte, if_true, if_false, bi_add, bi_sub, bi_mul, bi_eql, bi_neq, bi_lss, bi_leq, bi_gtr, bi_geq, bs_eql, bs_neq, bs_lss, Am.unOp, ret1, pubL, pubC_agg, pubC_s, pubC_i, pubC_b, pubC_p, pubC_np, pubC_nsl, pubC_ws, pubC_full, pubC_shut, pubC_fn, pubA, initT, wkZ, wk, wants, resOf, tupOf, quiet, AOp.cls, Nat.beq_eq, Bool.or_eq_true, decide_true, decide_false, beq_self_eq_true, Bool.true_or, Bool.or_true, true_and, and_true, lenA, eqv, eqB, eqP, scal, new_box_self, List.getElem?_cons_zero, List.getElem?_cons_succ, key_ii, key_ss, findM, updM, esc_i, esc_s, esc_b, Int.reduceEq, ret1, new_nb, new_set, reduceCtorEq, Bool.xor_true, Bool.xor_false, Bool.false_eq_true, List.all_cons, List.all_nil, noTok, Bool.and_self, Bool.and_true, Bool.true_and, or_true, false_or, g0, g2, g4, List.length_cons, List.length_nil, ofNat_len, Int.cast_ofNat_Int, hc0, c1, natOf0, c2, hn, Nat.mul_one, Nat.zero_add, s1, hw1]
      exact ⟨n - 1, by omega, 1, by omega, rfl, rfl⟩
    · have c1 : ((1 : Int) < 3) = True := by simp
      have c2 : ((128 : Int) ≤ 0) = False := by simp
      have hn : natOf (.i .u8 0) = some 0 := rfl
      have hx : ((K3.take 1).foldl (fun B c => B.set c true) F256) = F256.set 47 true := rfl
      have hc0 : ((1 : Nat) : Int) = 1 := rfl
      rw [hx]
      simp only [W_seq, W_reg, W_cond, W_blk, W_skip, W_exit, W_ret, W_regD, WO_nil, WO_cons, WO_guard2, wantV_b, bq_tt, bq_ft, bq_tf, bq_ff, Bool.not_true, Bool.not_false, WD_nil, WD_cons, WD_guard2, WS_some, WS_none, KS_n, KS_x, KS_r, KB_n, KB_x, KB_r, KN_ap, KO_ap, KD_ap, KC_nil, KF_n, KF_r, KG_n, KG_r, KL_n, KL_x, KL_r, CP_true, CP_false, evOp, evX, X.ev, optX, put_some, put_none, get_set2, sel_t, sel_f, Nat.reduceBEq, Nat.reduceAdd, Nat.reduceLT, Nat.reduceLeDiff, Nat.reduceEqDiff, reduceIte, if_true, if_false, bi_add, bi_sub, bi_mul, bi_eql, bi_neq, bi_lss, bi_leq, bi_gtr, bi_geq, bs_eql, bs_neq, bs_lss, Am.unOp, ret1, pubL, pubC_agg, pubC_s, pubC_i, pubC_b, pubC_p, pubC_np, pubC_nsl, pubC_ws, pubC_full, pubC_shut, pubC_fn, pubA, initT, wkZ, wk, wants, resOf, tupOf, quiet, AOp.cls, Nat.beq_eq, Bool.or_eq_true, decide_true, decide_false, beq_self_eq_true, Bool.true_or, Bool.or_true, true_and, and_true, lenA, eqv, eqB, eqP, scal, new_box_self, List.getElem?_cons_zero, List.getElem?_cons_succ, key_ii, key_ss, findM, updM, esc_i, esc_s, esc_b, Int.reduceEq, ret1, new_nb, new_set, reduceCtorEq, Bool.xor_true, Bool.xor_false, Bool.false_eq_true, List.all_cons, List.all_nil, noTok, Bool.and_self, Bool.and_true, Bool.true_and, or_true, false_or, g0, g2, g4, List.length_cons, List.length_nil, ofNat_len, Int.cast_ofNat_Int, hc0, c1, natOf1, c2, hn, Nat.mul_one, Nat.zero_add, s2, w4]
      exact ⟨n - 1, by omega, 2, by omega, rfl, rfl⟩
    · have c1 : ((2 : Int) < 3) = True := by simp
      have c2 : ((128 : Int) ≤ 10) = False := by simp
      have hn : natOf (.i .u8 10) = some 10 := rfl
      have hx : ((K3.take 2).foldl (fun B c => B.set c true) F256) = (F256.set 47 true).set 0 true := rfl
      have hc0 : ((2 : Nat) : Int) = 2 := rfl
      rw [hx]
      simp only [W_seq, W_reg, W_cond, W_blk, W_skip, W_exit, W_ret, W_regD, WO_nil, WO_cons, WO_guard2, wantV_b, bq_tt, bq_ft, bq_tf, bq_ff, Bool.not_true, Bool.not_false, WD_nil, WD_cons, WD_guard2, WS_some, WS_none, KS_n, KS_x, KS_r, KB_n, KB_x, KB_r, KN_ap, KO_ap, KD_ap, KC_nil, KF_n, KF_r, KG_n, KG_r, KL_n, KL_x, KL_r, CP_true, CP_false, evOp, evX, X.ev, optX, put_some, put_none, get_set2, sel_t, sel_f, Nat.reduceBEq, Nat.reduceAdd, Nat.reduceLT, Nat.reduceLeDiff, Nat.reduceEqDiff, reduceIte, if_true, if_false, bi_add, bi_sub, bi_mul, bi_eql, bi_neq, bi_lss, bi_leq, bi_gtr, bi_geq, bs_eql, bs_neq, bs_lss, Am.unOp, ret1, pubL, pubC_agg, pubC_s, pubC_i, pubC_b, pubC_p, pubC_np, pubC_nsl, pubC_ws, pubC_full, pubC_shut, pubC_fn, pubA, initT, wkZ, wk, wants, resOf, tupOf, quiet, AOp.cls, Nat.beq_eq, Bool.or_eq_true, decide_true, decide_false, beq_self_eq_true, Bool.true_or, Bool.or_true, true_and, and_true, lenA, eqv, eqB, eqP, scal, new_box_self, List.getElem?_cons_zero, List.getElem?_cons_succ, key_ii, key_ss, findM, updM, esc_i, esc_s, esc_b, Int.reduceEq, ret1, new_nb, new_set, reduceCtorEq, Bool.xor_true, Bool.xor_false, Bool.false_eq_true, List.all_cons, List.all_nil, noTok, Bool.and_self, Bool.and_true, Bool.true_and, or_true, false_or, g0, g2, g4, List.length_cons, List.length_nil, ofNat_len, Int.cast_ofNat_Int, hc0, c1, natOf2, c2, hn, Nat.mul_one, Nat.zero_add, s3, w5]
      exact ⟨n - 1, by omega, 3, by omega, rfl, rfl⟩
    · have c1 : ((3 : Int) < 3) = False := by simp
      have hx : ((K3.take 3).foldl (fun B c => B.set c true) F256) = B3 := rfl
      have hc0 : ((3 : Nat) : Int) = 3 := rfl
      rw [hx]
      simp only [W_seq, W_reg, W_cond, W_blk, W_skip, W_exit, W_ret, W_regD, WO_nil, WO_cons, WO_guard2, wantV_b, bq_tt, bq_ft, bq_tf, bq_ff, Bool.not_true, Bool.not_false, WD_nil, WD_cons, WD_guard2, WS_some, WS_none, KS_n, KS_x, KS_r, KB_n, KB_x, KB_r, KN_ap, KO_ap, KD_ap, KC_nil, KF_n, KF_r, KG_n, KG_r, KL_n, KL_x, KL_r, CP_true, CP_false, evOp, evX, X.ev, optX, put_some, put_none, get_set2, sel_t, sel_f, Nat.reduceBEq, Nat.reduceAdd, Nat.reduceLT, Nat.reduceLeDiff, Nat.reduceEqDiff, reduceIte, if_true, if_false, bi_add, bi_sub, bi_mul, bi_eql, bi_neq, bi_lss, bi_leq, bi_gtr, bi_geq, bs_eql, bs_neq, bs_lss, Am.unOp, ret1, pubL, pubC_agg, pubC_s, pubC_i, pubC_b, pubC_p, pubC_np, pubC_nsl, pubC_ws, pubC_full, pubC_shut, pubC_fn, pubA, initT, wkZ, wk, wants, resOf, tupOf, quiet, AOp.cls, Nat.beq_eq, Bool.or_eq_true, decide_true, decide_false, beq_self_eq_true, Bool.true_or, Bool.or_true, true_and, and_true, lenA, eqv, eqB, eqP, scal, new_box_self, List.getElem?_cons_zero, List.getElem?_cons_succ, key_ii, key_ss, findM, updM, esc_i, esc_s, esc_b, Int.reduceEq, ret1, new_nb, new_set, reduceCtorEq, Bool.xor_true, Bool.xor_false, Bool.false_eq_true, List.all_cons, List.all_nil, noTok, Bool.and_self, Bool.and_true, Bool.true_and, or_true, false_or, g0, g2, g4, List.length_cons, List.length_nil, ofNat_len, Int.cast_ofNat_Int, hc0, c1, la, hpl, st, hfl, frz]
      refine KR_some ov ?_ ?_
      · simp [tupOf, AV.refs, AV.refs.go, bs_refs]
      · simp only [wkZ]
        have e1 : wk (.agg (List.replicate 256 .id)) (.agg (bs B3)) = .agg (bs B3) := by
          rw [wk, bs_wk]
        rw [e1]
        rfl
  · simp only [W_seq, W_reg, W_cond, W_blk, W_skip, W_exit, W_ret, W_regD, WO_nil, WO_cons, WO_guard2, wantV_b, bq_tt, bq_ft, bq_tf, bq_ff, Bool.not_true, Bool.not_false, WD_nil, WD_cons, WD_guard2, WS_some, WS_none, KS_n, KS_x, KS_r, KB_n, KB_x, KB_r, KN_ap, KO_ap, KD_ap, KC_nil, KF_n, KF_r, KG_n, KG_r, KL_n, KL_x, KL_r, CP_true, CP_false, evOp, evX, X.ev, optX, put_some, put_none, get_set2, sel_t, sel_f, Nat.reduceBEq, Nat.reduceAdd, Nat.reduceLT, Nat.reduceLeDiff, Nat.reduceEqDiff, reduceIte, if_true, if_false, bi_add, bi_sub, bi_mul, bi_eql, bi_neq, bi_lss, bi_leq, bi_gtr, bi_geq, bs_eql, bs_neq, bs_lss, Am.unOp, ret1, pubL, pubC_agg, pubC_s, pubC_i, pubC_b, pubC_p, pubC_np, pubC_nsl, pubC_ws, pubC_full, pubC_shut, pubC_fn, pubA, initT, wkZ, wk, wants, resOf, tupOf, quiet, AOp.cls, Nat.beq_eq, Bool.or_eq_true, decide_true, decide_false, beq_self_eq_true, Bool.true_or, Bool.or_true, true_and, and_true, lenA, eqv, eqB, eqP, scal, new_box_self, List.getElem?_cons_zero, List.getElem?_cons_succ, key_ii, key_ss, findM, updM, esc_i, esc_s, esc_b, Int.reduceEq, ret1, new_nb, new_set, reduceCtorEq, Bool.xor_true, Bool.xor_false, Bool.false_eq_true, List.all_cons, List.all_nil, noTok, Bool.and_self, Bool.and_true, Bool.true_and, or_true, false_or]
    exact ⟨rfl, 0, by omega, rfl, rfl⟩

theorem contains_ok {s : St} {id T : Nat} {B : List Bool} (h : s.box? id = some (.cells T (bs B))) {c : Nat} (hc : c < 256) {b : Bool} (hb : B[c]? = some b) : (lim prog).call f_strings_asciiSet_contains [.p id 0, .i .u8 (c : Int)] s = some (.b b, s) := by
  refine fn_W p_strings_asciiSet_contains rfl rfl ?_
  have hl : ldA s.enter false 1 (.p id c) = some (.b b) := bs_ld1 (s := s.enter) h hb
  have hlt : (c < 256) = True := by simp [hc]
  simp only [c_strings_asciiSet_contains, W_seq, W_reg, W_cond, W_blk, W_skip, W_exit, W_ret, W_regD, WO_nil, WO_cons, WO_guard2, wantV_b, bq_tt, bq_ft, bq_tf, bq_ff, Bool.not_true, Bool.not_false, WD_nil, WD_cons, WD_guard2, WS_some, WS_none, KS_n, KS_x, KS_r, KB_n, KB_x, KB_r, KN_ap, KO_ap, KD_ap, KC_nil, KF_n, KF_r, KG_n, KG_r, KL_n, KL_x, KL_r, CP_true, CP_false, evOp, evX, X.ev, optX, put_some, put_none, get_set2, sel_t, sel_f, Nat.reduceBEq, Nat.reduceAdd, Nat.reduceLT, Nat.reduceLeDiff, Nat.reduceEqDiff, reduceIte, if_true, if_false, bi_add, bi_sub, bi_mul, bi_eql, bi_neq, bi_lss, bi_leq, bi_gtr, bi_geq, bs_eql, bs_neq, bs_lss, Am.unOp, ret1, pubL, pubC_agg, pubC_s, pubC_i, pubC_b, pubC_p, pubC_np, pubC_nsl, pubC_ws, pubC_full, pubC_shut, pubC_fn, pubA, initT, wkZ, wk, wants, resOf, tupOf, quiet, AOp.cls, Nat.beq_eq, Bool.or_eq_true, decide_true, decide_false, beq_self_eq_true, Bool.true_or, Bool.or_true, true_and, and_true, lenA, eqv, eqB, eqP, scal, new_box_self, List.getElem?_cons_zero, List.getElem?_cons_succ, key_ii, key_ss, findM, updM, esc_i, esc_s, esc_b, Int.reduceEq, ret1, new_nb, new_set, reduceCtorEq, Bool.xor_true, Bool.xor_false, Bool.false_eq_true, List.all_cons, List.all_nil, noTok, Bool.and_self, Bool.and_true, Bool.true_and, or_true, false_or, natOf_u8, hlt, Nat.mul_one, Nat.zero_add, hl]
  exact KR_some (Over.enter s) rfl rfl
end Go.Proofs.YtfaodjpibdhdjaaDoor

/-
  Names.
-/
set_option maxRecDepth 100000
set_option linter.unusedSimpArgs false
set_option linter.constructorNameAsVariable false
namespace Go.Proofs.YtfaodjpibdhdjaaDoor
open Go.Proofs.YtfaodjpibdhdjaaDoor.Am

theorem decode_w (s : ByteArray) (pos : Nat) (h : pos < s.size) (ha : 128 ≤ (s.get! (pos + 0)).toNat) : pos + (Utf8.decode s pos).2 ≤ s.size ∧ ∀ k, k < (Utf8.decode s pos).2 → 128 ≤ (s.get! (pos + k)).toNat := by
  have hn : ¬ (s.get! (pos + 0)).toNat < 128 := by omega
  simp only [Utf8.decode, hn, if_false]
  split
  · rename_i h1
    simp only [Bool.and_eq_true, beq_iff_eq, decide_eq_true_eq] at h1
    split
    · refine ⟨by simp only; omega, fun k hk => ?_⟩
      have : k = 0 ∨ k = 1 := by simp only at hk; omega
      rcases this with rfl | rfl <;> omega
    · refine ⟨by simp only; omega, fun k hk => ?_⟩
      have : k = 0 := by simp only at hk; omega
      subst this; omega
  · split
    · rename_i h1
      simp only [Bool.and_eq_true, beq_iff_eq, decide_eq_true_eq] at h1
      split
      · refine ⟨by simp only; omega, fun k hk => ?_⟩
        have : k = 0 ∨ k = 1 ∨ k = 2 := by simp only at hk; omega
        rcases this with rfl | rfl | rfl <;> omega
      · refine ⟨by simp only; omega, fun k hk => ?_⟩
        have : k = 0 := by simp only at hk; omega
        subst this; omega
    · split
      · rename_i h1
        simp only [Bool.and_eq_true, beq_iff_eq, decide_eq_true_eq] at h1
        split
        · refine ⟨by simp only; omega, fun k hk => ?_⟩
          have : k = 0 ∨ k = 1 ∨ k = 2 ∨ k = 3 := by simp only at hk; omega
          rcases this with rfl | rfl | rfl | rfl <;> omega
        · refine ⟨by simp only; omega, fun k hk => ?_⟩
          have : k = 0 := by simp only at hk; omega
          subst this; omega
      · refine ⟨by simp only; omega, fun k hk => ?_⟩
        have : k = 0 := by simp only at hk; omega
        subst this; omega

theorem bytes_get {l : List Nat} (hl : ∀ n ∈ l, n < 256) {i : Nat} (h : i < l.length) : ((⟨(l.map UInt8.ofNat).toArray⟩ : ByteArray).get! i).toNat = l[i] := by
  have h1 : i < (l.map UInt8.ofNat).toArray.size := by simpa using h
  have : (⟨(l.map UInt8.ofNat).toArray⟩ : ByteArray).get! i = UInt8.ofNat l[i] := by
    show (l.map UInt8.ofNat).toArray[i]! = _
    rw [getElem!_pos _ i h1]
    simp
  rw [this, u8N (hl _ (List.getElem_mem h))]
theorem bytes_size (l : List Nat) : (⟨(l.map UInt8.ofNat).toArray⟩ : ByteArray).size = l.length := by
  show (l.map UInt8.ofNat).toArray.size = _
  simp

/-- One step of a range over a text at a byte that is none below 128. -/
theorem decode_l {l : List Nat} (hl : ∀ n ∈ l, n < 256) {pos : Nat} (h : pos < l.length) (hc : 128 ≤ l[pos]) :
    ∃ r w, Utf8.decode ⟨(l.map UInt8.ofNat).toArray⟩ pos = (r, w) ∧ 128 ≤ r ∧ r ≤ 2147483647 ∧ 1 ≤ w ∧ pos + w ≤ l.length ∧ ∀ k (hk : k < l.length), pos ≤ k → k < pos + w → 128 ≤ l[k] := by
  have hs := bytes_size l
  have hg := bytes_get hl h
  have hps : pos < (⟨(l.map UInt8.ofNat).toArray⟩ : ByteArray).size := by rw [hs]; exact h
  have hge := get_at (⟨(l.map UInt8.ofNat).toArray⟩ : ByteArray) pos hps
  have ha : 128 ≤ ((⟨(l.map UInt8.ofNat).toArray⟩ : ByteArray).get! (pos + 0)).toNat := by rw [Nat.add_zero, hg]; exact hc
  have h1 := decode_high (⟨(l.map UInt8.ofNat).toArray⟩ : ByteArray) pos hps (by rw [← hge]; exact ha)
  have h2 := decode_le (⟨(l.map UInt8.ofNat).toArray⟩ : ByteArray) pos
  have h3 := decode_w (⟨(l.map UInt8.ofNat).toArray⟩ : ByteArray) pos hps ha
  rw [hs] at h3
  obtain ⟨⟨r, w⟩, hrw⟩ : ∃ x, Utf8.decode (⟨(l.map UInt8.ofNat).toArray⟩ : ByteArray) pos = x := ⟨_, rfl⟩
  rw [hrw] at h1 h2 h3
  simp only at h1 h2 h3
  refine ⟨r, w, hrw, h1.1, h2, h1.2, h3.1, fun k hk h4 h5 => ?_⟩
  have h6 := h3.2 (k - pos) (by omega)
  rw [show pos + (k - pos) = k by omega, bytes_get hl hk] at h6
  exact h6

/-- Has a text one of the three bytes? -/
def anyK (l : List Nat) : Bool := l.any fun c => decide (c ∈ K3)
theorem runeP_neg {r : Int} (h : 128 ≤ r) : runeP r = -1 := by unfold runeP; rw [if_neg (by omega)]
theorem runeP_byte (c : Nat) (h : c < 128) : (0 ≤ runeP (c : Int)) ↔ c ∈ K3 := by
  unfold runeP
  rw [if_pos (by omega), Int.toNat_natCast]
  have := idxB_neg (c := c) (l := K3) (n := 0)
  constructor
  · intro h1
    by_cases h2 : c ∈ K3
    · exact h2
    · exact absurd (this.2 h2) (by omega)
  · intro h1
    by_cases h2 : idxB c 0 K3 < 0
    · exact absurd h1 (this.1 h2)
    · omega
theorem anyK_of {l : List Nat} {i : Nat} (h : i < l.length) (hm : l[i] ∈ K3) : anyK l = true := by
  unfold anyK
  rw [List.any_eq_true]
  exact ⟨_, List.getElem_mem h, by simpa using hm⟩
theorem anyK_false {l : List Nat} (h : ∀ i (hi : i < l.length), l[i] ∉ K3) : anyK l = false := by
  unfold anyK
  rw [List.any_eq_false]
  intro x hx
  obtain ⟨i, hi, rfl⟩ := List.mem_iff_getElem.1 hx
  simpa using h i hi

theorem shouldUse_ok (n : Int) (s : St) : (lim prog).call f_strings_shouldUseASCIISet [.i .i64 n] s = some (.b (decide (8 < n)), s) := by
  refine fn_W p_strings_shouldUseASCIISet rfl rfl ?_
  simp only [c_strings_shouldUseASCIISet, W_seq, W_reg, W_cond, W_blk, W_skip, W_exit, W_ret, W_regD, WO_nil, WO_cons, WO_guard2, wantV_b, bq_tt, bq_ft, bq_tf, bq_ff, Bool.not_true, Bool.not_false, WD_nil, WD_cons, WD_guard2, WS_some, WS_none, KS_n, KS_x, KS_r, KB_n, KB_x, KB_r, KN_ap, KO_ap, KD_ap, KC_nil, KF_n, KF_r, KG_n, KG_r, KL_n, KL_x, KL_r, CP_true, CP_false, evOp, evX, X.ev, optX, put_some, put_none, get_set2, sel_t, sel_f, Nat.reduceBEq, Nat.reduceAdd, Nat.reduceLT, Nat.reduceLeDiff, Nat.reduceEqDiff, reduceIte, if_true, if_false, bi_add, bi_sub, bi_mul, bi_eql, bi_neq, bi_lss, bi_leq, bi_gtr, bi_geq, bs_eql, bs_neq, bs_lss, Am.unOp, ret1, pubL, pubC_agg, pubC_s, pubC_i, pubC_b, pubC_p, pubC_np, pubC_nsl, pubC_ws, pubC_full, pubC_shut, pubC_fn, pubA, initT, wkZ, wk, wants, resOf, tupOf, quiet, AOp.cls, Nat.beq_eq, Bool.or_eq_true, decide_true, decide_false, beq_self_eq_true, Bool.true_or, Bool.or_true, true_and, and_true, lenA, eqv, eqB, eqP, scal, new_box_self, List.getElem?_cons_zero, List.getElem?_cons_succ, key_ii, key_ss, findM, updM, esc_i, esc_s, esc_b, Int.reduceEq, ret1, new_nb, new_set, reduceCtorEq, Bool.xor_true, Bool.xor_false, Bool.false_eq_true, List.all_cons, List.all_nil, noTok, Bool.and_self, Bool.and_true, Bool.true_and, or_true, false_or]
  exact KR_some (Over.enter s) rfl rfl

def IAP (l : List Nat) (s : St) (r : AV) (s' : St) : Prop := s' = s ∧ ∃ z : Int, r = .i .i64 z ∧ (decide (0 ≤ z)) = anyK l
theorem KH_i {s s2 : St} {l : List Nat} {z : Int} (hov : Over s s2) (h : decide (0 ≤ z) = anyK l) : KH s [CT.id] (IAP l s) (some ([.i .i64 z], s2)) := by
  refine ⟨_, _, rfl, ?_⟩
  show IAP l s (.i .i64 z) (leave s s2 (.i .i64 z))
  rw [hov.leave rfl]
  exact ⟨rfl, z, rfl, h⟩
theorem extT2_0 (a b : AV) : [a, b][0]? = some a := rfl
theorem extT2_1 (a b : AV) : [a, b][1]? = some b := rfl

theorem indexAny_ok (l : List Nat) (hl : Txt l) (s : St) (hw : Wf s) : ∃ r s', (lim prog).call f_strings_IndexAny [.s l, .s K3] s = some (r, s') ∧ IAP l s r s' := by
  refine fn_G (Post := IAP l s) p_strings_IndexAny rfl rfl ?_
  have hlen := hl.len
  have k1 : ((K3 : List Nat) = []) = False := by simp
  have k2 : ((3 : Int) = 1) = False := by simp
  have hkl : List.length K3 = 3 := rfl
  have ia_cin : c_strings_IndexAny.cin = [.id, .id] := rfl
  have ia_res : c_strings_IndexAny.res = [(4, none)] := rfl
  have ia_cout : c_strings_IndexAny.cout = [.id] := rfl
  rw [ia_body, ia_cin, ia_res, ia_cout]
  by_cases h8 : (8 : Int) < (l.length : Int)
  · have hmk := mk_ok s.enter hw.enter
    have hb0 : (s.enter.new (.cells 58 Z256)).box? s.enter.nb = some (.cells 58 (bs F256)) := new_box_self s.enter _
    have st := bs_st hb0 len3' len0
    rw [new_set] at st
    obtain ⟨s1, hs1⟩ : ∃ s1, s.enter.new (.cells 58 (bs B3)) = s1 := ⟨_, rfl⟩
    have hb1 : s1.box? s.enter.nb = some (.cells 58 (bs B3)) := by rw [← hs1]; exact new_box_self s.enter _
    have ov1 : Over s s1 := by rw [← hs1]; exact (Over.enter s).new _
    rw [hs1] at st
    have hcells : (AV.agg (bs B3)).cells.length = 256 := by show (bs B3).length = 256; simpa using len3'
    simp only [W_seq, W_reg, W_cond, W_blk, W_skip, W_exit, W_ret, W_regD, WO_nil, WO_cons, WO_guard2, wantV_b, bq_tt, bq_ft, bq_tf, bq_ff, Bool.not_true, Bool.not_false, WD_nil, WD_cons, WD_guard2, WS_some, WS_none, KS_n, KS_x, KS_r, KB_n, KB_x, KB_r, KN_ap, KO_ap, KD_ap, KC_nil, KF_n, KF_r, KG_n, KG_r, KL_n, KL_x, KL_r, CP_true, CP_false, evOp, evX, X.ev, optX, put_some, put_none, get_set2, sel_t, sel_f, Nat.reduceBEq, Nat.reduceAdd, Nat.reduceLT, Nat.reduceLeDiff, Nat.reduceEqDiff, reduceIte, if_true, if_false, bi_add, bi_sub, bi_mul, bi_eql, bi_neq, bi_lss, bi_leq, bi_gtr, bi_geq, bs_eql, bs_neq, bs_lss, Am.unOp, ret1, pubL, pubC_agg, pubC_s, pubC_i, pubC_b, pubC_p, pubC_np, pubC_nsl, pubC_ws, pubC_full, pubC_shut, pubC_fn, pubA, initT, wkZ, wk, wants, resOf, tupOf, quiet, AOp.cls, Nat.beq_eq, Bool.or_eq_true, decide_true, decide_false, beq_self_eq_true, Bool.true_or, Bool.or_true, true_and, and_true, lenA, eqv, eqB, eqP, scal, new_box_self, List.getElem?_cons_zero, List.getElem?_cons_succ, key_ii, key_ss, findM, updM, esc_i, esc_s, esc_b, Int.reduceEq, ret1, new_nb, new_set, reduceCtorEq, Bool.xor_true, Bool.xor_false, Bool.false_eq_true, List.all_cons, List.all_nil, noTok, Bool.and_self, Bool.and_true, Bool.true_and, or_true, false_or, ofNat_len, hkl, Int.cast_ofNat_Int, k1, k2, shouldUse_ok, h8, hmk, st]
    refine W_loop (fun n e q => ∃ i : Nat, i + n = l.length ∧ q = s1 ∧ e.get 0 = .s l ∧ e.get 6 = .p s.enter.nb 0 ∧ e.get 8 = .i .i64 i ∧ ∀ (j : Nat) (hj : j < l.length), j < i → l[j] ∉ K3) ?_ l.length _ _ ?_
    · rintro n e q ⟨i, hi, rfl, g0, g6, g8, hno⟩
      simp only [W_seq, W_reg, W_cond, W_blk, W_skip, W_exit, W_ret, W_regD, WO_nil, WO_cons, WO_guard2, wantV_b, bq_tt, bq_ft, bq_tf, bq_ff, Bool.not_true, Bool.not_false, WD_nil, WD_cons, WD_guard2, WS_some, WS_none, KS_n, KS_x, KS_r, KB_n, KB_x, KB_r, KN_ap, KO_ap, KD_ap, KC_nil, KF_n, KF_r, KG_n, KG_r, KL_n, KL_x, KL_r, CP_true, CP_false, evOp, evX, X.ev, optX, put_some, put_none, get_set2, sel_t, sel_f, Nat.reduceBEq, Nat.reduceAdd, Nat.reduceLT, Nat.reduceLeDiff, Nat.reduceEqDiff, reduceIte, if_true, if_false, bi_add, bi_sub, bi_mul, bi_eql, bi_neq, bi_lss, bi_leq, bi_gtr, bi_geq, bs_eql, bs_neq, bs_lss, Am.unOp, ret1, pubL, pubC_agg, pubC_s, pubC_i, pubC_b, pubC_p, pubC_np, pubC_nsl, pubC_ws, pubC_full, pubC_shut, pubC_fn, pubA, initT, wkZ, wk, wants, resOf, tupOf, quiet, AOp.cls, Nat.beq_eq, Bool.or_eq_true, decide_true, decide_false, beq_self_eq_true, Bool.true_or, Bool.or_true, true_and, and_true, lenA, eqv, eqB, eqP, scal, new_box_self, List.getElem?_cons_zero, List.getElem?_cons_succ, key_ii, key_ss, findM, updM, esc_i, esc_s, esc_b, Int.reduceEq, ret1, new_nb, new_set, reduceCtorEq, Bool.xor_true, Bool.xor_false, Bool.false_eq_true, List.all_cons, List.all_nil, noTok, Bool.and_self, Bool.and_true, Bool.true_and, or_true, false_or, g0, g8, ofNat_len]
      refine CP_dec (fun hlt => ?_) (fun hge => ?_)
      · have hlt : i < l.length := by omega
        have hget : l[i]? = some l[i] := List.getElem?_eq_getElem hlt
        have h256 := hl.lt l[i] (List.getElem_mem hlt)
        have hc := contains_ok hb1 h256 (b3_get h256)
        simp only [W_seq, W_reg, W_cond, W_blk, W_skip, W_exit, W_ret, W_regD, WO_nil, WO_cons, WO_guard2, wantV_b, bq_tt, bq_ft, bq_tf, bq_ff, Bool.not_true, Bool.not_false, WD_nil, WD_cons, WD_guard2, WS_some, WS_none, KS_n, KS_x, KS_r, KB_n, KB_x, KB_r, KN_ap, KO_ap, KD_ap, KC_nil, KF_n, KF_r, KG_n, KG_r, KL_n, KL_x, KL_r, CP_true, CP_false, evOp, evX, X.ev, optX, put_some, put_none, get_set2, sel_t, sel_f, Nat.reduceBEq, Nat.reduceAdd, Nat.reduceLT, Nat.reduceLeDiff, Nat.reduceEqDiff, reduceIte, if_true, if_false, bi_add, bi_sub, bi_mul, bi_eql, bi_neq, bi_lss, bi_leq, bi_gtr, bi_geq, bs_eql, bs_neq, bs_lss, Am.unOp, ret1, pubL, pubC_agg, pubC_s, pubC_i, pubC_b, pubC_p, pubC_np, pubC_nsl, pubC_ws, pubC_full, pubC_shut, pubC_fn, pubA, initT, wkZ, wk, wants, resOf, tupOf, quiet, AOp.cls, Nat.beq_eq, Bool.or_eq_true, decide_true, decide_false, beq_self_eq_true, Bool.true_or, Bool.or_true, true_and, and_true, lenA, eqv, eqB, eqP, scal, new_box_self, List.getElem?_cons_zero, List.getElem?_cons_succ, key_ii, key_ss, findM, updM, esc_i, esc_s, esc_b, Int.reduceEq, ret1, new_nb, new_set, reduceCtorEq, Bool.xor_true, Bool.xor_false, Bool.false_eq_true, List.all_cons, List.all_nil, noTok, Bool.and_self, Bool.and_true, Bool.true_and, or_true, false_or, g0, g6, g8, natOf_i64, hget, ofNat_len, hc]
        refine CP_dec (fun hm => ?_) (fun hm => ?_)
        · exact KH_i ov1 (by rw [anyK_of hlt hm]; simp)
        · simp only [W_seq, W_reg, W_cond, W_blk, W_skip, W_exit, W_ret, W_regD, WO_nil, WO_cons, WO_guard2, wantV_b, bq_tt, bq_ft, bq_tf, bq_ff, Bool.not_true, Bool.not_false, WD_nil, WD_cons, WD_guard2, WS_some, WS_none, KS_n, KS_x, KS_r, KB_n, KB_x, KB_r, KN_ap, KO_ap, KD_ap, KC_nil, KF_n, KF_r, KG_n, KG_r, KL_n, KL_x, KL_r, CP_true, CP_false, evOp, evX, X.ev, optX, put_some, put_none, get_set2, sel_t, sel_f, Nat.reduceBEq, Nat.reduceAdd, Nat.reduceLT, Nat.reduceLeDiff, Nat.reduceEqDiff, reduceIte, if_true, if_false, bi_add, bi_sub, bi_mul, bi_eql, bi_neq, bi_lss, bi_leq, bi_gtr, bi_geq, bs_eql, bs_neq, bs_lss, Am.unOp, ret1, pubL, pubC_agg, pubC_s, pubC_i, pubC_b, pubC_p, pubC_np, pubC_nsl, pubC_ws, pubC_full, pubC_shut, pubC_fn, pubA, initT, wkZ, wk, wants, resOf, tupOf, quiet, AOp.cls, Nat.beq_eq, Bool.or_eq_true, decide_true, decide_false, beq_self_eq_true, Bool.true_or, Bool.or_true, true_and, and_true, lenA, eqv, eqB, eqP, scal, new_box_self, List.getElem?_cons_zero, List.getElem?_cons_succ, key_ii, key_ss, findM, updM, esc_i, esc_s, esc_b, Int.reduceEq, ret1, new_nb, new_set, reduceCtorEq, Bool.xor_true, Bool.xor_false, Bool.false_eq_true, List.all_cons, List.all_nil, noTok, Bool.and_self, Bool.and_true, Bool.true_and, or_true, false_or, wrap_succ (show i + 1 < 2 ^ 63 by omega), g0, g6, g8]
          refine ⟨n - 1, by omega, i + 1, by omega, rfl, fun j hj hji => ?_⟩
          by_cases hje : j = i
          · subst hje; exact hm
          · exact hno j hj (by omega)
      · exact KH_i ov1 (by rw [anyK_false fun j hj => hno j hj (by omega)]; decide)
    · simp only [W_seq, W_reg, W_cond, W_blk, W_skip, W_exit, W_ret, W_regD, WO_nil, WO_cons, WO_guard2, wantV_b, bq_tt, bq_ft, bq_tf, bq_ff, Bool.not_true, Bool.not_false, WD_nil, WD_cons, WD_guard2, WS_some, WS_none, KS_n, KS_x, KS_r, KB_n, KB_x, KB_r, KN_ap, KO_ap, KD_ap, KC_nil, KF_n, KF_r, KG_n, KG_r, KL_n, KL_x, KL_r, CP_true, CP_false, evOp, evX, X.ev, optX, put_some, put_none, get_set2, sel_t, sel_f, Nat.reduceBEq, Nat.reduceAdd, Nat.reduceLT, Nat.reduceLeDiff, Nat.reduceEqDiff, reduceIte, if_true, if_false, bi_add, bi_sub, bi_mul, bi_eql, bi_neq, bi_lss, bi_leq, bi_gtr, bi_geq, bs_eql, bs_neq, bs_lss, Am.unOp, ret1, pubL, pubC_agg, pubC_s, pubC_i, pubC_b, pubC_p, pubC_np, pubC_nsl, pubC_ws, pubC_full, pubC_shut, pubC_fn, pubA, initT, wkZ, wk, wants, resOf, tupOf, quiet, AOp.cls, Nat.beq_eq, Bool.or_eq_true, decide_true, decide_false, beq_self_eq_true, Bool.true_or, Bool.or_true, true_and, and_true, lenA, eqv, eqB, eqP, scal, new_box_self, List.getElem?_cons_zero, List.getElem?_cons_succ, key_ii, key_ss, findM, updM, esc_i, esc_s, esc_b, Int.reduceEq, ret1, new_nb, new_set, reduceCtorEq, Bool.xor_true, Bool.xor_false, Bool.false_eq_true, List.all_cons, List.all_nil, noTok, Bool.and_self, Bool.and_true, Bool.true_and, or_true, false_or]
      exact ⟨0, by omega, rfl, fun j hj h => by omega⟩
  · have hsi : ∀ p p', (s.enter.new (.siter l p)).setBox s.enter.nb (.siter l p') = s.enter.new (.siter l p') := fun p p' => new_set _ _ _
    simp only [W_seq, W_reg, W_cond, W_blk, W_skip, W_exit, W_ret, W_regD, WO_nil, WO_cons, WO_guard2, wantV_b, bq_tt, bq_ft, bq_tf, bq_ff, Bool.not_true, Bool.not_false, WD_nil, WD_cons, WD_guard2, WS_some, WS_none, KS_n, KS_x, KS_r, KB_n, KB_x, KB_r, KN_ap, KO_ap, KD_ap, KC_nil, KF_n, KF_r, KG_n, KG_r, KL_n, KL_x, KL_r, CP_true, CP_false, evOp, evX, X.ev, optX, put_some, put_none, get_set2, sel_t, sel_f, Nat.reduceBEq, Nat.reduceAdd, Nat.reduceLT, Nat.reduceLeDiff, Nat.reduceEqDiff, reduceIte, if_true, if_false, bi_add, bi_sub, bi_mul, bi_eql, bi_neq, bi_lss, bi_leq, bi_gtr, bi_geq, bs_eql, bs_neq, bs_lss, Am.unOp, ret1, pubL, pubC_agg, pubC_s, pubC_i, pubC_b, pubC_p, pubC_np, pubC_nsl, pubC_ws, pubC_full, pubC_shut, pubC_fn, pubA, initT, wkZ, wk, wants, resOf, tupOf, quiet, AOp.cls, Nat.beq_eq, Bool.or_eq_true, decide_true, decide_false, beq_self_eq_true, Bool.true_or, Bool.or_true, true_and, and_true, lenA, eqv, eqB, eqP, scal, new_box_self, List.getElem?_cons_zero, List.getElem?_cons_succ, key_ii, key_ss, findM, updM, esc_i, esc_s, esc_b, Int.reduceEq, ret1, new_nb, new_set, reduceCtorEq, Bool.xor_true, Bool.xor_false, Bool.false_eq_true, List.all_cons, List.all_nil, noTok, Bool.and_self, Bool.and_true, Bool.true_and, or_true, false_or, ofNat_len, hkl, Int.cast_ofNat_Int, k1, k2, shouldUse_ok, h8]
    refine W_loop (fun n e q => ∃ i : Nat, i + n = l.length ∧ q = s.enter.new (.siter l i) ∧ e.get 1 = .s K3 ∧ e.get 45 = .p s.enter.nb 0 ∧ ∀ (j : Nat) (hj : j < l.length), j < i → l[j] ∉ K3) ?_ l.length _ _ ?_
    · rintro n e q ⟨i, hi, rfl, g1, g45, hno⟩
      have ov1 : ∀ p, Over s (s.enter.new (.siter l p)) := fun p => (Over.enter s).new _
      by_cases hlt : i < l.length
      · have hget : l[i]? = some l[i] := List.getElem?_eq_getElem hlt
        by_cases h128 : l[i] < 128
        · have h128' : (l[i] < 128) = True := by simp [h128]
          have hr := indexRune_ok (l[i] : Int) (by omega) (by omega)
          simp only [W_seq, W_reg, W_cond, W_blk, W_skip, W_exit, W_ret, W_regD, WO_nil, WO_cons, WO_guard2, wantV_b, bq_tt, bq_ft, bq_tf, bq_ff, Bool.not_true, Bool.not_false, WD_nil, WD_cons, WD_guard2, WS_some, WS_none, KS_n, KS_x, KS_r, KB_n, KB_x, KB_r, KN_ap, KO_ap, KD_ap, KC_nil, KF_n, KF_r, KG_n, KG_r, KL_n, KL_x, KL_r, CP_true, CP_false, evOp, evX, X.ev, optX, put_some, put_none, get_set2, sel_t, sel_f, Nat.reduceBEq, Nat.reduceAdd, Nat.reduceLT, Nat.reduceLeDiff, Nat.reduceEqDiff, reduceIte, if_true, if_false, bi_add, bi_sub, bi_mul, bi_eql, bi_neq, bi_lss, bi_leq, bi_gtr, bi_geq, bs_eql, bs_neq, bs_lss, Am.unOp, ret1, pubL, pubC_agg, pubC_s, pubC_i, pubC_b, pubC_p, pubC_np, pubC_nsl, pubC_ws, pubC_full, pubC_shut, pubC_fn, pubA, initT, wkZ, wk, wants, resOf, tupOf, quiet, AOp.cls, Nat.beq_eq, Bool.or_eq_true, decide_true, decide_false, beq_self_eq_true, Bool.true_or, Bool.or_true, true_and, and_true, lenA, eqv, eqB, eqP, scal, new_box_self, List.getElem?_cons_zero, List.getElem?_cons_succ, key_ii, key_ss, findM, updM, esc_i, esc_s, esc_b, Int.reduceEq, ret1, new_nb, new_set, reduceCtorEq, Bool.xor_true, Bool.xor_false, Bool.false_eq_true, List.all_cons, List.all_nil, noTok, Bool.and_self, Bool.and_true, Bool.true_and, or_true, false_or, g1, g45, hget, h128', ofNat_len, hsi, hr]
          refine CP_dec (fun hm => ?_) (fun hm => ?_)
          · exact KH_i (ov1 _) (by rw [anyK_of hlt ((runeP_byte _ h128).1 hm)]; simp)
          · trace_state
            refine ⟨n - 1, by omega, i + 1, by omega, rfl, fun j hj hji => ?_⟩
            by_cases hje : j = i
            · subst hje; exact fun hh => hm ((runeP_byte _ h128).2 hh)
            · exact hno j hj (by omega)
        · have h128' : (l[i] < 128) = False := by simp [h128]
          obtain ⟨r, w, e1, e2, e3, e4, e5, e6⟩ := decode_l hl.lt hlt (by omega)
          have hr := indexRune_ok (r : Int) (by omega) (by omega)
          rw [runeP_neg (by omega)] at hr
          have hm1 : ((0 : Int) ≤ -1) = False := by simp
          simp only [W_seq, W_reg, W_cond, W_blk, W_skip, W_exit, W_ret, W_regD, WO_nil, WO_cons, WO_guard2, wantV_b, bq_tt, bq_ft, bq_tf, bq_ff, Bool.not_true, Bool.not_false, WD_nil, WD_cons, WD_guard2, WS_some, WS_none, KS_n, KS_x, KS_r, KB_n, KB_x, KB_r, KN_ap, KO_ap, KD_ap, KC_nil, KF_n, KF_r, KG_n, KG_r, KL_n, KL_x, KL_r, CP_true, CP_false, evOp, evX, X.ev, optX, put_some, put_none, get_set2, sel_t, sel_f, Nat.reduceBEq, Nat.reduceAdd, Nat.reduceLT, Nat.reduceLeDiff, Nat.reduceEqDiff, reduceIte, if_true, if_false, bi_add, bi_sub, bi_mul, bi_eql, bi_neq, bi_lss, bi_leq, bi_gtr, bi_geq, bs_eql, bs_neq, bs_lss, Am.unOp, ret1, pubL, pubC_agg, pubC_s, pubC_i, pubC_b, pubC_p, pubC_np, pubC_nsl, pubC_ws, pubC_full, pubC_shut, pubC_fn, pubA, initT, wkZ, wk, wants, resOf, tupOf, quiet, AOp.cls, Nat.beq_eq, Bool.or_eq_true, decide_true, decide_false, beq_self_eq_true, Bool.true_or, Bool.or_true, true_and, and_true, lenA, eqv, eqB, eqP, scal, new_box_self, List.getElem?_cons_zero, List.getElem?_cons_succ, key_ii, key_ss, findM, updM, esc_i, esc_s, esc_b, Int.reduceEq, ret1, new_nb, new_set, reduceCtorEq, Bool.xor_true, Bool.xor_false, Bool.false_eq_true, List.all_cons, List.all_nil, noTok, Bool.and_self, Bool.and_true, Bool.true_and, or_true, false_or, g1, g45, hget, h128', ofNat_len, hsi, e1, hr, hm1]
          refine ⟨n - w, by omega, i + w, by omega, rfl, fun j hj hji => ?_⟩
          by_cases hje : j < i
          · exact hno j hj hje
          · have := e6 j hj (by omega) hji
            simp only [List.mem_cons, List.not_mem_nil, or_false]
            omega
      · have hget : l[i]? = none := List.getElem?_eq_none (by omega)
        simp only [W_seq, W_reg, W_cond, W_blk, W_skip, W_exit, W_ret, W_regD, WO_nil, WO_cons, WO_guard2, wantV_b, bq_tt, bq_ft, bq_tf, bq_ff, Bool.not_true, Bool.not_false, WD_nil, WD_cons, WD_guard2, WS_some, WS_none, KS_n, KS_x, KS_r, KB_n, KB_x, KB_r, KN_ap, KO_ap, KD_ap, KC_nil, KF_n, KF_r, KG_n, KG_r, KL_n, KL_x, KL_r, CP_true, CP_false, evOp, evX, X.ev, optX, put_some, put_none, get_set2, sel_t, sel_f, Nat.reduceBEq, Nat.reduceAdd, Nat.reduceLT, Nat.reduceLeDiff, Nat.reduceEqDiff, reduceIte, if_true, if_false, bi_add, bi_sub, bi_mul, bi_eql, bi_neq, bi_lss, bi_leq, bi_gtr, bi_geq, bs_eql, bs_neq, bs_lss, Am.unOp, ret1, pubL, pubC_agg, pubC_s, pubC_i, pubC_b, pubC_p, pubC_np, pubC_nsl, pubC_ws, pubC_full, pubC_shut, pubC_fn, pubA, initT, wkZ, wk, wants, resOf, tupOf, quiet, AOp.cls, Nat.beq_eq, Bool.or_eq_true, decide_true, decide_false, beq_self_eq_true, Bool.true_or, Bool.or_true, true_and, and_true, lenA, eqv, eqB, eqP, scal, new_box_self, List.getElem?_cons_zero, List.getElem?_cons_succ, key_ii, key_ss, findM, updM, esc_i, esc_s, esc_b, Int.reduceEq, ret1, new_nb, new_set, reduceCtorEq, Bool.xor_true, Bool.xor_false, Bool.false_eq_true, List.all_cons, List.all_nil, noTok, Bool.and_self, Bool.and_true, Bool.true_and, or_true, false_or, g1, g45, hget]
        exact KH_i (ov1 _) (by rw [anyK_false fun j hj => hno j hj (by omega)]; decide)
    · simp only [W_seq, W_reg, W_cond, W_blk, W_skip, W_exit, W_ret, W_regD, WO_nil, WO_cons, WO_guard2, wantV_b, bq_tt, bq_ft, bq_tf, bq_ff, Bool.not_true, Bool.not_false, WD_nil, WD_cons, WD_guard2, WS_some, WS_none, KS_n, KS_x, KS_r, KB_n, KB_x, KB_r, KN_ap, KO_ap, KD_ap, KC_nil, KF_n, KF_r, KG_n, KG_r, KL_n, KL_x, KL_r, CP_true, CP_false, evOp, evX, X.ev, optX, put_some, put_none, get_set2, sel_t, sel_f, Nat.reduceBEq, Nat.reduceAdd, Nat.reduceLT, Nat.reduceLeDiff, Nat.reduceEqDiff, reduceIte, if_true, if_false, bi_add, bi_sub, bi_mul, bi_eql, bi_neq, bi_lss, bi_leq, bi_gtr, bi_geq, bs_eql, bs_neq, bs_lss, Am.unOp, ret1, pubL, pubC_agg, pubC_s, pubC_i, pubC_b, pubC_p, pubC_np, pubC_nsl, pubC_ws, pubC_full, pubC_shut, pubC_fn, pubA, initT, wkZ, wk, wants, resOf, tupOf, quiet, AOp.cls, Nat.beq_eq, Bool.or_eq_true, decide_true, decide_false, beq_self_eq_true, Bool.true_or, Bool.or_true, true_and, and_true, lenA, eqv, eqB, eqP, scal, new_box_self, List.getElem?_cons_zero, List.getElem?_cons_succ, key_ii, key_ss, findM, updM, esc_i, esc_s, esc_b, Int.reduceEq, ret1, new_nb, new_set, reduceCtorEq, Bool.xor_true, Bool.xor_false, Bool.false_eq_true, List.all_cons, List.all_nil, noTok, Bool.and_self, Bool.and_true, Bool.true_and, or_true, false_or]
      exact ⟨0, by omega, rfl, fun j hj h => by omega⟩

theorem containsAny_ok (l : List Nat) (hl : Txt l) (s : St) (hw : Wf s) : (lim prog).call f_strings_ContainsAny [.s l, .s K3] s = some (.b (anyK l), s) := by
  refine fn_W p_strings_ContainsAny rfl rfl ?_
  obtain ⟨r, s', h, rfl, z, rfl, hz⟩ := indexAny_ok l hl s.enter hw.enter
  simp only [c_strings_ContainsAny, W_seq, W_reg, W_cond, W_blk, W_skip, W_exit, W_ret, W_regD, WO_nil, WO_cons, WO_guard2, wantV_b, bq_tt, bq_ft, bq_tf, bq_ff, Bool.not_true, Bool.not_false, WD_nil, WD_cons, WD_guard2, WS_some, WS_none, KS_n, KS_x, KS_r, KB_n, KB_x, KB_r, KN_ap, KO_ap, KD_ap, KC_nil, KF_n, KF_r, KG_n, KG_r, KL_n, KL_x, KL_r, CP_true, CP_false, evOp, evX, X.ev, optX, put_some, put_none, get_set2, sel_t, sel_f, Nat.reduceBEq, Nat.reduceAdd, Nat.reduceLT, Nat.reduceLeDiff, Nat.reduceEqDiff, reduceIte, if_true, if_false, bi_add, bi_sub, bi_mul, bi_eql, bi_neq, bi_lss, bi_leq, bi_gtr, bi_geq, bs_eql, bs_neq, bs_lss, Am.unOp, ret1, pubL, pubC_agg, pubC_s, pubC_i, pubC_b, pubC_p, pubC_np, pubC_nsl, pubC_ws, pubC_full, pubC_shut, pubC_fn, pubA, initT, wkZ, wk, wants, resOf, tupOf, quiet, AOp.cls, Nat.beq_eq, Bool.or_eq_true, decide_true, decide_false, beq_self_eq_true, Bool.true_or, Bool.or_true, true_and, and_true, lenA, eqv, eqB, eqP, scal, new_box_self, List.getElem?_cons_zero, List.getElem?_cons_succ, key_ii, key_ss, findM, updM, esc_i, esc_s, esc_b, Int.reduceEq, ret1, new_nb, new_set, reduceCtorEq, Bool.xor_true, Bool.xor_false, Bool.false_eq_true, List.all_cons, List.all_nil, noTok, Bool.and_self, Bool.and_true, Bool.true_and, or_true, false_or, h]
  exact KR_some (Over.enter s) rfl (by rw [hz]; rfl)

def nameP (l : List Nat) : Bool := decide (l ≠ []) && (decide (l.length ≤ 64) && (decide (l ≠ [46]) && (decide (l ≠ [46, 46]) && !anyK l)))
theorem name_ok (l : List Nat) (hl : Txt l) (s : St) (hw : Wf s) : (lim prog).call f_path_Name [.s l] s = some (.b (nameP l), s) := by
  refine fn_W p_path_Name rfl rfl ?_
  have hc := containsAny_ok l hl s.enter hw.enter
  have hk : ∀ b, b = nameP l → KR s [CT.id] (.b (nameP l)) (some ([.b b], s.enter)) := fun b hb => KR_some (Over.enter s) rfl (by rw [hb]; rfl)
  have h64i : ∀ h : l.length ≤ 64, (((l.length : Nat) : Int) ≤ 64) = True := fun h => by simp; omega
  by_cases h1 : l = []
  · have h1' : (l ≠ []) = False := by simp [h1]
    simp only [c_path_Name, W_seq, W_reg, W_cond, W_blk, W_skip, W_exit, W_ret, W_regD, WO_nil, WO_cons, WO_guard2, wantV_b, bq_tt, bq_ft, bq_tf, bq_ff, Bool.not_true, Bool.not_false, WD_nil, WD_cons, WD_guard2, WS_some, WS_none, KS_n, KS_x, KS_r, KB_n, KB_x, KB_r, KN_ap, KO_ap, KD_ap, KC_nil, KF_n, KF_r, KG_n, KG_r, KL_n, KL_x, KL_r, CP_true, CP_false, evOp, evX, X.ev, optX, put_some, put_none, get_set2, sel_t, sel_f, Nat.reduceBEq, Nat.reduceAdd, Nat.reduceLT, Nat.reduceLeDiff, Nat.reduceEqDiff, reduceIte, if_true, if_false, bi_add, bi_sub, bi_mul, bi_eql, bi_neq, bi_lss, bi_leq, bi_gtr, bi_geq, bs_eql, bs_neq, bs_lss, Am.unOp, ret1, pubL, pubC_agg, pubC_s, pubC_i, pubC_b, pubC_p, pubC_np, pubC_nsl, pubC_ws, pubC_full, pubC_shut, pubC_fn, pubA, initT, wkZ, wk, wants, resOf, tupOf, quiet, AOp.cls, Nat.beq_eq, Bool.or_eq_true, decide_true, decide_false, beq_self_eq_true, Bool.true_or, Bool.or_true, true_and, and_true, lenA, eqv, eqB, eqP, scal, new_box_self, List.getElem?_cons_zero, List.getElem?_cons_succ, key_ii, key_ss, findM, updM, esc_i, esc_s, esc_b, Int.reduceEq, ret1, new_nb, new_set, reduceCtorEq, Bool.xor_true, Bool.xor_false, Bool.false_eq_true, List.all_cons, List.all_nil, noTok, Bool.and_self, Bool.and_true, Bool.true_and, or_true, false_or, h1']
    exact hk _ (by simp [nameP, h1])
  · have h1' : (l ≠ []) = True := by simp [h1]
    by_cases h2 : l.length ≤ 64
    · have h2' := h64i h2
      by_cases h3 : l = [46]
      · have h3' : (l ≠ [46]) = False := by simp [h3]
        simp only [c_path_Name, W_seq, W_reg, W_cond, W_blk, W_skip, W_exit, W_ret, W_regD, WO_nil, WO_cons, WO_guard2, wantV_b, bq_tt, bq_ft, bq_tf, bq_ff, Bool.not_true, Bool.not_false, WD_nil, WD_cons, WD_guard2, WS_some, WS_none, KS_n, KS_x, KS_r, KB_n, KB_x, KB_r, KN_ap, KO_ap, KD_ap, KC_nil, KF_n, KF_r, KG_n, KG_r, KL_n, KL_x, KL_r, CP_true, CP_false, evOp, evX, X.ev, optX, put_some, put_none, get_set2, sel_t, sel_f, Nat.reduceBEq, Nat.reduceAdd, Nat.reduceLT, Nat.reduceLeDiff, Nat.reduceEqDiff, reduceIte, if_true, if_false, bi_add, bi_sub, bi_mul, bi_eql, bi_neq, bi_lss, bi_leq, bi_gtr, bi_geq, bs_eql, bs_neq, bs_lss, Am.unOp, ret1, pubL, pubC_agg, pubC_s, pubC_i, pubC_b, pubC_p, pubC_np, pubC_nsl, pubC_ws, pubC_full, pubC_shut, pubC_fn, pubA, initT, wkZ, wk, wants, resOf, tupOf, quiet, AOp.cls, Nat.beq_eq, Bool.or_eq_true, decide_true, decide_false, beq_self_eq_true, Bool.true_or, Bool.or_true, true_and, and_true, lenA, eqv, eqB, eqP, scal, new_box_self, List.getElem?_cons_zero, List.getElem?_cons_succ, key_ii, key_ss, findM, updM, esc_i, esc_s, esc_b, Int.reduceEq, ret1, new_nb, new_set, reduceCtorEq, Bool.xor_true, Bool.xor_false, Bool.false_eq_true, List.all_cons, List.all_nil, noTok, Bool.and_self, Bool.and_true, Bool.true_and, or_true, false_or, ofNat_len, h1', h2', h3']
        exact hk _ (by simp [nameP, h3])
      · have h3' : (l ≠ [46]) = True := by simp [h3]
        by_cases h4 : l = [46, 46]
        · have h4' : (l ≠ [46, 46]) = False := by simp [h4]
          simp only [c_path_Name, W_seq, W_reg, W_cond, W_blk, W_skip, W_exit, W_ret, W_regD, WO_nil, WO_cons, WO_guard2, wantV_b, bq_tt, bq_ft, bq_tf, bq_ff, Bool.not_true, Bool.not_false, WD_nil, WD_cons, WD_guard2, WS_some, WS_none, KS_n, KS_x, KS_r, KB_n, KB_x, KB_r, KN_ap, KO_ap, KD_ap, KC_nil, KF_n, KF_r, KG_n, KG_r, KL_n, KL_x, KL_r, CP_true, CP_false, evOp, evX, X.ev, optX, put_some, put_none, get_set2, sel_t, sel_f, Nat.reduceBEq, Nat.reduceAdd, Nat.reduceLT, Nat.reduceLeDiff, Nat.reduceEqDiff, reduceIte, if_true, if_false, bi_add, bi_sub, bi_mul, bi_eql, bi_neq, bi_lss, bi_leq, bi_gtr, bi_geq, bs_eql, bs_neq, bs_lss, Am.unOp, ret1, pubL, pubC_agg, pubC_s, pubC_i, pubC_b, pubC_p, pubC_np, pubC_nsl, pubC_ws, pubC_full, pubC_shut, pubC_fn, pubA, initT, wkZ, wk, wants, resOf, tupOf, quiet, AOp.cls, Nat.beq_eq, Bool.or_eq_true, decide_true, decide_false, beq_self_eq_true, Bool.true_or, Bool.or_true, true_and, and_true, lenA, eqv, eqB, eqP, scal, new_box_self, List.getElem?_cons_zero, List.getElem?_cons_succ, key_ii, key_ss, findM, updM, esc_i, esc_s, esc_b, Int.reduceEq, ret1, new_nb, new_set, reduceCtorEq, Bool.xor_true, Bool.xor_false, Bool.false_eq_true, List.all_cons, List.all_nil, noTok, Bool.and_self, Bool.and_true, Bool.true_and, or_true, false_or, ofNat_len, h1', h2', h3', h4']
          exact hk _ (by simp [nameP, h4])
        · have h4' : (l ≠ [46, 46]) = True := by simp [h4]
          simp only [c_path_Name, W_seq, W_reg, W_cond, W_blk, W_skip, W_exit, W_ret, W_regD, WO_nil, WO_cons, WO_guard2, wantV_b, bq_tt, bq_ft, bq_tf, bq_ff, Bool.not_true, Bool.not_false, WD_nil, WD_cons, WD_guard2, WS_some, WS_none, KS_n, KS_x, KS_r, KB_n, KB_x, KB_r, KN_ap, KO_ap, KD_ap, KC_nil, KF_n, KF_r, KG_n, KG_r, KL_n, KL_x, KL_r, CP_true, CP_false, evOp, evX, X.ev, optX, put_some, put_none, get_set2, sel_t, sel_f, Nat.reduceBEq, Nat.reduceAdd, Nat.reduceLT, Nat.reduceLeDiff, Nat.reduceEqDiff, reduceIte, if_true, if_false, bi_add, bi_sub, bi_mul, bi_eql, bi_neq, bi_lss, bi_leq, bi_gtr, bi_geq, bs_eql, bs_neq, bs_lss, Am.unOp, ret1, pubL, pubC_agg, pubC_s, pubC_i, pubC_b, pubC_p, pubC_np, pubC_nsl, pubC_ws, pubC_full, pubC_shut, pubC_fn, pubA, initT, wkZ, wk, wants, resOf, tupOf, quiet, AOp.cls, Nat.beq_eq, Bool.or_eq_true, decide_true, decide_false, beq_self_eq_true, Bool.true_or, Bool.or_true, true_and, and_true, lenA, eqv, eqB, eqP, scal, new_box_self, List.getElem?_cons_zero, List.getElem?_cons_succ, key_ii, key_ss, findM, updM, esc_i, esc_s, esc_b, Int.reduceEq, ret1, new_nb, new_set, reduceCtorEq, Bool.xor_true, Bool.xor_false, Bool.false_eq_true, List.all_cons, List.all_nil, noTok, Bool.and_self, Bool.and_true, Bool.true_and, or_true, false_or, ofNat_len, h1', h2', h3', h4', hc]
          exact hk _ (by simp [nameP, h1, h2, h3, h4])
    · have h2' : (((l.length : Nat) : Int) ≤ 64) = False := by simp; omega
      simp only [c_path_Name, W_seq, W_reg, W_cond, W_blk, W_skip, W_exit, W_ret, W_regD, WO_nil, WO_cons, WO_guard2, wantV_b, bq_tt, bq_ft, bq_tf, bq_ff, Bool.not_true, Bool.not_false, WD_nil, WD_cons, WD_guard2, WS_some, WS_none, KS_n, KS_x, KS_r, KB_n, KB_x, KB_r, KN_ap, KO_ap, KD_ap, KC_nil, KF_n, KF_r, KG_n, KG_r, KL_n, KL_x, KL_r, CP_true, CP_false, evOp, evX, X.ev, optX, put_some, put_none, get_set2, sel_t, sel_f, Nat.reduceBEq, Nat.reduceAdd, Nat.reduceLT, Nat.reduceLeDiff, Nat.reduceEqDiff, reduceIte, if_true, if_false, bi_add, bi_sub, bi_mul, bi_eql, bi_neq, bi_lss, bi_leq, bi_gtr, bi_geq, bs_eql, bs_neq, bs_lss, Am.unOp, ret1, pubL, pubC_agg, pubC_s, pubC_i, pubC_b, pubC_p, pubC_np, pubC_nsl, pubC_ws, pubC_full, pubC_shut, pubC_fn, pubA, initT, wkZ, wk, wants, resOf, tupOf, quiet, AOp.cls, Nat.beq_eq, Bool.or_eq_true, decide_true, decide_false, beq_self_eq_true, Bool.true_or, Bool.or_true, true_and, and_true, lenA, eqv, eqB, eqP, scal, new_box_self, List.getElem?_cons_zero, List.getElem?_cons_succ, key_ii, key_ss, findM, updM, esc_i, esc_s, esc_b, Int.reduceEq, ret1, new_nb, new_set, reduceCtorEq, Bool.xor_true, Bool.xor_false, Bool.false_eq_true, List.all_cons, List.all_nil, noTok, Bool.and_self, Bool.and_true, Bool.true_and, or_true, false_or, ofNat_len, h1', h2']
      exact hk _ (by simp [nameP, h2])
end Go.Proofs.YtfaodjpibdhdjaaDoor

/-
  Iterators over the pieces of a text.
-/
set_option maxRecDepth 100000
set_option linter.unusedSimpArgs false
set_option linter.constructorNameAsVariable false
namespace Go.Proofs.YtfaodjpibdhdjaaDoor
open Go.Proofs.YtfaodjpibdhdjaaDoor.Am

/-- The pieces between the slashes. -/
def segs : List Nat → List Nat → List (List Nat)
  | cur, [] => [cur]
  | cur, c :: l => if c = 47 then cur :: segs [] l else segs (cur ++ [c]) l
def splitL (l : List Nat) : List (List Nat) := segs [] l
theorem segs_none : ∀ {l cur : List Nat}, 47 ∉ l → segs cur l = [cur ++ l]
  | [], cur, _ => by simp [segs]
  | c :: l, cur, h => by
    simp only [List.mem_cons, not_or] at h
    unfold segs
    rw [if_neg (Ne.symm h.1), segs_none h.2]
    simp
theorem segs_cut : ∀ {a cur b : List Nat}, 47 ∉ a → segs cur (a ++ 47 :: b) = (cur ++ a) :: segs [] b
  | [], cur, b, _ => by simp [segs]
  | c :: a, cur, b, h => by
    simp only [List.mem_cons, not_or] at h
    show (if c = 47 then cur :: segs [] (a ++ 47 :: b) else segs (cur ++ [c]) (a ++ 47 :: b)) = _
    rw [if_neg (Ne.symm h.1), segs_cut h.2]
    simp
theorem split_none {l : List Nat} (h : 47 ∉ l) : splitL l = [l] := by unfold splitL; rw [segs_none h]; rfl
theorem split_cut {a b : List Nat} (h : 47 ∉ a) : splitL (a ++ 47 :: b) = a :: splitL b := by unfold splitL; rw [segs_cut h]; rfl
theorem cut_of {l : List Nat} (h : 47 ∈ l) : ∃ a b, l = a ++ 47 :: b ∧ 47 ∉ a := by
  induction l with
  | nil => simp at h
  | cons c l ih =>
    by_cases hc : c = 47
    · exact ⟨[], l, by simp [hc], by simp⟩
    · obtain ⟨a, b, rfl, h2⟩ := ih (by simpa [Ne.symm hc] using h)
      exact ⟨c :: a, b, rfl, by simp [Ne.symm hc, h2]⟩

theorem leave_refs {s s1 : St} {v : AV} (h : v.refs = true) : leave s s1 v = { s1 with lo := min s.lo s1.lo } := by
  unfold Am.leave
  rw [h, Bool.not_true, Bool.and_false, if_neg (by simp)]

theorem splitSeq_ok (l : List Nat) (s : St) : (lim prog).call f_strings_splitSeq [.s l, .s [47], .i .i64 0] s =
    some (.fn f_strings_splitSeq_1 [.p (s.nb + 1) 0, .p s.nb 0, .p (s.nb + 2) 0], { ((s.new (.cells 9 [.s l])).new (.cells 9 [.s [47]])).new (.cells 3 [.i .i64 0]) with lo := min s.lo s.nb }) := by
  obtain ⟨r, s', h, rfl, rfl⟩ := fn_G (f := f_strings_splitSeq) (args := [.s l, .s [47], .i .i64 0]) (s := s) (Post := fun r s' => r = .fn f_strings_splitSeq_1 [.p (s.nb + 1) 0, .p s.nb 0, .p (s.nb + 2) 0] ∧ s' = { ((s.new (.cells 9 [.s l])).new (.cells 9 [.s [47]])).new (.cells 3 [.i .i64 0]) with lo := min s.lo s.nb }) p_strings_splitSeq rfl rfl (by
    have c1 : (AV.s l).cells = [.s l] := rfl
    have c2 : (AV.s [47]).cells = [.s [47]] := rfl
    have c3 : (AV.i .i64 0).cells = [.i .i64 0] := rfl
    have hl1 : ∀ a : AV, [a].length = 1 := fun _ => rfl
    simp only [c_strings_splitSeq, W_seq, W_reg, W_cond, W_blk, W_skip, W_exit, W_ret, W_regD, WO_nil, WO_cons, WO_guard2, wantV_b, bq_tt, bq_ft, bq_tf, bq_ff, Bool.not_true, Bool.not_false, WD_nil, WD_cons, WD_guard2, WS_some, WS_none, KS_n, KS_x, KS_r, KB_n, KB_x, KB_r, KN_ap, KO_ap, KD_ap, KC_nil, KF_n, KF_r, KG_n, KG_r, KL_n, KL_x, KL_r, CP_true, CP_false, evOp, evX, X.ev, optX, put_some, put_none, get_set2, sel_t, sel_f, Nat.reduceBEq, Nat.reduceAdd, Nat.reduceLT, Nat.reduceLeDiff, Nat.reduceEqDiff, reduceIte, if_true, if_false, bi_add, bi_sub, bi_mul, bi_eql, bi_neq, bi_lss, bi_leq, bi_gtr, bi_geq, bs_eql, bs_neq, bs_lss, Am.unOp, ret1, pubL, pubC_agg, pubC_s, pubC_i, pubC_b, pubC_p, pubC_np, pubC_nsl, pubC_ws, pubC_full, pubC_shut, pubC_fn, pubA, initT, wkZ, wk, wants, resOf, tupOf, quiet, AOp.cls, Nat.beq_eq, Bool.or_eq_true, decide_true, decide_false, beq_self_eq_true, Bool.true_or, Bool.or_true, true_and, and_true, lenA, eqv, eqB, eqP, scal, new_box_self, List.getElem?_cons_zero, List.getElem?_cons_succ, key_ii, key_ss, findM, updM, esc_i, esc_s, esc_b, Int.reduceEq, ret1, new_nb, new_set, reduceCtorEq, Bool.xor_true, Bool.xor_false, Bool.false_eq_true, List.all_cons, List.all_nil, noTok, Bool.and_self, Bool.and_true, Bool.true_and, or_true, false_or, c1, c2, c3, hl1]
    exact ⟨_, _, rfl, rfl, leave_refs rfl⟩)
  exact h
theorem SplitSeq_ok (l : List Nat) (s : St) : (lim prog).call f_strings_SplitSeq [.s l, .s [47]] s =
    some (.fn f_strings_splitSeq_1 [.p (s.nb + 1) 0, .p s.nb 0, .p (s.nb + 2) 0], { ((s.new (.cells 9 [.s l])).new (.cells 9 [.s [47]])).new (.cells 3 [.i .i64 0]) with lo := min s.lo s.nb }) := by
  obtain ⟨r, s', h, rfl, rfl⟩ := fn_G (f := f_strings_SplitSeq) (args := [.s l, .s [47]]) (s := s) (Post := fun r s' => r = .fn f_strings_splitSeq_1 [.p (s.nb + 1) 0, .p s.nb 0, .p (s.nb + 2) 0] ∧ s' = { ((s.new (.cells 9 [.s l])).new (.cells 9 [.s [47]])).new (.cells 3 [.i .i64 0]) with lo := min s.lo s.nb }) p_strings_SplitSeq rfl rfl (by
    simp only [c_strings_SplitSeq, W_seq, W_reg, W_cond, W_blk, W_skip, W_exit, W_ret, W_regD, WO_nil, WO_cons, WO_guard2, wantV_b, bq_tt, bq_ft, bq_tf, bq_ff, Bool.not_true, Bool.not_false, WD_nil, WD_cons, WD_guard2, WS_some, WS_none, KS_n, KS_x, KS_r, KB_n, KB_x, KB_r, KN_ap, KO_ap, KD_ap, KC_nil, KF_n, KF_r, KG_n, KG_r, KL_n, KL_x, KL_r, CP_true, CP_false, evOp, evX, X.ev, optX, put_some, put_none, get_set2, sel_t, sel_f, Nat.reduceBEq, Nat.reduceAdd, Nat.reduceLT, Nat.reduceLeDiff, Nat.reduceEqDiff, reduceIte, if_true, if_false, bi_add, bi_sub, bi_mul, bi_eql, bi_neq, bi_lss, bi_leq, bi_gtr, bi_geq, bs_eql, bs_neq, bs_lss, Am.unOp, ret1, pubL, pubC_agg, pubC_s, pubC_i, pubC_b, pubC_p, pubC_np, pubC_nsl, pubC_ws, pubC_full, pubC_shut, pubC_fn, pubA, initT, wkZ, wk, wants, resOf, tupOf, quiet, AOp.cls, Nat.beq_eq, Bool.or_eq_true, decide_true, decide_false, beq_self_eq_true, Bool.true_or, Bool.or_true, true_and, and_true, lenA, eqv, eqB, eqP, scal, new_box_self, List.getElem?_cons_zero, List.getElem?_cons_succ, key_ii, key_ss, findM, updM, esc_i, esc_s, esc_b, Int.reduceEq, ret1, new_nb, new_set, reduceCtorEq, Bool.xor_true, Bool.xor_false, Bool.false_eq_true, List.all_cons, List.all_nil, noTok, Bool.and_self, Bool.and_true, Bool.true_and, or_true, false_or, splitSeq_ok l]
    refine ⟨_, _, rfl, rfl, ?_⟩
    refine (leave_refs rfl).trans ?_
    show ({ ((s.enter.new (.cells 9 [.s l])).new (.cells 9 [.s [47]])).new (.cells 3 [.i .i64 0]) with lo := min s.lo (min s.nb s.nb) } : St) = _
    rw [Nat.min_self]
    rfl)
  exact h

theorem bounds_oi {len b : Nat} (h2 : b ≤ len) : bounds len none (some (.i .i64 (b : Int))) = some (0, b) := by
  unfold bounds
  simp [natOf]
  omega
theorem bounds_io {len a : Nat} (h2 : a ≤ len) : bounds len (some (.i .i64 (a : Int))) none = some (a, len) := by
  unfold bounds
  simp [natOf]
  omega

theorem splitIter {a b c : Nat} {l : List Nat} (hl : Txt l) {s : St} (ha : s.box? a = some (.cells 9 [.s [47]])) (hb : s.box? b = some (.cells 9 [.s l])) (hc : s.box? c = some (.cells 3 [.i .i64 0])) (hab : a ≠ b) (hcb : c ≠ b) (la : a < s.nb) (lb : b < s.nb) (lc : c < s.nb) :
    IterOk prog (fun j => j = a ∨ j = b ∨ j = c) b f_strings_splitSeq_1 [.p a 0, .p b 0, .p c 0] ((splitL l).map .s) s := by
  intro s0 h tB ky I R B hI hov hw hh ht h0 h0b
  obtain ⟨r, s', hcall, rfl, hres⟩ := fn_G (f := f_strings_splitSeq_1) (args := [.yld ky, .p a 0, .p b 0, .p c 0]) (s := s) (Post := fun r s' => r = .tup [] ∧ Over s0 s' ∧ Wf s' ∧ s.nb ≤ s'.nb ∧ s.nt ≤ s'.nt ∧ (I (splitL l).length s' ∨ R s')) p_strings_splitSeq_1 rfl rfl (by
    have hend : ∀ q, Over s0 q → Wf q → s.nb ≤ q.nb → s.nt ≤ q.nt → (I (splitL l).length q ∨ R q) → KH s [] (fun r s' => r = .tup [] ∧ Over s0 s' ∧ Wf s' ∧ s.nb ≤ s'.nb ∧ s.nt ≤ s'.nt ∧ (I (splitL l).length s' ∨ R s')) (some ([], q)) := fun q k1 k2 k3 k4 k5 => by
      obtain ⟨f1, f2, f3, f4, f5⟩ := leave_fr (O := fun j => j = a ∨ j = b ∨ j = c) (h := h) (tB := tB) (v := .tup []) k2 hh k3 k4 ht rfl
      refine ⟨_, _, rfl, rfl, f5 s0 hov k1, f2, f3, f4, k5.imp (fun k => B.stab _ _ _ k f1) fun k => B.stabR _ _ k f1⟩
    have hl1 : ((((List.length [47] : Nat)) : Int) = 0) = False := by simp
    have ld_a := ld_box (s := s.enter) (v := .s [47]) (off := 0) ha rfl
    simp only [c_strings_splitSeq_1, W_seq, W_reg, W_cond, W_blk, W_skip, W_exit, W_ret, W_regD, WO_nil, WO_cons, WO_guard2, wantV_b, bq_tt, bq_ft, bq_tf, bq_ff, Bool.not_true, Bool.not_false, WD_nil, WD_cons, WD_guard2, WS_some, WS_none, KS_n, KS_x, KS_r, KB_n, KB_x, KB_r, KN_ap, KO_ap, KD_ap, KC_nil, KF_n, KF_r, KG_n, KG_r, KL_n, KL_x, KL_r, CP_true, CP_false, evOp, evX, X.ev, optX, put_some, put_none, get_set2, sel_t, sel_f, Nat.reduceBEq, Nat.reduceAdd, Nat.reduceLT, Nat.reduceLeDiff, Nat.reduceEqDiff, reduceIte, if_true, if_false, bi_add, bi_sub, bi_mul, bi_eql, bi_neq, bi_lss, bi_leq, bi_gtr, bi_geq, bs_eql, bs_neq, bs_lss, Am.unOp, ret1, pubL, pubC_agg, pubC_s, pubC_i, pubC_b, pubC_p, pubC_np, pubC_nsl, pubC_ws, pubC_full, pubC_shut, pubC_fn, pubA, initT, wkZ, wk, wants, resOf, tupOf, quiet, AOp.cls, Nat.beq_eq, Bool.or_eq_true, decide_true, decide_false, beq_self_eq_true, Bool.true_or, Bool.or_true, true_and, and_true, lenA, eqv, eqB, eqP, scal, new_box_self, List.getElem?_cons_zero, List.getElem?_cons_succ, key_ii, key_ss, findM, updM, esc_i, esc_s, esc_b, Int.reduceEq, ret1, new_nb, new_set, reduceCtorEq, Bool.xor_true, Bool.xor_false, Bool.false_eq_true, List.all_cons, List.all_nil, noTok, Bool.and_self, Bool.and_true, Bool.true_and, or_true, false_or, ld_a, ofNat_len, hl1]
    refine W_loop (fun n e q => ∃ (j : Nat) (rest : List Nat), rest.length ≤ n ∧ splitL rest = (splitL l).drop j ∧ Txt rest ∧ I j q ∧ Over s0 q ∧ Wf q ∧ s.nb ≤ q.nb ∧ s.nt ≤ q.nt ∧ q.box? a = some (.cells 9 [.s [47]]) ∧ q.box? b = some (.cells 9 [.s rest]) ∧ q.box? c = some (.cells 3 [.i .i64 0]) ∧
      e.get 0 = .yld ky ∧ e.get 1 = .p a 0 ∧ e.get 2 = .p b 0 ∧ e.get 3 = .p c 0) ?_ l.length _ _ ?_
    · rintro n e q ⟨j, rest, hn, hsp, hr, hIj, hovq, hwq, hnb, hnt, ba, bb, bc, g0, g1, g2, g3⟩
      have lda := ld_box (s := q) (v := .s [47]) (off := 0) ba rfl
      have ldb := ld_box (s := q) (v := .s rest) (off := 0) bb rfl
      have ldc := ld_box (s := q) (v := .i .i64 0) (off := 0) bc rfl
      have hix := index_ok rest 47 (by decide) q
      have hlen := hr.len
      by_cases hm : 47 ∈ rest
      · obtain ⟨x, z, hxz, hx⟩ := cut_of hm
        have hi : idxB 47 0 rest = (x.length : Int) := by rw [hxz, idxB_app hx, Nat.zero_add]
        rw [hi] at hix
        have hle : x.length + 1 + z.length = rest.length := by rw [hxz]; simp; omega
        have hlt : ((x.length : Int) < 0) = False := eq_false (by omega)
        have hadd0 : IntKind.i64.wrap ((x.length : Int) + 0) = (x.length : Int) := by rw [Int.add_zero, wrap_nat (by omega)]
        have htk : ((rest.drop 0).take (x.length - 0)) = x := by rw [hxz]; simp
        have hdk : ((rest.drop (x.length + 1)).take (rest.length - (x.length + 1))) = z := by
          rw [hxz, show x.length + 1 = (x ++ [47]).length by simp, show x ++ 47 :: z = (x ++ [47]) ++ z by simp, List.drop_left]
          exact List.take_of_length_le (by simp; omega)
        have hsp2 : x :: splitL z = (splitL l).drop j := by rw [← hsp, hxz, split_cut hx]
        have hjlt : j < (splitL l).length := by
          have := congrArg List.length hsp2
          simp at this; omega
        have hLj : ((splitL l).map AV.s)[j]'(by simpa using hjlt) = .s x := by
          rw [List.getElem_map]
          rw [List.drop_eq_getElem_cons hjlt] at hsp2
          rw [(List.cons.inj hsp2).1]
        have hdz : splitL z = (splitL l).drop (j + 1) := by
          rw [List.drop_eq_getElem_cons hjlt] at hsp2
          exact (List.cons.inj hsp2).2
        obtain ⟨bb2, q', hstep, ht1, hf1, hov1, hw1, hnb1, hnt1, hkeep⟩ := B.step j (by simpa using hjlt) q hIj hovq hwq (by omega) (by omega)
        rw [hLj] at hstep
        have ba' : q'.box? a = some (.cells 9 [.s [47]]) := by rw [hkeep a (.inl (.inl rfl)) (by omega)]; exact ba
        have bb' : q'.box? b = some (.cells 9 [.s rest]) := by rw [hkeep b (.inl (.inr (.inl rfl))) (by omega)]; exact bb
        have bc' : q'.box? c = some (.cells 3 [.i .i64 0]) := by rw [hkeep c (.inl (.inr (.inr rfl))) (by omega)]; exact bc
        have ldb' := ld_box (s := q') (v := .s rest) (off := 0) bb' rfl
        have lda' := ld_box (s := q') (v := .s [47]) (off := 0) ba' rfl
        have hz : Txt z := ⟨fun n hn => hr.lt n (by rw [hxz]; simp [hn]), by omega⟩
        have est := st_box (s := q') (v := .s z) (off := 0) bb' rfl rfl (by simp)
        have hes : esc (q'.setBox b (.cells 9 ([AV.s rest].set 0 (.s z)))) b (.s z) = q'.setBox b (.cells 9 [.s z]) := rfl
        rw [hes] at est
        have hb1 : IntKind.i64.wrap ((x.length : Int) + 1) = ((x.length + 1 : Nat) : Int) := wrap_succ (by omega)
        cases bb2 with
        | true =>
          have fr := Fr.setBox (O := fun j => j = a ∨ j = b ∨ j = c) (h := h) (tB := tB) hw1 (by omega) (.inr (.inr (.inl rfl))) (show b < q'.nb by omega) (.cells 9 [.s z])
          have bx : ∀ i, (q'.setBox b (.cells 9 [.s z])).box? i = if i = b then some (.cells 9 [.s z]) else q'.box? i := fun i => setBox_box? hw1.b (by omega) i
          simp only [W_seq, W_reg, W_cond, W_blk, W_skip, W_exit, W_ret, W_regD, WO_nil, WO_cons, WO_guard2, wantV_b, bq_tt, bq_ft, bq_tf, bq_ff, Bool.not_true, Bool.not_false, WD_nil, WD_cons, WD_guard2, WS_some, WS_none, KS_n, KS_x, KS_r, KB_n, KB_x, KB_r, KN_ap, KO_ap, KD_ap, KC_nil, KF_n, KF_r, KG_n, KG_r, KL_n, KL_x, KL_r, CP_true, CP_false, evOp, evX, X.ev, optX, put_some, put_none, get_set2, sel_t, sel_f, Nat.reduceBEq, Nat.reduceAdd, Nat.reduceLT, Nat.reduceLeDiff, Nat.reduceEqDiff, reduceIte, if_true, if_false, bi_add, bi_sub, bi_mul, bi_eql, bi_neq, bi_lss, bi_leq, bi_gtr, bi_geq, bs_eql, bs_neq, bs_lss, Am.unOp, ret1, pubL, pubC_agg, pubC_s, pubC_i, pubC_b, pubC_p, pubC_np, pubC_nsl, pubC_ws, pubC_full, pubC_shut, pubC_fn, pubA, initT, wkZ, wk, wants, resOf, tupOf, quiet, AOp.cls, Nat.beq_eq, Bool.or_eq_true, decide_true, decide_false, beq_self_eq_true, Bool.true_or, Bool.or_true, true_and, and_true, lenA, eqv, eqB, eqP, scal, new_box_self, List.getElem?_cons_zero, List.getElem?_cons_succ, key_ii, key_ss, findM, updM, esc_i, esc_s, esc_b, Int.reduceEq, ret1, new_nb, new_set, reduceCtorEq, Bool.xor_true, Bool.xor_false, Bool.false_eq_true, List.all_cons, List.all_nil, noTok, Bool.and_self, Bool.and_true, Bool.true_and, or_true, false_or, Nat.zero_add, g0, g1, g2, g3, lda, ldb, ldc, hix, hlt, hadd0, bounds_oi (show x.length ≤ rest.length by omega), htk, hstep, lda', ldb', List.length_cons, List.length_nil, ofNat_len, Int.cast_ofNat_Int, hb1, bounds_io (show x.length + 1 ≤ rest.length by omega), hdk, est]
          refine ⟨z.length, by omega, j + 1, z, Nat.le_refl _, hdz, hz, B.stab _ _ _ (ht1 rfl) fr, ?_, hw1.setBox _ _, by show s.nb ≤ q'.nb; omega, by show s.nt ≤ q'.nt; omega, ?_, ?_, ?_⟩
          · exact Over.setBox hov1 h0b (by omega) _
          · rw [bx, if_neg hab]; exact ba'
          · rw [bx, if_pos rfl]
          · rw [bx, if_neg hcb]; exact bc'
        | false =>
          simp only [W_seq, W_reg, W_cond, W_blk, W_skip, W_exit, W_ret, W_regD, WO_nil, WO_cons, WO_guard2, wantV_b, bq_tt, bq_ft, bq_tf, bq_ff, Bool.not_true, Bool.not_false, WD_nil, WD_cons, WD_guard2, WS_some, WS_none, KS_n, KS_x, KS_r, KB_n, KB_x, KB_r, KN_ap, KO_ap, KD_ap, KC_nil, KF_n, KF_r, KG_n, KG_r, KL_n, KL_x, KL_r, CP_true, CP_false, evOp, evX, X.ev, optX, put_some, put_none, get_set2, sel_t, sel_f, Nat.reduceBEq, Nat.reduceAdd, Nat.reduceLT, Nat.reduceLeDiff, Nat.reduceEqDiff, reduceIte, if_true, if_false, bi_add, bi_sub, bi_mul, bi_eql, bi_neq, bi_lss, bi_leq, bi_gtr, bi_geq, bs_eql, bs_neq, bs_lss, Am.unOp, ret1, pubL, pubC_agg, pubC_s, pubC_i, pubC_b, pubC_p, pubC_np, pubC_nsl, pubC_ws, pubC_full, pubC_shut, pubC_fn, pubA, initT, wkZ, wk, wants, resOf, tupOf, quiet, AOp.cls, Nat.beq_eq, Bool.or_eq_true, decide_true, decide_false, beq_self_eq_true, Bool.true_or, Bool.or_true, true_and, and_true, lenA, eqv, eqB, eqP, scal, new_box_self, List.getElem?_cons_zero, List.getElem?_cons_succ, key_ii, key_ss, findM, updM, esc_i, esc_s, esc_b, Int.reduceEq, ret1, new_nb, new_set, reduceCtorEq, Bool.xor_true, Bool.xor_false, Bool.false_eq_true, List.all_cons, List.all_nil, noTok, Bool.and_self, Bool.and_true, Bool.true_and, or_true, false_or, Nat.zero_add, g0, g1, g2, g3, lda, ldb, ldc, hix, hlt, hadd0, bounds_oi (show x.length ≤ rest.length by omega), htk, hstep]
          exact hend q' hov1 hw1 (by omega) (by omega) (.inr (hf1 rfl))
      · have hi : idxB 47 0 rest = -1 := idxB_miss hm
        rw [hi] at hix
        have hlt : ((-1 : Int) < 0) = True := by simp
        have hsp2 : [rest] = (splitL l).drop j := by rw [← hsp, split_none hm]
        have hjlen := congrArg List.length hsp2
        simp only [List.length_cons, List.length_nil, List.length_drop] at hjlen
        have hjlt : j < (splitL l).length := by omega
        have hLj : ((splitL l).map AV.s)[j]'(by simpa using hjlt) = .s rest := by
          rw [List.getElem_map]
          rw [List.drop_eq_getElem_cons hjlt] at hsp2
          rw [(List.cons.inj hsp2).1]
        obtain ⟨bb2, q', hstep, ht1, hf1, hov1, hw1, hnb1, hnt1, hkeep⟩ := B.step j (by simpa using hjlt) q hIj hovq hwq (by omega) (by omega)
        rw [hLj] at hstep
        simp only [W_seq, W_reg, W_cond, W_blk, W_skip, W_exit, W_ret, W_regD, WO_nil, WO_cons, WO_guard2, wantV_b, bq_tt, bq_ft, bq_tf, bq_ff, Bool.not_true, Bool.not_false, WD_nil, WD_cons, WD_guard2, WS_some, WS_none, KS_n, KS_x, KS_r, KB_n, KB_x, KB_r, KN_ap, KO_ap, KD_ap, KC_nil, KF_n, KF_r, KG_n, KG_r, KL_n, KL_x, KL_r, CP_true, CP_false, evOp, evX, X.ev, optX, put_some, put_none, get_set2, sel_t, sel_f, Nat.reduceBEq, Nat.reduceAdd, Nat.reduceLT, Nat.reduceLeDiff, Nat.reduceEqDiff, reduceIte, if_true, if_false, bi_add, bi_sub, bi_mul, bi_eql, bi_neq, bi_lss, bi_leq, bi_gtr, bi_geq, bs_eql, bs_neq, bs_lss, Am.unOp, ret1, pubL, pubC_agg, pubC_s, pubC_i, pubC_b, pubC_p, pubC_np, pubC_nsl, pubC_ws, pubC_full, pubC_shut, pubC_fn, pubA, initT, wkZ, wk, wants, resOf, tupOf, quiet, AOp.cls, Nat.beq_eq, Bool.or_eq_true, decide_true, decide_false, beq_self_eq_true, Bool.true_or, Bool.or_true, true_and, and_true, lenA, eqv, eqB, eqP, scal, new_box_self, List.getElem?_cons_zero, List.getElem?_cons_succ, key_ii, key_ss, findM, updM, esc_i, esc_s, esc_b, Int.reduceEq, ret1, new_nb, new_set, reduceCtorEq, Bool.xor_true, Bool.xor_false, Bool.false_eq_true, List.all_cons, List.all_nil, noTok, Bool.and_self, Bool.and_true, Bool.true_and, or_true, false_or, Nat.zero_add, g0, g1, g2, g3, lda, ldb, ldc, hix, hlt, hstep]
        refine hend q' hov1 hw1 (by omega) (by omega) ?_
        cases bb2 with
        | true => exact .inl (by have := ht1 rfl; rwa [show j + 1 = (splitL l).length by omega] at this)
        | false => exact .inr (hf1 rfl)
    · simp only [W_seq, W_reg, W_cond, W_blk, W_skip, W_exit, W_ret, W_regD, WO_nil, WO_cons, WO_guard2, wantV_b, bq_tt, bq_ft, bq_tf, bq_ff, Bool.not_true, Bool.not_false, WD_nil, WD_cons, WD_guard2, WS_some, WS_none, KS_n, KS_x, KS_r, KB_n, KB_x, KB_r, KN_ap, KO_ap, KD_ap, KC_nil, KF_n, KF_r, KG_n, KG_r, KL_n, KL_x, KL_r, CP_true, CP_false, evOp, evX, X.ev, optX, put_some, put_none, get_set2, sel_t, sel_f, Nat.reduceBEq, Nat.reduceAdd, Nat.reduceLT, Nat.reduceLeDiff, Nat.reduceEqDiff, reduceIte, if_true, if_false, bi_add, bi_sub, bi_mul, bi_eql, bi_neq, bi_lss, bi_leq, bi_gtr, bi_geq, bs_eql, bs_neq, bs_lss, Am.unOp, ret1, pubL, pubC_agg, pubC_s, pubC_i, pubC_b, pubC_p, pubC_np, pubC_nsl, pubC_ws, pubC_full, pubC_shut, pubC_fn, pubA, initT, wkZ, wk, wants, resOf, tupOf, quiet, AOp.cls, Nat.beq_eq, Bool.or_eq_true, decide_true, decide_false, beq_self_eq_true, Bool.true_or, Bool.or_true, true_and, and_true, lenA, eqv, eqB, eqP, scal, new_box_self, List.getElem?_cons_zero, List.getElem?_cons_succ, key_ii, key_ss, findM, updM, esc_i, esc_s, esc_b, Int.reduceEq, ret1, new_nb, new_set, reduceCtorEq, Bool.xor_true, Bool.xor_false, Bool.false_eq_true, List.all_cons, List.all_nil, noTok, Bool.and_self, Bool.and_true, Bool.true_and, or_true, false_or]
      exact ⟨0, l, Nat.le_refl _, rfl, hl, B.stab0 _ _ hI (Fr0.enter hh), hov.toEnter, hw.enter, Nat.le_refl _, Nat.le_refl _, ha, hb, hc⟩)
  obtain ⟨k1, k2, k3, k4, k5⟩ := hres
  exact ⟨s', hcall, k1, k2, k3, k4, by simpa using k5⟩
end Go.Proofs.YtfaodjpibdhdjaaDoor

/-
  Steps of a path: the iterator.
-/
set_option maxRecDepth 100000
set_option linter.unusedSimpArgs false
set_option linter.constructorNameAsVariable false
namespace Go.Proofs.YtfaodjpibdhdjaaDoor
open Go.Proofs.YtfaodjpibdhdjaaDoor.Am

def stepOk (x : List Nat) : Bool := decide (x ≠ []) && decide (x ≠ [46])
def stepsL (l : List Nat) : List (List Nat) := (splitL l).filter stepOk
def cnt (l : List Nat) (j : Nat) : Nat := (((splitL l).take j).filter stepOk).length
theorem cnt_zero (l : List Nat) : cnt l 0 = 0 := rfl
theorem cnt_all (l : List Nat) : cnt l (splitL l).length = (stepsL l).length := by unfold cnt stepsL; rw [List.take_length]
theorem cnt_no {l : List Nat} {j : Nat} (hj : j < (splitL l).length) (h : stepOk (splitL l)[j] = false) : cnt l (j + 1) = cnt l j := by
  unfold cnt
  rw [List.take_succ_eq_append_getElem hj, List.filter_append]
  simp [h]
theorem cnt_yes {l : List Nat} {j : Nat} (hj : j < (splitL l).length) (h : stepOk (splitL l)[j] = true) : cnt l (j + 1) = cnt l j + 1 := by
  unfold cnt
  rw [List.take_succ_eq_append_getElem hj, List.filter_append]
  simp [h]
theorem step_at {l : List Nat} {j : Nat} (hj : j < (splitL l).length) (h : stepOk (splitL l)[j] = true) : ∃ hc : cnt l j < (stepsL l).length, (stepsL l)[cnt l j] = (splitL l)[j] := by
  have h1 : stepsL l = ((splitL l).take j).filter stepOk ++ (splitL l)[j] :: ((splitL l).drop (j + 1)).filter stepOk := by
    unfold stepsL
    conv => lhs; rw [← List.take_append_drop j (splitL l), List.drop_eq_getElem_cons hj, List.filter_append, List.filter_cons, if_pos h]
  have h2 : cnt l j = (((splitL l).take j).filter stepOk).length := rfl
  refine ⟨by rw [h1, h2]; simp, ?_⟩
  simp only [h1, h2]
  simp

abbrev stA1 : C := subC c_path_steps_1.body [1, 1, 0, 0]
abbrev stC1 : C := subC c_path_steps_1.body [1, 1, 0, 1]

theorem stepsBody {O : Nat → Prop} {O1 : Nat → Prop} {s0 : St} {h tB k1 idy ky : Nat} {l : List Nat} {I : Nat → St → Prop} {R : St → Prop} {e : Tr} (B : Body prog O s0 h tB (.yld ky) ((stepsL l).map .s) I R) (hk1 : h ≤ k1) (hy1 : idy < k1) (hyh : h ≤ idy)
    (hO1 : ∀ j, O1 j → h ≤ j ∧ j < k1 ∧ j ≠ idy) (h0 : s0.nb ≤ k1) (g2 : e.get 2 = .p idy 0) :
    Body prog O1 s0 (k1 + 1) tB (.yld k1) ((splitL l).map .s) (fun j q => I (cnt l j) q ∧ q.box? k1 = some (.loop 0 none e [6] stA1 stC1) ∧ q.box? idy = some (.cells 26 [.yld ky])) (fun q => R q ∧ ∃ tm ps a b, q.box? k1 = some (.loop 2 (some .ret) tm ps a b)) where
  stab := fun j q q' ⟨h1, h2, h3⟩ f => ⟨B.stab _ _ _ h1 (f.weaken (by omega) fun j hj ho => absurd (hO1 j ho).1 (by omega)), by rw [f.box k1 (by omega) fun ho => absurd (hO1 _ ho).2.1 (by omega)]; exact h2, by rw [f.box idy (by omega) fun ho => (hO1 _ ho).2.2 rfl]; exact h3⟩
  stab0 := fun q q' ⟨h1, h2, h3⟩ f => ⟨by rw [cnt_zero] at h1 ⊢; exact B.stab0 _ _ h1 (f.weaken (by omega) fun j hj ho => absurd (hO1 j ho).1 (by omega)), by rw [f.box k1 (by omega) fun ho => absurd (hO1 _ ho).2.1 (by omega)]; exact h2, by rw [f.box idy (by omega) fun ho => (hO1 _ ho).2.2 rfl]; exact h3⟩
  stabR := fun q q' ⟨h1, tm, ps, a, b, h2⟩ f => ⟨B.stabR _ _ h1 (f.weaken (by omega) fun j hj ho => absurd (hO1 j ho).1 (by omega)), tm, ps, a, b, by rw [f.box k1 (by omega) fun ho => absurd (hO1 _ ho).2.1 (by omega)]; exact h2⟩
  step := by
    intro j hj q ⟨hI, hk, hyb⟩ hov hw hh ht
    have hj' : j < (splitL l).length := by simpa using hj
    have hLj : ((splitL l).map AV.s)[j] = .s (splitL l)[j] := by simp
    rw [hLj]
    obtain ⟨x, hx⟩ : ∃ x, (splitL l)[j] = x := ⟨_, rfl⟩
    obtain ⟨q1, hq1⟩ : ∃ q1, q.setBox k1 (.loop 1 none e [6] stA1 stC1) = q1 := ⟨_, rfl⟩
    have w1 : Wf q1 := by rw [← hq1]; exact hw.setBox _ _
    have nb1 : q1.nb = q.nb ∧ q1.nt = q.nt := by rw [← hq1]; exact ⟨rfl, rfl⟩
    have bx1 : ∀ i, q1.box? i = if i = k1 then some (.loop 1 none e [6] stA1 stC1) else q.box? i := fun i => by rw [← hq1]; exact setBox_box? hw.b (by omega) i
    have fr1 : Fr O h tB q q1 := by rw [← hq1]; exact Fr.setBox hw (by omega) (.inl hk1) (by omega) _
    have ov1 : Over s0 q1 := by rw [← hq1]; exact Over.setBox hov h0 (by omega) _
    have hyb1 : q1.box? idy = some (.cells 26 [.yld ky]) := by rw [bx1, if_neg (by omega)]; exact hyb
    have ldy := ld_box (s := q1) (v := .yld ky) (off := 0) hyb1 rfl
    have hO1k : ¬ O1 k1 := fun ho => absurd (hO1 _ ho).2.1 (by omega)
    refine round_step ?_
    rw [hx]
    refine callY_W (t := e.set 10 6 (.s x)) hk rfl ?_
    simp only [stA1, c_path_steps_1, subC, W_seq, W_reg, W_cond, W_blk, W_skip, W_exit, W_ret, W_regD, WO_nil, WO_cons, WO_guard2, wantV_b, bq_tt, bq_ft, bq_tf, bq_ff, Bool.not_true, Bool.not_false, WD_nil, WD_cons, WD_guard2, WS_some, WS_none, KS_n, KS_x, KS_r, KB_n, KB_x, KB_r, KN_ap, KO_ap, KD_ap, KC_nil, KF_n, KF_r, KG_n, KG_r, KL_n, KL_x, KL_r, CP_true, CP_false, evOp, evX, X.ev, optX, put_some, put_none, get_set2, sel_t, sel_f, Nat.reduceBEq, Nat.reduceAdd, Nat.reduceLT, Nat.reduceLeDiff, Nat.reduceEqDiff, reduceIte, if_true, if_false, bi_add, bi_sub, bi_mul, bi_eql, bi_neq, bi_lss, bi_leq, bi_gtr, bi_geq, bs_eql, bs_neq, bs_lss, Am.unOp, ret1, pubL, pubC_agg, pubC_s, pubC_i, pubC_b, pubC_p, pubC_np, pubC_nsl, pubC_ws, pubC_full, pubC_shut, pubC_fn, pubA, initT, wkZ, wk, wants, resOf, tupOf, quiet, AOp.cls, Nat.beq_eq, Bool.or_eq_true, decide_true, decide_false, beq_self_eq_true, Bool.true_or, Bool.or_true, true_and, and_true, lenA, eqv, eqB, eqP, scal, new_box_self, List.getElem?_cons_zero, List.getElem?_cons_succ, key_ii, key_ss, findM, updM, esc_i, esc_s, esc_b, Int.reduceEq, ret1, new_nb, new_set, reduceCtorEq, Bool.xor_true, Bool.xor_false, Bool.false_eq_true, List.all_cons, List.all_nil, noTok, Bool.and_self, Bool.and_true, Bool.true_and, or_true, false_or]
    refine ⟨_, _, _, _, hk, ?_⟩
    rw [hq1]
    have bx2 : ∀ B i, (q1.setBox k1 B).box? i = if i = k1 then some B else q1.box? i := fun B i => setBox_box? w1.b (by omega) i
    have b1k := bx1 k1
    rw [if_pos rfl] at b1k
    have frs : ∀ B, Fr O h tB q1 (q1.setBox k1 B) := fun B => Fr.setBox w1 (by omega) (.inl hk1) (by omega) _
    have keep1 : ∀ i, (O1 i ∨ k1 + 1 ≤ i) → i < q.nb → q1.box? i = q.box? i := fun i hi hlt => by
      rw [bx1, if_neg]
      rintro rfl
      rcases hi with hi | hi
      · exact hO1k hi
      · omega
    have hno : stepOk x = false → ∀ e' : Tr, YK k1 (RoundK O1 (k1 + 1) s0 q (fun q => I (cnt l (j + 1)) q ∧ q.box? k1 = some (.loop 0 none e [6] stA1 stC1) ∧ q.box? idy = some (.cells 26 [.yld ky])) (fun q => R q ∧ ∃ tm ps a b, q.box? k1 = some (.loop 2 (some .ret) tm ps a b))) .n e' q1 := fun hs e' => by
      refine round_end b1k (by omega) w1 ov1 h0 (by omega) (by omega) hO1k keep1 (fun _ => ⟨?_, by rw [bx2, if_pos rfl], by rw [bx2, if_neg (by omega)]; exact hyb1⟩) (fun hh => by simp at hh) (fun i hh => by simp at hh)
      rw [cnt_no hj' (by rw [hx]; exact hs)]
      exact B.stab _ _ _ (B.stab _ _ _ hI fr1) (frs _)
    by_cases h1 : x = []
    · have h1' : (x ≠ []) = False := by simp [h1]
      simp only [stC1, c_path_steps_1, subC, W_seq, W_reg, W_cond, W_blk, W_skip, W_exit, W_ret, W_regD, WO_nil, WO_cons, WO_guard2, wantV_b, bq_tt, bq_ft, bq_tf, bq_ff, Bool.not_true, Bool.not_false, WD_nil, WD_cons, WD_guard2, WS_some, WS_none, KS_n, KS_x, KS_r, KB_n, KB_x, KB_r, KN_ap, KO_ap, KD_ap, KC_nil, KF_n, KF_r, KG_n, KG_r, KL_n, KL_x, KL_r, CP_true, CP_false, evOp, evX, X.ev, optX, put_some, put_none, get_set2, sel_t, sel_f, Nat.reduceBEq, Nat.reduceAdd, Nat.reduceLT, Nat.reduceLeDiff, Nat.reduceEqDiff, reduceIte, if_true, if_false, bi_add, bi_sub, bi_mul, bi_eql, bi_neq, bi_lss, bi_leq, bi_gtr, bi_geq, bs_eql, bs_neq, bs_lss, Am.unOp, ret1, pubL, pubC_agg, pubC_s, pubC_i, pubC_b, pubC_p, pubC_np, pubC_nsl, pubC_ws, pubC_full, pubC_shut, pubC_fn, pubA, initT, wkZ, wk, wants, resOf, tupOf, quiet, AOp.cls, Nat.beq_eq, Bool.or_eq_true, decide_true, decide_false, beq_self_eq_true, Bool.true_or, Bool.or_true, true_and, and_true, lenA, eqv, eqB, eqP, scal, new_box_self, List.getElem?_cons_zero, List.getElem?_cons_succ, key_ii, key_ss, findM, updM, esc_i, esc_s, esc_b, Int.reduceEq, ret1, new_nb, new_set, reduceCtorEq, Bool.xor_true, Bool.xor_false, Bool.false_eq_true, List.all_cons, List.all_nil, noTok, Bool.and_self, Bool.and_true, Bool.true_and, or_true, false_or, g2, h1']
      exact hno (by simp [stepOk, h1]) _
    · have h1' : (x ≠ []) = True := by simp [h1]
      by_cases h2 : x = [46]
      · have h2' : (x ≠ [46]) = False := by simp [h2]
        simp only [stC1, c_path_steps_1, subC, W_seq, W_reg, W_cond, W_blk, W_skip, W_exit, W_ret, W_regD, WO_nil, WO_cons, WO_guard2, wantV_b, bq_tt, bq_ft, bq_tf, bq_ff, Bool.not_true, Bool.not_false, WD_nil, WD_cons, WD_guard2, WS_some, WS_none, KS_n, KS_x, KS_r, KB_n, KB_x, KB_r, KN_ap, KO_ap, KD_ap, KC_nil, KF_n, KF_r, KG_n, KG_r, KL_n, KL_x, KL_r, CP_true, CP_false, evOp, evX, X.ev, optX, put_some, put_none, get_set2, sel_t, sel_f, Nat.reduceBEq, Nat.reduceAdd, Nat.reduceLT, Nat.reduceLeDiff, Nat.reduceEqDiff, reduceIte, if_true, if_false, bi_add, bi_sub, bi_mul, bi_eql, bi_neq, bi_lss, bi_leq, bi_gtr, bi_geq, bs_eql, bs_neq, bs_lss, Am.unOp, ret1, pubL, pubC_agg, pubC_s, pubC_i, pubC_b, pubC_p, pubC_np, pubC_nsl, pubC_ws, pubC_full, pubC_shut, pubC_fn, pubA, initT, wkZ, wk, wants, resOf, tupOf, quiet, AOp.cls, Nat.beq_eq, Bool.or_eq_true, decide_true, decide_false, beq_self_eq_true, Bool.true_or, Bool.or_true, true_and, and_true, lenA, eqv, eqB, eqP, scal, new_box_self, List.getElem?_cons_zero, List.getElem?_cons_succ, key_ii, key_ss, findM, updM, esc_i, esc_s, esc_b, Int.reduceEq, ret1, new_nb, new_set, reduceCtorEq, Bool.xor_true, Bool.xor_false, Bool.false_eq_true, List.all_cons, List.all_nil, noTok, Bool.and_self, Bool.and_true, Bool.true_and, or_true, false_or, g2, h1', h2']
        exact hno (by simp [stepOk, h2]) _
      · have h2' : (x ≠ [46]) = True := by simp [h2]
        have hs : stepOk x = true := by simp [stepOk, h1, h2]
        obtain ⟨hc, hcx⟩ := step_at hj' (by rw [hx]; exact hs)
        obtain ⟨bb, q2, hstep, ht2, hf2, hov2, hw2, hnb2, hnt2, hkeep2⟩ := B.step (cnt l j) (by simpa using hc) q1 (B.stab _ _ _ hI fr1) ov1 w1 (by omega) (by omega)
        have hLx : ((stepsL l).map AV.s)[cnt l j]'(by simpa using hc) = .s x := by rw [List.getElem_map, hcx, hx]
        rw [hLx] at hstep
        have b2k : q2.box? k1 = q1.box? k1 := hkeep2 k1 (.inr hk1) (by omega)
        rw [b1k] at b2k
        have b2y : q2.box? idy = some (.cells 26 [.yld ky]) := by rw [hkeep2 idy (.inr hyh) (by omega)]; exact hyb1
        have bx3 : ∀ B i, (q2.setBox k1 B).box? i = if i = k1 then some B else q2.box? i := fun B i => setBox_box? hw2.b (by omega) i
        have frs2 : ∀ B, Fr O h tB q2 (q2.setBox k1 B) := fun B => Fr.setBox hw2 (by omega) (.inl hk1) (by omega) _
        have keep2 : ∀ i, (O1 i ∨ k1 + 1 ≤ i) → i < q.nb → q2.box? i = q.box? i := fun i hi hlt => by
          rw [hkeep2 i (.inr (by rcases hi with hi | hi; exact (hO1 i hi).1; omega)) (by omega)]
          exact keep1 i hi hlt
        cases bb with
        | true =>
          simp only [stC1, c_path_steps_1, subC, W_seq, W_reg, W_cond, W_blk, W_skip, W_exit, W_ret, W_regD, WO_nil, WO_cons, WO_guard2, wantV_b, bq_tt, bq_ft, bq_tf, bq_ff, Bool.not_true, Bool.not_false, WD_nil, WD_cons, WD_guard2, WS_some, WS_none, KS_n, KS_x, KS_r, KB_n, KB_x, KB_r, KN_ap, KO_ap, KD_ap, KC_nil, KF_n, KF_r, KG_n, KG_r, KL_n, KL_x, KL_r, CP_true, CP_false, evOp, evX, X.ev, optX, put_some, put_none, get_set2, sel_t, sel_f, Nat.reduceBEq, Nat.reduceAdd, Nat.reduceLT, Nat.reduceLeDiff, Nat.reduceEqDiff, reduceIte, if_true, if_false, bi_add, bi_sub, bi_mul, bi_eql, bi_neq, bi_lss, bi_leq, bi_gtr, bi_geq, bs_eql, bs_neq, bs_lss, Am.unOp, ret1, pubL, pubC_agg, pubC_s, pubC_i, pubC_b, pubC_p, pubC_np, pubC_nsl, pubC_ws, pubC_full, pubC_shut, pubC_fn, pubA, initT, wkZ, wk, wants, resOf, tupOf, quiet, AOp.cls, Nat.beq_eq, Bool.or_eq_true, decide_true, decide_false, beq_self_eq_true, Bool.true_or, Bool.or_true, true_and, and_true, lenA, eqv, eqB, eqP, scal, new_box_self, List.getElem?_cons_zero, List.getElem?_cons_succ, key_ii, key_ss, findM, updM, esc_i, esc_s, esc_b, Int.reduceEq, ret1, new_nb, new_set, reduceCtorEq, Bool.xor_true, Bool.xor_false, Bool.false_eq_true, List.all_cons, List.all_nil, noTok, Bool.and_self, Bool.and_true, Bool.true_and, or_true, false_or, g2, h1', h2', Nat.zero_add, ldy, hstep]
          refine round_end b2k (by omega) hw2 hov2 h0 (by omega) (by omega) hO1k keep2 (fun _ => ⟨?_, by rw [bx3, if_pos rfl]; rfl, by rw [bx3, if_neg (by omega)]; exact b2y⟩) (fun hh => by simp at hh) (fun i hh => by simp at hh)
          rw [cnt_yes hj' (by rw [hx]; exact hs)]
          exact B.stab _ _ _ (ht2 rfl) (frs2 _)
        | false =>
          simp only [stC1, c_path_steps_1, subC, W_seq, W_reg, W_cond, W_blk, W_skip, W_exit, W_ret, W_regD, WO_nil, WO_cons, WO_guard2, wantV_b, bq_tt, bq_ft, bq_tf, bq_ff, Bool.not_true, Bool.not_false, WD_nil, WD_cons, WD_guard2, WS_some, WS_none, KS_n, KS_x, KS_r, KB_n, KB_x, KB_r, KN_ap, KO_ap, KD_ap, KC_nil, KF_n, KF_r, KG_n, KG_r, KL_n, KL_x, KL_r, CP_true, CP_false, evOp, evX, X.ev, optX, put_some, put_none, get_set2, sel_t, sel_f, Nat.reduceBEq, Nat.reduceAdd, Nat.reduceLT, Nat.reduceLeDiff, Nat.reduceEqDiff, reduceIte, if_true, if_false, bi_add, bi_sub, bi_mul, bi_eql, bi_neq, bi_lss, bi_leq, bi_gtr, bi_geq, bs_eql, bs_neq, bs_lss, Am.unOp, ret1, pubL, pubC_agg, pubC_s, pubC_i, pubC_b, pubC_p, pubC_np, pubC_nsl, pubC_ws, pubC_full, pubC_shut, pubC_fn, pubA, initT, wkZ, wk, wants, resOf, tupOf, quiet, AOp.cls, Nat.beq_eq, Bool.or_eq_true, decide_true, decide_false, beq_self_eq_true, Bool.true_or, Bool.or_true, true_and, and_true, lenA, eqv, eqB, eqP, scal, new_box_self, List.getElem?_cons_zero, List.getElem?_cons_succ, key_ii, key_ss, findM, updM, esc_i, esc_s, esc_b, Int.reduceEq, ret1, new_nb, new_set, reduceCtorEq, Bool.xor_true, Bool.xor_false, Bool.false_eq_true, List.all_cons, List.all_nil, noTok, Bool.and_self, Bool.and_true, Bool.true_and, or_true, false_or, g2, h1', h2', Nat.zero_add, ldy, hstep]
          exact round_end b2k (by omega) hw2 hov2 h0 (by omega) (by omega) hO1k keep2 (fun hh => by simp at hh) (fun _ => ⟨B.stabR _ _ (hf2 rfl) (frs2 _), _, _, _, _, by rw [bx3, if_pos rfl]⟩) (fun i hh => by simp at hh)
end Go.Proofs.YtfaodjpibdhdjaaDoor

/-
  Steps and Clean.
-/
set_option maxRecDepth 100000
set_option linter.unusedSimpArgs false
set_option linter.constructorNameAsVariable false
namespace Go.Proofs.YtfaodjpibdhdjaaDoor
open Go.Proofs.YtfaodjpibdhdjaaDoor.Am

theorem steps_ok (l : List Nat) (s : St) : (lim prog).call f_path_steps [.s l] s = some (.fn f_path_steps_1 [.p s.nb 0], { s.new (.cells 9 [.s l]) with lo := min s.lo s.nb }) := by
  obtain ⟨r, s', h, rfl, rfl⟩ := fn_G (f := f_path_steps) (args := [.s l]) (s := s) (Post := fun r s' => r = .fn f_path_steps_1 [.p s.nb 0] ∧ s' = { s.new (.cells 9 [.s l]) with lo := min s.lo s.nb }) p_path_steps rfl rfl (by
    have c1 : (AV.s l).cells = [.s l] := rfl
    have hl1 : ∀ a : AV, [a].length = 1 := fun _ => rfl
    simp only [c_path_steps, W_seq, W_reg, W_cond, W_blk, W_skip, W_exit, W_ret, W_regD, WO_nil, WO_cons, WO_guard2, wantV_b, bq_tt, bq_ft, bq_tf, bq_ff, Bool.not_true, Bool.not_false, WD_nil, WD_cons, WD_guard2, WS_some, WS_none, KS_n, KS_x, KS_r, KB_n, KB_x, KB_r, KN_ap, KO_ap, KD_ap, KC_nil, KF_n, KF_r, KG_n, KG_r, KL_n, KL_x, KL_r, CP_true, CP_false, evOp, evX, X.ev, optX, put_some, put_none, get_set2, sel_t, sel_f, Nat.reduceBEq, Nat.reduceAdd, Nat.reduceLT, Nat.reduceLeDiff, Nat.reduceEqDiff, reduceIte, if_true, if_false, bi_add, bi_sub, bi_mul, bi_eql, bi_neq, bi_lss, bi_leq, bi_gtr, bi_geq, bs_eql, bs_neq, bs_lss, Am.unOp, ret1, pubL, pubC_agg, pubC_s, pubC_i, pubC_b, pubC_p, pubC_np, pubC_nsl, pubC_ws, pubC_full, pubC_shut, pubC_fn, pubA, initT, wkZ, wk, wants, resOf, tupOf, quiet, AOp.cls, Nat.beq_eq, Bool.or_eq_true, decide_true, decide_false, beq_self_eq_true, Bool.true_or, Bool.or_true, true_and, and_true, lenA, eqv, eqB, eqP, scal, new_box_self, List.getElem?_cons_zero, List.getElem?_cons_succ, key_ii, key_ss, findM, updM, esc_i, esc_s, esc_b, Int.reduceEq, ret1, new_nb, new_set, reduceCtorEq, Bool.xor_true, Bool.xor_false, Bool.false_eq_true, List.all_cons, List.all_nil, noTok, Bool.and_self, Bool.and_true, Bool.true_and, or_true, false_or, c1, hl1]
    exact ⟨_, _, rfl, rfl, leave_refs rfl⟩)
  exact h

theorem stepsIter {O : Nat → Prop} {m a : Nat} {l : List Nat} (hl : Txt l) {s : St} (ha : s.box? a = some (.cells 9 [.s l])) (la : a < s.nb) : IterOk prog O m f_path_steps_1 [.p a 0] ((stepsL l).map .s) s := by
  intro s0 h tB ky I R B hI hov hw hh ht h0 _
  obtain ⟨r, s', hcall, rfl, hres⟩ := fn_G (f := f_path_steps_1) (args := [.yld ky, .p a 0]) (s := s) (Post := fun r s' => r = .tup [] ∧ Over s0 s' ∧ Wf s' ∧ s.nb ≤ s'.nb ∧ s.nt ≤ s'.nt ∧ (I (stepsL l).length s' ∨ R s')) p_path_steps_1 rfl rfl (by
    have hend : ∀ q, Over s0 q → Wf q → s.nb ≤ q.nb → s.nt ≤ q.nt → (I (stepsL l).length q ∨ R q) → KH s [] (fun r s' => r = .tup [] ∧ Over s0 s' ∧ Wf s' ∧ s.nb ≤ s'.nb ∧ s.nt ≤ s'.nt ∧ (I (stepsL l).length s' ∨ R s')) (some ([], q)) := fun q k1 k2 k3 k4 k5 => by
      obtain ⟨f1, f2, f3, f4, f5⟩ := leave_fr (O := O) (h := h) (tB := tB) (v := .tup []) k2 hh k3 k4 ht rfl
      refine ⟨_, _, rfl, rfl, f5 s0 hov k1, f2, f3, f4, k5.imp (fun k => B.stab _ _ _ k f1) fun k => B.stabR _ _ k f1⟩
    obtain ⟨q1, hq1⟩ : ∃ q1, s.enter.new (.cells 26 [.yld ky]) = q1 := ⟨_, rfl⟩
    have w1 : Wf q1 := by rw [← hq1]; exact hw.enter.new _
    have n1 : q1.nb = s.nb + 1 ∧ q1.nt = s.nt ∧ q1.lo = s.nb := by rw [← hq1]; exact ⟨rfl, rfl, rfl⟩
    have ov1 : Over s0 q1 := by rw [← hq1]; exact hov.toEnter.new _
    have f1 : Fr0 O h s q1 := by rw [← hq1]; exact (Fr0.enter hh).trans ((Fr.new (tB := tB) (q := s.enter) hh _).to0 (Nat.le_refl _))
    have bx1 : ∀ i, i < s.nb → q1.box? i = s.box? i := fun i hi => by rw [← hq1]; exact new_box_lt (s := s.enter) hi
    have by1 : q1.box? s.nb = some (.cells 26 [.yld ky]) := by rw [← hq1]; exact new_box_self s.enter _
    have lda := ld_box (s := q1) (v := .s l) (off := 0) (by rw [bx1 a la]; exact ha) rfl
    have c1 : (AV.yld ky).cells = [.yld ky] := rfl
    have hl1 : ∀ a : AV, [a].length = 1 := fun _ => rfl
    have hnb : s.enter.nb = s.nb := rfl
    have hss := SplitSeq_ok l q1
    obtain ⟨q2, hq2⟩ : ∃ q2, ({ ((q1.new (.cells 9 [.s l])).new (.cells 9 [.s [47]])).new (.cells 3 [.i .i64 0]) with lo := min q1.lo q1.nb } : St) = q2 := ⟨_, rfl⟩
    rw [hq2] at hss
    have w2 : Wf q2 := by rw [← hq2]; exact (((w1.new _).new _).new _).lo _
    have n2 : q2.nb = s.nb + 4 ∧ q2.nt = s.nt := by rw [← hq2]; exact ⟨by show q1.nb + 1 + 1 + 1 = _; omega, n1.2.1⟩
    have ov2 : Over s0 q2 := by rw [← hq2]; exact Over.setLo (((ov1.new _).new _).new _) (by have := ov1.lo; have := ov1.nb; omega)
    have f2 : Fr0 O h q1 q2 := by
      have g1 : Fr0 O h q1 (((q1.new (.cells 9 [.s l])).new (.cells 9 [.s [47]])).new (.cells 3 [.i .i64 0])) := ((Fr.new (tB := tB) (by omega) _).to0 (Nat.le_refl _)).trans (((Fr.new (tB := tB) (by simp [St.new]; omega) _).to0 (Nat.le_refl _)).trans ((Fr.new (tB := tB) (by simp [St.new]; omega) _).to0 (Nat.le_refl _)))
      rw [← hq2]
      exact g1.trans (Fr0.lo (by simp [St.new]; omega) _)
    have bx2 : ∀ i, i < q1.nb → q2.box? i = q1.box? i := fun i hi => by
      rw [← hq2]
      show (((q1.new _).new _).new _).box? i = _
      rw [new_box_lt (by simp [St.new]; omega), new_box_lt (by simp [St.new]; omega), new_box_lt hi]
    have bb2 : q2.box? q1.nb = some (.cells 9 [.s l]) := by
      rw [← hq2]
      show (((q1.new _).new _).new _).box? q1.nb = _
      rw [new_box_lt (by simp [St.new]; omega), new_box_lt (by simp [St.new])]
      exact new_box_self _ _
    have ba2 : q2.box? (q1.nb + 1) = some (.cells 9 [.s [47]]) := by
      rw [← hq2]
      show (((q1.new _).new _).new _).box? (q1.nb + 1) = _
      rw [new_box_lt (by simp [St.new])]
      exact new_box_self (q1.new _) _
    have bc2 : q2.box? (q1.nb + 2) = some (.cells 3 [.i .i64 0]) := by
      rw [← hq2]
      exact new_box_self ((q1.new _).new _) _
    simp only [c_path_steps_1, W_seq, W_reg, W_cond, W_blk, W_skip, W_exit, W_ret, W_regD, WO_nil, WO_cons, WO_guard2, wantV_b, bq_tt, bq_ft, bq_tf, bq_ff, Bool.not_true, Bool.not_false, WD_nil, WD_cons, WD_guard2, WS_some, WS_none, KS_n, KS_x, KS_r, KB_n, KB_x, KB_r, KN_ap, KO_ap, KD_ap, KC_nil, KF_n, KF_r, KG_n, KG_r, KL_n, KL_x, KL_r, CP_true, CP_false, evOp, evX, X.ev, optX, put_some, put_none, get_set2, sel_t, sel_f, Nat.reduceBEq, Nat.reduceAdd, Nat.reduceLT, Nat.reduceLeDiff, Nat.reduceEqDiff, reduceIte, if_true, if_false, bi_add, bi_sub, bi_mul, bi_eql, bi_neq, bi_lss, bi_leq, bi_gtr, bi_geq, bs_eql, bs_neq, bs_lss, Am.unOp, ret1, pubL, pubC_agg, pubC_s, pubC_i, pubC_b, pubC_p, pubC_np, pubC_nsl, pubC_ws, pubC_full, pubC_shut, pubC_fn, pubA, initT, wkZ, wk, wants, resOf, tupOf, quiet, AOp.cls, Nat.beq_eq, Bool.or_eq_true, decide_true, decide_false, beq_self_eq_true, Bool.true_or, Bool.or_true, true_and, and_true, lenA, eqv, eqB, eqP, scal, new_box_self, List.getElem?_cons_zero, List.getElem?_cons_succ, key_ii, key_ss, findM, updM, esc_i, esc_s, esc_b, Int.reduceEq, ret1, new_nb, new_set, reduceCtorEq, Bool.xor_true, Bool.xor_false, Bool.false_eq_true, List.all_cons, List.all_nil, noTok, Bool.and_self, Bool.and_true, Bool.true_and, or_true, false_or, c1, hl1, hnb, hq1, lda, hss]
    refine W_cut (fun e => e.get 2 = .p s.nb 0 ∧ e.get 5 = .fn f_strings_splitSeq_1 [.p (q1.nb + 1) 0, .p q1.nb 0, .p (q1.nb + 2) 0]) ⟨by simp only [W_seq, W_reg, W_cond, W_blk, W_skip, W_exit, W_ret, W_regD, WO_nil, WO_cons, WO_guard2, wantV_b, bq_tt, bq_ft, bq_tf, bq_ff, Bool.not_true, Bool.not_false, WD_nil, WD_cons, WD_guard2, WS_some, WS_none, KS_n, KS_x, KS_r, KB_n, KB_x, KB_r, KN_ap, KO_ap, KD_ap, KC_nil, KF_n, KF_r, KG_n, KG_r, KL_n, KL_x, KL_r, CP_true, CP_false, evOp, evX, X.ev, optX, put_some, put_none, get_set2, sel_t, sel_f, Nat.reduceBEq, Nat.reduceAdd, Nat.reduceLT, Nat.reduceLeDiff, Nat.reduceEqDiff, reduceIte, if_true, if_false, bi_add, bi_sub, bi_mul, bi_eql, bi_neq, bi_lss, bi_leq, bi_gtr, bi_geq, bs_eql, bs_neq, bs_lss, Am.unOp, ret1, pubL, pubC_agg, pubC_s, pubC_i, pubC_b, pubC_p, pubC_np, pubC_nsl, pubC_ws, pubC_full, pubC_shut, pubC_fn, pubA, initT, wkZ, wk, wants, resOf, tupOf, quiet, AOp.cls, Nat.beq_eq, Bool.or_eq_true, decide_true, decide_false, beq_self_eq_true, Bool.true_or, Bool.or_true, true_and, and_true, lenA, eqv, eqB, eqP, scal, new_box_self, List.getElem?_cons_zero, List.getElem?_cons_succ, key_ii, key_ss, findM, updM, esc_i, esc_s, esc_b, Int.reduceEq, ret1, new_nb, new_set, reduceCtorEq, Bool.xor_true, Bool.xor_false, Bool.false_eq_true, List.all_cons, List.all_nil, noTok, Bool.and_self, Bool.and_true, Bool.true_and, or_true, false_or], by simp only [W_seq, W_reg, W_cond, W_blk, W_skip, W_exit, W_ret, W_regD, WO_nil, WO_cons, WO_guard2, wantV_b, bq_tt, bq_ft, bq_tf, bq_ff, Bool.not_true, Bool.not_false, WD_nil, WD_cons, WD_guard2, WS_some, WS_none, KS_n, KS_x, KS_r, KB_n, KB_x, KB_r, KN_ap, KO_ap, KD_ap, KC_nil, KF_n, KF_r, KG_n, KG_r, KL_n, KL_x, KL_r, CP_true, CP_false, evOp, evX, X.ev, optX, put_some, put_none, get_set2, sel_t, sel_f, Nat.reduceBEq, Nat.reduceAdd, Nat.reduceLT, Nat.reduceLeDiff, Nat.reduceEqDiff, reduceIte, if_true, if_false, bi_add, bi_sub, bi_mul, bi_eql, bi_neq, bi_lss, bi_leq, bi_gtr, bi_geq, bs_eql, bs_neq, bs_lss, Am.unOp, ret1, pubL, pubC_agg, pubC_s, pubC_i, pubC_b, pubC_p, pubC_np, pubC_nsl, pubC_ws, pubC_full, pubC_shut, pubC_fn, pubA, initT, wkZ, wk, wants, resOf, tupOf, quiet, AOp.cls, Nat.beq_eq, Bool.or_eq_true, decide_true, decide_false, beq_self_eq_true, Bool.true_or, Bool.or_true, true_and, and_true, lenA, eqv, eqB, eqP, scal, new_box_self, List.getElem?_cons_zero, List.getElem?_cons_succ, key_ii, key_ss, findM, updM, esc_i, esc_s, esc_b, Int.reduceEq, ret1, new_nb, new_set, reduceCtorEq, Bool.xor_true, Bool.xor_false, Bool.false_eq_true, List.all_cons, List.all_nil, noTok, Bool.and_self, Bool.and_true, Bool.true_and, or_true, false_or]⟩ ?_
    rintro e ⟨g2, g5⟩
    obtain ⟨q3, hq3⟩ : ∃ q3, q2.new (.loop 0 none e [6] stA1 stC1) = q3 := ⟨_, rfl⟩
    have w3 : Wf q3 := by rw [← hq3]; exact w2.new _
    have n3 : q3.nb = s.nb + 5 ∧ q3.nt = s.nt := by rw [← hq3]; exact ⟨by show q2.nb + 1 = _; omega, n2.2⟩
    have ov3 : Over s0 q3 := by rw [← hq3]; exact ov2.new _
    have bx3 : ∀ i, i < q2.nb → q3.box? i = q2.box? i := fun i hi => by rw [← hq3]; exact new_box_lt hi
    have bk3 : q3.box? q2.nb = some (.loop 0 none e [6] stA1 stC1) := by rw [← hq3]; exact new_box_self _ _
    have f3 : Fr0 O h q2 q3 := by rw [← hq3]; exact (Fr.new (tB := tB) (by omega) _).to0 (Nat.le_refl _)
    have hs0 := hov.nb
    have hit := splitIter hl (s := q3) (a := q1.nb + 1) (b := q1.nb) (c := q1.nb + 2) (by rw [bx3 _ (by omega)]; exact ba2) (by rw [bx3 _ (by omega)]; exact bb2) (by rw [bx3 _ (by omega)]; exact bc2) (by omega) (by omega) (by omega) (by omega) (by omega)
    obtain ⟨q4, hc4, ov4, w4, n4, t4, hI4⟩ := hit s0 (q2.nb + 1) tB q2.nb _ _ (stepsBody (idy := s.nb) (k1 := q2.nb) (e := e) B (by omega) (by omega) hh (fun j hj => by rcases hj with rfl | rfl | rfl <;> omega) (by omega) g2)
      ⟨B.stab0 _ _ (B.stab0 _ _ (B.stab0 _ _ hI f1) f2) f3, bk3, by rw [bx3 _ (by omega), bx2 _ (by omega)]; exact by1⟩ ov3 w3 (by omega) (by omega) (by omega) (by omega)
    rw [← hq3] at hc4
    have fr4 : ∀ x, Fr O h tB q4 (q4.setBox q2.nb x) := fun x => Fr.setBox w4 (by omega) (.inl (by omega)) (by omega) _
    have e4 : ∀ x, KH s [] (fun r s' => r = .tup [] ∧ Over s0 s' ∧ Wf s' ∧ s.nb ≤ s'.nb ∧ s.nt ≤ s'.nt ∧ (I (stepsL l).length s' ∨ R s')) (some ([], q4.setBox q2.nb x)) := fun x =>
      hend _ (Over.setBox ov4 (by omega) (by omega) _) (w4.setBox _ _) (by show s.nb ≤ q4.nb; omega) (by show s.nt ≤ q4.nt; omega) (by
        rcases hI4 with ⟨k1, _⟩ | ⟨k1, _⟩
        · rw [List.length_map, cnt_all] at k1; exact .inl (B.stab _ _ _ k1 (fr4 _))
        · exact .inr (B.stabR _ _ k1 (fr4 _)))
    refine W_rf g5 hc4 ?_
    rcases hI4 with ⟨_, k2, _⟩ | ⟨_, tm, ps, a', b', k2⟩
    · refine ⟨_, _, _, _, _, _, k2, by decide, ?_⟩
      simp only [W_seq, W_reg, W_cond, W_blk, W_skip, W_exit, W_ret, W_regD, WO_nil, WO_cons, WO_guard2, wantV_b, bq_tt, bq_ft, bq_tf, bq_ff, Bool.not_true, Bool.not_false, WD_nil, WD_cons, WD_guard2, WS_some, WS_none, KS_n, KS_x, KS_r, KB_n, KB_x, KB_r, KN_ap, KO_ap, KD_ap, KC_nil, KF_n, KF_r, KG_n, KG_r, KL_n, KL_x, KL_r, CP_true, CP_false, evOp, evX, X.ev, optX, put_some, put_none, get_set2, sel_t, sel_f, Nat.reduceBEq, Nat.reduceAdd, Nat.reduceLT, Nat.reduceLeDiff, Nat.reduceEqDiff, reduceIte, if_true, if_false, bi_add, bi_sub, bi_mul, bi_eql, bi_neq, bi_lss, bi_leq, bi_gtr, bi_geq, bs_eql, bs_neq, bs_lss, Am.unOp, ret1, pubL, pubC_agg, pubC_s, pubC_i, pubC_b, pubC_p, pubC_np, pubC_nsl, pubC_ws, pubC_full, pubC_shut, pubC_fn, pubA, initT, wkZ, wk, wants, resOf, tupOf, quiet, AOp.cls, Nat.beq_eq, Bool.or_eq_true, decide_true, decide_false, beq_self_eq_true, Bool.true_or, Bool.or_true, true_and, and_true, lenA, eqv, eqB, eqP, scal, new_box_self, List.getElem?_cons_zero, List.getElem?_cons_succ, key_ii, key_ss, findM, updM, esc_i, esc_s, esc_b, Int.reduceEq, ret1, new_nb, new_set, reduceCtorEq, Bool.xor_true, Bool.xor_false, Bool.false_eq_true, List.all_cons, List.all_nil, noTok, Bool.and_self, Bool.and_true, Bool.true_and, or_true, false_or]
      exact e4 _
    · refine ⟨_, _, _, _, _, _, k2, by decide, ?_⟩
      simp only [W_seq, W_reg, W_cond, W_blk, W_skip, W_exit, W_ret, W_regD, WO_nil, WO_cons, WO_guard2, wantV_b, bq_tt, bq_ft, bq_tf, bq_ff, Bool.not_true, Bool.not_false, WD_nil, WD_cons, WD_guard2, WS_some, WS_none, KS_n, KS_x, KS_r, KB_n, KB_x, KB_r, KN_ap, KO_ap, KD_ap, KC_nil, KF_n, KF_r, KG_n, KG_r, KL_n, KL_x, KL_r, CP_true, CP_false, evOp, evX, X.ev, optX, put_some, put_none, get_set2, sel_t, sel_f, Nat.reduceBEq, Nat.reduceAdd, Nat.reduceLT, Nat.reduceLeDiff, Nat.reduceEqDiff, reduceIte, if_true, if_false, bi_add, bi_sub, bi_mul, bi_eql, bi_neq, bi_lss, bi_leq, bi_gtr, bi_geq, bs_eql, bs_neq, bs_lss, Am.unOp, ret1, pubL, pubC_agg, pubC_s, pubC_i, pubC_b, pubC_p, pubC_np, pubC_nsl, pubC_ws, pubC_full, pubC_shut, pubC_fn, pubA, initT, wkZ, wk, wants, resOf, tupOf, quiet, AOp.cls, Nat.beq_eq, Bool.or_eq_true, decide_true, decide_false, beq_self_eq_true, Bool.true_or, Bool.or_true, true_and, and_true, lenA, eqv, eqB, eqP, scal, new_box_self, List.getElem?_cons_zero, List.getElem?_cons_succ, key_ii, key_ss, findM, updM, esc_i, esc_s, esc_b, Int.reduceEq, ret1, new_nb, new_set, reduceCtorEq, Bool.xor_true, Bool.xor_false, Bool.false_eq_true, List.all_cons, List.all_nil, noTok, Bool.and_self, Bool.and_true, Bool.true_and, or_true, false_or]
      exact e4 _)
  obtain ⟨k1, k2, k3, k4, k5⟩ := hres
  exact ⟨s', hcall, k1, k2, k3, k4, by simpa using k5⟩

/-! ### Clean -/
def cleanF (x : List (List Nat)) (w : List Nat) : List (List Nat) := if w = [46, 46] then x.dropLast else x ++ [w]
def cleanL (l : List Nat) : List (List Nat) := (stepsL l).foldl cleanF []
theorem segs_len : ∀ (l cur : List Nat), (segs cur l).length ≤ l.length + 1
  | [], cur => by simp [segs]
  | c :: l, cur => by
    unfold segs
    split
    · have := segs_len l []
      simp; omega
    · have := segs_len l (cur ++ [c])
      simp only [List.length_cons]; omega
theorem stepsL_len (l : List Nat) : (stepsL l).length ≤ l.length + 1 := by
  unfold stepsL splitL
  exact Nat.le_trans (List.length_filter_le _ _) (segs_len l [])
theorem cleanF_len (x : List (List Nat)) (w : List Nat) : (cleanF x w).length ≤ x.length + 1 := by
  unfold cleanF
  split <;> simp
  omega
theorem foldl_len : ∀ (ws : List (List Nat)) (x : List (List Nat)), (ws.foldl cleanF x).length ≤ x.length + ws.length
  | [], x => by simp
  | w :: ws, x => by
    have h1 := foldl_len ws (cleanF x w)
    have h2 := cleanF_len x w
    simp only [List.foldl_cons, List.length_cons]; omega

abbrev clA : C := subC c_path_Clean.body [1, 1, 0, 1, 0, 0]
abbrev clC : C := subC c_path_Clean.body [1, 1, 0, 1, 0, 1]

def CI (l : List Nat) (s : St) (k ido : Nat) (e : Tr) (j : Nat) (q : St) : Prop :=
  q.box? k = some (.loop 0 none e [7] clA clC) ∧ RP 1 (k + 1) s.nt s.nt 9 22 ido ((((stepsL l).take j).foldl cleanF []).map .s) q ∧ (j = 0 → q.box? ido = some (.cells 22 [.nsl]))

theorem cleanBody {l : List Nat} {s : St} {k ido : Nat} {e : Tr} (hido : ido < k) (hs : s.nb ≤ ido) (hl : l.length < 2 ^ 36) (g3 : e.get 3 = .p ido 0) :
    Body prog (fun _ => False) s (k + 1) s.nt (.yld k) ((stepsL l).map .s) (CI l s k ido e) (fun _ => False) where
  stab := fun j q q' ⟨h1, h2, h3⟩ f => ⟨by rw [f.box k (by omega) (by simp)]; exact h1, h2.fr (by omega) (by simp) f, fun hj => by rw [f.box ido (by omega) (by simp)]; exact h3 hj⟩
  stab0 := fun q q' h f => ⟨by rw [f.box k (by omega) (by simp)]; exact h.1, h.2.1.fr0 (fun a k' h1 h2 => by rw [h.2.2 rfl] at h1; cases h1; simp [rowTok] at h2) (by omega) (by simp) f, fun hj => by rw [f.box ido (by omega) (by simp)]; exact h.2.2 hj⟩
  stabR := fun _ _ h _ => h
  step := by
    intro j hj q ⟨hk, hI, _⟩ hov hw hh ht
    have hj' : j < (stepsL l).length := by simpa using hj
    have hLj : ((stepsL l).map AV.s)[j] = .s (stepsL l)[j] := by simp
    rw [hLj]
    obtain ⟨x, hx⟩ : ∃ x, (stepsL l)[j] = x := ⟨_, rfl⟩
    rw [hx]
    have hst : ((stepsL l).take (j + 1)).foldl cleanF [] = cleanF (((stepsL l).take j).foldl cleanF []) x := by
      rw [List.take_succ_eq_append_getElem hj', List.foldl_append, hx]; rfl
    have hylen := foldl_len ((stepsL l).take j) []
    have htl : ((stepsL l).take j).length ≤ l.length + 1 := by have := stepsL_len l; simp; omega
    obtain ⟨Y, hY⟩ : ∃ Y, ((stepsL l).take j).foldl cleanF [] = Y := ⟨_, rfl⟩
    rw [hY] at hI hst hylen
    simp only [List.length_nil, Nat.zero_add] at hylen
    obtain ⟨q1, hq1⟩ : ∃ q1, q.setBox k (.loop 1 none e [7] clA clC) = q1 := ⟨_, rfl⟩
    have w1 : Wf q1 := by rw [← hq1]; exact hw.setBox _ _
    have nb1 : q1.nb = q.nb ∧ q1.nt = q.nt ∧ q1.lo = q.lo := by rw [← hq1]; exact ⟨rfl, rfl, rfl⟩
    have bx1 : ∀ i, q1.box? i = if i = k then some (.loop 1 none e [7] clA clC) else q.box? i := fun i => by rw [← hq1]; exact setBox_box? hw.b (by omega) i
    have ov1 : Over s q1 := by rw [← hq1]; exact Over.setBox hov (by omega) (by omega) _
    obtain ⟨a, hb, hr, htok⟩ := hI
    have hb1 : q1.box? ido = some (.cells 22 [a]) := by rw [bx1, if_neg (by omega)]; exact hb
    have hr1 : RowP 1 s.nt q1 9 a (Y.map .s) := hr.mono (by omega) fun k _ => by rw [← hq1]; rfl
    have lda := ld_box (s := q1) (v := a) (off := 0) hb1 rfl
    have keep1 : ∀ i, (False ∨ k + 1 ≤ i) → i < q.nb → q1.box? i = q.box? i := fun i hi hlt => by
      have hi' : k + 1 ≤ i := hi.resolve_left id
      rw [bx1, if_neg (by omega)]
    have b1k := bx1 k
    rw [if_pos rfl] at b1k
    have hno : (Y = cleanF Y x) → ∀ e' : Tr, YK k (RoundK (fun _ => False) (k + 1) s q (CI l s k ido e (j + 1)) (fun _ => False)) .n e' q1 := fun hs' e' => by
      refine round_end b1k (by omega) w1 ov1 (by omega) (by omega) (by omega) (by simp) keep1 (fun _ => ⟨?_, ?_, fun hh => by simp at hh⟩) (fun hh => by simp at hh) (fun i hh => by simp at hh)
      · rw [setBox_box? w1.b (by omega), if_pos rfl]
      · rw [hst, ← hs']
        exact ⟨a, by rw [setBox_box? w1.b (by omega), if_neg (by omega)]; exact hb1, hr1.mono (Nat.le_refl _) fun _ _ => rfl, fun k' hk' => (htok k' hk').imp_right fun h => by show q1.lo < k + 1; omega⟩
    have hput : ∀ a' q2, Grew s.nt q1 q2 a a' → RowP 1 s.nt q2 9 a' ((cleanF Y x).map .s) → a'.cells = [a'] ∧ ones [a'] = true → a'.refs = true →
        ∃ q3, stA q2 1 (.p ido 0) a' = some q3 ∧ ∀ e' : Tr, YK k (RoundK (fun _ => False) (k + 1) s q (CI l s k ido e (j + 1)) (fun _ => False)) .n e' q3 := fun a' q2 hg hr2 hc href => by
      obtain ⟨q3, e3, r3, nb3, nt3, w3, bx3, ov3⟩ := RP.store (h := k + 1) (tB := s.nt) hb1 hg hr2 hc href w1 (by omega) (by omega)
      refine ⟨q3, e3, fun e' => ?_⟩
      have b3k : q3.box? k = some (.loop 1 none e [7] clA clC) := by rw [bx3 k (by omega)]; exact b1k
      refine round_end b3k (by omega) w3 (ov3 s hs (Nat.le_refl _) (by omega) ov1) (by omega) (by omega) (by omega) (by simp) (fun i hi hlt => by have hi' : k + 1 ≤ i := hi.resolve_left id; rw [bx3 i (by omega)]; exact keep1 i hi hlt) (fun _ => ⟨?_, ?_, fun hh => by simp at hh⟩) (fun hh => by simp at hh) (fun i hh => by simp at hh)
      · rw [setBox_box? w3.b (by omega), if_pos rfl]
      · rw [hst]
        exact r3.fr (O := fun i => i = k) (by omega) (show ¬ (ido = k) by omega) (Fr.setBox (O := fun i => i = k) (tB := s.nt) (h := k + 1) (id := k) w3 (by omega) (.inr rfl) (by omega) _)
    refine round_step ?_
    refine callY_W (t := e.set 10 7 (.s x)) hk rfl ?_
    simp only [clA, c_path_Clean, subC, W_seq, W_reg, W_cond, W_blk, W_skip, W_exit, W_ret, W_regD, WO_nil, WO_cons, WO_guard2, wantV_b, bq_tt, bq_ft, bq_tf, bq_ff, Bool.not_true, Bool.not_false, WD_nil, WD_cons, WD_guard2, WS_some, WS_none, KS_n, KS_x, KS_r, KB_n, KB_x, KB_r, KN_ap, KO_ap, KD_ap, KC_nil, KF_n, KF_r, KG_n, KG_r, KL_n, KL_x, KL_r, CP_true, CP_false, evOp, evX, X.ev, optX, put_some, put_none, get_set2, sel_t, sel_f, Nat.reduceBEq, Nat.reduceAdd, Nat.reduceLT, Nat.reduceLeDiff, Nat.reduceEqDiff, reduceIte, if_true, if_false, bi_add, bi_sub, bi_mul, bi_eql, bi_neq, bi_lss, bi_leq, bi_gtr, bi_geq, bs_eql, bs_neq, bs_lss, Am.unOp, ret1, pubL, pubC_agg, pubC_s, pubC_i, pubC_b, pubC_p, pubC_np, pubC_nsl, pubC_ws, pubC_full, pubC_shut, pubC_fn, pubA, initT, wkZ, wk, wants, resOf, tupOf, quiet, AOp.cls, Nat.beq_eq, Bool.or_eq_true, decide_true, decide_false, beq_self_eq_true, Bool.true_or, Bool.or_true, true_and, and_true, lenA, eqv, eqB, eqP, scal, new_box_self, List.getElem?_cons_zero, List.getElem?_cons_succ, key_ii, key_ss, findM, updM, esc_i, esc_s, esc_b, Int.reduceEq, ret1, new_nb, new_set, reduceCtorEq, Bool.xor_true, Bool.xor_false, Bool.false_eq_true, List.all_cons, List.all_nil, noTok, Bool.and_self, Bool.and_true, Bool.true_and, or_true, false_or]
    refine ⟨_, _, _, _, hk, ?_⟩
    rw [hq1]
    by_cases h1 : x = [46, 46]
    · have h1' : (x ≠ [46, 46]) = False := by simp [h1]
      have hcl : cleanF Y x = Y.dropLast := by unfold cleanF; rw [if_pos h1]
      by_cases h2 : Y = []
      · have hz : a = .nsl ∨ ∃ k v, a = .sl 1 [] (.tok k v) := by
          rcases hr with ⟨rfl, _⟩ | ⟨k, v, t, rfl, _⟩
          · exact .inl rfl
          · exact .inr ⟨k, v, by rw [h2]; rfl⟩
        have h00 : ((0 : Int) < 0) = False := by simp
        have hn := hno (by rw [hcl, h2]; rfl)
        rcases hz with rfl | ⟨k', v, rfl⟩
        · simp only [clC, c_path_Clean, subC, W_seq, W_reg, W_cond, W_blk, W_skip, W_exit, W_ret, W_regD, WO_nil, WO_cons, WO_guard2, wantV_b, bq_tt, bq_ft, bq_tf, bq_ff, Bool.not_true, Bool.not_false, WD_nil, WD_cons, WD_guard2, WS_some, WS_none, KS_n, KS_x, KS_r, KB_n, KB_x, KB_r, KN_ap, KO_ap, KD_ap, KC_nil, KF_n, KF_r, KG_n, KG_r, KL_n, KL_x, KL_r, CP_true, CP_false, evOp, evX, X.ev, optX, put_some, put_none, get_set2, sel_t, sel_f, Nat.reduceBEq, Nat.reduceAdd, Nat.reduceLT, Nat.reduceLeDiff, Nat.reduceEqDiff, reduceIte, if_true, if_false, bi_add, bi_sub, bi_mul, bi_eql, bi_neq, bi_lss, bi_leq, bi_gtr, bi_geq, bs_eql, bs_neq, bs_lss, Am.unOp, ret1, pubL, pubC_agg, pubC_s, pubC_i, pubC_b, pubC_p, pubC_np, pubC_nsl, pubC_ws, pubC_full, pubC_shut, pubC_fn, pubA, initT, wkZ, wk, wants, resOf, tupOf, quiet, AOp.cls, Nat.beq_eq, Bool.or_eq_true, decide_true, decide_false, beq_self_eq_true, Bool.true_or, Bool.or_true, true_and, and_true, lenA, eqv, eqB, eqP, scal, new_box_self, List.getElem?_cons_zero, List.getElem?_cons_succ, key_ii, key_ss, findM, updM, esc_i, esc_s, esc_b, Int.reduceEq, ret1, new_nb, new_set, reduceCtorEq, Bool.xor_true, Bool.xor_false, Bool.false_eq_true, List.all_cons, List.all_nil, noTok, Bool.and_self, Bool.and_true, Bool.true_and, or_true, false_or, g3, h1', Nat.zero_add, lda, List.length_nil, ofNat_len, Int.ofNat_zero, h00]
          exact hn _
        · have h01 : ((((0 : Nat)) : Int) > 0) = False := by simp
          simp only [clC, c_path_Clean, subC, W_seq, W_reg, W_cond, W_blk, W_skip, W_exit, W_ret, W_regD, WO_nil, WO_cons, WO_guard2, wantV_b, bq_tt, bq_ft, bq_tf, bq_ff, Bool.not_true, Bool.not_false, WD_nil, WD_cons, WD_guard2, WS_some, WS_none, KS_n, KS_x, KS_r, KB_n, KB_x, KB_r, KN_ap, KO_ap, KD_ap, KC_nil, KF_n, KF_r, KG_n, KG_r, KL_n, KL_x, KL_r, CP_true, CP_false, evOp, evX, X.ev, optX, put_some, put_none, get_set2, sel_t, sel_f, Nat.reduceBEq, Nat.reduceAdd, Nat.reduceLT, Nat.reduceLeDiff, Nat.reduceEqDiff, reduceIte, if_true, if_false, bi_add, bi_sub, bi_mul, bi_eql, bi_neq, bi_lss, bi_leq, bi_gtr, bi_geq, bs_eql, bs_neq, bs_lss, Am.unOp, ret1, pubL, pubC_agg, pubC_s, pubC_i, pubC_b, pubC_p, pubC_np, pubC_nsl, pubC_ws, pubC_full, pubC_shut, pubC_fn, pubA, initT, wkZ, wk, wants, resOf, tupOf, quiet, AOp.cls, Nat.beq_eq, Bool.or_eq_true, decide_true, decide_false, beq_self_eq_true, Bool.true_or, Bool.or_true, true_and, and_true, lenA, eqv, eqB, eqP, scal, new_box_self, List.getElem?_cons_zero, List.getElem?_cons_succ, key_ii, key_ss, findM, updM, esc_i, esc_s, esc_b, Int.reduceEq, ret1, new_nb, new_set, reduceCtorEq, Bool.xor_true, Bool.xor_false, Bool.false_eq_true, List.all_cons, List.all_nil, noTok, Bool.and_self, Bool.and_true, Bool.true_and, or_true, false_or, g3, h1', Nat.zero_add, lda, List.length_nil, ofNat_len, h01]
          exact hn _
      · have hYl : 1 ≤ Y.length := List.length_pos_iff.2 h2
        obtain ⟨a', q2, e2, hr2, hg, href, hc⟩ := pop_rowP w1 hr1 (by simpa using hYl)
        rw [List.length_map] at e2
        rw [← List.map_dropLast, ← hcl] at hr2
        obtain ⟨q3, e3, hfin⟩ := hput a' q2 hg hr2 hc href
        have hgt : ((((Y.length : Nat)) : Int) > 0) = True := by simp; omega
        have hsub : IntKind.i64.wrap ((Y.length : Int) - 1) = ((Y.length - 1 : Nat) : Int) := by
          rw [show (Y.length : Int) - 1 = ((Y.length - 1 : Nat) : Int) by omega, wrap_nat (by omega)]
        have hz : ∃ k v, a = .sl 1 (Y.map .s) (.tok k v) := by
          rcases hr with ⟨rfl, h⟩ | ⟨k, v, t, rfl, _⟩
          · exact absurd (by simpa using h) h2
          · exact ⟨k, v, rfl⟩
        obtain ⟨k', v, rfl⟩ := hz
        simp only [clC, c_path_Clean, subC, W_seq, W_reg, W_cond, W_blk, W_skip, W_exit, W_ret, W_regD, WO_nil, WO_cons, WO_guard2, wantV_b, bq_tt, bq_ft, bq_tf, bq_ff, Bool.not_true, Bool.not_false, WD_nil, WD_cons, WD_guard2, WS_some, WS_none, KS_n, KS_x, KS_r, KB_n, KB_x, KB_r, KN_ap, KO_ap, KD_ap, KC_nil, KF_n, KF_r, KG_n, KG_r, KL_n, KL_x, KL_r, CP_true, CP_false, evOp, evX, X.ev, optX, put_some, put_none, get_set2, sel_t, sel_f, Nat.reduceBEq, Nat.reduceAdd, Nat.reduceLT, Nat.reduceLeDiff, Nat.reduceEqDiff, reduceIte, if_true, if_false, bi_add, bi_sub, bi_mul, bi_eql, bi_neq, bi_lss, bi_leq, bi_gtr, bi_geq, bs_eql, bs_neq, bs_lss, Am.unOp, ret1, pubL, pubC_agg, pubC_s, pubC_i, pubC_b, pubC_p, pubC_np, pubC_nsl, pubC_ws, pubC_full, pubC_shut, pubC_fn, pubA, initT, wkZ, wk, wants, resOf, tupOf, quiet, AOp.cls, Nat.beq_eq, Bool.or_eq_true, decide_true, decide_false, beq_self_eq_true, Bool.true_or, Bool.or_true, true_and, and_true, lenA, eqv, eqB, eqP, scal, new_box_self, List.getElem?_cons_zero, List.getElem?_cons_succ, key_ii, key_ss, findM, updM, esc_i, esc_s, esc_b, Int.reduceEq, ret1, new_nb, new_set, reduceCtorEq, Bool.xor_true, Bool.xor_false, Bool.false_eq_true, List.all_cons, List.all_nil, noTok, Bool.and_self, Bool.and_true, Bool.true_and, or_true, false_or, g3, h1', Nat.zero_add, lda, List.length_map, ofNat_len, hgt, hsub, e2, e3]
        exact hfin _
    · have h1' : (x ≠ [46, 46]) = True := by simp [h1]
      have hcl : cleanF Y x = Y ++ [x] := by unfold cleanF; rw [if_neg h1]
      have hel : elems q1 1 (.sl 1 [.s x] .full) = some [.s x] := by simp [elems, St.ok]
      have al : allLen 1 [AV.s x] = true := rfl
      obtain ⟨a', q2, e2, hr2, hg, href, hc⟩ := app_rowP w1 (by omega) hr1 hel (by simp) (by simp; omega)
      have hm : Y.map AV.s ++ [AV.s x] = (Y ++ [x]).map .s := by simp
      rw [hm, ← hcl] at hr2
      obtain ⟨q3, e3, hfin⟩ := hput a' q2 hg hr2 hc href
      have hz : a = .nsl ∨ ∃ k v, a = .sl 1 (Y.map .s) (.tok k v) := by
        rcases hr with ⟨rfl, _⟩ | ⟨k, v, t, rfl, _⟩
        · exact .inl rfl
        · exact .inr ⟨k, v, rfl⟩
      rcases hz with rfl | ⟨k', v, rfl⟩ <;>
        (simp only [clC, c_path_Clean, subC, W_seq, W_reg, W_cond, W_blk, W_skip, W_exit, W_ret, W_regD, WO_nil, WO_cons, WO_guard2, wantV_b, bq_tt, bq_ft, bq_tf, bq_ff, Bool.not_true, Bool.not_false, WD_nil, WD_cons, WD_guard2, WS_some, WS_none, KS_n, KS_x, KS_r, KB_n, KB_x, KB_r, KN_ap, KO_ap, KD_ap, KC_nil, KF_n, KF_r, KG_n, KG_r, KL_n, KL_x, KL_r, CP_true, CP_false, evOp, evX, X.ev, optX, put_some, put_none, get_set2, sel_t, sel_f, Nat.reduceBEq, Nat.reduceAdd, Nat.reduceLT, Nat.reduceLeDiff, Nat.reduceEqDiff, reduceIte, if_true, if_false, bi_add, bi_sub, bi_mul, bi_eql, bi_neq, bi_lss, bi_leq, bi_gtr, bi_geq, bs_eql, bs_neq, bs_lss, Am.unOp, ret1, pubL, pubC_agg, pubC_s, pubC_i, pubC_b, pubC_p, pubC_np, pubC_nsl, pubC_ws, pubC_full, pubC_shut, pubC_fn, pubA, initT, wkZ, wk, wants, resOf, tupOf, quiet, AOp.cls, Nat.beq_eq, Bool.or_eq_true, decide_true, decide_false, beq_self_eq_true, Bool.true_or, Bool.or_true, true_and, and_true, lenA, eqv, eqB, eqP, scal, new_box_self, List.getElem?_cons_zero, List.getElem?_cons_succ, key_ii, key_ss, findM, updM, esc_i, esc_s, esc_b, Int.reduceEq, ret1, new_nb, new_set, reduceCtorEq, Bool.xor_true, Bool.xor_false, Bool.false_eq_true, List.all_cons, List.all_nil, noTok, Bool.and_self, Bool.and_true, Bool.true_and, or_true, false_or, g3, h1', Nat.zero_add, lda, al, e2, e3]
         exact hfin _)

end Go.Proofs.YtfaodjpibdhdjaaDoor

/-
  Steps.
-/
set_option maxRecDepth 100000
set_option linter.unusedSimpArgs false
set_option linter.constructorNameAsVariable false
namespace Go.Proofs.YtfaodjpibdhdjaaDoor
open Go.Proofs.YtfaodjpibdhdjaaDoor.Am

theorem refs_s' : ∀ L : List (List Nat), AV.refs.go (L.map AV.s) = false
  | [] => rfl
  | x :: L => by simp only [List.map_cons, AV.refs.go, AV.refs, Bool.false_or]; exact refs_s' L
theorem wkM_s' : ∀ L : List (List Nat), wkM .id (L.map AV.s) = L.map AV.s
  | [] => by simp [wkM]
  | x :: L => by simp only [List.map_cons, wkM, wk, wkM_s' L]

abbrev apA : C := subC c_slices_AppendSeq_string_string.body [1, 0, 1, 0, 0]
abbrev apC : C := subC c_slices_AppendSeq_string_string.body [1, 0, 1, 0, 1]

def AI (L : List (List Nat)) (s : St) (k ido : Nat) (e : Tr) (j : Nat) (q : St) : Prop :=
  q.box? k = some (.loop 0 none e [7] apA apC) ∧ RP 1 (k + 1) s.nt s.nt 9 22 ido ((L.take j).map .s) q ∧ (j = 0 → q.box? ido = some (.cells 22 [.nsl]))

theorem apBody {L : List (List Nat)} {s : St} {k ido : Nat} {e : Tr} (hido : ido < k) (hs : s.nb ≤ ido) (hl : L.length < 2 ^ 37) (g2 : e.get 2 = .p ido 0) :
    Body prog (fun _ => False) s (k + 1) s.nt (.yld k) (L.map .s) (AI L s k ido e) (fun _ => False) where
  stab := fun j q q' ⟨h1, h2, h3⟩ f => ⟨by rw [f.box k (by omega) (by simp)]; exact h1, h2.fr (by omega) (by simp) f, fun hj => by rw [f.box ido (by omega) (by simp)]; exact h3 hj⟩
  stab0 := fun q q' h f => ⟨by rw [f.box k (by omega) (by simp)]; exact h.1, h.2.1.fr0 (fun a k' h1 h2 => by rw [h.2.2 rfl] at h1; cases h1; simp [rowTok] at h2) (by omega) (by simp) f, fun hj => by rw [f.box ido (by omega) (by simp)]; exact h.2.2 hj⟩
  stabR := fun _ _ h _ => h
  step := by
    intro j hj q ⟨hk, hI, _⟩ hov hw hh ht
    have hj' : j < L.length := by simpa using hj
    have hLj : (L.map AV.s)[j] = .s L[j] := by simp
    rw [hLj]
    obtain ⟨x, hx⟩ : ∃ x, L[j] = x := ⟨_, rfl⟩
    rw [hx]
    have hst : L.take (j + 1) = L.take j ++ [x] := by rw [List.take_succ_eq_append_getElem hj', hx]
    have hylen : (L.take j).length ≤ L.length := by simp; omega
    obtain ⟨Y, hY⟩ : ∃ Y, L.take j = Y := ⟨_, rfl⟩
    rw [hY] at hI hst hylen
    obtain ⟨q1, hq1⟩ : ∃ q1, q.setBox k (.loop 1 none e [7] apA apC) = q1 := ⟨_, rfl⟩
    have w1 : Wf q1 := by rw [← hq1]; exact hw.setBox _ _
    have nb1 : q1.nb = q.nb ∧ q1.nt = q.nt ∧ q1.lo = q.lo := by rw [← hq1]; exact ⟨rfl, rfl, rfl⟩
    have bx1 : ∀ i, q1.box? i = if i = k then some (.loop 1 none e [7] apA apC) else q.box? i := fun i => by rw [← hq1]; exact setBox_box? hw.b (by omega) i
    have ov1 : Over s q1 := by rw [← hq1]; exact Over.setBox hov (by omega) (by omega) _
    obtain ⟨a, hb, hr, htok⟩ := hI
    have hb1 : q1.box? ido = some (.cells 22 [a]) := by rw [bx1, if_neg (by omega)]; exact hb
    have hr1 : RowP 1 s.nt q1 9 a (Y.map .s) := hr.mono (by omega) fun k _ => by rw [← hq1]; rfl
    have lda := ld_box (s := q1) (v := a) (off := 0) hb1 rfl
    have b1k := bx1 k
    rw [if_pos rfl] at b1k
    have hel : elems q1 1 (.sl 1 [.s x] .full) = some [.s x] := by simp [elems, St.ok]
    have al : allLen 1 [AV.s x] = true := rfl
    obtain ⟨a', q2, e2, hr2, hg, href, hc⟩ := app_rowP w1 (by omega) hr1 hel (by simp) (by simp; omega)
    have hm : Y.map AV.s ++ [AV.s x] = (Y ++ [x]).map .s := by simp
    rw [hm] at hr2
    obtain ⟨q3, e3, r3, nb3, nt3, w3, bx3, ov3⟩ := RP.store (h := k + 1) (tB := s.nt) hb1 hg hr2 hc href w1 (by omega) (by omega)
    have b3k : q3.box? k = some (.loop 1 none e [7] apA apC) := by rw [bx3 k (by omega)]; exact b1k
    have hfin : ∀ e' : Tr, YK k (RoundK (fun _ => False) (k + 1) s q (AI L s k ido e (j + 1)) (fun _ => False)) .n e' q3 := fun e' => by
      refine round_end b3k (by omega) w3 (ov3 s hs (Nat.le_refl _) (by omega) ov1) (by omega) (by omega) (by omega) (by simp) (fun i hi hlt => by have hi' : k + 1 ≤ i := hi.resolve_left id; rw [bx3 i (by omega), bx1, if_neg (by omega)]) (fun _ => ⟨?_, ?_, fun hh => by simp at hh⟩) (fun hh => by simp at hh) (fun i hh => by simp at hh)
      · rw [setBox_box? w3.b (by omega), if_pos rfl]
      · rw [hst]
        exact r3.fr (O := fun i => i = k) (by omega) (show ¬ (ido = k) by omega) (Fr.setBox (O := fun i => i = k) (tB := s.nt) (h := k + 1) (id := k) w3 (by omega) (.inr rfl) (by omega) _)
    refine round_step ?_
    refine callY_W (t := e.set 10 7 (.s x)) hk rfl ?_
    simp only [apA, c_slices_AppendSeq_string_string, subC, W_seq, W_reg, W_cond, W_blk, W_skip, W_exit, W_ret, W_regD, WO_nil, WO_cons, WO_guard2, wantV_b, bq_tt, bq_ft, bq_tf, bq_ff, Bool.not_true, Bool.not_false, WD_nil, WD_cons, WD_guard2, WS_some, WS_none, KS_n, KS_x, KS_r, KB_n, KB_x, KB_r, KN_ap, KO_ap, KD_ap, KC_nil, KF_n, KF_r, KG_n, KG_r, KL_n, KL_x, KL_r, CP_true, CP_false, evOp, evX, X.ev, optX, put_some, put_none, get_set2, sel_t, sel_f, Nat.reduceBEq, Nat.reduceAdd, Nat.reduceLT, Nat.reduceLeDiff, Nat.reduceEqDiff, reduceIte, if_true, if_false, bi_add, bi_sub, bi_mul, bi_eql, bi_neq, bi_lss, bi_leq, bi_gtr, bi_geq, bs_eql, bs_neq, bs_lss, Am.unOp, ret1, pubL, pubC_agg, pubC_s, pubC_i, pubC_b, pubC_p, pubC_np, pubC_nsl, pubC_ws, pubC_full, pubC_shut, pubC_fn, pubA, initT, wkZ, wk, wants, resOf, tupOf, quiet, AOp.cls, Nat.beq_eq, Bool.or_eq_true, decide_true, decide_false, beq_self_eq_true, Bool.true_or, Bool.or_true, true_and, and_true, lenA, eqv, eqB, eqP, scal, new_box_self, List.getElem?_cons_zero, List.getElem?_cons_succ, key_ii, key_ss, findM, updM, esc_i, esc_s, esc_b, Int.reduceEq, ret1, new_nb, new_set, reduceCtorEq, Bool.xor_true, Bool.xor_false, Bool.false_eq_true, List.all_cons, List.all_nil, noTok, Bool.and_self, Bool.and_true, Bool.true_and, or_true, false_or]
    refine ⟨_, _, _, _, hk, ?_⟩
    rw [hq1]
    have hz : a = .nsl ∨ ∃ k v, a = .sl 1 (Y.map .s) (.tok k v) := by
      rcases hr with ⟨rfl, _⟩ | ⟨k, v, t, rfl, _⟩
      · exact .inl rfl
      · exact .inr ⟨k, v, rfl⟩
    rcases hz with rfl | ⟨k', v, rfl⟩ <;>
      (simp only [apC, c_slices_AppendSeq_string_string, subC, W_seq, W_reg, W_cond, W_blk, W_skip, W_exit, W_ret, W_regD, WO_nil, WO_cons, WO_guard2, wantV_b, bq_tt, bq_ft, bq_tf, bq_ff, Bool.not_true, Bool.not_false, WD_nil, WD_cons, WD_guard2, WS_some, WS_none, KS_n, KS_x, KS_r, KB_n, KB_x, KB_r, KN_ap, KO_ap, KD_ap, KC_nil, KF_n, KF_r, KG_n, KG_r, KL_n, KL_x, KL_r, CP_true, CP_false, evOp, evX, X.ev, optX, put_some, put_none, get_set2, sel_t, sel_f, Nat.reduceBEq, Nat.reduceAdd, Nat.reduceLT, Nat.reduceLeDiff, Nat.reduceEqDiff, reduceIte, if_true, if_false, bi_add, bi_sub, bi_mul, bi_eql, bi_neq, bi_lss, bi_leq, bi_gtr, bi_geq, bs_eql, bs_neq, bs_lss, Am.unOp, ret1, pubL, pubC_agg, pubC_s, pubC_i, pubC_b, pubC_p, pubC_np, pubC_nsl, pubC_ws, pubC_full, pubC_shut, pubC_fn, pubA, initT, wkZ, wk, wants, resOf, tupOf, quiet, AOp.cls, Nat.beq_eq, Bool.or_eq_true, decide_true, decide_false, beq_self_eq_true, Bool.true_or, Bool.or_true, true_and, and_true, lenA, eqv, eqB, eqP, scal, new_box_self, List.getElem?_cons_zero, List.getElem?_cons_succ, key_ii, key_ss, findM, updM, esc_i, esc_s, esc_b, Int.reduceEq, ret1, new_nb, new_set, reduceCtorEq, Bool.xor_true, Bool.xor_false, Bool.false_eq_true, List.all_cons, List.all_nil, noTok, Bool.and_self, Bool.and_true, Bool.true_and, or_true, false_or, g2, Nat.zero_add, lda, al, e2, e3]
       exact hfin _)

end Go.Proofs.YtfaodjpibdhdjaaDoor
