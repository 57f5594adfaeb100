/-
  The document's functions of layer 5: numbers, values, parts.
-/
import Derived.Test.YtfpoihibfajhlaaDoorLExpand7
set_option linter.all false
set_option linter.unusedVariables false
set_option linter.unusedSimpArgs false
set_option linter.unusedSectionVars false
set_option maxRecDepth 100000
set_option linter.unusedSimpArgs false
set_option linter.constructorNameAsVariable false
namespace Go.Proofs.YtfpoihibfajhlaaDoor
open Go.Proofs.YtfpoihibfajhlaaDoor.Am

theorem wrap_id {z : Int} (h0 : -9223372036854775808 ≤ z) (h1 : z ≤ 9223372036854775807) : IntKind.i64.wrap z = z := by
  have e : IntKind.i64.wrap z = if (9223372036854775808 : Int) ≤ z % 18446744073709551616 then z % 18446744073709551616 - 18446744073709551616 else z % 18446744073709551616 := by
    simp [IntKind.wrap, IntKind.signed, IntKind.bits]
  rw [e]
  split <;> omega
theorem wrap_u8 {z : Int} (h0 : 0 ≤ z) (h1 : z < 256) : IntKind.u8.wrap z = z := by
  have e : z % 2 ^ 8 = z := by omega
  simp only [IntKind.wrap, IntKind.signed, IntKind.bits, e]
  rfl

def decN (u : Nat) : List Nat := (Go.Lib.decDigits u).map (·.toNat)
theorem u8_toNat {u : Nat} (h : u < 256) : (UInt8.ofNat u).toNat = u := by
  simp [UInt8.toNat_ofNat']; omega
theorem dec_small {u : Nat} (h : u < 10) : decN u = [48 + u] := by
  unfold decN
  rw [Go.Lib.decDigits, dif_pos h]
  simp only [List.map_cons, List.map_nil]
  rw [u8_toNat (by omega)]
theorem dec_step {u : Nat} (h : ¬ u < 10) : decN u = decN (u / 10) ++ [48 + u % 10] := by
  unfold decN
  rw [Go.Lib.decDigits, dif_neg h]
  simp only [List.map_append, List.map_cons, List.map_nil]
  rw [u8_toNat (by omega)]
theorem itoa_pos {n : Int} (h : ¬ n < 0) : itoaN n = decN n.toNat := by unfold itoaN Go.Lib.itoa decN; rw [if_neg h]
theorem itoa_neg {n : Int} (h : n < 0) : itoaN n = 45 :: decN n.natAbs := by unfold itoaN Go.Lib.itoa decN; rw [if_pos h]; rfl
theorem bytesL_one {z : Int} (h0 : 0 ≤ z) (h1 : z < 256) : bytesL [.i .u8 z] = some [z.toNat] := by
  simp only [bytesL, Am.byteOf, if_pos (⟨h0, h1⟩ : 0 ≤ z ∧ z < 256)]
theorem cat_ok {x y : List Nat} (h : x.length + y.length < 2 ^ 62) : Am.binOp .add (.s x) (.s y) = some (.s (x ++ y)) := by rw [bs_add, if_pos h]
theorem ok_full (s : St) : s.ok .full = true := rfl
theorem allLen_i (k : IntKind) (n : Int) : allLen 1 [AV.i k n] = true := rfl
theorem beq_s1 (l : List Nat) : beqA (.s l) (.s l) = true := by simp only [beqA, beqN_refl]
theorem le11 : (1 ≤ 1) = True := by simp
theorem bi_quo10 (k : IntKind) (a : Int) : Am.binOp .quo (.i k a) (.i k 10) = some (.i k (k.wrap (a.tdiv 10))) := by rw [bi_quo, if_neg (by decide)]
theorem bi_rem10 (k : IntKind) (a : Int) : Am.binOp .rem (.i k a) (.i k 10) = some (.i k (a.tmod 10)) := by rw [bi_rem, if_neg (by decide)]

theorem digits_ok : ∀ (m : Nat) (n : Int), n.natAbs ≤ m → -9223372036854775808 ≤ n → n ≤ 9223372036854775807 → ∀ s : St, (lim prog).call f_touchstoneref05_digits [.i .i64 n] s = some (.s (itoaN n), s) := by
  intro m
  induction m with
  | zero =>
    intro n hm h0 h1 s
    have : n = 0 := by omega
    subst this
    refine fn_W p_touchstoneref05_digits rfl rfl ?_
    have e1 : IntKind.i64.wrap (48 + 0) = 48 := rfl
    have e2 : IntKind.u8.wrap 48 = 48 := rfl
    have h00 : ((0 : Int) < 0) = False := by simp
    have h01 : ((0 : Int) < 10) = True := by simp
    simp only [c_touchstoneref05_digits, W_seq, W_reg, W_cond, W_blk, W_skip, W_exit, W_ret, W_regD, WO_nil, WO_cons, WO_guard2, wantV_b, bq_tt, bq_ft, bq_tf, bq_ff, Bool.not_true, Bool.not_false, WD_nil, WD_cons, WD_guard2, WS_some, WS_none, KS_n, KS_x, KS_r, KB_n, KB_x, KB_r, KN_ap, KO_ap, KD_ap, KC_nil, KF_n, KF_r, KG_n, KG_r, KL_n, KL_x, KL_r, CP_true, CP_false, evOp, evX, X.ev, optX, put_some, put_none, get_set2, sel_t, sel_f, Nat.reduceBEq, Nat.reduceAdd, Nat.reduceLT, Nat.reduceLeDiff, Nat.reduceEqDiff, reduceIte, if_true, if_false, bi_add, bi_sub, bi_mul, bi_eql, bi_neq, bi_lss, bi_leq, bi_gtr, bi_geq, bs_eql, bs_neq, bs_lss, Am.unOp, ret1, pubL, pub, pubA, initT, wkZ, wk, wants, resOf, tupOf, quiet, AOp.cls, Nat.beq_eq, Bool.or_eq_true, decide_true, decide_false, beq_self_eq_true, Bool.true_or, Bool.or_true, true_and, and_true, lenA, eqv, eqB, eqP, scal, new_box_self, List.getElem?_cons_zero, List.getElem?_cons_succ, key_ii, key_ss, findM, updM, esc_i, esc_s, esc_b, Int.reduceEq, ret1, new_nb, new_set, reduceCtorEq, Bool.xor_true, Bool.xor_false, Bool.false_eq_true, List.all_cons, List.all_nil, noTok, Bool.and_self, Bool.and_true, Bool.true_and, e1, e2, h00, h01, allLen_i, ok_full, bytesL_one (show (0 : Int) ≤ 48 by decide) (show (48 : Int) < 256 by decide)]
    exact KR_some (Over.enter s) rfl (by rw [itoa_pos (by decide)]; rw [show (0 : Int).toNat = 0 from rfl, dec_small (by decide)]; rfl)
  | succ m ih =>
    intro n hm h0 h1 s
    refine fn_W p_touchstoneref05_digits rfl rfl ?_
    simp only [c_touchstoneref05_digits, W_seq, W_reg, W_cond, W_blk, W_skip, W_exit, W_ret, W_regD, WO_nil, WO_cons, WO_guard2, wantV_b, bq_tt, bq_ft, bq_tf, bq_ff, Bool.not_true, Bool.not_false, WD_nil, WD_cons, WD_guard2, WS_some, WS_none, KS_n, KS_x, KS_r, KB_n, KB_x, KB_r, KN_ap, KO_ap, KD_ap, KC_nil, KF_n, KF_r, KG_n, KG_r, KL_n, KL_x, KL_r, CP_true, CP_false, evOp, evX, X.ev, optX, put_some, put_none, get_set2, sel_t, sel_f, Nat.reduceBEq, Nat.reduceAdd, Nat.reduceLT, Nat.reduceLeDiff, Nat.reduceEqDiff, reduceIte, if_true, if_false, bi_add, bi_sub, bi_mul, bi_eql, bi_neq, bi_lss, bi_leq, bi_gtr, bi_geq, bs_eql, bs_neq, bs_lss, Am.unOp, ret1, pubL, pub, pubA, initT, wkZ, wk, wants, resOf, tupOf, quiet, AOp.cls, Nat.beq_eq, Bool.or_eq_true, decide_true, decide_false, beq_self_eq_true, Bool.true_or, Bool.or_true, true_and, and_true, lenA, eqv, eqB, eqP, scal, new_box_self, List.getElem?_cons_zero, List.getElem?_cons_succ, key_ii, key_ss, findM, updM, esc_i, esc_s, esc_b, Int.reduceEq, ret1, new_nb, new_set, reduceCtorEq, Bool.xor_true, Bool.xor_false, Bool.false_eq_true, List.all_cons, List.all_nil, noTok, Bool.and_self, Bool.and_true, Bool.true_and]
    have hl := itoaN_len h0 h1
    refine CP_dec (fun hneg => ?_) (fun hneg => ?_)
    · refine CP_dec (fun hs => ?_) (fun hs => ?_)
      · have e1 : IntKind.i64.wrap (48 - n) = 48 - n := wrap_id (by omega) (by omega)
        have e2 : IntKind.u8.wrap (48 - n) = 48 - n := wrap_u8 (by omega) (by omega)
        simp only [W_seq, W_reg, W_cond, W_blk, W_skip, W_exit, W_ret, W_regD, WO_nil, WO_cons, WO_guard2, wantV_b, bq_tt, bq_ft, bq_tf, bq_ff, Bool.not_true, Bool.not_false, WD_nil, WD_cons, WD_guard2, WS_some, WS_none, KS_n, KS_x, KS_r, KB_n, KB_x, KB_r, KN_ap, KO_ap, KD_ap, KC_nil, KF_n, KF_r, KG_n, KG_r, KL_n, KL_x, KL_r, CP_true, CP_false, evOp, evX, X.ev, optX, put_some, put_none, get_set2, sel_t, sel_f, Nat.reduceBEq, Nat.reduceAdd, Nat.reduceLT, Nat.reduceLeDiff, Nat.reduceEqDiff, reduceIte, if_true, if_false, bi_add, bi_sub, bi_mul, bi_eql, bi_neq, bi_lss, bi_leq, bi_gtr, bi_geq, bs_eql, bs_neq, bs_lss, Am.unOp, ret1, pubL, pub, pubA, initT, wkZ, wk, wants, resOf, tupOf, quiet, AOp.cls, Nat.beq_eq, Bool.or_eq_true, decide_true, decide_false, beq_self_eq_true, Bool.true_or, Bool.or_true, true_and, and_true, lenA, eqv, eqB, eqP, scal, new_box_self, List.getElem?_cons_zero, List.getElem?_cons_succ, key_ii, key_ss, findM, updM, esc_i, esc_s, esc_b, Int.reduceEq, ret1, new_nb, new_set, reduceCtorEq, Bool.xor_true, Bool.xor_false, Bool.false_eq_true, List.all_cons, List.all_nil, noTok, Bool.and_self, Bool.and_true, Bool.true_and, e1, e2, allLen_i, ok_full, bytesL_one (show (0 : Int) ≤ 48 - n by omega) (show 48 - n < 256 by omega), cat_ok (show [45].length + [(48 - n).toNat].length < 2 ^ 62 by simp)]
        exact KR_some (Over.enter s) rfl (by
          rw [itoa_neg hneg, dec_small (by omega), show (48 - n).toNat = 48 + n.natAbs by omega]; rfl)
      · have hd : n.tdiv 10 = -((n.natAbs / 10 : Nat) : Int) := by
          conv => lhs; rw [show n = -(n.natAbs : Int) by omega, Int.neg_tdiv]
          rfl
        have hm2 : n.tmod 10 = -((n.natAbs % 10 : Nat) : Int) := by
          conv => lhs; rw [show n = -(n.natAbs : Int) by omega, Int.neg_tmod]
          rfl
        have e1 : IntKind.i64.wrap (48 - n.tmod 10) = 48 - n.tmod 10 := wrap_id (by omega) (by omega)
        have e2 : IntKind.u8.wrap (48 - n.tmod 10) = 48 - n.tmod 10 := wrap_u8 (by omega) (by omega)
        have e3 : IntKind.i64.wrap (n.tdiv 10) = n.tdiv 10 := wrap_id (by omega) (by omega)
        have hst : itoaN n = itoaN (n.tdiv 10) ++ [(48 - n.tmod 10).toNat] := by
          rw [itoa_neg hneg, itoa_neg (show n.tdiv 10 < 0 by omega), dec_step (show ¬ n.natAbs < 10 by omega), show (n.tdiv 10).natAbs = n.natAbs / 10 by omega, show (48 - n.tmod 10).toNat = 48 + n.natAbs % 10 by omega]
          rfl
        have hcat : (itoaN (n.tdiv 10)).length + [(48 - n.tmod 10).toNat].length < 2 ^ 62 := by
          have := itoaN_len (n := n.tdiv 10) (by omega) (by omega)
          simp; omega
        have ihd := ih (n.tdiv 10) (by omega) (by omega) (by omega) s.enter
        simp only [W_seq, W_reg, W_cond, W_blk, W_skip, W_exit, W_ret, W_regD, WO_nil, WO_cons, WO_guard2, wantV_b, bq_tt, bq_ft, bq_tf, bq_ff, Bool.not_true, Bool.not_false, WD_nil, WD_cons, WD_guard2, WS_some, WS_none, KS_n, KS_x, KS_r, KB_n, KB_x, KB_r, KN_ap, KO_ap, KD_ap, KC_nil, KF_n, KF_r, KG_n, KG_r, KL_n, KL_x, KL_r, CP_true, CP_false, evOp, evX, X.ev, optX, put_some, put_none, get_set2, sel_t, sel_f, Nat.reduceBEq, Nat.reduceAdd, Nat.reduceLT, Nat.reduceLeDiff, Nat.reduceEqDiff, reduceIte, if_true, if_false, bi_add, bi_sub, bi_mul, bi_eql, bi_neq, bi_lss, bi_leq, bi_gtr, bi_geq, bs_eql, bs_neq, bs_lss, Am.unOp, ret1, pubL, pub, pubA, initT, wkZ, wk, wants, resOf, tupOf, quiet, AOp.cls, Nat.beq_eq, Bool.or_eq_true, decide_true, decide_false, beq_self_eq_true, Bool.true_or, Bool.or_true, true_and, and_true, lenA, eqv, eqB, eqP, scal, new_box_self, List.getElem?_cons_zero, List.getElem?_cons_succ, key_ii, key_ss, findM, updM, esc_i, esc_s, esc_b, Int.reduceEq, ret1, new_nb, new_set, reduceCtorEq, Bool.xor_true, Bool.xor_false, Bool.false_eq_true, List.all_cons, List.all_nil, noTok, Bool.and_self, Bool.and_true, Bool.true_and, bi_quo10, bi_rem10, e1, e2, e3, ihd, allLen_i, ok_full, bytesL_one (show (0 : Int) ≤ 48 - n.tmod 10 by omega) (show 48 - n.tmod 10 < 256 by omega), cat_ok hcat]
        rw [KC_ap]
        refine ⟨?_, KR_some (Over.enter s) rfl (by rw [hst]; rfl)⟩
        simp only [chkD, sameAt, List.range', List.nil_append, List.cons_append, Nat.reduceSub, Nat.reduceAdd, List.all_cons, List.all_nil, List.getElem?_cons_zero, List.getElem?_cons_succ, W_seq, W_reg, W_cond, W_blk, W_skip, W_exit, W_ret, W_regD, WO_nil, WO_cons, WO_guard2, wantV_b, bq_tt, bq_ft, bq_tf, bq_ff, Bool.not_true, Bool.not_false, WD_nil, WD_cons, WD_guard2, WS_some, WS_none, KS_n, KS_x, KS_r, KB_n, KB_x, KB_r, KN_ap, KO_ap, KD_ap, KC_nil, KF_n, KF_r, KG_n, KG_r, KL_n, KL_x, KL_r, CP_true, CP_false, evOp, evX, X.ev, optX, put_some, put_none, get_set2, sel_t, sel_f, Nat.reduceBEq, Nat.reduceAdd, Nat.reduceLT, Nat.reduceLeDiff, Nat.reduceEqDiff, reduceIte, if_true, if_false, bi_add, bi_sub, bi_mul, bi_eql, bi_neq, bi_lss, bi_leq, bi_gtr, bi_geq, bs_eql, bs_neq, bs_lss, Am.unOp, ret1, pubL, pub, pubA, initT, wkZ, wk, wants, resOf, tupOf, quiet, AOp.cls, Nat.beq_eq, Bool.or_eq_true, decide_true, decide_false, beq_self_eq_true, Bool.true_or, Bool.or_true, true_and, and_true, lenA, eqv, eqB, eqP, scal, new_box_self, List.getElem?_cons_zero, List.getElem?_cons_succ, key_ii, key_ss, findM, updM, esc_i, esc_s, esc_b, Int.reduceEq, ret1, new_nb, new_set, reduceCtorEq, Bool.xor_true, Bool.xor_false, Bool.false_eq_true, List.all_cons, List.all_nil, noTok, Bool.and_self, Bool.and_true, Bool.true_and, allLen_i, ok_full, bytesL_one (show (0 : Int) ≤ 48 - n.tmod 10 by omega) (show 48 - n.tmod 10 < 256 by omega), beq_s1]
    · refine CP_dec (fun hs => ?_) (fun hs => ?_)
      · have e1 : IntKind.i64.wrap (48 + n) = 48 + n := wrap_id (by omega) (by omega)
        have e2 : IntKind.u8.wrap (48 + n) = 48 + n := wrap_u8 (by omega) (by omega)
        simp only [W_seq, W_reg, W_cond, W_blk, W_skip, W_exit, W_ret, W_regD, WO_nil, WO_cons, WO_guard2, wantV_b, bq_tt, bq_ft, bq_tf, bq_ff, Bool.not_true, Bool.not_false, WD_nil, WD_cons, WD_guard2, WS_some, WS_none, KS_n, KS_x, KS_r, KB_n, KB_x, KB_r, KN_ap, KO_ap, KD_ap, KC_nil, KF_n, KF_r, KG_n, KG_r, KL_n, KL_x, KL_r, CP_true, CP_false, evOp, evX, X.ev, optX, put_some, put_none, get_set2, sel_t, sel_f, Nat.reduceBEq, Nat.reduceAdd, Nat.reduceLT, Nat.reduceLeDiff, Nat.reduceEqDiff, reduceIte, if_true, if_false, bi_add, bi_sub, bi_mul, bi_eql, bi_neq, bi_lss, bi_leq, bi_gtr, bi_geq, bs_eql, bs_neq, bs_lss, Am.unOp, ret1, pubL, pub, pubA, initT, wkZ, wk, wants, resOf, tupOf, quiet, AOp.cls, Nat.beq_eq, Bool.or_eq_true, decide_true, decide_false, beq_self_eq_true, Bool.true_or, Bool.or_true, true_and, and_true, lenA, eqv, eqB, eqP, scal, new_box_self, List.getElem?_cons_zero, List.getElem?_cons_succ, key_ii, key_ss, findM, updM, esc_i, esc_s, esc_b, Int.reduceEq, ret1, new_nb, new_set, reduceCtorEq, Bool.xor_true, Bool.xor_false, Bool.false_eq_true, List.all_cons, List.all_nil, noTok, Bool.and_self, Bool.and_true, Bool.true_and, e1, e2, allLen_i, ok_full, bytesL_one (show (0 : Int) ≤ 48 + n by omega) (show 48 + n < 256 by omega)]
        exact KR_some (Over.enter s) rfl (by
          rw [itoa_pos hneg, dec_small (by omega), show (48 + n).toNat = 48 + n.toNat by omega]; rfl)
      · have hd : n.tdiv 10 = ((n.natAbs / 10 : Nat) : Int) := by
          conv => lhs; rw [show n = (n.natAbs : Int) by omega]
          rfl
        have hm2 : n.tmod 10 = ((n.natAbs % 10 : Nat) : Int) := by
          conv => lhs; rw [show n = (n.natAbs : Int) by omega]
          rfl
        have e1 : IntKind.i64.wrap (48 + n.tmod 10) = 48 + n.tmod 10 := wrap_id (by omega) (by omega)
        have e2 : IntKind.u8.wrap (48 + n.tmod 10) = 48 + n.tmod 10 := wrap_u8 (by omega) (by omega)
        have e3 : IntKind.i64.wrap (n.tdiv 10) = n.tdiv 10 := wrap_id (by omega) (by omega)
        have hst : itoaN n = itoaN (n.tdiv 10) ++ [(48 + n.tmod 10).toNat] := by
          rw [itoa_pos hneg, itoa_pos (show ¬ n.tdiv 10 < 0 by omega), dec_step (show ¬ n.toNat < 10 by omega), show (n.tdiv 10).toNat = n.toNat / 10 by omega, show (48 + n.tmod 10).toNat = 48 + n.toNat % 10 by omega]
        have hcat : (itoaN (n.tdiv 10)).length + [(48 + n.tmod 10).toNat].length < 2 ^ 62 := by
          have := itoaN_len (n := n.tdiv 10) (by omega) (by omega)
          simp; omega
        have ihd := ih (n.tdiv 10) (by omega) (by omega) (by omega) s.enter
        simp only [W_seq, W_reg, W_cond, W_blk, W_skip, W_exit, W_ret, W_regD, WO_nil, WO_cons, WO_guard2, wantV_b, bq_tt, bq_ft, bq_tf, bq_ff, Bool.not_true, Bool.not_false, WD_nil, WD_cons, WD_guard2, WS_some, WS_none, KS_n, KS_x, KS_r, KB_n, KB_x, KB_r, KN_ap, KO_ap, KD_ap, KC_nil, KF_n, KF_r, KG_n, KG_r, KL_n, KL_x, KL_r, CP_true, CP_false, evOp, evX, X.ev, optX, put_some, put_none, get_set2, sel_t, sel_f, Nat.reduceBEq, Nat.reduceAdd, Nat.reduceLT, Nat.reduceLeDiff, Nat.reduceEqDiff, reduceIte, if_true, if_false, bi_add, bi_sub, bi_mul, bi_eql, bi_neq, bi_lss, bi_leq, bi_gtr, bi_geq, bs_eql, bs_neq, bs_lss, Am.unOp, ret1, pubL, pub, pubA, initT, wkZ, wk, wants, resOf, tupOf, quiet, AOp.cls, Nat.beq_eq, Bool.or_eq_true, decide_true, decide_false, beq_self_eq_true, Bool.true_or, Bool.or_true, true_and, and_true, lenA, eqv, eqB, eqP, scal, new_box_self, List.getElem?_cons_zero, List.getElem?_cons_succ, key_ii, key_ss, findM, updM, esc_i, esc_s, esc_b, Int.reduceEq, ret1, new_nb, new_set, reduceCtorEq, Bool.xor_true, Bool.xor_false, Bool.false_eq_true, List.all_cons, List.all_nil, noTok, Bool.and_self, Bool.and_true, Bool.true_and, bi_quo10, bi_rem10, e1, e2, e3, ihd, allLen_i, ok_full, bytesL_one (show (0 : Int) ≤ 48 + n.tmod 10 by omega) (show 48 + n.tmod 10 < 256 by omega), cat_ok hcat]
        rw [KC_ap]
        refine ⟨?_, KR_some (Over.enter s) rfl (by rw [hst]; rfl)⟩
        simp only [chkD, sameAt, List.range', List.nil_append, List.cons_append, Nat.reduceSub, Nat.reduceAdd, List.all_cons, List.all_nil, List.getElem?_cons_zero, List.getElem?_cons_succ, W_seq, W_reg, W_cond, W_blk, W_skip, W_exit, W_ret, W_regD, WO_nil, WO_cons, WO_guard2, wantV_b, bq_tt, bq_ft, bq_tf, bq_ff, Bool.not_true, Bool.not_false, WD_nil, WD_cons, WD_guard2, WS_some, WS_none, KS_n, KS_x, KS_r, KB_n, KB_x, KB_r, KN_ap, KO_ap, KD_ap, KC_nil, KF_n, KF_r, KG_n, KG_r, KL_n, KL_x, KL_r, CP_true, CP_false, evOp, evX, X.ev, optX, put_some, put_none, get_set2, sel_t, sel_f, Nat.reduceBEq, Nat.reduceAdd, Nat.reduceLT, Nat.reduceLeDiff, Nat.reduceEqDiff, reduceIte, if_true, if_false, bi_add, bi_sub, bi_mul, bi_eql, bi_neq, bi_lss, bi_leq, bi_gtr, bi_geq, bs_eql, bs_neq, bs_lss, Am.unOp, ret1, pubL, pub, pubA, initT, wkZ, wk, wants, resOf, tupOf, quiet, AOp.cls, Nat.beq_eq, Bool.or_eq_true, decide_true, decide_false, beq_self_eq_true, Bool.true_or, Bool.or_true, true_and, and_true, lenA, eqv, eqB, eqP, scal, new_box_self, List.getElem?_cons_zero, List.getElem?_cons_succ, key_ii, key_ss, findM, updM, esc_i, esc_s, esc_b, Int.reduceEq, ret1, new_nb, new_set, reduceCtorEq, Bool.xor_true, Bool.xor_false, Bool.false_eq_true, List.all_cons, List.all_nil, noTok, Bool.and_self, Bool.and_true, Bool.true_and, allLen_i, ok_full, bytesL_one (show (0 : Int) ≤ 48 + n.tmod 10 by omega) (show 48 + n.tmod 10 < 256 by omega), beq_s1]

theorem itoa_digit {i : Nat} (h1 : i < 10) : itoaN (i : Int) = [48 + i] := by
  rw [itoa_pos (by omega), show ((i : Nat) : Int).toNat = i by omega, dec_small h1]

theorem refValue_ok (v : VV) (hv : v.Ok) (name : List Nat) (s : St) : (lim prog).call f_touchstoneref05_Value [v.av, .s name] s = some (.s (valueL itoaN v name), s) := by
  refine fn_W p_touchstoneref05_Value rfl rfl ?_
  have ov : Over s (s.enter.new (.cells 24 v.cells)) := (Over.enter s).new _
  simp only [c_touchstoneref05_Value, W_seq, W_reg, W_cond, W_blk, W_skip, W_exit, W_ret, W_regD, WO_nil, WO_cons, WO_guard2, wantV_b, bq_tt, bq_ft, bq_tf, bq_ff, Bool.not_true, Bool.not_false, WD_nil, WD_cons, WD_guard2, WS_some, WS_none, KS_n, KS_x, KS_r, KB_n, KB_x, KB_r, KN_ap, KO_ap, KD_ap, KC_nil, KF_n, KF_r, KG_n, KG_r, KL_n, KL_x, KL_r, CP_true, CP_false, evOp, evX, X.ev, optX, put_some, put_none, get_set2, sel_t, sel_f, Nat.reduceBEq, Nat.reduceAdd, Nat.reduceLT, Nat.reduceLeDiff, Nat.reduceEqDiff, reduceIte, if_true, if_false, bi_add, bi_sub, bi_mul, bi_eql, bi_neq, bi_lss, bi_leq, bi_gtr, bi_geq, bs_eql, bs_neq, bs_lss, Am.unOp, ret1, pubL, pub, pubA, initT, wkZ, wk, wants, resOf, tupOf, quiet, AOp.cls, Nat.beq_eq, Bool.or_eq_true, decide_true, decide_false, beq_self_eq_true, Bool.true_or, Bool.or_true, true_and, and_true, lenA, eqv, eqB, eqP, scal, new_box_self, List.getElem?_cons_zero, List.getElem?_cons_succ, key_ii, key_ss, findM, updM, esc_i, esc_s, esc_b, Int.reduceEq, ret1, new_nb, new_set, reduceCtorEq, Bool.xor_true, Bool.xor_false, Bool.false_eq_true, List.all_cons, List.all_nil, noTok, Bool.and_self, Bool.and_true, Bool.true_and, cells_agg, len4, ld4_0, ld4_1, ld4_2, ld4_3, List.length_map, ofNat_len]
  refine CP_dec (fun h => ?_) (fun h1 => ?_)
  · subst h
    rw [digits_ok _ _ (Nat.le_refl _) (by omega) (by have := hv.a; omega)]
    simp only [W_seq, W_reg, W_cond, W_blk, W_skip, W_exit, W_ret, W_regD, WO_nil, WO_cons, WO_guard2, wantV_b, bq_tt, bq_ft, bq_tf, bq_ff, Bool.not_true, Bool.not_false, WD_nil, WD_cons, WD_guard2, WS_some, WS_none, KS_n, KS_x, KS_r, KB_n, KB_x, KB_r, KN_ap, KO_ap, KD_ap, KC_nil, KF_n, KF_r, KG_n, KG_r, KL_n, KL_x, KL_r, CP_true, CP_false, evOp, evX, X.ev, optX, put_some, put_none, get_set2, sel_t, sel_f, Nat.reduceBEq, Nat.reduceAdd, Nat.reduceLT, Nat.reduceLeDiff, Nat.reduceEqDiff, reduceIte, if_true, if_false, bi_add, bi_sub, bi_mul, bi_eql, bi_neq, bi_lss, bi_leq, bi_gtr, bi_geq, bs_eql, bs_neq, bs_lss, Am.unOp, ret1, pubL, pub, pubA, initT, wkZ, wk, wants, resOf, tupOf, quiet, AOp.cls, Nat.beq_eq, Bool.or_eq_true, decide_true, decide_false, beq_self_eq_true, Bool.true_or, Bool.or_true, true_and, and_true, lenA, eqv, eqB, eqP, scal, new_box_self, List.getElem?_cons_zero, List.getElem?_cons_succ, key_ii, key_ss, findM, updM, esc_i, esc_s, esc_b, Int.reduceEq, ret1, new_nb, new_set, reduceCtorEq, Bool.xor_true, Bool.xor_false, Bool.false_eq_true, List.all_cons, List.all_nil, noTok, Bool.and_self, Bool.and_true, Bool.true_and]
    exact KR_some ov rfl (by simp [tupOf, wkZ, wk, valueL])
  refine CP_dec (fun h => ?_) (fun h2 => ?_)
  · subst h
    rw [digits_ok _ _ (Nat.le_refl _) hv.s0 hv.s1]
    simp only [W_seq, W_reg, W_cond, W_blk, W_skip, W_exit, W_ret, W_regD, WO_nil, WO_cons, WO_guard2, wantV_b, bq_tt, bq_ft, bq_tf, bq_ff, Bool.not_true, Bool.not_false, WD_nil, WD_cons, WD_guard2, WS_some, WS_none, KS_n, KS_x, KS_r, KB_n, KB_x, KB_r, KN_ap, KO_ap, KD_ap, KC_nil, KF_n, KF_r, KG_n, KG_r, KL_n, KL_x, KL_r, CP_true, CP_false, evOp, evX, X.ev, optX, put_some, put_none, get_set2, sel_t, sel_f, Nat.reduceBEq, Nat.reduceAdd, Nat.reduceLT, Nat.reduceLeDiff, Nat.reduceEqDiff, reduceIte, if_true, if_false, bi_add, bi_sub, bi_mul, bi_eql, bi_neq, bi_lss, bi_leq, bi_gtr, bi_geq, bs_eql, bs_neq, bs_lss, Am.unOp, ret1, pubL, pub, pubA, initT, wkZ, wk, wants, resOf, tupOf, quiet, AOp.cls, Nat.beq_eq, Bool.or_eq_true, decide_true, decide_false, beq_self_eq_true, Bool.true_or, Bool.or_true, true_and, and_true, lenA, eqv, eqB, eqP, scal, new_box_self, List.getElem?_cons_zero, List.getElem?_cons_succ, key_ii, key_ss, findM, updM, esc_i, esc_s, esc_b, Int.reduceEq, ret1, new_nb, new_set, reduceCtorEq, Bool.xor_true, Bool.xor_false, Bool.false_eq_true, List.all_cons, List.all_nil, noTok, Bool.and_self, Bool.and_true, Bool.true_and]
    exact KR_some ov rfl (by simp [tupOf, wkZ, wk, valueL])
  have hl0 := ld4_0 s.enter 24 (tx v.names) (tx v.values) (tx v.args) (.i .i64 v.status)
  have hl1 := ld4_1 s.enter 24 (tx v.names) (tx v.values) (tx v.args) (.i .i64 v.status)
  have hl2 := ld4_2 s.enter 24 (tx v.names) (tx v.values) (tx v.args) (.i .i64 v.status)
  obtain ⟨s1, hs1⟩ : ∃ s1, s.enter.new (.cells 24 v.cells) = s1 := ⟨_, rfl⟩
  simp only [VV.cells] at hs1
  rw [hs1] at hl0 hl1 hl2 ov
  simp only [hs1]
  refine W_loop (fun n e q => s1 = q ∧ e.get 1 = .s name ∧ e.get 2 = .p s.enter.nb 0 ∧ ∃ i : Nat, i + n = 10 ∧ 1 ≤ i ∧ e.get 5 = .i .i64 i ∧ ∀ j : Nat, 1 ≤ j → j < i → name ≠ [48 + j]) ?_ 9 _ _ ?_
  · rintro n e q ⟨rfl, g1, g2, i, hi, hi1, g5, hn⟩
    simp only [W_seq, W_reg, W_cond, W_blk, W_skip, W_exit, W_ret, W_regD, WO_nil, WO_cons, WO_guard2, wantV_b, bq_tt, bq_ft, bq_tf, bq_ff, Bool.not_true, Bool.not_false, WD_nil, WD_cons, WD_guard2, WS_some, WS_none, KS_n, KS_x, KS_r, KB_n, KB_x, KB_r, KN_ap, KO_ap, KD_ap, KC_nil, KF_n, KF_r, KG_n, KG_r, KL_n, KL_x, KL_r, CP_true, CP_false, evOp, evX, X.ev, optX, put_some, put_none, get_set2, sel_t, sel_f, Nat.reduceBEq, Nat.reduceAdd, Nat.reduceLT, Nat.reduceLeDiff, Nat.reduceEqDiff, reduceIte, if_true, if_false, bi_add, bi_sub, bi_mul, bi_eql, bi_neq, bi_lss, bi_leq, bi_gtr, bi_geq, bs_eql, bs_neq, bs_lss, Am.unOp, ret1, pubL, pub, pubA, initT, wkZ, wk, wants, resOf, tupOf, quiet, AOp.cls, Nat.beq_eq, Bool.or_eq_true, decide_true, decide_false, beq_self_eq_true, Bool.true_or, Bool.or_true, true_and, and_true, lenA, eqv, eqB, eqP, scal, new_box_self, List.getElem?_cons_zero, List.getElem?_cons_succ, key_ii, key_ss, findM, updM, esc_i, esc_s, esc_b, Int.reduceEq, ret1, new_nb, new_set, reduceCtorEq, Bool.xor_true, Bool.xor_false, Bool.false_eq_true, List.all_cons, List.all_nil, noTok, Bool.and_self, Bool.and_true, Bool.true_and, g1, g2, g5]
    refine CP_dec (fun hle => ?_) (fun hgt => ?_)
    · have hd := digits_ok _ (i : Int) (Nat.le_refl _) (by omega) (by omega) s1
      rw [itoa_digit (show i < 10 by omega)] at hd
      simp only [W_seq, W_reg, W_cond, W_blk, W_skip, W_exit, W_ret, W_regD, WO_nil, WO_cons, WO_guard2, wantV_b, bq_tt, bq_ft, bq_tf, bq_ff, Bool.not_true, Bool.not_false, WD_nil, WD_cons, WD_guard2, WS_some, WS_none, KS_n, KS_x, KS_r, KB_n, KB_x, KB_r, KN_ap, KO_ap, KD_ap, KC_nil, KF_n, KF_r, KG_n, KG_r, KL_n, KL_x, KL_r, CP_true, CP_false, evOp, evX, X.ev, optX, put_some, put_none, get_set2, sel_t, sel_f, Nat.reduceBEq, Nat.reduceAdd, Nat.reduceLT, Nat.reduceLeDiff, Nat.reduceEqDiff, reduceIte, if_true, if_false, bi_add, bi_sub, bi_mul, bi_eql, bi_neq, bi_lss, bi_leq, bi_gtr, bi_geq, bs_eql, bs_neq, bs_lss, Am.unOp, ret1, pubL, pub, pubA, initT, wkZ, wk, wants, resOf, tupOf, quiet, AOp.cls, Nat.beq_eq, Bool.or_eq_true, decide_true, decide_false, beq_self_eq_true, Bool.true_or, Bool.or_true, true_and, and_true, lenA, eqv, eqB, eqP, scal, new_box_self, List.getElem?_cons_zero, List.getElem?_cons_succ, key_ii, key_ss, findM, updM, esc_i, esc_s, esc_b, Int.reduceEq, ret1, new_nb, new_set, reduceCtorEq, Bool.xor_true, Bool.xor_false, Bool.false_eq_true, List.all_cons, List.all_nil, noTok, Bool.and_self, Bool.and_true, Bool.true_and, g1, g2, g5, hd]
      refine CP_dec (fun heq => ?_) (fun hne => ?_)
      · have hval : valueL itoaN v name = v.args.getD (i - 1) [] := by
          unfold valueL
          rw [if_neg h1, if_neg h2]
          subst heq
          simp only [if_pos (⟨by omega, by omega⟩ : 49 ≤ 48 + i ∧ 48 + i ≤ 57)]
          congr 1
          omega
        simp only [W_seq, W_reg, W_cond, W_blk, W_skip, W_exit, W_ret, W_regD, WO_nil, WO_cons, WO_guard2, wantV_b, bq_tt, bq_ft, bq_tf, bq_ff, Bool.not_true, Bool.not_false, WD_nil, WD_cons, WD_guard2, WS_some, WS_none, KS_n, KS_x, KS_r, KB_n, KB_x, KB_r, KN_ap, KO_ap, KD_ap, KC_nil, KF_n, KF_r, KG_n, KG_r, KL_n, KL_x, KL_r, CP_true, CP_false, evOp, evX, X.ev, optX, put_some, put_none, get_set2, sel_t, sel_f, Nat.reduceBEq, Nat.reduceAdd, Nat.reduceLT, Nat.reduceLeDiff, Nat.reduceEqDiff, reduceIte, if_true, if_false, bi_add, bi_sub, bi_mul, bi_eql, bi_neq, bi_lss, bi_leq, bi_gtr, bi_geq, bs_eql, bs_neq, bs_lss, Am.unOp, ret1, pubL, pub, pubA, initT, wkZ, wk, wants, resOf, tupOf, quiet, AOp.cls, Nat.beq_eq, Bool.or_eq_true, decide_true, decide_false, beq_self_eq_true, Bool.true_or, Bool.or_true, true_and, and_true, lenA, eqv, eqB, eqP, scal, new_box_self, List.getElem?_cons_zero, List.getElem?_cons_succ, key_ii, key_ss, findM, updM, esc_i, esc_s, esc_b, Int.reduceEq, ret1, new_nb, new_set, reduceCtorEq, Bool.xor_true, Bool.xor_false, Bool.false_eq_true, List.all_cons, List.all_nil, noTok, Bool.and_self, Bool.and_true, Bool.true_and, g1, g2, g5, hl2, List.length_map, ofNat_len]
        refine CP_dec (fun hla => ?_) (fun hla => ?_)
        · have hi2 : i - 1 < v.args.length := by omega
          have e1 : IntKind.i64.wrap ((i : Int) - 1) = ((i - 1 : Nat) : Int) := by
            rw [wrap_id (by omega) (by omega)]; omega
          simp only [W_seq, W_reg, W_cond, W_blk, W_skip, W_exit, W_ret, W_regD, WO_nil, WO_cons, WO_guard2, wantV_b, bq_tt, bq_ft, bq_tf, bq_ff, Bool.not_true, Bool.not_false, WD_nil, WD_cons, WD_guard2, WS_some, WS_none, KS_n, KS_x, KS_r, KB_n, KB_x, KB_r, KN_ap, KO_ap, KD_ap, KC_nil, KF_n, KF_r, KG_n, KG_r, KL_n, KL_x, KL_r, CP_true, CP_false, evOp, evX, X.ev, optX, put_some, put_none, get_set2, sel_t, sel_f, Nat.reduceBEq, Nat.reduceAdd, Nat.reduceLT, Nat.reduceLeDiff, Nat.reduceEqDiff, reduceIte, if_true, if_false, bi_add, bi_sub, bi_mul, bi_eql, bi_neq, bi_lss, bi_leq, bi_gtr, bi_geq, bs_eql, bs_neq, bs_lss, Am.unOp, ret1, pubL, pub, pubA, initT, wkZ, wk, wants, resOf, tupOf, quiet, AOp.cls, Nat.beq_eq, Bool.or_eq_true, decide_true, decide_false, beq_self_eq_true, Bool.true_or, Bool.or_true, true_and, and_true, lenA, eqv, eqB, eqP, scal, new_box_self, List.getElem?_cons_zero, List.getElem?_cons_succ, key_ii, key_ss, findM, updM, esc_i, esc_s, esc_b, Int.reduceEq, ret1, new_nb, new_set, reduceCtorEq, Bool.xor_true, Bool.xor_false, Bool.false_eq_true, List.all_cons, List.all_nil, noTok, Bool.and_self, Bool.and_true, Bool.true_and, g1, g2, g5, hl2, e1, natOf_nat, tx_get hi2, cells_s, ldA_1]
          exact KR_some ov rfl (by rw [hval]; simp [tupOf, wkZ, wk, hi2])
        · exact KR_some ov rfl (by
            have : v.args.length ≤ i - 1 := by omega
            rw [hval]; simp [tupOf, wkZ, wk, this])
      · simp only [W_seq, W_reg, W_cond, W_blk, W_skip, W_exit, W_ret, W_regD, WO_nil, WO_cons, WO_guard2, wantV_b, bq_tt, bq_ft, bq_tf, bq_ff, Bool.not_true, Bool.not_false, WD_nil, WD_cons, WD_guard2, WS_some, WS_none, KS_n, KS_x, KS_r, KB_n, KB_x, KB_r, KN_ap, KO_ap, KD_ap, KC_nil, KF_n, KF_r, KG_n, KG_r, KL_n, KL_x, KL_r, CP_true, CP_false, evOp, evX, X.ev, optX, put_some, put_none, get_set2, sel_t, sel_f, Nat.reduceBEq, Nat.reduceAdd, Nat.reduceLT, Nat.reduceLeDiff, Nat.reduceEqDiff, reduceIte, if_true, if_false, bi_add, bi_sub, bi_mul, bi_eql, bi_neq, bi_lss, bi_leq, bi_gtr, bi_geq, bs_eql, bs_neq, bs_lss, Am.unOp, ret1, pubL, pub, pubA, initT, wkZ, wk, wants, resOf, tupOf, quiet, AOp.cls, Nat.beq_eq, Bool.or_eq_true, decide_true, decide_false, beq_self_eq_true, Bool.true_or, Bool.or_true, true_and, and_true, lenA, eqv, eqB, eqP, scal, new_box_self, List.getElem?_cons_zero, List.getElem?_cons_succ, key_ii, key_ss, findM, updM, esc_i, esc_s, esc_b, Int.reduceEq, ret1, new_nb, new_set, reduceCtorEq, Bool.xor_true, Bool.xor_false, Bool.false_eq_true, List.all_cons, List.all_nil, noTok, Bool.and_self, Bool.and_true, Bool.true_and, wrap_succ (show i + 1 < 2 ^ 63 by omega), g1, g2, g5]
        refine ⟨n - 1, by omega, i + 1, by omega, by omega, rfl, fun j hj1 hj => ?_⟩
        by_cases hji : j = i
        · subst hji; exact hne
        · exact hn j hj1 (by omega)
    · have hval : valueL itoaN v name = if 0 ≤ idxL name v.names ∧ idxL name v.names < v.values.length then v.values.getD (idxL name v.names).toNat [] else [] := by
        unfold valueL
        rw [if_neg h1, if_neg h2]
        split
        · rename_i c
          rw [if_neg (fun hc => hn (c - 48) (by omega) (by omega) (by rw [show 48 + (c - 48) = c by omega]))]
        · rfl
      refine W_loop (fun n e q => s1 = q ∧ e.get 1 = .s name ∧ e.get 2 = .p s.enter.nb 0 ∧ ∃ i : Nat, i + n = v.names.length ∧ e.get 6 = .i .i64 i ∧ ∀ (j : Nat) (hj : j < i) (hL : j < v.names.length), v.names[j] ≠ name) ?_ v.names.length _ _ ?_
      · rintro n e q ⟨rfl, g1, g2, i, hi, g6, hn⟩
        simp only [W_seq, W_reg, W_cond, W_blk, W_skip, W_exit, W_ret, W_regD, WO_nil, WO_cons, WO_guard2, wantV_b, bq_tt, bq_ft, bq_tf, bq_ff, Bool.not_true, Bool.not_false, WD_nil, WD_cons, WD_guard2, WS_some, WS_none, KS_n, KS_x, KS_r, KB_n, KB_x, KB_r, KN_ap, KO_ap, KD_ap, KC_nil, KF_n, KF_r, KG_n, KG_r, KL_n, KL_x, KL_r, CP_true, CP_false, evOp, evX, X.ev, optX, put_some, put_none, get_set2, sel_t, sel_f, Nat.reduceBEq, Nat.reduceAdd, Nat.reduceLT, Nat.reduceLeDiff, Nat.reduceEqDiff, reduceIte, if_true, if_false, bi_add, bi_sub, bi_mul, bi_eql, bi_neq, bi_lss, bi_leq, bi_gtr, bi_geq, bs_eql, bs_neq, bs_lss, Am.unOp, ret1, pubL, pub, pubA, initT, wkZ, wk, wants, resOf, tupOf, quiet, AOp.cls, Nat.beq_eq, Bool.or_eq_true, decide_true, decide_false, beq_self_eq_true, Bool.true_or, Bool.or_true, true_and, and_true, lenA, eqv, eqB, eqP, scal, new_box_self, List.getElem?_cons_zero, List.getElem?_cons_succ, key_ii, key_ss, findM, updM, esc_i, esc_s, esc_b, Int.reduceEq, ret1, new_nb, new_set, reduceCtorEq, Bool.xor_true, Bool.xor_false, Bool.false_eq_true, List.all_cons, List.all_nil, noTok, Bool.and_self, Bool.and_true, Bool.true_and, g1, g2, g6, hl0, List.length_map, ofNat_len]
        refine CP_dec (fun hlt => ?_) (fun hge => ?_)
        · have hlt : i < v.names.length := by omega
          simp only [W_seq, W_reg, W_cond, W_blk, W_skip, W_exit, W_ret, W_regD, WO_nil, WO_cons, WO_guard2, wantV_b, bq_tt, bq_ft, bq_tf, bq_ff, Bool.not_true, Bool.not_false, WD_nil, WD_cons, WD_guard2, WS_some, WS_none, KS_n, KS_x, KS_r, KB_n, KB_x, KB_r, KN_ap, KO_ap, KD_ap, KC_nil, KF_n, KF_r, KG_n, KG_r, KL_n, KL_x, KL_r, CP_true, CP_false, evOp, evX, X.ev, optX, put_some, put_none, get_set2, sel_t, sel_f, Nat.reduceBEq, Nat.reduceAdd, Nat.reduceLT, Nat.reduceLeDiff, Nat.reduceEqDiff, reduceIte, if_true, if_false, bi_add, bi_sub, bi_mul, bi_eql, bi_neq, bi_lss, bi_leq, bi_gtr, bi_geq, bs_eql, bs_neq, bs_lss, Am.unOp, ret1, pubL, pub, pubA, initT, wkZ, wk, wants, resOf, tupOf, quiet, AOp.cls, Nat.beq_eq, Bool.or_eq_true, decide_true, decide_false, beq_self_eq_true, Bool.true_or, Bool.or_true, true_and, and_true, lenA, eqv, eqB, eqP, scal, new_box_self, List.getElem?_cons_zero, List.getElem?_cons_succ, key_ii, key_ss, findM, updM, esc_i, esc_s, esc_b, Int.reduceEq, ret1, new_nb, new_set, reduceCtorEq, Bool.xor_true, Bool.xor_false, Bool.false_eq_true, List.all_cons, List.all_nil, noTok, Bool.and_self, Bool.and_true, Bool.true_and, g1, g2, g6, hl0, natOf_nat, tx_get hlt, cells_s, ldA_1]
          refine CP_dec (fun heq => ?_) (fun hne => ?_)
          · have hidx := idxL_hit hlt heq (fun j hj => hn j hj (by omega))
            rw [hidx] at hval
            simp only [W_seq, W_reg, W_cond, W_blk, W_skip, W_exit, W_ret, W_regD, WO_nil, WO_cons, WO_guard2, wantV_b, bq_tt, bq_ft, bq_tf, bq_ff, Bool.not_true, Bool.not_false, WD_nil, WD_cons, WD_guard2, WS_some, WS_none, KS_n, KS_x, KS_r, KB_n, KB_x, KB_r, KN_ap, KO_ap, KD_ap, KC_nil, KF_n, KF_r, KG_n, KG_r, KL_n, KL_x, KL_r, CP_true, CP_false, evOp, evX, X.ev, optX, put_some, put_none, get_set2, sel_t, sel_f, Nat.reduceBEq, Nat.reduceAdd, Nat.reduceLT, Nat.reduceLeDiff, Nat.reduceEqDiff, reduceIte, if_true, if_false, bi_add, bi_sub, bi_mul, bi_eql, bi_neq, bi_lss, bi_leq, bi_gtr, bi_geq, bs_eql, bs_neq, bs_lss, Am.unOp, ret1, pubL, pub, pubA, initT, wkZ, wk, wants, resOf, tupOf, quiet, AOp.cls, Nat.beq_eq, Bool.or_eq_true, decide_true, decide_false, beq_self_eq_true, Bool.true_or, Bool.or_true, true_and, and_true, lenA, eqv, eqB, eqP, scal, new_box_self, List.getElem?_cons_zero, List.getElem?_cons_succ, key_ii, key_ss, findM, updM, esc_i, esc_s, esc_b, Int.reduceEq, ret1, new_nb, new_set, reduceCtorEq, Bool.xor_true, Bool.xor_false, Bool.false_eq_true, List.all_cons, List.all_nil, noTok, Bool.and_self, Bool.and_true, Bool.true_and, g1, g2, g6, hl1, List.length_map, ofNat_len]
            refine CP_dec (fun hlv => ?_) (fun hlv => ?_)
            · have hi2 : i < v.values.length := by omega
              simp only [W_seq, W_reg, W_cond, W_blk, W_skip, W_exit, W_ret, W_regD, WO_nil, WO_cons, WO_guard2, wantV_b, bq_tt, bq_ft, bq_tf, bq_ff, Bool.not_true, Bool.not_false, WD_nil, WD_cons, WD_guard2, WS_some, WS_none, KS_n, KS_x, KS_r, KB_n, KB_x, KB_r, KN_ap, KO_ap, KD_ap, KC_nil, KF_n, KF_r, KG_n, KG_r, KL_n, KL_x, KL_r, CP_true, CP_false, evOp, evX, X.ev, optX, put_some, put_none, get_set2, sel_t, sel_f, Nat.reduceBEq, Nat.reduceAdd, Nat.reduceLT, Nat.reduceLeDiff, Nat.reduceEqDiff, reduceIte, if_true, if_false, bi_add, bi_sub, bi_mul, bi_eql, bi_neq, bi_lss, bi_leq, bi_gtr, bi_geq, bs_eql, bs_neq, bs_lss, Am.unOp, ret1, pubL, pub, pubA, initT, wkZ, wk, wants, resOf, tupOf, quiet, AOp.cls, Nat.beq_eq, Bool.or_eq_true, decide_true, decide_false, beq_self_eq_true, Bool.true_or, Bool.or_true, true_and, and_true, lenA, eqv, eqB, eqP, scal, new_box_self, List.getElem?_cons_zero, List.getElem?_cons_succ, key_ii, key_ss, findM, updM, esc_i, esc_s, esc_b, Int.reduceEq, ret1, new_nb, new_set, reduceCtorEq, Bool.xor_true, Bool.xor_false, Bool.false_eq_true, List.all_cons, List.all_nil, noTok, Bool.and_self, Bool.and_true, Bool.true_and, g1, g2, g6, hl1, natOf_nat, tx_get hi2, cells_s, ldA_1]
              exact KR_some ov rfl (by rw [hval, if_pos ⟨by omega, hlv⟩]; simp [tupOf, wkZ, wk, hi2])
            · exact KR_some ov rfl (by rw [hval, if_neg (fun hh => hlv hh.2)]; rfl)
          · simp only [W_seq, W_reg, W_cond, W_blk, W_skip, W_exit, W_ret, W_regD, WO_nil, WO_cons, WO_guard2, wantV_b, bq_tt, bq_ft, bq_tf, bq_ff, Bool.not_true, Bool.not_false, WD_nil, WD_cons, WD_guard2, WS_some, WS_none, KS_n, KS_x, KS_r, KB_n, KB_x, KB_r, KN_ap, KO_ap, KD_ap, KC_nil, KF_n, KF_r, KG_n, KG_r, KL_n, KL_x, KL_r, CP_true, CP_false, evOp, evX, X.ev, optX, put_some, put_none, get_set2, sel_t, sel_f, Nat.reduceBEq, Nat.reduceAdd, Nat.reduceLT, Nat.reduceLeDiff, Nat.reduceEqDiff, reduceIte, if_true, if_false, bi_add, bi_sub, bi_mul, bi_eql, bi_neq, bi_lss, bi_leq, bi_gtr, bi_geq, bs_eql, bs_neq, bs_lss, Am.unOp, ret1, pubL, pub, pubA, initT, wkZ, wk, wants, resOf, tupOf, quiet, AOp.cls, Nat.beq_eq, Bool.or_eq_true, decide_true, decide_false, beq_self_eq_true, Bool.true_or, Bool.or_true, true_and, and_true, lenA, eqv, eqB, eqP, scal, new_box_self, List.getElem?_cons_zero, List.getElem?_cons_succ, key_ii, key_ss, findM, updM, esc_i, esc_s, esc_b, Int.reduceEq, ret1, new_nb, new_set, reduceCtorEq, Bool.xor_true, Bool.xor_false, Bool.false_eq_true, List.all_cons, List.all_nil, noTok, Bool.and_self, Bool.and_true, Bool.true_and, g1, g2, g6, wrap_succ (show i + 1 < 2 ^ 63 by have := hv.n; omega)]
            refine ⟨n - 1, by omega, i + 1, by omega, rfl, fun j hj hL => ?_⟩
            by_cases hji : j = i
            · subst hji; exact hne
            · exact hn j (by omega) hL
        · exact KR_some ov rfl (by
            rw [hval, idxL_miss (fun j hj => hn j (by omega) hj), if_neg (fun hh => by omega)]; rfl)
      · simp only [W_seq, W_reg, W_cond, W_blk, W_skip, W_exit, W_ret, W_regD, WO_nil, WO_cons, WO_guard2, wantV_b, bq_tt, bq_ft, bq_tf, bq_ff, Bool.not_true, Bool.not_false, WD_nil, WD_cons, WD_guard2, WS_some, WS_none, KS_n, KS_x, KS_r, KB_n, KB_x, KB_r, KN_ap, KO_ap, KD_ap, KC_nil, KF_n, KF_r, KG_n, KG_r, KL_n, KL_x, KL_r, CP_true, CP_false, evOp, evX, X.ev, optX, put_some, put_none, get_set2, sel_t, sel_f, Nat.reduceBEq, Nat.reduceAdd, Nat.reduceLT, Nat.reduceLeDiff, Nat.reduceEqDiff, reduceIte, if_true, if_false, bi_add, bi_sub, bi_mul, bi_eql, bi_neq, bi_lss, bi_leq, bi_gtr, bi_geq, bs_eql, bs_neq, bs_lss, Am.unOp, ret1, pubL, pub, pubA, initT, wkZ, wk, wants, resOf, tupOf, quiet, AOp.cls, Nat.beq_eq, Bool.or_eq_true, decide_true, decide_false, beq_self_eq_true, Bool.true_or, Bool.or_true, true_and, and_true, lenA, eqv, eqB, eqP, scal, new_box_self, List.getElem?_cons_zero, List.getElem?_cons_succ, key_ii, key_ss, findM, updM, esc_i, esc_s, esc_b, Int.reduceEq, ret1, new_nb, new_set, reduceCtorEq, Bool.xor_true, Bool.xor_false, Bool.false_eq_true, List.all_cons, List.all_nil, noTok, Bool.and_self, Bool.and_true, Bool.true_and, g1, g2]
        exact ⟨0, by omega, rfl, fun j hj => by omega⟩
  · simp only [W_seq, W_reg, W_cond, W_blk, W_skip, W_exit, W_ret, W_regD, WO_nil, WO_cons, WO_guard2, wantV_b, bq_tt, bq_ft, bq_tf, bq_ff, Bool.not_true, Bool.not_false, WD_nil, WD_cons, WD_guard2, WS_some, WS_none, KS_n, KS_x, KS_r, KB_n, KB_x, KB_r, KN_ap, KO_ap, KD_ap, KC_nil, KF_n, KF_r, KG_n, KG_r, KL_n, KL_x, KL_r, CP_true, CP_false, evOp, evX, X.ev, optX, put_some, put_none, get_set2, sel_t, sel_f, Nat.reduceBEq, Nat.reduceAdd, Nat.reduceLT, Nat.reduceLeDiff, Nat.reduceEqDiff, reduceIte, if_true, if_false, bi_add, bi_sub, bi_mul, bi_eql, bi_neq, bi_lss, bi_leq, bi_gtr, bi_geq, bs_eql, bs_neq, bs_lss, Am.unOp, ret1, pubL, pub, pubA, initT, wkZ, wk, wants, resOf, tupOf, quiet, AOp.cls, Nat.beq_eq, Bool.or_eq_true, decide_true, decide_false, beq_self_eq_true, Bool.true_or, Bool.or_true, true_and, and_true, lenA, eqv, eqB, eqP, scal, new_box_self, List.getElem?_cons_zero, List.getElem?_cons_succ, key_ii, key_ss, findM, updM, esc_i, esc_s, esc_b, Int.reduceEq, ret1, new_nb, new_set, reduceCtorEq, Bool.xor_true, Bool.xor_false, Bool.false_eq_true, List.all_cons, List.all_nil, noTok, Bool.and_self, Bool.and_true, Bool.true_and]
    exact ⟨1, by omega, by omega, rfl, fun j h1 h2 => by omega⟩

theorem refOf_ok (v : VV) (hv : v.Ok) (p : PP) (s : St) : (lim prog).call f_touchstoneref05_of [v.av, .agg p.cells] s = some (.s (partL itoaN v p), s) := by
  refine fn_W p_touchstoneref05_of rfl rfl ?_
  obtain ⟨s1, hs1⟩ : ∃ s1, s.enter.new (.cells 24 v.cells) = s1 := ⟨_, rfl⟩
  obtain ⟨s2, hs2⟩ : ∃ s2, s1.new (.cells 31 p.cells) = s2 := ⟨_, rfl⟩
  have b1 : s1.box? s.nb = some (.cells 24 v.cells) := by rw [← hs1]; exact new_box_self s.enter _
  have n1 : s1.nb = s.nb + 1 := by rw [← hs1]; rfl
  have b1' : s2.box? s.nb = some (.cells 24 v.cells) := by rw [← hs2, new_box_lt (by omega)]; exact b1
  have b2 : s2.box? s1.nb = some (.cells 31 p.cells) := by rw [← hs2]; exact new_box_self s1 _
  have l0 := ld_box (s := s2) (off := 0) (v := .b p.var) b2 rfl
  have l1 := ld_box (s := s2) (off := 1) (v := .s p.text) b2 rfl
  have la : ldA s2 true 4 (.p s.nb 0) = some v.av := ld_all4 b1'
  have ov : Over s s2 := by rw [← hs2, ← hs1]; exact ((Over.enter s).new _).new _
  have hnb : s.enter.nb = s.nb := rfl
  have hpl : p.cells.length = 3 := rfl
  have hs1' : s.enter.new (.cells 24 [tx v.names, tx v.values, tx v.args, .i .i64 v.status]) = s1 := hs1
  have hs2' : s1.new (.cells 31 [.b p.var, .s p.text, .b p.quoted]) = s2 := hs2
  cases hvar : p.var with
  | true =>
    rw [hvar] at l0 hs2'
    have hval := refValue_ok v hv p.text s2
    simp only [c_touchstoneref05_of, W_seq, W_reg, W_cond, W_blk, W_skip, W_exit, W_ret, W_regD, WO_nil, WO_cons, WO_guard2, wantV_b, bq_tt, bq_ft, bq_tf, bq_ff, Bool.not_true, Bool.not_false, WD_nil, WD_cons, WD_guard2, WS_some, WS_none, KS_n, KS_x, KS_r, KB_n, KB_x, KB_r, KN_ap, KO_ap, KD_ap, KC_nil, KF_n, KF_r, KG_n, KG_r, KL_n, KL_x, KL_r, CP_true, CP_false, evOp, evX, X.ev, optX, put_some, put_none, get_set2, sel_t, sel_f, Nat.reduceBEq, Nat.reduceAdd, Nat.reduceLT, Nat.reduceLeDiff, Nat.reduceEqDiff, reduceIte, if_true, if_false, bi_add, bi_sub, bi_mul, bi_eql, bi_neq, bi_lss, bi_leq, bi_gtr, bi_geq, bs_eql, bs_neq, bs_lss, Am.unOp, ret1, pubL, pub, pubA, initT, wkZ, wk, wants, resOf, tupOf, quiet, AOp.cls, Nat.beq_eq, Bool.or_eq_true, decide_true, decide_false, beq_self_eq_true, Bool.true_or, Bool.or_true, true_and, and_true, lenA, eqv, eqB, eqP, scal, new_box_self, List.getElem?_cons_zero, List.getElem?_cons_succ, key_ii, key_ss, findM, updM, esc_i, esc_s, esc_b, Int.reduceEq, ret1, new_nb, new_set, reduceCtorEq, Bool.xor_true, Bool.xor_false, Bool.false_eq_true, List.all_cons, List.all_nil, noTok, Bool.and_self, Bool.and_true, Bool.true_and, cells_agg, len4, len3, hs1', hs2', hnb, l0, l1, la, hval, hvar, Nat.zero_add]
    exact KR_some ov rfl (by simp [tupOf, wkZ, wk, partL, hvar])
  | false =>
    rw [hvar] at l0 hs2'
    simp only [c_touchstoneref05_of, W_seq, W_reg, W_cond, W_blk, W_skip, W_exit, W_ret, W_regD, WO_nil, WO_cons, WO_guard2, wantV_b, bq_tt, bq_ft, bq_tf, bq_ff, Bool.not_true, Bool.not_false, WD_nil, WD_cons, WD_guard2, WS_some, WS_none, KS_n, KS_x, KS_r, KB_n, KB_x, KB_r, KN_ap, KO_ap, KD_ap, KC_nil, KF_n, KF_r, KG_n, KG_r, KL_n, KL_x, KL_r, CP_true, CP_false, evOp, evX, X.ev, optX, put_some, put_none, get_set2, sel_t, sel_f, Nat.reduceBEq, Nat.reduceAdd, Nat.reduceLT, Nat.reduceLeDiff, Nat.reduceEqDiff, reduceIte, if_true, if_false, bi_add, bi_sub, bi_mul, bi_eql, bi_neq, bi_lss, bi_leq, bi_gtr, bi_geq, bs_eql, bs_neq, bs_lss, Am.unOp, ret1, pubL, pub, pubA, initT, wkZ, wk, wants, resOf, tupOf, quiet, AOp.cls, Nat.beq_eq, Bool.or_eq_true, decide_true, decide_false, beq_self_eq_true, Bool.true_or, Bool.or_true, true_and, and_true, lenA, eqv, eqB, eqP, scal, new_box_self, List.getElem?_cons_zero, List.getElem?_cons_succ, key_ii, key_ss, findM, updM, esc_i, esc_s, esc_b, Int.reduceEq, ret1, new_nb, new_set, reduceCtorEq, Bool.xor_true, Bool.xor_false, Bool.false_eq_true, List.all_cons, List.all_nil, noTok, Bool.and_self, Bool.and_true, Bool.true_and, cells_agg, len4, len3, hs1', hs2', hnb, l0, l1, la, hvar, Nat.zero_add]
    exact KR_some ov rfl (by simp [tupOf, wkZ, wk, partL, hvar])
end Go.Proofs.YtfpoihibfajhlaaDoor

/-
  The document's texts and fields.
-/
set_option maxRecDepth 100000
set_option linter.unusedSimpArgs false
set_option linter.constructorNameAsVariable false
namespace Go.Proofs.YtfpoihibfajhlaaDoor
open Go.Proofs.YtfpoihibfajhlaaDoor.Am

theorem refText_ok (v : VV) (hv : v.Ok) (ps : List PP) (hlen : ps.length < 2 ^ 63) (hsz : szF itoaN v ps < 2 ^ 37) (s : St) :
    (lim prog).call f_touchstoneref05_Text [v.av, partsA ps] s = some (.s (textL itoaN v ps), s) := by
  refine fn_W p_touchstoneref05_Text rfl rfl ?_
  obtain ⟨s1, hs1⟩ : ∃ s1, s.enter.new (.cells 24 v.cells) = s1 := ⟨_, rfl⟩
  have b1 : s1.box? s.nb = some (.cells 24 v.cells) := by rw [← hs1]; exact new_box_self s.enter _
  have la : ldA s1 true 4 (.p s.nb 0) = some v.av := ld_all4 b1
  have ov : Over s s1 := by rw [← hs1]; exact (Over.enter s).new _
  have hnb : s.enter.nb = s.nb := rfl
  have hs1' : s.enter.new (.cells 24 [tx v.names, tx v.values, tx v.args, .i .i64 v.status]) = s1 := hs1
  simp only [c_touchstoneref05_Text, W_seq, W_reg, W_cond, W_blk, W_skip, W_exit, W_ret, W_regD, WO_nil, WO_cons, WO_guard2, wantV_b, bq_tt, bq_ft, bq_tf, bq_ff, Bool.not_true, Bool.not_false, WD_nil, WD_cons, WD_guard2, WS_some, WS_none, KS_n, KS_x, KS_r, KB_n, KB_x, KB_r, KN_ap, KO_ap, KD_ap, KC_nil, KF_n, KF_r, KG_n, KG_r, KL_n, KL_x, KL_r, CP_true, CP_false, evOp, evX, X.ev, optX, put_some, put_none, get_set2, sel_t, sel_f, Nat.reduceBEq, Nat.reduceAdd, Nat.reduceLT, Nat.reduceLeDiff, Nat.reduceEqDiff, reduceIte, if_true, if_false, bi_add, bi_sub, bi_mul, bi_eql, bi_neq, bi_lss, bi_leq, bi_gtr, bi_geq, bs_eql, bs_neq, bs_lss, Am.unOp, ret1, pubL, pub, pubA, initT, wkZ, wk, wants, resOf, tupOf, quiet, AOp.cls, Nat.beq_eq, Bool.or_eq_true, decide_true, decide_false, beq_self_eq_true, Bool.true_or, Bool.or_true, true_and, and_true, lenA, eqv, eqB, eqP, scal, new_box_self, List.getElem?_cons_zero, List.getElem?_cons_succ, key_ii, key_ss, findM, updM, esc_i, esc_s, esc_b, Int.reduceEq, ret1, new_nb, new_set, reduceCtorEq, Bool.xor_true, Bool.xor_false, Bool.false_eq_true, List.all_cons, List.all_nil, noTok, Bool.and_self, Bool.and_true, Bool.true_and, cells_agg, len4, hs1', hnb, List.length_map, ofNat_len]
  refine W_loop (fun n e q => s1 = q ∧ e.get 1 = partsA ps ∧ e.get 2 = .p s.nb 0 ∧ ∃ i : Nat, i + n = ps.length ∧ e.get 5 = .s (textL itoaN v (ps.take i)) ∧ e.get 6 = .i .i64 i) ?_ ps.length _ _ ?_
  · rintro n e q ⟨rfl, g1, g2, i, hi, g5, g6⟩
    simp only [W_seq, W_reg, W_cond, W_blk, W_skip, W_exit, W_ret, W_regD, WO_nil, WO_cons, WO_guard2, wantV_b, bq_tt, bq_ft, bq_tf, bq_ff, Bool.not_true, Bool.not_false, WD_nil, WD_cons, WD_guard2, WS_some, WS_none, KS_n, KS_x, KS_r, KB_n, KB_x, KB_r, KN_ap, KO_ap, KD_ap, KC_nil, KF_n, KF_r, KG_n, KG_r, KL_n, KL_x, KL_r, CP_true, CP_false, evOp, evX, X.ev, optX, put_some, put_none, get_set2, sel_t, sel_f, Nat.reduceBEq, Nat.reduceAdd, Nat.reduceLT, Nat.reduceLeDiff, Nat.reduceEqDiff, reduceIte, if_true, if_false, bi_add, bi_sub, bi_mul, bi_eql, bi_neq, bi_lss, bi_leq, bi_gtr, bi_geq, bs_eql, bs_neq, bs_lss, Am.unOp, ret1, pubL, pub, pubA, initT, wkZ, wk, wants, resOf, tupOf, quiet, AOp.cls, Nat.beq_eq, Bool.or_eq_true, decide_true, decide_false, beq_self_eq_true, Bool.true_or, Bool.or_true, true_and, and_true, lenA, eqv, eqB, eqP, scal, new_box_self, List.getElem?_cons_zero, List.getElem?_cons_succ, key_ii, key_ss, findM, updM, esc_i, esc_s, esc_b, Int.reduceEq, ret1, new_nb, new_set, reduceCtorEq, Bool.xor_true, Bool.xor_false, Bool.false_eq_true, List.all_cons, List.all_nil, noTok, Bool.and_self, Bool.and_true, Bool.true_and, g1, g2, g5, g6, List.length_map, ofNat_len]
    refine CP_dec (fun hlt => ?_) (fun hge => ?_)
    · have hlt : i < ps.length := by omega
      have hget : (ps.map fun p => AV.agg p.cells)[i]? = some (.agg ps[i].cells) := by simp [hlt]
      have hst : textL itoaN v (ps.take (i + 1)) = textL itoaN v (ps.take i) ++ partL itoaN v ps[i] := by
        rw [List.take_succ_eq_append_getElem hlt, textL_append]
        simp [textL]
      have z1 := textL_len itoaN v (ps.take i)
      have z4 : szF itoaN v (ps.take i) + (partL itoaN v ps[i]).length + 1 ≤ szF itoaN v ps := by
        have e1 : ps.take i ++ (ps[i] :: ps.drop (i + 1)) = ps := by rw [← List.drop_eq_getElem_cons hlt, List.take_append_drop]
        have e2 := congrArg (szF itoaN v) e1
        rw [szF_append, szF_cons] at e2
        omega
      have hof := refOf_ok v hv ps[i] s1
      simp only [W_seq, W_reg, W_cond, W_blk, W_skip, W_exit, W_ret, W_regD, WO_nil, WO_cons, WO_guard2, wantV_b, bq_tt, bq_ft, bq_tf, bq_ff, Bool.not_true, Bool.not_false, WD_nil, WD_cons, WD_guard2, WS_some, WS_none, KS_n, KS_x, KS_r, KB_n, KB_x, KB_r, KN_ap, KO_ap, KD_ap, KC_nil, KF_n, KF_r, KG_n, KG_r, KL_n, KL_x, KL_r, CP_true, CP_false, evOp, evX, X.ev, optX, put_some, put_none, get_set2, sel_t, sel_f, Nat.reduceBEq, Nat.reduceAdd, Nat.reduceLT, Nat.reduceLeDiff, Nat.reduceEqDiff, reduceIte, if_true, if_false, bi_add, bi_sub, bi_mul, bi_eql, bi_neq, bi_lss, bi_leq, bi_gtr, bi_geq, bs_eql, bs_neq, bs_lss, Am.unOp, ret1, pubL, pubC_agg, pubC_s, pubC_i, pubC_b, pubC_p, pubC_np, pubC_nsl, pubC_ws, pubC_full, pubC_shut, pubC_fn, pubA, initT, wkZ, wk, wants, resOf, tupOf, quiet, AOp.cls, Nat.beq_eq, Bool.or_eq_true, decide_true, decide_false, beq_self_eq_true, Bool.true_or, Bool.or_true, true_and, and_true, lenA, eqv, eqB, eqP, scal, new_box_self, List.getElem?_cons_zero, List.getElem?_cons_succ, key_ii, key_ss, findM, updM, esc_i, esc_s, esc_b, Int.reduceEq, ret1, new_nb, new_set, reduceCtorEq, Bool.xor_true, Bool.xor_false, Bool.false_eq_true, List.all_cons, List.all_nil, noTok, Bool.and_self, Bool.and_true, Bool.true_and, or_true, false_or, g1, g2, g5, g6, natOf_nat, hget, cells_agg, ldE3, la, hof, cat_ok (show (textL itoaN v (ps.take i)).length + (partL itoaN v ps[i]).length < 2 ^ 62 by omega), wrap_succ (show i + 1 < 2 ^ 63 by omega)]
      refine ⟨n - 1, by omega, i + 1, by omega, ?_⟩
      rw [hst]
      exact ⟨rfl, rfl⟩
    · have hil : i = ps.length := by omega
      subst hil
      rw [List.take_length]
      exact KR_some ov rfl rfl
  · simp only [W_seq, W_reg, W_cond, W_blk, W_skip, W_exit, W_ret, W_regD, WO_nil, WO_cons, WO_guard2, wantV_b, bq_tt, bq_ft, bq_tf, bq_ff, Bool.not_true, Bool.not_false, WD_nil, WD_cons, WD_guard2, WS_some, WS_none, KS_n, KS_x, KS_r, KB_n, KB_x, KB_r, KN_ap, KO_ap, KD_ap, KC_nil, KF_n, KF_r, KG_n, KG_r, KL_n, KL_x, KL_r, CP_true, CP_false, evOp, evX, X.ev, optX, put_some, put_none, get_set2, sel_t, sel_f, Nat.reduceBEq, Nat.reduceAdd, Nat.reduceLT, Nat.reduceLeDiff, Nat.reduceEqDiff, reduceIte, if_true, if_false, bi_add, bi_sub, bi_mul, bi_eql, bi_neq, bi_lss, bi_leq, bi_gtr, bi_geq, bs_eql, bs_neq, bs_lss, Am.unOp, ret1, pubL, pub, pubA, initT, wkZ, wk, wants, resOf, tupOf, quiet, AOp.cls, Nat.beq_eq, Bool.or_eq_true, decide_true, decide_false, beq_self_eq_true, Bool.true_or, Bool.or_true, true_and, and_true, lenA, eqv, eqB, eqP, scal, new_box_self, List.getElem?_cons_zero, List.getElem?_cons_succ, key_ii, key_ss, findM, updM, esc_i, esc_s, esc_b, Int.reduceEq, ret1, new_nb, new_set, reduceCtorEq, Bool.xor_true, Bool.xor_false, Bool.false_eq_true, List.all_cons, List.all_nil, noTok, Bool.and_self, Bool.and_true, Bool.true_and]
    exact ⟨0, by omega, by simp [textL], rfl⟩

theorem row1_wk {xs : List AV} {a : AV} {t0 T : Nat} {s : St} (h : RowE 1 t0 s T a xs) (hw : Wf s) : ∃ a' s', pub s a = some (a', s') ∧ ((a' = .nsl ∧ xs = []) ∨ a' = .sl 1 xs .shut) ∧ Pubd t0 s s' := h.pubd hw
theorem blank_of {c : Nat} (h : blankN c = true) : c = 32 ∨ c = 9 ∨ c = 10 := by
  simp only [blankN, Bool.or_eq_true, decide_eq_true_eq] at h; exact h
theorem blank_not {c : Nat} (h : blankN c = false) : c ≠ 32 ∧ c ≠ 9 ∧ c ≠ 10 := by
  simp only [blankN, Bool.or_eq_false_iff, decide_eq_false_iff_not] at h; exact h
theorem elems1_one (s : St) (l : List Nat) : elems s 1 (.sl 1 [.s l] .full) = some [.s l] := by simp [elems, St.ok]
theorem ldE_0 (s : St) (a b c : AV) : ldA s false 1 (.ep [a, b, c] 0 .shut) = some a := rfl
theorem ldE_2 (s : St) (a b c : AV) : ldA s false 1 (.ep [a, b, c] 2 .shut) = some c := rfl
theorem thaw_ws (s : St) (f : Bool) (n : Nat) (l : List AV) : thawA s (.ws f n l) = some (.ws f n l, s) := rfl

/-- A piece of code: the way to it. -/
def subC : C → List Nat → C
  | .seq a _, 0 :: p => subC a p
  | .seq _ b, 1 :: p => subC b p
  | .cond _ a _, 0 :: p => subC a p
  | .cond _ _ b, 1 :: p => subC b p
  | .blk _ b, 0 :: p => subC b p
  | .loop b, 0 :: p => subC b p
  | c, _ => c

/-- Where the loop stands: out, cur, open. -/
def FI (v : VV) (ps : List PP) (s : St) (idv : Nat) (i : Nat) (x : List (List Nat) × List Nat × Bool) (e : Tr) (q : St) : Prop :=
  e.get 1 = partsA ps ∧ e.get 2 = .p idv 0 ∧ e.get 8 = .i .i64 i ∧ e.get 6 = .b x.2.2 ∧ e.get 7 = .s x.2.1 ∧ RowE 1 s.nt q 9 (e.get 5) (x.1.map .s) ∧
    q.box? idv = some (.cells 24 v.cells) ∧ Over s q ∧ Wf q

def FK (v : VV) (ps : List PP) (s : St) (idv : Nat) (i : Nat) (L : List Nat) (k : Nat) (x : List (List Nat) × List Nat × Bool) (e : Tr) (q : St) : Prop :=
  FI v ps s idv i x e q ∧ e.get 9 = .s L ∧ e.get 10 = .i .i64 k

theorem spl_inner (v : VV) (ps : List PP) (s : St) (idv i : Nat) (L : List Nat) (hL : Txt L) (x : List (List Nat) × List Nat × Bool) (hx1 : x.1.length + L.length < 2 ^ 37) (hx2 : x.2.1.length + L.length < 2 ^ 37) (Q : Ex → Tr → St → Prop)
    (hQ : ∀ e q, FI v ps s idv i (L.foldl spl x) e q → Q (.x 2) e q) (e : Tr) (q : St) (h : FI v ps s idv i x e q) (h9 : e.get 9 = .s L) (h10 : e.get 10 = .i .i64 (0 : Nat)) :
    W (lim prog) (subC c_touchstoneref05_Fields.body [1, 1, 1, 1, 0, 1, 0, 0, 1, 0, 0, 1, 1, 1, 0]) e q Q := by
  simp only [c_touchstoneref05_Fields, subC]
  refine W_loop (fun n e q => ∃ k : Nat, k + n = L.length ∧ FK v ps s idv i L k ((L.take k).foldl spl x) e q) ?_ L.length _ _ ?_
  · rintro n e q ⟨k, hk, ⟨⟨g1, g2, g8, g6, g7, hr, hb, hov, hwq⟩, g9, g10⟩⟩
    have hlen := hL.len
    have hst : k < L.length → (L.take (k + 1)).foldl spl x = spl ((L.take k).foldl spl x) (L.getD k 0) := fun hlt => by
      rw [List.take_succ_eq_append_getElem hlt, List.foldl_append]
      simp [hlt]
    obtain ⟨z1, z2⟩ := spl_len (L.take k) x
    have htk : (L.take k).length = k := by simp; omega
    rw [htk] at z1 z2
    obtain ⟨y, hy⟩ : ∃ y, (L.take k).foldl spl x = y := ⟨_, rfl⟩
    rw [hy] at z1 z2 hst g6 g7 hr
    obtain ⟨k5, hk5⟩ : ∃ k5, e.get 5 = k5 := ⟨_, rfl⟩
    rw [hk5] at hr
    simp only [W_seq, W_reg, W_cond, W_blk, W_skip, W_exit, W_ret, W_regD, WO_nil, WO_cons, WO_guard2, wantV_b, bq_tt, bq_ft, bq_tf, bq_ff, Bool.not_true, Bool.not_false, WD_nil, WD_cons, WD_guard2, WS_some, WS_none, KS_n, KS_x, KS_r, KB_n, KB_x, KB_r, KN_ap, KO_ap, KD_ap, KC_nil, KF_n, KF_r, KG_n, KG_r, KL_n, KL_x, KL_r, CP_true, CP_false, evOp, evX, X.ev, optX, put_some, put_none, get_set2, sel_t, sel_f, Nat.reduceBEq, Nat.reduceAdd, Nat.reduceLT, Nat.reduceLeDiff, Nat.reduceEqDiff, reduceIte, if_true, if_false, bi_add, bi_sub, bi_mul, bi_eql, bi_neq, bi_lss, bi_leq, bi_gtr, bi_geq, bs_eql, bs_neq, bs_lss, Am.unOp, ret1, pubL, pubC_agg, pubC_s, pubC_i, pubC_b, pubC_p, pubC_np, pubC_nsl, pubC_ws, pubC_full, pubC_shut, pubC_fn, pubA, initT, wkZ, wk, wants, resOf, tupOf, quiet, AOp.cls, Nat.beq_eq, Bool.or_eq_true, decide_true, decide_false, beq_self_eq_true, Bool.true_or, Bool.or_true, true_and, and_true, lenA, eqv, eqB, eqP, scal, new_box_self, List.getElem?_cons_zero, List.getElem?_cons_succ, key_ii, key_ss, findM, updM, esc_i, esc_s, esc_b, Int.reduceEq, ret1, new_nb, new_set, reduceCtorEq, Bool.xor_true, Bool.xor_false, Bool.false_eq_true, List.all_cons, List.all_nil, noTok, Bool.and_self, Bool.and_true, Bool.true_and, or_true, false_or, g9, g10, ofNat_len]
    refine CP_dec (fun hlt => ?_) (fun hge => ?_)
    · have hlt : k < L.length := by omega
      have hget : L[k]? = some L[k] := List.getElem?_eq_getElem hlt
      have h256 := hL.lt L[k] (List.getElem_mem hlt)
      have hD : L.getD k 0 = L[k] := by simp [hlt]
      have hst := hst hlt
      rw [hD] at hst
      obtain ⟨c, hLc⟩ : ∃ c, L[k] = c := ⟨_, rfl⟩
      rw [hLc] at hget h256 hst
      have hw := wrap_succ (show k + 1 < 2 ^ 63 by omega)
      have hlt' : ((k : Int) < (L.length : Int)) = True := by simp; omega
      have hfin : ∀ e' q', FI v ps s idv i (spl y c) e' q' → e'.get 9 = .s L → e'.get 10 = .i .i64 ((k + 1 : Nat) : Int) →
          ∃ m, m < n ∧ ∃ k1 : Nat, k1 + m = L.length ∧ FK v ps s idv i L k1 ((L.take k1).foldl spl x) e' q' := fun e' q' h1 h2 h3 =>
        ⟨n - 1, by omega, k + 1, by omega, by rw [hst]; exact h1, h2, h3⟩
      cases hc : blankN c with
      | true =>
        cases hy2 : y.2.2 with
        | true =>
          rw [hy2] at g6
          rw [show spl y c = (y.1 ++ [y.2.1], [], false) by unfold spl; rw [hc, if_pos rfl, hy2, if_pos rfl]] at hfin
          obtain ⟨a', s', happ, hr', hg⟩ := app_rowE hwq hov.nt hr (elems1_one q y.2.1) (by simp) (by simp; omega)
          have hfi : ∀ e', e'.get 1 = partsA ps → e'.get 2 = .p idv 0 → e'.get 8 = .i .i64 i → e'.get 6 = .b false → e'.get 7 = .s [] → e'.get 5 = a' → FI v ps s idv i (y.1 ++ [y.2.1], [], false) e' s' := fun e' f1 f2 f8 f6 f7 f5 =>
            ⟨f1, f2, f8, f6, f7, by rw [f5]; simpa using hr', by simpa [St.box?, hg.nb, hg.boxes] using hb, hg.over s (Nat.le_refl _) hov.nt hov, hg.wf hwq⟩
          rcases blank_of hc with h | h | h <;> simp only [h] at hget <;> simp only [W_seq, W_reg, W_cond, W_blk, W_skip, W_exit, W_ret, W_regD, WO_nil, WO_cons, WO_guard2, wantV_b, bq_tt, bq_ft, bq_tf, bq_ff, Bool.not_true, Bool.not_false, WD_nil, WD_cons, WD_guard2, WS_some, WS_none, KS_n, KS_x, KS_r, KB_n, KB_x, KB_r, KN_ap, KO_ap, KD_ap, KC_nil, KF_n, KF_r, KG_n, KG_r, KL_n, KL_x, KL_r, CP_true, CP_false, evOp, evX, X.ev, optX, put_some, put_none, get_set2, sel_t, sel_f, Nat.reduceBEq, Nat.reduceAdd, Nat.reduceLT, Nat.reduceLeDiff, Nat.reduceEqDiff, reduceIte, if_true, if_false, bi_add, bi_sub, bi_mul, bi_eql, bi_neq, bi_lss, bi_leq, bi_gtr, bi_geq, bs_eql, bs_neq, bs_lss, Am.unOp, ret1, pubL, pubC_agg, pubC_s, pubC_i, pubC_b, pubC_p, pubC_np, pubC_nsl, pubC_ws, pubC_full, pubC_shut, pubC_fn, pubA, initT, wkZ, wk, wants, resOf, tupOf, quiet, AOp.cls, Nat.beq_eq, Bool.or_eq_true, decide_true, decide_false, beq_self_eq_true, Bool.true_or, Bool.or_true, true_and, and_true, lenA, eqv, eqB, eqP, scal, new_box_self, List.getElem?_cons_zero, List.getElem?_cons_succ, key_ii, key_ss, findM, updM, esc_i, esc_s, esc_b, Int.reduceEq, ret1, new_nb, new_set, reduceCtorEq, Bool.xor_true, Bool.xor_false, Bool.false_eq_true, List.all_cons, List.all_nil, noTok, Bool.and_self, Bool.and_true, Bool.true_and, or_true, false_or, g6, g7, g9, g10, hk5, natOf_nat, hget, hw, ofNat_len, Int.cast_ofNat_Int, allLen_s, happ] <;>
            (refine hfin _ _ (hfi _ ?_ ?_ ?_ ?_ ?_ ?_) ?_ ?_ <;> simp only [W_seq, W_reg, W_cond, W_blk, W_skip, W_exit, W_ret, W_regD, WO_nil, WO_cons, WO_guard2, wantV_b, bq_tt, bq_ft, bq_tf, bq_ff, Bool.not_true, Bool.not_false, WD_nil, WD_cons, WD_guard2, WS_some, WS_none, KS_n, KS_x, KS_r, KB_n, KB_x, KB_r, KN_ap, KO_ap, KD_ap, KC_nil, KF_n, KF_r, KG_n, KG_r, KL_n, KL_x, KL_r, CP_true, CP_false, evOp, evX, X.ev, optX, put_some, put_none, get_set2, sel_t, sel_f, Nat.reduceBEq, Nat.reduceAdd, Nat.reduceLT, Nat.reduceLeDiff, Nat.reduceEqDiff, reduceIte, if_true, if_false, bi_add, bi_sub, bi_mul, bi_eql, bi_neq, bi_lss, bi_leq, bi_gtr, bi_geq, bs_eql, bs_neq, bs_lss, Am.unOp, ret1, pubL, pubC_agg, pubC_s, pubC_i, pubC_b, pubC_p, pubC_np, pubC_nsl, pubC_ws, pubC_full, pubC_shut, pubC_fn, pubA, initT, wkZ, wk, wants, resOf, tupOf, quiet, AOp.cls, Nat.beq_eq, Bool.or_eq_true, decide_true, decide_false, beq_self_eq_true, Bool.true_or, Bool.or_true, true_and, and_true, lenA, eqv, eqB, eqP, scal, new_box_self, List.getElem?_cons_zero, List.getElem?_cons_succ, key_ii, key_ss, findM, updM, esc_i, esc_s, esc_b, Int.reduceEq, ret1, new_nb, new_set, reduceCtorEq, Bool.xor_true, Bool.xor_false, Bool.false_eq_true, List.all_cons, List.all_nil, noTok, Bool.and_self, Bool.and_true, Bool.true_and, or_true, false_or, g1, g2, g8, g9])
        | false =>
          rw [hy2] at g6
          rw [show spl y c = (y.1, [], false) by unfold spl; rw [hc, if_pos rfl, hy2, if_neg (by simp)]] at hfin
          have hfi : ∀ e', e'.get 1 = partsA ps → e'.get 2 = .p idv 0 → e'.get 8 = .i .i64 i → e'.get 6 = .b false → e'.get 7 = .s [] → e'.get 5 = k5 → FI v ps s idv i (y.1, [], false) e' q := fun e' f1 f2 f8 f6 f7 f5 =>
            ⟨f1, f2, f8, f6, f7, by rw [f5]; exact hr, hb, hov, hwq⟩
          rcases blank_of hc with h | h | h <;> simp only [h] at hget <;> simp only [W_seq, W_reg, W_cond, W_blk, W_skip, W_exit, W_ret, W_regD, WO_nil, WO_cons, WO_guard2, wantV_b, bq_tt, bq_ft, bq_tf, bq_ff, Bool.not_true, Bool.not_false, WD_nil, WD_cons, WD_guard2, WS_some, WS_none, KS_n, KS_x, KS_r, KB_n, KB_x, KB_r, KN_ap, KO_ap, KD_ap, KC_nil, KF_n, KF_r, KG_n, KG_r, KL_n, KL_x, KL_r, CP_true, CP_false, evOp, evX, X.ev, optX, put_some, put_none, get_set2, sel_t, sel_f, Nat.reduceBEq, Nat.reduceAdd, Nat.reduceLT, Nat.reduceLeDiff, Nat.reduceEqDiff, reduceIte, if_true, if_false, bi_add, bi_sub, bi_mul, bi_eql, bi_neq, bi_lss, bi_leq, bi_gtr, bi_geq, bs_eql, bs_neq, bs_lss, Am.unOp, ret1, pubL, pubC_agg, pubC_s, pubC_i, pubC_b, pubC_p, pubC_np, pubC_nsl, pubC_ws, pubC_full, pubC_shut, pubC_fn, pubA, initT, wkZ, wk, wants, resOf, tupOf, quiet, AOp.cls, Nat.beq_eq, Bool.or_eq_true, decide_true, decide_false, beq_self_eq_true, Bool.true_or, Bool.or_true, true_and, and_true, lenA, eqv, eqB, eqP, scal, new_box_self, List.getElem?_cons_zero, List.getElem?_cons_succ, key_ii, key_ss, findM, updM, esc_i, esc_s, esc_b, Int.reduceEq, ret1, new_nb, new_set, reduceCtorEq, Bool.xor_true, Bool.xor_false, Bool.false_eq_true, List.all_cons, List.all_nil, noTok, Bool.and_self, Bool.and_true, Bool.true_and, or_true, false_or, g6, g7, g9, g10, hk5, natOf_nat, hget, hw, ofNat_len, Int.cast_ofNat_Int] <;>
            (refine hfin _ _ (hfi _ ?_ ?_ ?_ ?_ ?_ ?_) ?_ ?_ <;> simp only [W_seq, W_reg, W_cond, W_blk, W_skip, W_exit, W_ret, W_regD, WO_nil, WO_cons, WO_guard2, wantV_b, bq_tt, bq_ft, bq_tf, bq_ff, Bool.not_true, Bool.not_false, WD_nil, WD_cons, WD_guard2, WS_some, WS_none, KS_n, KS_x, KS_r, KB_n, KB_x, KB_r, KN_ap, KO_ap, KD_ap, KC_nil, KF_n, KF_r, KG_n, KG_r, KL_n, KL_x, KL_r, CP_true, CP_false, evOp, evX, X.ev, optX, put_some, put_none, get_set2, sel_t, sel_f, Nat.reduceBEq, Nat.reduceAdd, Nat.reduceLT, Nat.reduceLeDiff, Nat.reduceEqDiff, reduceIte, if_true, if_false, bi_add, bi_sub, bi_mul, bi_eql, bi_neq, bi_lss, bi_leq, bi_gtr, bi_geq, bs_eql, bs_neq, bs_lss, Am.unOp, ret1, pubL, pubC_agg, pubC_s, pubC_i, pubC_b, pubC_p, pubC_np, pubC_nsl, pubC_ws, pubC_full, pubC_shut, pubC_fn, pubA, initT, wkZ, wk, wants, resOf, tupOf, quiet, AOp.cls, Nat.beq_eq, Bool.or_eq_true, decide_true, decide_false, beq_self_eq_true, Bool.true_or, Bool.or_true, true_and, and_true, lenA, eqv, eqB, eqP, scal, new_box_self, List.getElem?_cons_zero, List.getElem?_cons_succ, key_ii, key_ss, findM, updM, esc_i, esc_s, esc_b, Int.reduceEq, ret1, new_nb, new_set, reduceCtorEq, Bool.xor_true, Bool.xor_false, Bool.false_eq_true, List.all_cons, List.all_nil, noTok, Bool.and_self, Bool.and_true, Bool.true_and, or_true, false_or, g1, g2, g8, g9, hk5])
      | false =>
        rw [show spl y c = (y.1, y.2.1 ++ [c], true) by unfold spl; rw [hc, if_neg (by simp)]] at hfin
        obtain ⟨c1, c2, c3⟩ := blank_not hc
        have d1 : ((c : Int) = 32) = False := by simp; omega
        have d2 : ((c : Int) = 9) = False := by simp; omega
        have d3 : ((c : Int) = 10) = False := by simp; omega
        have hsub : (L.drop k).take (k + 1 - k) = [c] := by
          rw [show k + 1 - k = 1 by omega, List.take_one, List.head?_drop, hget]; rfl
        have hfi : ∀ e', e'.get 1 = partsA ps → e'.get 2 = .p idv 0 → e'.get 8 = .i .i64 i → e'.get 6 = .b true → e'.get 7 = .s (y.2.1 ++ [c]) → e'.get 5 = k5 → FI v ps s idv i (y.1, y.2.1 ++ [c], true) e' q := fun e' f1 f2 f8 f6 f7 f5 =>
          ⟨f1, f2, f8, f6, f7, by rw [f5]; exact hr, hb, hov, hwq⟩
        simp only [W_seq, W_reg, W_cond, W_blk, W_skip, W_exit, W_ret, W_regD, WO_nil, WO_cons, WO_guard2, wantV_b, bq_tt, bq_ft, bq_tf, bq_ff, Bool.not_true, Bool.not_false, WD_nil, WD_cons, WD_guard2, WS_some, WS_none, KS_n, KS_x, KS_r, KB_n, KB_x, KB_r, KN_ap, KO_ap, KD_ap, KC_nil, KF_n, KF_r, KG_n, KG_r, KL_n, KL_x, KL_r, CP_true, CP_false, evOp, evX, X.ev, optX, put_some, put_none, get_set2, sel_t, sel_f, Nat.reduceBEq, Nat.reduceAdd, Nat.reduceLT, Nat.reduceLeDiff, Nat.reduceEqDiff, reduceIte, if_true, if_false, bi_add, bi_sub, bi_mul, bi_eql, bi_neq, bi_lss, bi_leq, bi_gtr, bi_geq, bs_eql, bs_neq, bs_lss, Am.unOp, ret1, pubL, pubC_agg, pubC_s, pubC_i, pubC_b, pubC_p, pubC_np, pubC_nsl, pubC_ws, pubC_full, pubC_shut, pubC_fn, pubA, initT, wkZ, wk, wants, resOf, tupOf, quiet, AOp.cls, Nat.beq_eq, Bool.or_eq_true, decide_true, decide_false, beq_self_eq_true, Bool.true_or, Bool.or_true, true_and, and_true, lenA, eqv, eqB, eqP, scal, new_box_self, List.getElem?_cons_zero, List.getElem?_cons_succ, key_ii, key_ss, findM, updM, esc_i, esc_s, esc_b, Int.reduceEq, ret1, new_nb, new_set, reduceCtorEq, Bool.xor_true, Bool.xor_false, Bool.false_eq_true, List.all_cons, List.all_nil, noTok, Bool.and_self, Bool.and_true, Bool.true_and, or_true, false_or, g6, g7, g9, g10, hk5, natOf_nat, hget, hw, d1, d2, d3, ofNat_len, bounds_ii (show k ≤ k + 1 by omega) (show k + 1 ≤ L.length by omega), hsub, cat_ok (show y.2.1.length + [c].length < 2 ^ 62 by simp; omega)]
        refine hfin _ _ (hfi _ ?_ ?_ ?_ ?_ ?_ ?_) ?_ ?_ <;> simp only [W_seq, W_reg, W_cond, W_blk, W_skip, W_exit, W_ret, W_regD, WO_nil, WO_cons, WO_guard2, wantV_b, bq_tt, bq_ft, bq_tf, bq_ff, Bool.not_true, Bool.not_false, WD_nil, WD_cons, WD_guard2, WS_some, WS_none, KS_n, KS_x, KS_r, KB_n, KB_x, KB_r, KN_ap, KO_ap, KD_ap, KC_nil, KF_n, KF_r, KG_n, KG_r, KL_n, KL_x, KL_r, CP_true, CP_false, evOp, evX, X.ev, optX, put_some, put_none, get_set2, sel_t, sel_f, Nat.reduceBEq, Nat.reduceAdd, Nat.reduceLT, Nat.reduceLeDiff, Nat.reduceEqDiff, reduceIte, if_true, if_false, bi_add, bi_sub, bi_mul, bi_eql, bi_neq, bi_lss, bi_leq, bi_gtr, bi_geq, bs_eql, bs_neq, bs_lss, Am.unOp, ret1, pubL, pubC_agg, pubC_s, pubC_i, pubC_b, pubC_p, pubC_np, pubC_nsl, pubC_ws, pubC_full, pubC_shut, pubC_fn, pubA, initT, wkZ, wk, wants, resOf, tupOf, quiet, AOp.cls, Nat.beq_eq, Bool.or_eq_true, decide_true, decide_false, beq_self_eq_true, Bool.true_or, Bool.or_true, true_and, and_true, lenA, eqv, eqB, eqP, scal, new_box_self, List.getElem?_cons_zero, List.getElem?_cons_succ, key_ii, key_ss, findM, updM, esc_i, esc_s, esc_b, Int.reduceEq, ret1, new_nb, new_set, reduceCtorEq, Bool.xor_true, Bool.xor_false, Bool.false_eq_true, List.all_cons, List.all_nil, noTok, Bool.and_self, Bool.and_true, Bool.true_and, or_true, false_or, g1, g2, g8, g9, hk5]
    · have hkl : k = L.length := by omega
      rw [hkl, List.take_length] at hy
      refine hQ _ _ ?_
      rw [hy]
      refine ⟨?_, ?_, ?_, ?_, ?_, ?_, hb, hov, hwq⟩ <;> simp only [W_seq, W_reg, W_cond, W_blk, W_skip, W_exit, W_ret, W_regD, WO_nil, WO_cons, WO_guard2, wantV_b, bq_tt, bq_ft, bq_tf, bq_ff, Bool.not_true, Bool.not_false, WD_nil, WD_cons, WD_guard2, WS_some, WS_none, KS_n, KS_x, KS_r, KB_n, KB_x, KB_r, KN_ap, KO_ap, KD_ap, KC_nil, KF_n, KF_r, KG_n, KG_r, KL_n, KL_x, KL_r, CP_true, CP_false, evOp, evX, X.ev, optX, put_some, put_none, get_set2, sel_t, sel_f, Nat.reduceBEq, Nat.reduceAdd, Nat.reduceLT, Nat.reduceLeDiff, Nat.reduceEqDiff, reduceIte, if_true, if_false, bi_add, bi_sub, bi_mul, bi_eql, bi_neq, bi_lss, bi_leq, bi_gtr, bi_geq, bs_eql, bs_neq, bs_lss, Am.unOp, ret1, pubL, pubC_agg, pubC_s, pubC_i, pubC_b, pubC_p, pubC_np, pubC_nsl, pubC_ws, pubC_full, pubC_shut, pubC_fn, pubA, initT, wkZ, wk, wants, resOf, tupOf, quiet, AOp.cls, Nat.beq_eq, Bool.or_eq_true, decide_true, decide_false, beq_self_eq_true, Bool.true_or, Bool.or_true, true_and, and_true, lenA, eqv, eqB, eqP, scal, new_box_self, List.getElem?_cons_zero, List.getElem?_cons_succ, key_ii, key_ss, findM, updM, esc_i, esc_s, esc_b, Int.reduceEq, ret1, new_nb, new_set, reduceCtorEq, Bool.xor_true, Bool.xor_false, Bool.false_eq_true, List.all_cons, List.all_nil, noTok, Bool.and_self, Bool.and_true, Bool.true_and, or_true, false_or, g1, g2, g8, g6, g7, hk5]
      exact hr
  · exact ⟨0, by omega, h, h9, h10⟩

set_option maxHeartbeats 4000000 in
theorem refFields_ok (v : VV) (hv : v.Ok) (ps : List PP) (ht : ∀ p ∈ ps, Txt (partL itoaN v p)) (hlen : ps.length < 2 ^ 63) (hsz : szF itoaN v ps < 2 ^ 37) (s : St) (hw : Wf s) :
    (lim prog).call f_touchstoneref05_Fields [v.av, partsA ps] s = some (tx (fieldsL itoaN v ps), s) := by
  refine fn_W p_touchstoneref05_Fields rfl rfl ?_
  obtain ⟨s1, hs1⟩ : ∃ s1, s.enter.new (.cells 24 v.cells) = s1 := ⟨_, rfl⟩
  have b1 : s1.box? s.nb = some (.cells 24 v.cells) := by rw [← hs1]; exact new_box_self s.enter _
  have w1 : Wf s1 := by rw [← hs1]; exact hw.enter.new _
  have ov : Over s s1 := by rw [← hs1]; exact (Over.enter s).new _
  have hnb : s.enter.nb = s.nb := rfl
  have hs1' : s.enter.new (.cells 24 [tx v.names, tx v.values, tx v.args, .i .i64 v.status]) = s1 := hs1
  simp only [c_touchstoneref05_Fields, W_seq, W_reg, W_cond, W_blk, W_skip, W_exit, W_ret, W_regD, WO_nil, WO_cons, WO_guard2, wantV_b, bq_tt, bq_ft, bq_tf, bq_ff, Bool.not_true, Bool.not_false, WD_nil, WD_cons, WD_guard2, WS_some, WS_none, KS_n, KS_x, KS_r, KB_n, KB_x, KB_r, KN_ap, KO_ap, KD_ap, KC_nil, KF_n, KF_r, KG_n, KG_r, KL_n, KL_x, KL_r, CP_true, CP_false, evOp, evX, X.ev, optX, put_some, put_none, get_set2, sel_t, sel_f, Nat.reduceBEq, Nat.reduceAdd, Nat.reduceLT, Nat.reduceLeDiff, Nat.reduceEqDiff, reduceIte, if_true, if_false, bi_add, bi_sub, bi_mul, bi_eql, bi_neq, bi_lss, bi_leq, bi_gtr, bi_geq, bs_eql, bs_neq, bs_lss, Am.unOp, ret1, pubL, pubC_agg, pubC_s, pubC_i, pubC_b, pubC_p, pubC_np, pubC_nsl, pubC_ws, pubC_full, pubC_shut, pubC_fn, pubA, initT, wkZ, wk, wants, resOf, tupOf, quiet, AOp.cls, Nat.beq_eq, Bool.or_eq_true, decide_true, decide_false, beq_self_eq_true, Bool.true_or, Bool.or_true, true_and, and_true, lenA, eqv, eqB, eqP, scal, new_box_self, List.getElem?_cons_zero, List.getElem?_cons_succ, key_ii, key_ss, findM, updM, esc_i, esc_s, esc_b, Int.reduceEq, ret1, new_nb, new_set, reduceCtorEq, Bool.xor_true, Bool.xor_false, Bool.false_eq_true, List.all_cons, List.all_nil, noTok, Bool.and_self, Bool.and_true, Bool.true_and, or_true, false_or, cells_agg, len4, hs1', hnb]
  refine W_loop (fun n e q => ∃ i : Nat, i + n = ps.length ∧ FI v ps s s.nb i ((ps.take i).foldl (stepF itoaN v) ([], [], false)) e q) ?_ ps.length _ _ ?_
  · rintro n e q ⟨i, hi, g1, g2, g8, g6, g7, hr, hb, hov, hwq⟩
    simp only [W_seq, W_reg, W_cond, W_blk, W_skip, W_exit, W_ret, W_regD, WO_nil, WO_cons, WO_guard2, wantV_b, bq_tt, bq_ft, bq_tf, bq_ff, Bool.not_true, Bool.not_false, WD_nil, WD_cons, WD_guard2, WS_some, WS_none, KS_n, KS_x, KS_r, KB_n, KB_x, KB_r, KN_ap, KO_ap, KD_ap, KC_nil, KF_n, KF_r, KG_n, KG_r, KL_n, KL_x, KL_r, CP_true, CP_false, evOp, evX, X.ev, optX, put_some, put_none, get_set2, sel_t, sel_f, Nat.reduceBEq, Nat.reduceAdd, Nat.reduceLT, Nat.reduceLeDiff, Nat.reduceEqDiff, reduceIte, if_true, if_false, bi_add, bi_sub, bi_mul, bi_eql, bi_neq, bi_lss, bi_leq, bi_gtr, bi_geq, bs_eql, bs_neq, bs_lss, Am.unOp, ret1, pubL, pubC_agg, pubC_s, pubC_i, pubC_b, pubC_p, pubC_np, pubC_nsl, pubC_ws, pubC_full, pubC_shut, pubC_fn, pubA, initT, wkZ, wk, wants, resOf, tupOf, quiet, AOp.cls, Nat.beq_eq, Bool.or_eq_true, decide_true, decide_false, beq_self_eq_true, Bool.true_or, Bool.or_true, true_and, and_true, lenA, eqv, eqB, eqP, scal, new_box_self, List.getElem?_cons_zero, List.getElem?_cons_succ, key_ii, key_ss, findM, updM, esc_i, esc_s, esc_b, Int.reduceEq, ret1, new_nb, new_set, reduceCtorEq, Bool.xor_true, Bool.xor_false, Bool.false_eq_true, List.all_cons, List.all_nil, noTok, Bool.and_self, Bool.and_true, Bool.true_and, or_true, false_or, g1, g2, g6, g7, g8, List.length_map, ofNat_len]
    refine CP_dec (fun hlt => ?_) (fun hge => ?_)
    · have hlt : i < ps.length := by omega
      have hget : (ps.map fun p => AV.agg p.cells)[i]? = some (.agg ps[i].cells) := by simp [hlt]
      have la : ldA q true 4 (.p s.nb 0) = some v.av := ld_all4 hb
      have hof := refOf_ok v hv ps[i] q
      have hst : (ps.take (i + 1)).foldl (stepF itoaN v) ([], [], false) = stepF itoaN v ((ps.take i).foldl (stepF itoaN v) ([], [], false)) ps[i] := by
        rw [List.take_succ_eq_append_getElem hlt, List.foldl_append]; rfl
      have hp := ht ps[i] (List.getElem_mem hlt)
      obtain ⟨x, hx⟩ : ∃ x, (ps.take i).foldl (stepF itoaN v) ([], [], false) = x := ⟨_, rfl⟩
      obtain ⟨z1, z2⟩ := stepF_len itoaN v (ps.take i) ([], [], false)
      have z4 : szF itoaN v (ps.take i) + (partL itoaN v ps[i]).length + 1 ≤ szF itoaN v ps := by
        have e1 : ps.take i ++ (ps[i] :: ps.drop (i + 1)) = ps := by rw [← List.drop_eq_getElem_cons hlt, List.take_append_drop]
        have e2 := congrArg (szF itoaN v) e1
        rw [szF_append, szF_cons] at e2
        omega
      rw [hx] at z1 z2 hst g6 g7 hr
      simp only [List.length_nil, Nat.zero_add] at z1 z2
      obtain ⟨L, hL⟩ : ∃ L, partL itoaN v ps[i] = L := ⟨_, rfl⟩
      obtain ⟨k5, hk5⟩ : ∃ k5, e.get 5 = k5 := ⟨_, rfl⟩
      rw [hL] at hof hp z4
      rw [hk5] at hr
      have hw := wrap_succ (show i + 1 < 2 ^ 63 by omega)
      have hfin : ∀ e' q', FI v ps s s.nb (i + 1) (stepF itoaN v x ps[i]) e' q' →
          ∃ m, m < n ∧ ∃ k1 : Nat, k1 + m = ps.length ∧ FI v ps s s.nb k1 ((ps.take k1).foldl (stepF itoaN v) ([], [], false)) e' q' := fun e' q' h1 =>
        ⟨n - 1, by omega, i + 1, by omega, by rw [hst]; exact h1⟩
      have hfi : ∀ y e', e'.get 1 = partsA ps → e'.get 2 = .p s.nb 0 → e'.get 8 = .i .i64 ((i + 1 : Nat) : Int) → e'.get 6 = .b y.2.2 → e'.get 7 = .s y.2.1 → e'.get 5 = k5 → y.1 = x.1 → FI v ps s s.nb (i + 1) y e' q := fun y e' f1 f2 f8 f6 f7 f5 f9 =>
        ⟨f1, f2, f8, f6, f7, by rw [f5, f9]; exact hr, hb, hov, hwq⟩
      have hcat := cat_ok (show x.2.1.length + L.length < 2 ^ 62 by omega)
      cases hvar : ps[i].var with
      | true =>
        cases hqu : ps[i].quoted with
        | false =>
          have hsf : stepF itoaN v x ps[i] = L.foldl spl x := by
            unfold stepF
            rw [hvar, hqu, hL, if_pos (by simp)]
          rw [hsf] at hfin
          simp only [PP.cells, hvar, hqu] at hget hof
          simp only [W_seq, W_reg, W_cond, W_blk, W_skip, W_exit, W_ret, W_regD, WO_nil, WO_cons, WO_guard2, wantV_b, bq_tt, bq_ft, bq_tf, bq_ff, Bool.not_true, Bool.not_false, WD_nil, WD_cons, WD_guard2, WS_some, WS_none, KS_n, KS_x, KS_r, KB_n, KB_x, KB_r, KN_ap, KO_ap, KD_ap, KC_nil, KF_n, KF_r, KG_n, KG_r, KL_n, KL_x, KL_r, CP_true, CP_false, evOp, evX, X.ev, optX, put_some, put_none, get_set2, sel_t, sel_f, Nat.reduceBEq, Nat.reduceAdd, Nat.reduceLT, Nat.reduceLeDiff, Nat.reduceEqDiff, reduceIte, if_true, if_false, bi_add, bi_sub, bi_mul, bi_eql, bi_neq, bi_lss, bi_leq, bi_gtr, bi_geq, bs_eql, bs_neq, bs_lss, Am.unOp, ret1, pubL, pubC_agg, pubC_s, pubC_i, pubC_b, pubC_p, pubC_np, pubC_nsl, pubC_ws, pubC_full, pubC_shut, pubC_fn, pubA, initT, wkZ, wk, wants, resOf, tupOf, quiet, AOp.cls, Nat.beq_eq, Bool.or_eq_true, decide_true, decide_false, beq_self_eq_true, Bool.true_or, Bool.or_true, true_and, and_true, lenA, eqv, eqB, eqP, scal, new_box_self, List.getElem?_cons_zero, List.getElem?_cons_succ, key_ii, key_ss, findM, updM, esc_i, esc_s, esc_b, Int.reduceEq, ret1, new_nb, new_set, reduceCtorEq, Bool.xor_true, Bool.xor_false, Bool.false_eq_true, List.all_cons, List.all_nil, noTok, Bool.and_self, Bool.and_true, Bool.true_and, or_true, false_or, g1, g2, g6, g7, g8, natOf_nat, hget, cells_agg, ldE3, ldE_0, ldE_2, la, hof, W_thw, thaw_ws]
          refine spl_inner v ps s s.nb i L hp x (by omega) (by omega) _ ?_ _ q ?_ ?_ ?_
          · rintro e q ⟨f1, f2, f8, f6, f7, hr, hb, hov, hwq⟩
            simp only [W_seq, W_reg, W_cond, W_blk, W_skip, W_exit, W_ret, W_regD, WO_nil, WO_cons, WO_guard2, wantV_b, bq_tt, bq_ft, bq_tf, bq_ff, Bool.not_true, Bool.not_false, WD_nil, WD_cons, WD_guard2, WS_some, WS_none, KS_n, KS_x, KS_r, KB_n, KB_x, KB_r, KN_ap, KO_ap, KD_ap, KC_nil, KF_n, KF_r, KG_n, KG_r, KL_n, KL_x, KL_r, CP_true, CP_false, evOp, evX, X.ev, optX, put_some, put_none, get_set2, sel_t, sel_f, Nat.reduceBEq, Nat.reduceAdd, Nat.reduceLT, Nat.reduceLeDiff, Nat.reduceEqDiff, reduceIte, if_true, if_false, bi_add, bi_sub, bi_mul, bi_eql, bi_neq, bi_lss, bi_leq, bi_gtr, bi_geq, bs_eql, bs_neq, bs_lss, Am.unOp, ret1, pubL, pubC_agg, pubC_s, pubC_i, pubC_b, pubC_p, pubC_np, pubC_nsl, pubC_ws, pubC_full, pubC_shut, pubC_fn, pubA, initT, wkZ, wk, wants, resOf, tupOf, quiet, AOp.cls, Nat.beq_eq, Bool.or_eq_true, decide_true, decide_false, beq_self_eq_true, Bool.true_or, Bool.or_true, true_and, and_true, lenA, eqv, eqB, eqP, scal, new_box_self, List.getElem?_cons_zero, List.getElem?_cons_succ, key_ii, key_ss, findM, updM, esc_i, esc_s, esc_b, Int.reduceEq, ret1, new_nb, new_set, reduceCtorEq, Bool.xor_true, Bool.xor_false, Bool.false_eq_true, List.all_cons, List.all_nil, noTok, Bool.and_self, Bool.and_true, Bool.true_and, or_true, false_or, f1, f2, f8, hw]
            refine hfin _ _ ⟨?_, ?_, ?_, ?_, ?_, ?_, hb, hov, hwq⟩ <;> simp only [W_seq, W_reg, W_cond, W_blk, W_skip, W_exit, W_ret, W_regD, WO_nil, WO_cons, WO_guard2, wantV_b, bq_tt, bq_ft, bq_tf, bq_ff, Bool.not_true, Bool.not_false, WD_nil, WD_cons, WD_guard2, WS_some, WS_none, KS_n, KS_x, KS_r, KB_n, KB_x, KB_r, KN_ap, KO_ap, KD_ap, KC_nil, KF_n, KF_r, KG_n, KG_r, KL_n, KL_x, KL_r, CP_true, CP_false, evOp, evX, X.ev, optX, put_some, put_none, get_set2, sel_t, sel_f, Nat.reduceBEq, Nat.reduceAdd, Nat.reduceLT, Nat.reduceLeDiff, Nat.reduceEqDiff, reduceIte, if_true, if_false, bi_add, bi_sub, bi_mul, bi_eql, bi_neq, bi_lss, bi_leq, bi_gtr, bi_geq, bs_eql, bs_neq, bs_lss, Am.unOp, ret1, pubL, pubC_agg, pubC_s, pubC_i, pubC_b, pubC_p, pubC_np, pubC_nsl, pubC_ws, pubC_full, pubC_shut, pubC_fn, pubA, initT, wkZ, wk, wants, resOf, tupOf, quiet, AOp.cls, Nat.beq_eq, Bool.or_eq_true, decide_true, decide_false, beq_self_eq_true, Bool.true_or, Bool.or_true, true_and, and_true, lenA, eqv, eqB, eqP, scal, new_box_self, List.getElem?_cons_zero, List.getElem?_cons_succ, key_ii, key_ss, findM, updM, esc_i, esc_s, esc_b, Int.reduceEq, ret1, new_nb, new_set, reduceCtorEq, Bool.xor_true, Bool.xor_false, Bool.false_eq_true, List.all_cons, List.all_nil, noTok, Bool.and_self, Bool.and_true, Bool.true_and, or_true, false_or, f1, f2, f6, f7]
            exact hr
          · refine ⟨?_, ?_, ?_, ?_, ?_, ?_, hb, hov, hwq⟩ <;> simp only [W_seq, W_reg, W_cond, W_blk, W_skip, W_exit, W_ret, W_regD, WO_nil, WO_cons, WO_guard2, wantV_b, bq_tt, bq_ft, bq_tf, bq_ff, Bool.not_true, Bool.not_false, WD_nil, WD_cons, WD_guard2, WS_some, WS_none, KS_n, KS_x, KS_r, KB_n, KB_x, KB_r, KN_ap, KO_ap, KD_ap, KC_nil, KF_n, KF_r, KG_n, KG_r, KL_n, KL_x, KL_r, CP_true, CP_false, evOp, evX, X.ev, optX, put_some, put_none, get_set2, sel_t, sel_f, Nat.reduceBEq, Nat.reduceAdd, Nat.reduceLT, Nat.reduceLeDiff, Nat.reduceEqDiff, reduceIte, if_true, if_false, bi_add, bi_sub, bi_mul, bi_eql, bi_neq, bi_lss, bi_leq, bi_gtr, bi_geq, bs_eql, bs_neq, bs_lss, Am.unOp, ret1, pubL, pubC_agg, pubC_s, pubC_i, pubC_b, pubC_p, pubC_np, pubC_nsl, pubC_ws, pubC_full, pubC_shut, pubC_fn, pubA, initT, wkZ, wk, wants, resOf, tupOf, quiet, AOp.cls, Nat.beq_eq, Bool.or_eq_true, decide_true, decide_false, beq_self_eq_true, Bool.true_or, Bool.or_true, true_and, and_true, lenA, eqv, eqB, eqP, scal, new_box_self, List.getElem?_cons_zero, List.getElem?_cons_succ, key_ii, key_ss, findM, updM, esc_i, esc_s, esc_b, Int.reduceEq, ret1, new_nb, new_set, reduceCtorEq, Bool.xor_true, Bool.xor_false, Bool.false_eq_true, List.all_cons, List.all_nil, noTok, Bool.and_self, Bool.and_true, Bool.true_and, or_true, false_or, g1, g2, g6, g7, g8, hk5]
            exact hr
          · simp only [W_seq, W_reg, W_cond, W_blk, W_skip, W_exit, W_ret, W_regD, WO_nil, WO_cons, WO_guard2, wantV_b, bq_tt, bq_ft, bq_tf, bq_ff, Bool.not_true, Bool.not_false, WD_nil, WD_cons, WD_guard2, WS_some, WS_none, KS_n, KS_x, KS_r, KB_n, KB_x, KB_r, KN_ap, KO_ap, KD_ap, KC_nil, KF_n, KF_r, KG_n, KG_r, KL_n, KL_x, KL_r, CP_true, CP_false, evOp, evX, X.ev, optX, put_some, put_none, get_set2, sel_t, sel_f, Nat.reduceBEq, Nat.reduceAdd, Nat.reduceLT, Nat.reduceLeDiff, Nat.reduceEqDiff, reduceIte, if_true, if_false, bi_add, bi_sub, bi_mul, bi_eql, bi_neq, bi_lss, bi_leq, bi_gtr, bi_geq, bs_eql, bs_neq, bs_lss, Am.unOp, ret1, pubL, pubC_agg, pubC_s, pubC_i, pubC_b, pubC_p, pubC_np, pubC_nsl, pubC_ws, pubC_full, pubC_shut, pubC_fn, pubA, initT, wkZ, wk, wants, resOf, tupOf, quiet, AOp.cls, Nat.beq_eq, Bool.or_eq_true, decide_true, decide_false, beq_self_eq_true, Bool.true_or, Bool.or_true, true_and, and_true, lenA, eqv, eqB, eqP, scal, new_box_self, List.getElem?_cons_zero, List.getElem?_cons_succ, key_ii, key_ss, findM, updM, esc_i, esc_s, esc_b, Int.reduceEq, ret1, new_nb, new_set, reduceCtorEq, Bool.xor_true, Bool.xor_false, Bool.false_eq_true, List.all_cons, List.all_nil, noTok, Bool.and_self, Bool.and_true, Bool.true_and, or_true, false_or]
          · simp only [W_seq, W_reg, W_cond, W_blk, W_skip, W_exit, W_ret, W_regD, WO_nil, WO_cons, WO_guard2, wantV_b, bq_tt, bq_ft, bq_tf, bq_ff, Bool.not_true, Bool.not_false, WD_nil, WD_cons, WD_guard2, WS_some, WS_none, KS_n, KS_x, KS_r, KB_n, KB_x, KB_r, KN_ap, KO_ap, KD_ap, KC_nil, KF_n, KF_r, KG_n, KG_r, KL_n, KL_x, KL_r, CP_true, CP_false, evOp, evX, X.ev, optX, put_some, put_none, get_set2, sel_t, sel_f, Nat.reduceBEq, Nat.reduceAdd, Nat.reduceLT, Nat.reduceLeDiff, Nat.reduceEqDiff, reduceIte, if_true, if_false, bi_add, bi_sub, bi_mul, bi_eql, bi_neq, bi_lss, bi_leq, bi_gtr, bi_geq, bs_eql, bs_neq, bs_lss, Am.unOp, ret1, pubL, pubC_agg, pubC_s, pubC_i, pubC_b, pubC_p, pubC_np, pubC_nsl, pubC_ws, pubC_full, pubC_shut, pubC_fn, pubA, initT, wkZ, wk, wants, resOf, tupOf, quiet, AOp.cls, Nat.beq_eq, Bool.or_eq_true, decide_true, decide_false, beq_self_eq_true, Bool.true_or, Bool.or_true, true_and, and_true, lenA, eqv, eqB, eqP, scal, new_box_self, List.getElem?_cons_zero, List.getElem?_cons_succ, key_ii, key_ss, findM, updM, esc_i, esc_s, esc_b, Int.reduceEq, ret1, new_nb, new_set, reduceCtorEq, Bool.xor_true, Bool.xor_false, Bool.false_eq_true, List.all_cons, List.all_nil, noTok, Bool.and_self, Bool.and_true, Bool.true_and, or_true, false_or]; rfl
        | true =>
          have hsf : stepF itoaN v x ps[i] = (x.1, x.2.1 ++ L, true) := by
            unfold stepF
            rw [hvar, hqu, hL, if_neg (by simp), if_pos (by simp)]
          rw [hsf] at hfin
          simp only [PP.cells, hvar, hqu] at hget hof
          cases hx2 : x.2.2 <;> simp only [hx2] at g6 <;>
            simp only [W_seq, W_reg, W_cond, W_blk, W_skip, W_exit, W_ret, W_regD, WO_nil, WO_cons, WO_guard2, wantV_b, bq_tt, bq_ft, bq_tf, bq_ff, Bool.not_true, Bool.not_false, WD_nil, WD_cons, WD_guard2, WS_some, WS_none, KS_n, KS_x, KS_r, KB_n, KB_x, KB_r, KN_ap, KO_ap, KD_ap, KC_nil, KF_n, KF_r, KG_n, KG_r, KL_n, KL_x, KL_r, CP_true, CP_false, evOp, evX, X.ev, optX, put_some, put_none, get_set2, sel_t, sel_f, Nat.reduceBEq, Nat.reduceAdd, Nat.reduceLT, Nat.reduceLeDiff, Nat.reduceEqDiff, reduceIte, if_true, if_false, bi_add, bi_sub, bi_mul, bi_eql, bi_neq, bi_lss, bi_leq, bi_gtr, bi_geq, bs_eql, bs_neq, bs_lss, Am.unOp, ret1, pubL, pubC_agg, pubC_s, pubC_i, pubC_b, pubC_p, pubC_np, pubC_nsl, pubC_ws, pubC_full, pubC_shut, pubC_fn, pubA, initT, wkZ, wk, wants, resOf, tupOf, quiet, AOp.cls, Nat.beq_eq, Bool.or_eq_true, decide_true, decide_false, beq_self_eq_true, Bool.true_or, Bool.or_true, true_and, and_true, lenA, eqv, eqB, eqP, scal, new_box_self, List.getElem?_cons_zero, List.getElem?_cons_succ, key_ii, key_ss, findM, updM, esc_i, esc_s, esc_b, Int.reduceEq, ret1, new_nb, new_set, reduceCtorEq, Bool.xor_true, Bool.xor_false, Bool.false_eq_true, List.all_cons, List.all_nil, noTok, Bool.and_self, Bool.and_true, Bool.true_and, or_true, false_or, g1, g2, g6, g7, g8, natOf_nat, hget, cells_agg, ldE3, ldE_0, ldE_2, la, hof, W_thw, thaw_ws, hcat, hw] <;>
            (refine hfin _ _ (hfi _ _ ?_ ?_ ?_ ?_ ?_ ?_ rfl) <;> simp only [W_seq, W_reg, W_cond, W_blk, W_skip, W_exit, W_ret, W_regD, WO_nil, WO_cons, WO_guard2, wantV_b, bq_tt, bq_ft, bq_tf, bq_ff, Bool.not_true, Bool.not_false, WD_nil, WD_cons, WD_guard2, WS_some, WS_none, KS_n, KS_x, KS_r, KB_n, KB_x, KB_r, KN_ap, KO_ap, KD_ap, KC_nil, KF_n, KF_r, KG_n, KG_r, KL_n, KL_x, KL_r, CP_true, CP_false, evOp, evX, X.ev, optX, put_some, put_none, get_set2, sel_t, sel_f, Nat.reduceBEq, Nat.reduceAdd, Nat.reduceLT, Nat.reduceLeDiff, Nat.reduceEqDiff, reduceIte, if_true, if_false, bi_add, bi_sub, bi_mul, bi_eql, bi_neq, bi_lss, bi_leq, bi_gtr, bi_geq, bs_eql, bs_neq, bs_lss, Am.unOp, ret1, pubL, pubC_agg, pubC_s, pubC_i, pubC_b, pubC_p, pubC_np, pubC_nsl, pubC_ws, pubC_full, pubC_shut, pubC_fn, pubA, initT, wkZ, wk, wants, resOf, tupOf, quiet, AOp.cls, Nat.beq_eq, Bool.or_eq_true, decide_true, decide_false, beq_self_eq_true, Bool.true_or, Bool.or_true, true_and, and_true, lenA, eqv, eqB, eqP, scal, new_box_self, List.getElem?_cons_zero, List.getElem?_cons_succ, key_ii, key_ss, findM, updM, esc_i, esc_s, esc_b, Int.reduceEq, ret1, new_nb, new_set, reduceCtorEq, Bool.xor_true, Bool.xor_false, Bool.false_eq_true, List.all_cons, List.all_nil, noTok, Bool.and_self, Bool.and_true, Bool.true_and, or_true, false_or, g1, g2, g8, hk5])
      | false =>
        cases hqu : ps[i].quoted with
        | true =>
          have hsf : stepF itoaN v x ps[i] = (x.1, x.2.1 ++ L, true) := by
            unfold stepF
            rw [hvar, hqu, hL, if_neg (by simp), if_pos (by simp)]
          rw [hsf] at hfin
          simp only [PP.cells, hvar, hqu] at hget hof
          cases hx2 : x.2.2 <;> simp only [hx2] at g6 <;>
            simp only [W_seq, W_reg, W_cond, W_blk, W_skip, W_exit, W_ret, W_regD, WO_nil, WO_cons, WO_guard2, wantV_b, bq_tt, bq_ft, bq_tf, bq_ff, Bool.not_true, Bool.not_false, WD_nil, WD_cons, WD_guard2, WS_some, WS_none, KS_n, KS_x, KS_r, KB_n, KB_x, KB_r, KN_ap, KO_ap, KD_ap, KC_nil, KF_n, KF_r, KG_n, KG_r, KL_n, KL_x, KL_r, CP_true, CP_false, evOp, evX, X.ev, optX, put_some, put_none, get_set2, sel_t, sel_f, Nat.reduceBEq, Nat.reduceAdd, Nat.reduceLT, Nat.reduceLeDiff, Nat.reduceEqDiff, reduceIte, if_true, if_false, bi_add, bi_sub, bi_mul, bi_eql, bi_neq, bi_lss, bi_leq, bi_gtr, bi_geq, bs_eql, bs_neq, bs_lss, Am.unOp, ret1, pubL, pubC_agg, pubC_s, pubC_i, pubC_b, pubC_p, pubC_np, pubC_nsl, pubC_ws, pubC_full, pubC_shut, pubC_fn, pubA, initT, wkZ, wk, wants, resOf, tupOf, quiet, AOp.cls, Nat.beq_eq, Bool.or_eq_true, decide_true, decide_false, beq_self_eq_true, Bool.true_or, Bool.or_true, true_and, and_true, lenA, eqv, eqB, eqP, scal, new_box_self, List.getElem?_cons_zero, List.getElem?_cons_succ, key_ii, key_ss, findM, updM, esc_i, esc_s, esc_b, Int.reduceEq, ret1, new_nb, new_set, reduceCtorEq, Bool.xor_true, Bool.xor_false, Bool.false_eq_true, List.all_cons, List.all_nil, noTok, Bool.and_self, Bool.and_true, Bool.true_and, or_true, false_or, g1, g2, g6, g7, g8, natOf_nat, hget, cells_agg, ldE3, ldE_0, ldE_2, la, hof, W_thw, thaw_ws, hcat, hw] <;>
            (refine hfin _ _ (hfi _ _ ?_ ?_ ?_ ?_ ?_ ?_ rfl) <;> simp only [W_seq, W_reg, W_cond, W_blk, W_skip, W_exit, W_ret, W_regD, WO_nil, WO_cons, WO_guard2, wantV_b, bq_tt, bq_ft, bq_tf, bq_ff, Bool.not_true, Bool.not_false, WD_nil, WD_cons, WD_guard2, WS_some, WS_none, KS_n, KS_x, KS_r, KB_n, KB_x, KB_r, KN_ap, KO_ap, KD_ap, KC_nil, KF_n, KF_r, KG_n, KG_r, KL_n, KL_x, KL_r, CP_true, CP_false, evOp, evX, X.ev, optX, put_some, put_none, get_set2, sel_t, sel_f, Nat.reduceBEq, Nat.reduceAdd, Nat.reduceLT, Nat.reduceLeDiff, Nat.reduceEqDiff, reduceIte, if_true, if_false, bi_add, bi_sub, bi_mul, bi_eql, bi_neq, bi_lss, bi_leq, bi_gtr, bi_geq, bs_eql, bs_neq, bs_lss, Am.unOp, ret1, pubL, pubC_agg, pubC_s, pubC_i, pubC_b, pubC_p, pubC_np, pubC_nsl, pubC_ws, pubC_full, pubC_shut, pubC_fn, pubA, initT, wkZ, wk, wants, resOf, tupOf, quiet, AOp.cls, Nat.beq_eq, Bool.or_eq_true, decide_true, decide_false, beq_self_eq_true, Bool.true_or, Bool.or_true, true_and, and_true, lenA, eqv, eqB, eqP, scal, new_box_self, List.getElem?_cons_zero, List.getElem?_cons_succ, key_ii, key_ss, findM, updM, esc_i, esc_s, esc_b, Int.reduceEq, ret1, new_nb, new_set, reduceCtorEq, Bool.xor_true, Bool.xor_false, Bool.false_eq_true, List.all_cons, List.all_nil, noTok, Bool.and_self, Bool.and_true, Bool.true_and, or_true, false_or, g1, g2, g8, hk5])
        | false =>
          simp only [PP.cells, hvar, hqu] at hget hof
          by_cases hne : L = []
          · have hne' : (L ≠ []) = False := by simp [hne]
            have hsf : stepF itoaN v x ps[i] = x := by
              unfold stepF
              rw [hvar, hqu, hL, if_neg (by simp), if_neg (by simp [hne])]
            rw [hsf] at hfin
            have hx0 : x.2.1 ++ L = x.2.1 := by rw [hne, List.append_nil]
            cases hx2 : x.2.2 <;> simp only [hx2] at g6 <;>
              simp only [W_seq, W_reg, W_cond, W_blk, W_skip, W_exit, W_ret, W_regD, WO_nil, WO_cons, WO_guard2, wantV_b, bq_tt, bq_ft, bq_tf, bq_ff, Bool.not_true, Bool.not_false, WD_nil, WD_cons, WD_guard2, WS_some, WS_none, KS_n, KS_x, KS_r, KB_n, KB_x, KB_r, KN_ap, KO_ap, KD_ap, KC_nil, KF_n, KF_r, KG_n, KG_r, KL_n, KL_x, KL_r, CP_true, CP_false, evOp, evX, X.ev, optX, put_some, put_none, get_set2, sel_t, sel_f, Nat.reduceBEq, Nat.reduceAdd, Nat.reduceLT, Nat.reduceLeDiff, Nat.reduceEqDiff, reduceIte, if_true, if_false, bi_add, bi_sub, bi_mul, bi_eql, bi_neq, bi_lss, bi_leq, bi_gtr, bi_geq, bs_eql, bs_neq, bs_lss, Am.unOp, ret1, pubL, pubC_agg, pubC_s, pubC_i, pubC_b, pubC_p, pubC_np, pubC_nsl, pubC_ws, pubC_full, pubC_shut, pubC_fn, pubA, initT, wkZ, wk, wants, resOf, tupOf, quiet, AOp.cls, Nat.beq_eq, Bool.or_eq_true, decide_true, decide_false, beq_self_eq_true, Bool.true_or, Bool.or_true, true_and, and_true, lenA, eqv, eqB, eqP, scal, new_box_self, List.getElem?_cons_zero, List.getElem?_cons_succ, key_ii, key_ss, findM, updM, esc_i, esc_s, esc_b, Int.reduceEq, ret1, new_nb, new_set, reduceCtorEq, Bool.xor_true, Bool.xor_false, Bool.false_eq_true, List.all_cons, List.all_nil, noTok, Bool.and_self, Bool.and_true, Bool.true_and, or_true, false_or, g1, g2, g6, g7, g8, natOf_nat, hget, cells_agg, ldE3, ldE_0, ldE_2, la, hof, W_thw, thaw_ws, hcat, hw, hne', hx0] <;>
              (refine hfin _ _ (hfi _ _ ?_ ?_ ?_ ?_ ?_ ?_ rfl) <;> simp only [W_seq, W_reg, W_cond, W_blk, W_skip, W_exit, W_ret, W_regD, WO_nil, WO_cons, WO_guard2, wantV_b, bq_tt, bq_ft, bq_tf, bq_ff, Bool.not_true, Bool.not_false, WD_nil, WD_cons, WD_guard2, WS_some, WS_none, KS_n, KS_x, KS_r, KB_n, KB_x, KB_r, KN_ap, KO_ap, KD_ap, KC_nil, KF_n, KF_r, KG_n, KG_r, KL_n, KL_x, KL_r, CP_true, CP_false, evOp, evX, X.ev, optX, put_some, put_none, get_set2, sel_t, sel_f, Nat.reduceBEq, Nat.reduceAdd, Nat.reduceLT, Nat.reduceLeDiff, Nat.reduceEqDiff, reduceIte, if_true, if_false, bi_add, bi_sub, bi_mul, bi_eql, bi_neq, bi_lss, bi_leq, bi_gtr, bi_geq, bs_eql, bs_neq, bs_lss, Am.unOp, ret1, pubL, pubC_agg, pubC_s, pubC_i, pubC_b, pubC_p, pubC_np, pubC_nsl, pubC_ws, pubC_full, pubC_shut, pubC_fn, pubA, initT, wkZ, wk, wants, resOf, tupOf, quiet, AOp.cls, Nat.beq_eq, Bool.or_eq_true, decide_true, decide_false, beq_self_eq_true, Bool.true_or, Bool.or_true, true_and, and_true, lenA, eqv, eqB, eqP, scal, new_box_self, List.getElem?_cons_zero, List.getElem?_cons_succ, key_ii, key_ss, findM, updM, esc_i, esc_s, esc_b, Int.reduceEq, ret1, new_nb, new_set, reduceCtorEq, Bool.xor_true, Bool.xor_false, Bool.false_eq_true, List.all_cons, List.all_nil, noTok, Bool.and_self, Bool.and_true, Bool.true_and, or_true, false_or, g1, g2, g8, hk5, hx2])
          · have hne' : (L ≠ []) = True := by simp [hne]
            have hsf : stepF itoaN v x ps[i] = (x.1, x.2.1 ++ L, true) := by
              unfold stepF
              rw [hvar, hqu, hL, if_neg (by simp), if_pos (by simp [hne])]
            rw [hsf] at hfin
            cases hx2 : x.2.2 <;> simp only [hx2] at g6 <;>
              simp only [W_seq, W_reg, W_cond, W_blk, W_skip, W_exit, W_ret, W_regD, WO_nil, WO_cons, WO_guard2, wantV_b, bq_tt, bq_ft, bq_tf, bq_ff, Bool.not_true, Bool.not_false, WD_nil, WD_cons, WD_guard2, WS_some, WS_none, KS_n, KS_x, KS_r, KB_n, KB_x, KB_r, KN_ap, KO_ap, KD_ap, KC_nil, KF_n, KF_r, KG_n, KG_r, KL_n, KL_x, KL_r, CP_true, CP_false, evOp, evX, X.ev, optX, put_some, put_none, get_set2, sel_t, sel_f, Nat.reduceBEq, Nat.reduceAdd, Nat.reduceLT, Nat.reduceLeDiff, Nat.reduceEqDiff, reduceIte, if_true, if_false, bi_add, bi_sub, bi_mul, bi_eql, bi_neq, bi_lss, bi_leq, bi_gtr, bi_geq, bs_eql, bs_neq, bs_lss, Am.unOp, ret1, pubL, pubC_agg, pubC_s, pubC_i, pubC_b, pubC_p, pubC_np, pubC_nsl, pubC_ws, pubC_full, pubC_shut, pubC_fn, pubA, initT, wkZ, wk, wants, resOf, tupOf, quiet, AOp.cls, Nat.beq_eq, Bool.or_eq_true, decide_true, decide_false, beq_self_eq_true, Bool.true_or, Bool.or_true, true_and, and_true, lenA, eqv, eqB, eqP, scal, new_box_self, List.getElem?_cons_zero, List.getElem?_cons_succ, key_ii, key_ss, findM, updM, esc_i, esc_s, esc_b, Int.reduceEq, ret1, new_nb, new_set, reduceCtorEq, Bool.xor_true, Bool.xor_false, Bool.false_eq_true, List.all_cons, List.all_nil, noTok, Bool.and_self, Bool.and_true, Bool.true_and, or_true, false_or, g1, g2, g6, g7, g8, natOf_nat, hget, cells_agg, ldE3, ldE_0, ldE_2, la, hof, W_thw, thaw_ws, hcat, hw, hne'] <;>
              (refine hfin _ _ (hfi _ _ ?_ ?_ ?_ ?_ ?_ ?_ rfl) <;> simp only [W_seq, W_reg, W_cond, W_blk, W_skip, W_exit, W_ret, W_regD, WO_nil, WO_cons, WO_guard2, wantV_b, bq_tt, bq_ft, bq_tf, bq_ff, Bool.not_true, Bool.not_false, WD_nil, WD_cons, WD_guard2, WS_some, WS_none, KS_n, KS_x, KS_r, KB_n, KB_x, KB_r, KN_ap, KO_ap, KD_ap, KC_nil, KF_n, KF_r, KG_n, KG_r, KL_n, KL_x, KL_r, CP_true, CP_false, evOp, evX, X.ev, optX, put_some, put_none, get_set2, sel_t, sel_f, Nat.reduceBEq, Nat.reduceAdd, Nat.reduceLT, Nat.reduceLeDiff, Nat.reduceEqDiff, reduceIte, if_true, if_false, bi_add, bi_sub, bi_mul, bi_eql, bi_neq, bi_lss, bi_leq, bi_gtr, bi_geq, bs_eql, bs_neq, bs_lss, Am.unOp, ret1, pubL, pubC_agg, pubC_s, pubC_i, pubC_b, pubC_p, pubC_np, pubC_nsl, pubC_ws, pubC_full, pubC_shut, pubC_fn, pubA, initT, wkZ, wk, wants, resOf, tupOf, quiet, AOp.cls, Nat.beq_eq, Bool.or_eq_true, decide_true, decide_false, beq_self_eq_true, Bool.true_or, Bool.or_true, true_and, and_true, lenA, eqv, eqB, eqP, scal, new_box_self, List.getElem?_cons_zero, List.getElem?_cons_succ, key_ii, key_ss, findM, updM, esc_i, esc_s, esc_b, Int.reduceEq, ret1, new_nb, new_set, reduceCtorEq, Bool.xor_true, Bool.xor_false, Bool.false_eq_true, List.all_cons, List.all_nil, noTok, Bool.and_self, Bool.and_true, Bool.true_and, or_true, false_or, g1, g2, g8, hk5])
    · have hil : i = ps.length := by omega
      subst hil
      rw [List.take_length] at g6 g7 hr
      obtain ⟨z1, z2⟩ := stepF_len itoaN v ps ([], [], false)
      simp only [List.length_nil, Nat.zero_add] at z1 z2
      obtain ⟨x, hx⟩ : ∃ x, ps.foldl (stepF itoaN v) ([], [], false) = x := ⟨_, rfl⟩
      rw [hx] at g6 g7 hr z1 z2
      obtain ⟨k5, hk5⟩ : ∃ k5, e.get 5 = k5 := ⟨_, rfl⟩
      rw [hk5] at hr
      have hfl : fieldsL itoaN v ps = if x.2.2 = true then x.1 ++ [x.2.1] else x.1 := by unfold fieldsL; rw [hx]
      cases hx2 : x.2.2 with
      | true =>
        rw [hx2] at g6 hfl
        rw [if_pos rfl] at hfl
        obtain ⟨a', s', happ, hr', hg⟩ := app_rowE hwq hov.nt hr (elems1_one q x.2.1) (by simp) (by simp; omega)
        have ov2 := hg.over s (Nat.le_refl _) hov.nt hov
        simp only [List.take_length, hx, hx2, W_seq, W_reg, W_cond, W_blk, W_skip, W_exit, W_ret, W_regD, WO_nil, WO_cons, WO_guard2, wantV_b, bq_tt, bq_ft, bq_tf, bq_ff, Bool.not_true, Bool.not_false, WD_nil, WD_cons, WD_guard2, WS_some, WS_none, KS_n, KS_x, KS_r, KB_n, KB_x, KB_r, KN_ap, KO_ap, KD_ap, KC_nil, KF_n, KF_r, KG_n, KG_r, KL_n, KL_x, KL_r, CP_true, CP_false, evOp, evX, X.ev, optX, put_some, put_none, get_set2, sel_t, sel_f, Nat.reduceBEq, Nat.reduceAdd, Nat.reduceLT, Nat.reduceLeDiff, Nat.reduceEqDiff, reduceIte, if_true, if_false, bi_add, bi_sub, bi_mul, bi_eql, bi_neq, bi_lss, bi_leq, bi_gtr, bi_geq, bs_eql, bs_neq, bs_lss, Am.unOp, ret1, pubL, pubC_agg, pubC_s, pubC_i, pubC_b, pubC_p, pubC_np, pubC_nsl, pubC_ws, pubC_full, pubC_shut, pubC_fn, pubA, initT, wkZ, wk, wants, resOf, tupOf, quiet, AOp.cls, Nat.beq_eq, Bool.or_eq_true, decide_true, decide_false, beq_self_eq_true, Bool.true_or, Bool.or_true, true_and, and_true, lenA, eqv, eqB, eqP, scal, new_box_self, List.getElem?_cons_zero, List.getElem?_cons_succ, key_ii, key_ss, findM, updM, esc_i, esc_s, esc_b, Int.reduceEq, ret1, new_nb, new_set, reduceCtorEq, Bool.xor_true, Bool.xor_false, Bool.false_eq_true, List.all_cons, List.all_nil, noTok, Bool.and_self, Bool.and_true, Bool.true_and, or_true, false_or, g6, g7, hk5, allLen_s, happ]
        rcases hr' with ⟨_, h⟩ | ⟨k, vv, t, rfl, m1, m2, m3, m4, _⟩
        · simp at h
        · simp only [frz, pub, m3, m4, if_true]
          have hmap : x.1.map AV.s ++ [AV.s x.2.1] = (x.1 ++ [x.2.1]).map AV.s := by simp
          rw [hmap]
          refine KR_some (Over.setTok ov2 m1 m2 _) (refs_s _) ?_
          rw [hfl]
          simp [tupOf, wkZ, wk, wkM_id]
      | false =>
        rw [hx2] at g6 hfl
        rw [if_neg (by simp)] at hfl
        simp only [List.take_length, hx, hx2, W_seq, W_reg, W_cond, W_blk, W_skip, W_exit, W_ret, W_regD, WO_nil, WO_cons, WO_guard2, wantV_b, bq_tt, bq_ft, bq_tf, bq_ff, Bool.not_true, Bool.not_false, WD_nil, WD_cons, WD_guard2, WS_some, WS_none, KS_n, KS_x, KS_r, KB_n, KB_x, KB_r, KN_ap, KO_ap, KD_ap, KC_nil, KF_n, KF_r, KG_n, KG_r, KL_n, KL_x, KL_r, CP_true, CP_false, evOp, evX, X.ev, optX, put_some, put_none, get_set2, sel_t, sel_f, Nat.reduceBEq, Nat.reduceAdd, Nat.reduceLT, Nat.reduceLeDiff, Nat.reduceEqDiff, reduceIte, if_true, if_false, bi_add, bi_sub, bi_mul, bi_eql, bi_neq, bi_lss, bi_leq, bi_gtr, bi_geq, bs_eql, bs_neq, bs_lss, Am.unOp, ret1, pubL, pubC_agg, pubC_s, pubC_i, pubC_b, pubC_p, pubC_np, pubC_nsl, pubC_ws, pubC_full, pubC_shut, pubC_fn, pubA, initT, wkZ, wk, wants, resOf, tupOf, quiet, AOp.cls, Nat.beq_eq, Bool.or_eq_true, decide_true, decide_false, beq_self_eq_true, Bool.true_or, Bool.or_true, true_and, and_true, lenA, eqv, eqB, eqP, scal, new_box_self, List.getElem?_cons_zero, List.getElem?_cons_succ, key_ii, key_ss, findM, updM, esc_i, esc_s, esc_b, Int.reduceEq, ret1, new_nb, new_set, reduceCtorEq, Bool.xor_true, Bool.xor_false, Bool.false_eq_true, List.all_cons, List.all_nil, noTok, Bool.and_self, Bool.and_true, Bool.true_and, or_true, false_or, g6, g7, hk5]
        rcases hr with ⟨rfl, h⟩ | ⟨k, vv, t, rfl, m1, m2, m3, m4, _⟩
        · simp only [W_seq, W_reg, W_cond, W_blk, W_skip, W_exit, W_ret, W_regD, WO_nil, WO_cons, WO_guard2, wantV_b, bq_tt, bq_ft, bq_tf, bq_ff, Bool.not_true, Bool.not_false, WD_nil, WD_cons, WD_guard2, WS_some, WS_none, KS_n, KS_x, KS_r, KB_n, KB_x, KB_r, KN_ap, KO_ap, KD_ap, KC_nil, KF_n, KF_r, KG_n, KG_r, KL_n, KL_x, KL_r, CP_true, CP_false, evOp, evX, X.ev, optX, put_some, put_none, get_set2, sel_t, sel_f, Nat.reduceBEq, Nat.reduceAdd, Nat.reduceLT, Nat.reduceLeDiff, Nat.reduceEqDiff, reduceIte, if_true, if_false, bi_add, bi_sub, bi_mul, bi_eql, bi_neq, bi_lss, bi_leq, bi_gtr, bi_geq, bs_eql, bs_neq, bs_lss, Am.unOp, ret1, pubL, pubC_agg, pubC_s, pubC_i, pubC_b, pubC_p, pubC_np, pubC_nsl, pubC_ws, pubC_full, pubC_shut, pubC_fn, pubA, initT, wkZ, wk, wants, resOf, tupOf, quiet, AOp.cls, Nat.beq_eq, Bool.or_eq_true, decide_true, decide_false, beq_self_eq_true, Bool.true_or, Bool.or_true, true_and, and_true, lenA, eqv, eqB, eqP, scal, new_box_self, List.getElem?_cons_zero, List.getElem?_cons_succ, key_ii, key_ss, findM, updM, esc_i, esc_s, esc_b, Int.reduceEq, ret1, new_nb, new_set, reduceCtorEq, Bool.xor_true, Bool.xor_false, Bool.false_eq_true, List.all_cons, List.all_nil, noTok, Bool.and_self, Bool.and_true, Bool.true_and, or_true, false_or, frz]
          refine KR_some hov rfl ?_
          have : x.1 = [] := by simpa using h
          rw [hfl, this]; rfl
        · simp only [frz, pub, m3, m4, if_true]
          refine KR_some (Over.setTok hov m1 m2 _) (refs_s _) ?_
          rw [hfl]
          simp [tupOf, wkZ, wk, wkM_id]
  · refine ⟨0, by omega, ?_⟩
    refine ⟨?_, ?_, ?_, ?_, ?_, ?_, b1, ov, w1⟩ <;> simp only [W_seq, W_reg, W_cond, W_blk, W_skip, W_exit, W_ret, W_regD, WO_nil, WO_cons, WO_guard2, wantV_b, bq_tt, bq_ft, bq_tf, bq_ff, Bool.not_true, Bool.not_false, WD_nil, WD_cons, WD_guard2, WS_some, WS_none, KS_n, KS_x, KS_r, KB_n, KB_x, KB_r, KN_ap, KO_ap, KD_ap, KC_nil, KF_n, KF_r, KG_n, KG_r, KL_n, KL_x, KL_r, CP_true, CP_false, evOp, evX, X.ev, optX, put_some, put_none, get_set2, sel_t, sel_f, Nat.reduceBEq, Nat.reduceAdd, Nat.reduceLT, Nat.reduceLeDiff, Nat.reduceEqDiff, reduceIte, if_true, if_false, bi_add, bi_sub, bi_mul, bi_eql, bi_neq, bi_lss, bi_leq, bi_gtr, bi_geq, bs_eql, bs_neq, bs_lss, Am.unOp, ret1, pubL, pubC_agg, pubC_s, pubC_i, pubC_b, pubC_p, pubC_np, pubC_nsl, pubC_ws, pubC_full, pubC_shut, pubC_fn, pubA, initT, wkZ, wk, wants, resOf, tupOf, quiet, AOp.cls, Nat.beq_eq, Bool.or_eq_true, decide_true, decide_false, beq_self_eq_true, Bool.true_or, Bool.or_true, true_and, and_true, lenA, eqv, eqB, eqP, scal, new_box_self, List.getElem?_cons_zero, List.getElem?_cons_succ, key_ii, key_ss, findM, updM, esc_i, esc_s, esc_b, Int.reduceEq, ret1, new_nb, new_set, reduceCtorEq, Bool.xor_true, Bool.xor_false, Bool.false_eq_true, List.all_cons, List.all_nil, noTok, Bool.and_self, Bool.and_true, Bool.true_and, or_true, false_or] <;> first | rfl | exact .inl ⟨rfl, rfl⟩
end Go.Proofs.YtfpoihibfajhlaaDoor

/-
  Items.
-/
set_option maxRecDepth 100000
set_option linter.unusedSimpArgs false
set_option linter.constructorNameAsVariable false
namespace Go.Proofs.YtfpoihibfajhlaaDoor
open Go.Proofs.YtfpoihibfajhlaaDoor.Am

def itemL (v : VV) (x : II) : List (List Nat) := if x.split then fieldsL itoaN v x.parts else [textL itoaN v x.parts]
def itemsL (v : VV) (l : List II) : List (List Nat) := (l.map (itemL v)).flatten
structure II.Good (v : VV) (x : II) : Prop where
  tx : ∀ p ∈ x.parts, Txt p.text
  pt : ∀ p ∈ x.parts, Txt (partL itoaN v p)
  len : x.parts.length < 2 ^ 63
  sz : szF itoaN v x.parts < 2 ^ 37

theorem itemsL_step (v : VV) (l : List II) {i : Nat} (h : i < l.length) : itemsL v (l.take (i + 1)) = itemsL v (l.take i) ++ itemL v l[i] := by
  rw [List.take_succ_eq_append_getElem h]
  unfold itemsL
  rw [List.map_append, List.flatten_append]
  simp
theorem itemsL_le (v : VV) (l : List II) (i : Nat) : (itemsL v (l.take i)).length ≤ (itemsL v l).length := by
  have h : itemsL v l = itemsL v (l.take i) ++ itemsL v (l.drop i) := by
    unfold itemsL
    rw [← List.flatten_append, ← List.map_append, List.take_append_drop]
  rw [h, List.length_append]; omega

theorem elems_tx (s : St) (L : List (List Nat)) : elems s 1 (tx L) = some (L.map .s) := rfl
/-- A row of texts grows by a row that is told. -/
theorem app_tx {s0 q : St} {a y : AV} {xs ys : List (List Nat)} (hw : Wf q) (hov : Over s0 q) (hr : RowE 1 s0.nt q 9 a (xs.map .s)) (hy : elems q 1 y = some (ys.map .s)) (hsz : xs.length + ys.length < 2 ^ 38) :
    ∃ a' q', appA q 1 9 a y = some (a', q') ∧ RowE 1 s0.nt q' 9 a' ((xs ++ ys).map .s) ∧ Over s0 q' ∧ Wf q' ∧ q'.nb = q.nb ∧ ∀ id, q'.box? id = q.box? id := by
  cases ys with
  | nil =>
    refine ⟨a, q, ?_, by simpa using hr, hov, hw, rfl, fun _ => rfl⟩
    unfold appA
    rw [hy]
    rcases hr with ⟨rfl, _⟩ | ⟨k, v, t, rfl, _⟩ <;> rfl
  | cons y0 ys =>
    obtain ⟨a', q', h1, h2, h3⟩ := app_rowE hw hov.nt hr hy (by simp) (by simpa using hsz)
    exact ⟨a', q', h1, by simpa using h2, h3.over s0 (Nat.le_refl _) hov.nt hov, h3.wf hw, h3.nb, fun id => by simp [St.box?, h3.nb, h3.boxes]⟩

/-- How a row of texts is told at the end. -/
theorem row_end {s0 q : St} {a : AV} {xs : List (List Nat)} (hw : Wf q) (hov : Over s0 q) (hr : RowE 1 s0.nt q 9 a (xs.map .s)) : ∃ a' q', frz q a = some (a', q') ∧ Over s0 q' ∧ a'.refs = false ∧ wk (.sl 1 .id) a' = tx xs := by
  rcases hr with ⟨rfl, h⟩ | ⟨k, vv, t, rfl, m1, m2, m3, m4, _⟩
  · have : xs = [] := by simpa using h
    subst this
    exact ⟨.nsl, q, rfl, hov, rfl, rfl⟩
  · refine ⟨.sl 1 (xs.map .s) .shut, q.setTok k { t with pub := max t.pub (xs.map AV.s).length }, by simp only [frz, pub, m3, m4, if_true], Over.setTok hov m1 m2 _, refs_s _, ?_⟩
    simp [wk, wkM_id]
theorem ldP_0 (s : St) (a b : AV) : ldA s false 1 (.ep [a, b] 0 .shut) = scal false [a] := rfl
theorem ldP_1 (s : St) (a b : AV) : ldA s false 1 (.ep [a, b] 1 .shut) = scal false [b] := rfl
theorem ldP_all (s : St) (a b : AV) : ldA s true 2 (.ep [a, b] 0 .shut) = scal true [a, b] := rfl
theorem len2 (a b : AV) : [a, b].length = 2 := rfl
theorem ld_all2 {s : St} {T id : Nat} {a b : AV} (h : s.box? id = some (.cells T [a, b])) : ldA s true 2 (.p id 0) = some (.agg [a, b]) := by
  simp [ldA, St.cells?, h, cut, scal]

theorem refs_parts : ∀ ps : List PP, AV.refs.go (ps.map fun p => AV.agg p.cells) = false
  | [] => rfl
  | p :: ps => by simp [AV.refs.go, AV.refs, refs_parts ps]

def GI (T : Nat) (v : VV) (its : List II) (s : St) (idv : Nat) (i : Nat) (it4 ci : Nat) (e : Tr) (q : St) : Prop :=
  e.get it4 = itemsA its ∧ e.get 2 = .p idv 0 ∧ e.get ci = .i .i64 i ∧ RowE 1 s.nt q 9 (e.get 5) ((itemsL v (its.take i)).map .s) ∧
    q.box? idv = some (.cells T v.cells) ∧ idv < q.nb ∧ Over s q ∧ Wf q

theorem refItems_ok (v : VV) (hv : v.Ok) (its : List II) (hg : ∀ x ∈ its, x.Good v) (hlen : its.length < 2 ^ 63) (hsz : (itemsL v its).length < 2 ^ 37) (s : St) (hw : Wf s) :
    (lim prog).call f_touchstoneref05_Items [v.av, itemsA its] s = some (tx (itemsL v its), s) := by
  refine fn_W p_touchstoneref05_Items rfl rfl ?_
  obtain ⟨s1, hs1⟩ : ∃ s1, s.enter.new (.cells 24 v.cells) = s1 := ⟨_, rfl⟩
  have b1 : s1.box? s.nb = some (.cells 24 v.cells) := by rw [← hs1]; exact new_box_self s.enter _
  have w1 : Wf s1 := by rw [← hs1]; exact hw.enter.new _
  have ov : Over s s1 := by rw [← hs1]; exact (Over.enter s).new _
  have n1 : s.nb < s1.nb := by rw [← hs1]; exact Nat.lt_succ_self _
  have hnb : s.enter.nb = s.nb := rfl
  have hs1' : s.enter.new (.cells 24 [tx v.names, tx v.values, tx v.args, .i .i64 v.status]) = s1 := hs1
  simp only [c_touchstoneref05_Items, W_seq, W_reg, W_cond, W_blk, W_skip, W_exit, W_ret, W_regD, WO_nil, WO_cons, WO_guard2, wantV_b, bq_tt, bq_ft, bq_tf, bq_ff, Bool.not_true, Bool.not_false, WD_nil, WD_cons, WD_guard2, WS_some, WS_none, KS_n, KS_x, KS_r, KB_n, KB_x, KB_r, KN_ap, KO_ap, KD_ap, KC_nil, KF_n, KF_r, KG_n, KG_r, KL_n, KL_x, KL_r, CP_true, CP_false, evOp, evX, X.ev, optX, put_some, put_none, get_set2, sel_t, sel_f, Nat.reduceBEq, Nat.reduceAdd, Nat.reduceLT, Nat.reduceLeDiff, Nat.reduceEqDiff, reduceIte, if_true, if_false, bi_add, bi_sub, bi_mul, bi_eql, bi_neq, bi_lss, bi_leq, bi_gtr, bi_geq, bs_eql, bs_neq, bs_lss, Am.unOp, ret1, pubL, pubC_agg, pubC_s, pubC_i, pubC_b, pubC_p, pubC_np, pubC_nsl, pubC_ws, pubC_full, pubC_shut, pubC_fn, pubA, initT, wkZ, wk, wants, resOf, tupOf, quiet, AOp.cls, Nat.beq_eq, Bool.or_eq_true, decide_true, decide_false, beq_self_eq_true, Bool.true_or, Bool.or_true, true_and, and_true, lenA, eqv, eqB, eqP, scal, new_box_self, List.getElem?_cons_zero, List.getElem?_cons_succ, key_ii, key_ss, findM, updM, esc_i, esc_s, esc_b, Int.reduceEq, ret1, new_nb, new_set, reduceCtorEq, Bool.xor_true, Bool.xor_false, Bool.false_eq_true, List.all_cons, List.all_nil, noTok, Bool.and_self, Bool.and_true, Bool.true_and, or_true, false_or, cells_agg, len4, hs1', hnb]
  refine W_loop (fun n e q => ∃ i : Nat, i + n = its.length ∧ GI 24 v its s s.nb i 1 6 e q) ?_ its.length _ _ ?_
  · rintro n e q ⟨i, hi, g1, g2, g6, hr, hb, hidq, hov, hwq⟩
    obtain ⟨k5, hk5⟩ : ∃ k5, e.get 5 = k5 := ⟨_, rfl⟩
    rw [hk5] at hr
    simp only [W_seq, W_reg, W_cond, W_blk, W_skip, W_exit, W_ret, W_regD, WO_nil, WO_cons, WO_guard2, wantV_b, bq_tt, bq_ft, bq_tf, bq_ff, Bool.not_true, Bool.not_false, WD_nil, WD_cons, WD_guard2, WS_some, WS_none, KS_n, KS_x, KS_r, KB_n, KB_x, KB_r, KN_ap, KO_ap, KD_ap, KC_nil, KF_n, KF_r, KG_n, KG_r, KL_n, KL_x, KL_r, CP_true, CP_false, evOp, evX, X.ev, optX, put_some, put_none, get_set2, sel_t, sel_f, Nat.reduceBEq, Nat.reduceAdd, Nat.reduceLT, Nat.reduceLeDiff, Nat.reduceEqDiff, reduceIte, if_true, if_false, bi_add, bi_sub, bi_mul, bi_eql, bi_neq, bi_lss, bi_leq, bi_gtr, bi_geq, bs_eql, bs_neq, bs_lss, Am.unOp, ret1, pubL, pubC_agg, pubC_s, pubC_i, pubC_b, pubC_p, pubC_np, pubC_nsl, pubC_ws, pubC_full, pubC_shut, pubC_fn, pubA, initT, wkZ, wk, wants, resOf, tupOf, quiet, AOp.cls, Nat.beq_eq, Bool.or_eq_true, decide_true, decide_false, beq_self_eq_true, Bool.true_or, Bool.or_true, true_and, and_true, lenA, eqv, eqB, eqP, scal, new_box_self, List.getElem?_cons_zero, List.getElem?_cons_succ, key_ii, key_ss, findM, updM, esc_i, esc_s, esc_b, Int.reduceEq, ret1, new_nb, new_set, reduceCtorEq, Bool.xor_true, Bool.xor_false, Bool.false_eq_true, List.all_cons, List.all_nil, noTok, Bool.and_self, Bool.and_true, Bool.true_and, or_true, false_or, g1, g2, g6, hk5, List.length_map, ofNat_len]
    refine CP_dec (fun hlt => ?_) (fun hge => ?_)
    · have hlt : i < its.length := by omega
      have hget : (its.map fun x => AV.agg x.cells)[i]? = some (.agg its[i].cells) := by simp [hlt]
      have la : ldA q true 4 (.p s.nb 0) = some v.av := ld_all4 hb
      have hst := itemsL_step v its hlt
      have hle := itemsL_le v its (i + 1)
      rw [hst, List.length_append] at hle
      have hG := hg _ (List.getElem_mem hlt)
      have hw := wrap_succ (show i + 1 < 2 ^ 63 by omega)
      cases hsp : its[i].split with
      | true =>
        have hF := refFields_ok v hv its[i].parts hG.pt hG.len hG.sz q hwq
        have hil : itemL v its[i] = fieldsL itoaN v its[i].parts := by unfold itemL; rw [hsp]; rfl
        rw [hil] at hst hle
        obtain ⟨a', q', happ, hr', ov', w', nb', bx'⟩ := app_tx hwq hov hr (elems_tx q (fieldsL itoaN v its[i].parts)) (by omega)
        simp only [II.cells, hsp] at hget
        simp only [W_seq, W_reg, W_cond, W_blk, W_skip, W_exit, W_ret, W_regD, WO_nil, WO_cons, WO_guard2, wantV_b, bq_tt, bq_ft, bq_tf, bq_ff, Bool.not_true, Bool.not_false, WD_nil, WD_cons, WD_guard2, WS_some, WS_none, KS_n, KS_x, KS_r, KB_n, KB_x, KB_r, KN_ap, KO_ap, KD_ap, KC_nil, KF_n, KF_r, KG_n, KG_r, KL_n, KL_x, KL_r, CP_true, CP_false, evOp, evX, X.ev, optX, put_some, put_none, get_set2, sel_t, sel_f, Nat.reduceBEq, Nat.reduceAdd, Nat.reduceLT, Nat.reduceLeDiff, Nat.reduceEqDiff, reduceIte, if_true, if_false, bi_add, bi_sub, bi_mul, bi_eql, bi_neq, bi_lss, bi_leq, bi_gtr, bi_geq, bs_eql, bs_neq, bs_lss, Am.unOp, ret1, pubL, pubC_agg, pubC_s, pubC_i, pubC_b, pubC_p, pubC_np, pubC_nsl, pubC_ws, pubC_full, pubC_shut, pubC_fn, pubA, initT, wkZ, wk, wants, resOf, tupOf, quiet, AOp.cls, Nat.beq_eq, Bool.or_eq_true, decide_true, decide_false, beq_self_eq_true, Bool.true_or, Bool.or_true, true_and, and_true, lenA, eqv, eqB, eqP, scal, new_box_self, List.getElem?_cons_zero, List.getElem?_cons_succ, key_ii, key_ss, findM, updM, esc_i, esc_s, esc_b, Int.reduceEq, ret1, new_nb, new_set, reduceCtorEq, Bool.xor_true, Bool.xor_false, Bool.false_eq_true, List.all_cons, List.all_nil, noTok, Bool.and_self, Bool.and_true, Bool.true_and, or_true, false_or, g1, g2, g6, hk5, natOf_nat, hget, cells_agg, W_thw, thaw_ws, ldP_0, ldP_1, la, hF, happ, hw]
        refine ⟨n - 1, by omega, i + 1, by omega, ?_, ?_, ?_, ?_, by rw [bx']; exact hb, by omega, ov', w'⟩ <;> simp only [W_seq, W_reg, W_cond, W_blk, W_skip, W_exit, W_ret, W_regD, WO_nil, WO_cons, WO_guard2, wantV_b, bq_tt, bq_ft, bq_tf, bq_ff, Bool.not_true, Bool.not_false, WD_nil, WD_cons, WD_guard2, WS_some, WS_none, KS_n, KS_x, KS_r, KB_n, KB_x, KB_r, KN_ap, KO_ap, KD_ap, KC_nil, KF_n, KF_r, KG_n, KG_r, KL_n, KL_x, KL_r, CP_true, CP_false, evOp, evX, X.ev, optX, put_some, put_none, get_set2, sel_t, sel_f, Nat.reduceBEq, Nat.reduceAdd, Nat.reduceLT, Nat.reduceLeDiff, Nat.reduceEqDiff, reduceIte, if_true, if_false, bi_add, bi_sub, bi_mul, bi_eql, bi_neq, bi_lss, bi_leq, bi_gtr, bi_geq, bs_eql, bs_neq, bs_lss, Am.unOp, ret1, pubL, pubC_agg, pubC_s, pubC_i, pubC_b, pubC_p, pubC_np, pubC_nsl, pubC_ws, pubC_full, pubC_shut, pubC_fn, pubA, initT, wkZ, wk, wants, resOf, tupOf, quiet, AOp.cls, Nat.beq_eq, Bool.or_eq_true, decide_true, decide_false, beq_self_eq_true, Bool.true_or, Bool.or_true, true_and, and_true, lenA, eqv, eqB, eqP, scal, new_box_self, List.getElem?_cons_zero, List.getElem?_cons_succ, key_ii, key_ss, findM, updM, esc_i, esc_s, esc_b, Int.reduceEq, ret1, new_nb, new_set, reduceCtorEq, Bool.xor_true, Bool.xor_false, Bool.false_eq_true, List.all_cons, List.all_nil, noTok, Bool.and_self, Bool.and_true, Bool.true_and, or_true, false_or, g1, g2]
        rw [hst]; exact hr'
      | false =>
        have hT := refText_ok v hv its[i].parts hG.len hG.sz q
        have hil : itemL v its[i] = [textL itoaN v its[i].parts] := by unfold itemL; rw [hsp]; rfl
        rw [hil] at hst hle
        obtain ⟨a', q', happ, hr', ov', w', nb', bx'⟩ := app_tx (ys := [textL itoaN v its[i].parts]) hwq hov hr (elems1_one q (textL itoaN v its[i].parts)) (by omega)
        simp only [II.cells, hsp] at hget
        simp only [W_seq, W_reg, W_cond, W_blk, W_skip, W_exit, W_ret, W_regD, WO_nil, WO_cons, WO_guard2, wantV_b, bq_tt, bq_ft, bq_tf, bq_ff, Bool.not_true, Bool.not_false, WD_nil, WD_cons, WD_guard2, WS_some, WS_none, KS_n, KS_x, KS_r, KB_n, KB_x, KB_r, KN_ap, KO_ap, KD_ap, KC_nil, KF_n, KF_r, KG_n, KG_r, KL_n, KL_x, KL_r, CP_true, CP_false, evOp, evX, X.ev, optX, put_some, put_none, get_set2, sel_t, sel_f, Nat.reduceBEq, Nat.reduceAdd, Nat.reduceLT, Nat.reduceLeDiff, Nat.reduceEqDiff, reduceIte, if_true, if_false, bi_add, bi_sub, bi_mul, bi_eql, bi_neq, bi_lss, bi_leq, bi_gtr, bi_geq, bs_eql, bs_neq, bs_lss, Am.unOp, ret1, pubL, pubC_agg, pubC_s, pubC_i, pubC_b, pubC_p, pubC_np, pubC_nsl, pubC_ws, pubC_full, pubC_shut, pubC_fn, pubA, initT, wkZ, wk, wants, resOf, tupOf, quiet, AOp.cls, Nat.beq_eq, Bool.or_eq_true, decide_true, decide_false, beq_self_eq_true, Bool.true_or, Bool.or_true, true_and, and_true, lenA, eqv, eqB, eqP, scal, new_box_self, List.getElem?_cons_zero, List.getElem?_cons_succ, key_ii, key_ss, findM, updM, esc_i, esc_s, esc_b, Int.reduceEq, ret1, new_nb, new_set, reduceCtorEq, Bool.xor_true, Bool.xor_false, Bool.false_eq_true, List.all_cons, List.all_nil, noTok, Bool.and_self, Bool.and_true, Bool.true_and, or_true, false_or, g1, g2, g6, hk5, natOf_nat, hget, cells_agg, W_thw, thaw_ws, ldP_0, ldP_1, la, hT, happ, hw, allLen_s, shutA]
        refine ⟨n - 1, by omega, i + 1, by omega, ?_, ?_, ?_, ?_, by rw [bx']; exact hb, by omega, ov', w'⟩ <;> simp only [W_seq, W_reg, W_cond, W_blk, W_skip, W_exit, W_ret, W_regD, WO_nil, WO_cons, WO_guard2, wantV_b, bq_tt, bq_ft, bq_tf, bq_ff, Bool.not_true, Bool.not_false, WD_nil, WD_cons, WD_guard2, WS_some, WS_none, KS_n, KS_x, KS_r, KB_n, KB_x, KB_r, KN_ap, KO_ap, KD_ap, KC_nil, KF_n, KF_r, KG_n, KG_r, KL_n, KL_x, KL_r, CP_true, CP_false, evOp, evX, X.ev, optX, put_some, put_none, get_set2, sel_t, sel_f, Nat.reduceBEq, Nat.reduceAdd, Nat.reduceLT, Nat.reduceLeDiff, Nat.reduceEqDiff, reduceIte, if_true, if_false, bi_add, bi_sub, bi_mul, bi_eql, bi_neq, bi_lss, bi_leq, bi_gtr, bi_geq, bs_eql, bs_neq, bs_lss, Am.unOp, ret1, pubL, pubC_agg, pubC_s, pubC_i, pubC_b, pubC_p, pubC_np, pubC_nsl, pubC_ws, pubC_full, pubC_shut, pubC_fn, pubA, initT, wkZ, wk, wants, resOf, tupOf, quiet, AOp.cls, Nat.beq_eq, Bool.or_eq_true, decide_true, decide_false, beq_self_eq_true, Bool.true_or, Bool.or_true, true_and, and_true, lenA, eqv, eqB, eqP, scal, new_box_self, List.getElem?_cons_zero, List.getElem?_cons_succ, key_ii, key_ss, findM, updM, esc_i, esc_s, esc_b, Int.reduceEq, ret1, new_nb, new_set, reduceCtorEq, Bool.xor_true, Bool.xor_false, Bool.false_eq_true, List.all_cons, List.all_nil, noTok, Bool.and_self, Bool.and_true, Bool.true_and, or_true, false_or, g1, g2]
        rw [hst]; exact hr'
    · have hil : i = its.length := by omega
      subst hil
      rw [List.take_length] at hr
      obtain ⟨a', q', h1, h2, h3, h4⟩ := row_end hwq hov hr
      rcases hr with ⟨rfl, _⟩ | ⟨k, vv, t, rfl, _⟩ <;> (simp only [h1]; exact KR_some h2 h3 (by simpa [tupOf, wkZ] using h4))
  · refine ⟨0, by omega, ?_, ?_, ?_, ?_, b1, n1, ov, w1⟩ <;> simp only [W_seq, W_reg, W_cond, W_blk, W_skip, W_exit, W_ret, W_regD, WO_nil, WO_cons, WO_guard2, wantV_b, bq_tt, bq_ft, bq_tf, bq_ff, Bool.not_true, Bool.not_false, WD_nil, WD_cons, WD_guard2, WS_some, WS_none, KS_n, KS_x, KS_r, KB_n, KB_x, KB_r, KN_ap, KO_ap, KD_ap, KC_nil, KF_n, KF_r, KG_n, KG_r, KL_n, KL_x, KL_r, CP_true, CP_false, evOp, evX, X.ev, optX, put_some, put_none, get_set2, sel_t, sel_f, Nat.reduceBEq, Nat.reduceAdd, Nat.reduceLT, Nat.reduceLeDiff, Nat.reduceEqDiff, reduceIte, if_true, if_false, bi_add, bi_sub, bi_mul, bi_eql, bi_neq, bi_lss, bi_leq, bi_gtr, bi_geq, bs_eql, bs_neq, bs_lss, Am.unOp, ret1, pubL, pubC_agg, pubC_s, pubC_i, pubC_b, pubC_p, pubC_np, pubC_nsl, pubC_ws, pubC_full, pubC_shut, pubC_fn, pubA, initT, wkZ, wk, wants, resOf, tupOf, quiet, AOp.cls, Nat.beq_eq, Bool.or_eq_true, decide_true, decide_false, beq_self_eq_true, Bool.true_or, Bool.or_true, true_and, and_true, lenA, eqv, eqB, eqP, scal, new_box_self, List.getElem?_cons_zero, List.getElem?_cons_succ, key_ii, key_ss, findM, updM, esc_i, esc_s, esc_b, Int.reduceEq, ret1, new_nb, new_set, reduceCtorEq, Bool.xor_true, Bool.xor_false, Bool.false_eq_true, List.all_cons, List.all_nil, noTok, Bool.and_self, Bool.and_true, Bool.true_and, or_true, false_or] <;> first | rfl | exact .inl ⟨rfl, rfl⟩

theorem expItems_ok (v : VV) (hv : v.Ok) (its : List II) (hg : ∀ x ∈ its, x.Good v) (hlen : its.length < 2 ^ 63) (hsz : (itemsL v its).length < 2 ^ 37) (s : St) (hw : Wf s) :
    (lim prog).call f_expand_Items [v.av, itemsA its] s = some (tx (itemsL v its), s) := by
  refine fn_W p_expand_Items rfl rfl ?_
  obtain ⟨s1, hs1⟩ : ∃ s1, s.enter.new (.cells 28 v.cells) = s1 := ⟨_, rfl⟩
  have b1 : s1.box? s.nb = some (.cells 28 v.cells) := by rw [← hs1]; exact new_box_self s.enter _
  have w1 : Wf s1 := by rw [← hs1]; exact hw.enter.new _
  have ov : Over s s1 := by rw [← hs1]; exact (Over.enter s).new _
  have n1 : s.nb < s1.nb := by rw [← hs1]; exact Nat.lt_succ_self _
  have hnb : s.enter.nb = s.nb := rfl
  have hs1' : s.enter.new (.cells 28 [tx v.names, tx v.values, tx v.args, .i .i64 v.status]) = s1 := hs1
  simp only [c_expand_Items, W_seq, W_reg, W_cond, W_blk, W_skip, W_exit, W_ret, W_regD, WO_nil, WO_cons, WO_guard2, wantV_b, bq_tt, bq_ft, bq_tf, bq_ff, Bool.not_true, Bool.not_false, WD_nil, WD_cons, WD_guard2, WS_some, WS_none, KS_n, KS_x, KS_r, KB_n, KB_x, KB_r, KN_ap, KO_ap, KD_ap, KC_nil, KF_n, KF_r, KG_n, KG_r, KL_n, KL_x, KL_r, CP_true, CP_false, evOp, evX, X.ev, optX, put_some, put_none, get_set2, sel_t, sel_f, Nat.reduceBEq, Nat.reduceAdd, Nat.reduceLT, Nat.reduceLeDiff, Nat.reduceEqDiff, reduceIte, if_true, if_false, bi_add, bi_sub, bi_mul, bi_eql, bi_neq, bi_lss, bi_leq, bi_gtr, bi_geq, bs_eql, bs_neq, bs_lss, Am.unOp, ret1, pubL, pubC_agg, pubC_s, pubC_i, pubC_b, pubC_p, pubC_np, pubC_nsl, pubC_ws, pubC_full, pubC_shut, pubC_fn, pubA, initT, wkZ, wk, wants, resOf, tupOf, quiet, AOp.cls, Nat.beq_eq, Bool.or_eq_true, decide_true, decide_false, beq_self_eq_true, Bool.true_or, Bool.or_true, true_and, and_true, lenA, eqv, eqB, eqP, scal, new_box_self, List.getElem?_cons_zero, List.getElem?_cons_succ, key_ii, key_ss, findM, updM, esc_i, esc_s, esc_b, Int.reduceEq, ret1, new_nb, new_set, reduceCtorEq, Bool.xor_true, Bool.xor_false, Bool.false_eq_true, List.all_cons, List.all_nil, noTok, Bool.and_self, Bool.and_true, Bool.true_and, or_true, false_or, cells_agg, len4, hs1', hnb, List.length_map, ofNat_len]
  refine W_loop (fun n e q => ∃ i : Nat, i + n = its.length ∧ GI 28 v its s s.nb i 8 10 e q ∧ e.get 9 = .i .i64 its.length) ?_ its.length _ _ ?_
  · rintro n e q ⟨i, hi, ⟨g8, g2, g10, hr, hb, hidq, hov, hwq⟩, g9⟩
    obtain ⟨k5, hk5⟩ : ∃ k5, e.get 5 = k5 := ⟨_, rfl⟩
    rw [hk5] at hr
    simp only [W_seq, W_reg, W_cond, W_blk, W_skip, W_exit, W_ret, W_regD, WO_nil, WO_cons, WO_guard2, wantV_b, bq_tt, bq_ft, bq_tf, bq_ff, Bool.not_true, Bool.not_false, WD_nil, WD_cons, WD_guard2, WS_some, WS_none, KS_n, KS_x, KS_r, KB_n, KB_x, KB_r, KN_ap, KO_ap, KD_ap, KC_nil, KF_n, KF_r, KG_n, KG_r, KL_n, KL_x, KL_r, CP_true, CP_false, evOp, evX, X.ev, optX, put_some, put_none, get_set2, sel_t, sel_f, Nat.reduceBEq, Nat.reduceAdd, Nat.reduceLT, Nat.reduceLeDiff, Nat.reduceEqDiff, reduceIte, if_true, if_false, bi_add, bi_sub, bi_mul, bi_eql, bi_neq, bi_lss, bi_leq, bi_gtr, bi_geq, bs_eql, bs_neq, bs_lss, Am.unOp, ret1, pubL, pubC_agg, pubC_s, pubC_i, pubC_b, pubC_p, pubC_np, pubC_nsl, pubC_ws, pubC_full, pubC_shut, pubC_fn, pubA, initT, wkZ, wk, wants, resOf, tupOf, quiet, AOp.cls, Nat.beq_eq, Bool.or_eq_true, decide_true, decide_false, beq_self_eq_true, Bool.true_or, Bool.or_true, true_and, and_true, lenA, eqv, eqB, eqP, scal, new_box_self, List.getElem?_cons_zero, List.getElem?_cons_succ, key_ii, key_ss, findM, updM, esc_i, esc_s, esc_b, Int.reduceEq, ret1, new_nb, new_set, reduceCtorEq, Bool.xor_true, Bool.xor_false, Bool.false_eq_true, List.all_cons, List.all_nil, noTok, Bool.and_self, Bool.and_true, Bool.true_and, or_true, false_or, g8, g9, g2, g10, hk5]
    refine CP_dec (fun hlt => ?_) (fun hge => ?_)
    · have hlt : i < its.length := by omega
      have hget : (its.map fun x => AV.agg x.cells)[i]? = some (.agg its[i].cells) := by simp [hlt]
      have hst := itemsL_step v its hlt
      have hle := itemsL_le v its (i + 1)
      rw [hst, List.length_append] at hle
      have hG := hg _ (List.getElem_mem hlt)
      have hw := wrap_succ (show i + 1 < 2 ^ 63 by omega)
      obtain ⟨q2, hq2⟩ : ∃ q2, q.new (.cells 39 its[i].cells) = q2 := ⟨_, rfl⟩
      have w2 : Wf q2 := by rw [← hq2]; exact hwq.new _
      have ov2 : Over s q2 := by rw [← hq2]; exact hov.new _
      have nb2 : q2.nb = q.nb + 1 ∧ q2.nt = q.nt := by rw [← hq2]; exact ⟨rfl, rfl⟩
      have lt2 : ∀ j, j < q.nb → q2.box? j = q.box? j := fun j hj => by rw [← hq2]; exact new_box_lt hj
      have est : stA (q.new (.cells 39 [.nsl, .b false])) 2 (.p q.nb 0) (.agg its[i].cells) = some q2 := by
        rw [← hq2]
        simp [stA, new_box_self, AV.cells, ones, over, esc, AV.refs, AV.refs.go, new_set, refs_parts]
      have bq2 : q2.box? q.nb = some (.cells 39 its[i].cells) := by rw [← hq2]; exact new_box_self _ _
      have l0 := ld_box (s := q2) (off := 0) (v := partsA its[i].parts) bq2 rfl
      have l1 := ld_box (s := q2) (off := 1) (v := .b its[i].split) bq2 rfl
      have bv2 : q2.box? s.nb = some (.cells 28 v.cells) := by rw [lt2 _ hidq]; exact hb
      have la : ldA q2 true 4 (.p s.nb 0) = some v.av := ld_all4 bv2
      have hr2 : RowE 1 s.nt q2 9 k5 ((itemsL v (its.take i)).map .s) := hr.mono (by omega) fun k _ => by rw [← hq2]; rfl
      cases hsp : its[i].split with
      | true =>
        have hF := fields_ok itoaN itoa_ok v hv its[i].parts hG.tx hG.pt hG.len hG.sz q2 w2
        have hil : itemL v its[i] = fieldsL itoaN v its[i].parts := by unfold itemL; rw [hsp]; rfl
        rw [hil] at hst hle
        obtain ⟨a', q', happ, hr', ov', w', nb', bx'⟩ := app_tx w2 ov2 hr2 (elems_tx q2 (fieldsL itoaN v its[i].parts)) (by omega)
        simp only [II.cells, hsp] at hget est l1
        simp only [W_seq, W_reg, W_cond, W_blk, W_skip, W_exit, W_ret, W_regD, WO_nil, WO_cons, WO_guard2, wantV_b, bq_tt, bq_ft, bq_tf, bq_ff, Bool.not_true, Bool.not_false, WD_nil, WD_cons, WD_guard2, WS_some, WS_none, KS_n, KS_x, KS_r, KB_n, KB_x, KB_r, KN_ap, KO_ap, KD_ap, KC_nil, KF_n, KF_r, KG_n, KG_r, KL_n, KL_x, KL_r, CP_true, CP_false, evOp, evX, X.ev, optX, put_some, put_none, get_set2, sel_t, sel_f, Nat.reduceBEq, Nat.reduceAdd, Nat.reduceLT, Nat.reduceLeDiff, Nat.reduceEqDiff, reduceIte, if_true, if_false, bi_add, bi_sub, bi_mul, bi_eql, bi_neq, bi_lss, bi_leq, bi_gtr, bi_geq, bs_eql, bs_neq, bs_lss, Am.unOp, ret1, pubL, pubC_agg, pubC_s, pubC_i, pubC_b, pubC_p, pubC_np, pubC_nsl, pubC_ws, pubC_full, pubC_shut, pubC_fn, pubA, initT, wkZ, wk, wants, resOf, tupOf, quiet, AOp.cls, Nat.beq_eq, Bool.or_eq_true, decide_true, decide_false, beq_self_eq_true, Bool.true_or, Bool.or_true, true_and, and_true, lenA, eqv, eqB, eqP, scal, new_box_self, List.getElem?_cons_zero, List.getElem?_cons_succ, key_ii, key_ss, findM, updM, esc_i, esc_s, esc_b, Int.reduceEq, ret1, new_nb, new_set, reduceCtorEq, Bool.xor_true, Bool.xor_false, Bool.false_eq_true, List.all_cons, List.all_nil, noTok, Bool.and_self, Bool.and_true, Bool.true_and, or_true, false_or, g8, g2, g9, g10, hk5, natOf_nat, hget, cells_agg, len2, ldP_all, est, l0, l1, la, hF, happ, hw, Nat.zero_add]
        refine ⟨n - 1, by omega, i + 1, by omega, ?_, ?_, ?_, ?_, by rw [bx']; exact bv2, by omega, ov', w'⟩ <;> simp only [W_seq, W_reg, W_cond, W_blk, W_skip, W_exit, W_ret, W_regD, WO_nil, WO_cons, WO_guard2, wantV_b, bq_tt, bq_ft, bq_tf, bq_ff, Bool.not_true, Bool.not_false, WD_nil, WD_cons, WD_guard2, WS_some, WS_none, KS_n, KS_x, KS_r, KB_n, KB_x, KB_r, KN_ap, KO_ap, KD_ap, KC_nil, KF_n, KF_r, KG_n, KG_r, KL_n, KL_x, KL_r, CP_true, CP_false, evOp, evX, X.ev, optX, put_some, put_none, get_set2, sel_t, sel_f, Nat.reduceBEq, Nat.reduceAdd, Nat.reduceLT, Nat.reduceLeDiff, Nat.reduceEqDiff, reduceIte, if_true, if_false, bi_add, bi_sub, bi_mul, bi_eql, bi_neq, bi_lss, bi_leq, bi_gtr, bi_geq, bs_eql, bs_neq, bs_lss, Am.unOp, ret1, pubL, pubC_agg, pubC_s, pubC_i, pubC_b, pubC_p, pubC_np, pubC_nsl, pubC_ws, pubC_full, pubC_shut, pubC_fn, pubA, initT, wkZ, wk, wants, resOf, tupOf, quiet, AOp.cls, Nat.beq_eq, Bool.or_eq_true, decide_true, decide_false, beq_self_eq_true, Bool.true_or, Bool.or_true, true_and, and_true, lenA, eqv, eqB, eqP, scal, new_box_self, List.getElem?_cons_zero, List.getElem?_cons_succ, key_ii, key_ss, findM, updM, esc_i, esc_s, esc_b, Int.reduceEq, ret1, new_nb, new_set, reduceCtorEq, Bool.xor_true, Bool.xor_false, Bool.false_eq_true, List.all_cons, List.all_nil, noTok, Bool.and_self, Bool.and_true, Bool.true_and, or_true, false_or, g8, g2, g9]
        rw [hst]; exact hr'
      | false =>
        have hT := text_ok itoaN itoa_ok v hv its[i].parts hG.tx hG.pt hG.len hG.sz q2 w2
        have hil : itemL v its[i] = [textL itoaN v its[i].parts] := by unfold itemL; rw [hsp]; rfl
        rw [hil] at hst hle
        obtain ⟨a', q', happ, hr', ov', w', nb', bx'⟩ := app_tx (ys := [textL itoaN v its[i].parts]) w2 ov2 hr2 (elems1_one q2 (textL itoaN v its[i].parts)) (by omega)
        simp only [II.cells, hsp] at hget est l1
        simp only [W_seq, W_reg, W_cond, W_blk, W_skip, W_exit, W_ret, W_regD, WO_nil, WO_cons, WO_guard2, wantV_b, bq_tt, bq_ft, bq_tf, bq_ff, Bool.not_true, Bool.not_false, WD_nil, WD_cons, WD_guard2, WS_some, WS_none, KS_n, KS_x, KS_r, KB_n, KB_x, KB_r, KN_ap, KO_ap, KD_ap, KC_nil, KF_n, KF_r, KG_n, KG_r, KL_n, KL_x, KL_r, CP_true, CP_false, evOp, evX, X.ev, optX, put_some, put_none, get_set2, sel_t, sel_f, Nat.reduceBEq, Nat.reduceAdd, Nat.reduceLT, Nat.reduceLeDiff, Nat.reduceEqDiff, reduceIte, if_true, if_false, bi_add, bi_sub, bi_mul, bi_eql, bi_neq, bi_lss, bi_leq, bi_gtr, bi_geq, bs_eql, bs_neq, bs_lss, Am.unOp, ret1, pubL, pubC_agg, pubC_s, pubC_i, pubC_b, pubC_p, pubC_np, pubC_nsl, pubC_ws, pubC_full, pubC_shut, pubC_fn, pubA, initT, wkZ, wk, wants, resOf, tupOf, quiet, AOp.cls, Nat.beq_eq, Bool.or_eq_true, decide_true, decide_false, beq_self_eq_true, Bool.true_or, Bool.or_true, true_and, and_true, lenA, eqv, eqB, eqP, scal, new_box_self, List.getElem?_cons_zero, List.getElem?_cons_succ, key_ii, key_ss, findM, updM, esc_i, esc_s, esc_b, Int.reduceEq, ret1, new_nb, new_set, reduceCtorEq, Bool.xor_true, Bool.xor_false, Bool.false_eq_true, List.all_cons, List.all_nil, noTok, Bool.and_self, Bool.and_true, Bool.true_and, or_true, false_or, g8, g2, g9, g10, hk5, natOf_nat, hget, cells_agg, len2, ldP_all, est, l0, l1, la, hT, happ, hw, Nat.zero_add, allLen_s]
        refine ⟨n - 1, by omega, i + 1, by omega, ?_, ?_, ?_, ?_, by rw [bx']; exact bv2, by omega, ov', w'⟩ <;> simp only [W_seq, W_reg, W_cond, W_blk, W_skip, W_exit, W_ret, W_regD, WO_nil, WO_cons, WO_guard2, wantV_b, bq_tt, bq_ft, bq_tf, bq_ff, Bool.not_true, Bool.not_false, WD_nil, WD_cons, WD_guard2, WS_some, WS_none, KS_n, KS_x, KS_r, KB_n, KB_x, KB_r, KN_ap, KO_ap, KD_ap, KC_nil, KF_n, KF_r, KG_n, KG_r, KL_n, KL_x, KL_r, CP_true, CP_false, evOp, evX, X.ev, optX, put_some, put_none, get_set2, sel_t, sel_f, Nat.reduceBEq, Nat.reduceAdd, Nat.reduceLT, Nat.reduceLeDiff, Nat.reduceEqDiff, reduceIte, if_true, if_false, bi_add, bi_sub, bi_mul, bi_eql, bi_neq, bi_lss, bi_leq, bi_gtr, bi_geq, bs_eql, bs_neq, bs_lss, Am.unOp, ret1, pubL, pubC_agg, pubC_s, pubC_i, pubC_b, pubC_p, pubC_np, pubC_nsl, pubC_ws, pubC_full, pubC_shut, pubC_fn, pubA, initT, wkZ, wk, wants, resOf, tupOf, quiet, AOp.cls, Nat.beq_eq, Bool.or_eq_true, decide_true, decide_false, beq_self_eq_true, Bool.true_or, Bool.or_true, true_and, and_true, lenA, eqv, eqB, eqP, scal, new_box_self, List.getElem?_cons_zero, List.getElem?_cons_succ, key_ii, key_ss, findM, updM, esc_i, esc_s, esc_b, Int.reduceEq, ret1, new_nb, new_set, reduceCtorEq, Bool.xor_true, Bool.xor_false, Bool.false_eq_true, List.all_cons, List.all_nil, noTok, Bool.and_self, Bool.and_true, Bool.true_and, or_true, false_or, g8, g2, g9]
        rw [hst]; exact hr'
    · have hil : i = its.length := by omega
      subst hil
      rw [List.take_length] at hr
      obtain ⟨a', q', h1, h2, h3, h4⟩ := row_end hwq hov hr
      rcases hr with ⟨rfl, _⟩ | ⟨k, vv, t, rfl, _⟩ <;> (simp only [h1]; exact KR_some h2 h3 (by simpa [tupOf, wkZ] using h4))
  · refine ⟨0, by omega, ⟨?_, ?_, ?_, ?_, b1, n1, ov, w1⟩, ?_⟩ <;> simp only [W_seq, W_reg, W_cond, W_blk, W_skip, W_exit, W_ret, W_regD, WO_nil, WO_cons, WO_guard2, wantV_b, bq_tt, bq_ft, bq_tf, bq_ff, Bool.not_true, Bool.not_false, WD_nil, WD_cons, WD_guard2, WS_some, WS_none, KS_n, KS_x, KS_r, KB_n, KB_x, KB_r, KN_ap, KO_ap, KD_ap, KC_nil, KF_n, KF_r, KG_n, KG_r, KL_n, KL_x, KL_r, CP_true, CP_false, evOp, evX, X.ev, optX, put_some, put_none, get_set2, sel_t, sel_f, Nat.reduceBEq, Nat.reduceAdd, Nat.reduceLT, Nat.reduceLeDiff, Nat.reduceEqDiff, reduceIte, if_true, if_false, bi_add, bi_sub, bi_mul, bi_eql, bi_neq, bi_lss, bi_leq, bi_gtr, bi_geq, bs_eql, bs_neq, bs_lss, Am.unOp, ret1, pubL, pubC_agg, pubC_s, pubC_i, pubC_b, pubC_p, pubC_np, pubC_nsl, pubC_ws, pubC_full, pubC_shut, pubC_fn, pubA, initT, wkZ, wk, wants, resOf, tupOf, quiet, AOp.cls, Nat.beq_eq, Bool.or_eq_true, decide_true, decide_false, beq_self_eq_true, Bool.true_or, Bool.or_true, true_and, and_true, lenA, eqv, eqB, eqP, scal, new_box_self, List.getElem?_cons_zero, List.getElem?_cons_succ, key_ii, key_ss, findM, updM, esc_i, esc_s, esc_b, Int.reduceEq, ret1, new_nb, new_set, reduceCtorEq, Bool.xor_true, Bool.xor_false, Bool.false_eq_true, List.all_cons, List.all_nil, noTok, Bool.and_self, Bool.and_true, Bool.true_and, or_true, false_or, List.length_map, ofNat_len] <;> first | rfl | exact .inl ⟨rfl, rfl⟩
end Go.Proofs.YtfpoihibfajhlaaDoor

/-
  The law ExpandTexts.
-/
set_option maxRecDepth 100000
set_option linter.unusedSimpArgs false
set_option linter.constructorNameAsVariable false
namespace Go.Proofs.YtfpoihibfajhlaaDoor
open Go.Proofs.YtfpoihibfajhlaaDoor.Am

theorem rtexts_ok (A B : List (List Nat)) (hA : A.length < 2 ^ 63) (s : St) : (lim prog).call f_touchstoneref05_texts [tx A, tx B] s = some (.b (decide (A = B)), s) := by
  refine fn_W p_touchstoneref05_texts rfl rfl ?_
  simp only [c_touchstoneref05_texts, W_seq, W_reg, W_cond, W_blk, W_skip, W_exit, W_ret, W_regD, WO_nil, WO_cons, WO_guard2, wantV_b, bq_tt, bq_ft, bq_tf, bq_ff, Bool.not_true, Bool.not_false, WD_nil, WD_cons, WD_guard2, WS_some, WS_none, KS_n, KS_x, KS_r, KB_n, KB_x, KB_r, KN_ap, KO_ap, KD_ap, KC_nil, KF_n, KF_r, KG_n, KG_r, KL_n, KL_x, KL_r, CP_true, CP_false, evOp, evX, X.ev, optX, put_some, put_none, get_set2, sel_t, sel_f, Nat.reduceBEq, Nat.reduceAdd, Nat.reduceLT, Nat.reduceLeDiff, Nat.reduceEqDiff, reduceIte, if_true, if_false, bi_add, bi_sub, bi_mul, bi_eql, bi_neq, bi_lss, bi_leq, bi_gtr, bi_geq, bs_eql, bs_neq, bs_lss, Am.unOp, ret1, pubL, pubC_agg, pubC_s, pubC_i, pubC_b, pubC_p, pubC_np, pubC_nsl, pubC_ws, pubC_full, pubC_shut, pubC_fn, pubA, initT, wkZ, wk, wants, resOf, tupOf, quiet, AOp.cls, Nat.beq_eq, Bool.or_eq_true, decide_true, decide_false, beq_self_eq_true, Bool.true_or, Bool.or_true, true_and, and_true, lenA, eqv, eqB, eqP, scal, new_box_self, List.getElem?_cons_zero, List.getElem?_cons_succ, key_ii, key_ss, findM, updM, esc_i, esc_s, esc_b, Int.reduceEq, ret1, new_nb, new_set, reduceCtorEq, Bool.xor_true, Bool.xor_false, Bool.false_eq_true, List.all_cons, List.all_nil, noTok, Bool.and_self, Bool.and_true, Bool.true_and, or_true, false_or, List.length_map, ofNat_len]
  by_cases hl : A.length = B.length
  · have hl' : ((A.length : Int) ≠ (B.length : Int)) = False := by simp [hl]
    simp only [W_seq, W_reg, W_cond, W_blk, W_skip, W_exit, W_ret, W_regD, WO_nil, WO_cons, WO_guard2, wantV_b, bq_tt, bq_ft, bq_tf, bq_ff, Bool.not_true, Bool.not_false, WD_nil, WD_cons, WD_guard2, WS_some, WS_none, KS_n, KS_x, KS_r, KB_n, KB_x, KB_r, KN_ap, KO_ap, KD_ap, KC_nil, KF_n, KF_r, KG_n, KG_r, KL_n, KL_x, KL_r, CP_true, CP_false, evOp, evX, X.ev, optX, put_some, put_none, get_set2, sel_t, sel_f, Nat.reduceBEq, Nat.reduceAdd, Nat.reduceLT, Nat.reduceLeDiff, Nat.reduceEqDiff, reduceIte, if_true, if_false, bi_add, bi_sub, bi_mul, bi_eql, bi_neq, bi_lss, bi_leq, bi_gtr, bi_geq, bs_eql, bs_neq, bs_lss, Am.unOp, ret1, pubL, pubC_agg, pubC_s, pubC_i, pubC_b, pubC_p, pubC_np, pubC_nsl, pubC_ws, pubC_full, pubC_shut, pubC_fn, pubA, initT, wkZ, wk, wants, resOf, tupOf, quiet, AOp.cls, Nat.beq_eq, Bool.or_eq_true, decide_true, decide_false, beq_self_eq_true, Bool.true_or, Bool.or_true, true_and, and_true, lenA, eqv, eqB, eqP, scal, new_box_self, List.getElem?_cons_zero, List.getElem?_cons_succ, key_ii, key_ss, findM, updM, esc_i, esc_s, esc_b, Int.reduceEq, ret1, new_nb, new_set, reduceCtorEq, Bool.xor_true, Bool.xor_false, Bool.false_eq_true, List.all_cons, List.all_nil, noTok, Bool.and_self, Bool.and_true, Bool.true_and, or_true, false_or, hl', ne_eq, not_true_eq_false]
    refine W_loop (fun n e q => q = s.enter ∧ e.get 0 = tx A ∧ e.get 1 = tx B ∧ ∃ i : Nat, i + n = A.length ∧ e.get 5 = .i .i64 i ∧ ∀ (j : Nat) (hj : j < i) (hL : j < A.length), A[j] = B[j]'(by omega)) ?_ A.length _ _ ?_
    · rintro n e q ⟨rfl, h0, h1, i, hi, h5, hn⟩
      simp only [W_seq, W_reg, W_cond, W_blk, W_skip, W_exit, W_ret, W_regD, WO_nil, WO_cons, WO_guard2, wantV_b, bq_tt, bq_ft, bq_tf, bq_ff, Bool.not_true, Bool.not_false, WD_nil, WD_cons, WD_guard2, WS_some, WS_none, KS_n, KS_x, KS_r, KB_n, KB_x, KB_r, KN_ap, KO_ap, KD_ap, KC_nil, KF_n, KF_r, KG_n, KG_r, KL_n, KL_x, KL_r, CP_true, CP_false, evOp, evX, X.ev, optX, put_some, put_none, get_set2, sel_t, sel_f, Nat.reduceBEq, Nat.reduceAdd, Nat.reduceLT, Nat.reduceLeDiff, Nat.reduceEqDiff, reduceIte, if_true, if_false, bi_add, bi_sub, bi_mul, bi_eql, bi_neq, bi_lss, bi_leq, bi_gtr, bi_geq, bs_eql, bs_neq, bs_lss, Am.unOp, ret1, pubL, pubC_agg, pubC_s, pubC_i, pubC_b, pubC_p, pubC_np, pubC_nsl, pubC_ws, pubC_full, pubC_shut, pubC_fn, pubA, initT, wkZ, wk, wants, resOf, tupOf, quiet, AOp.cls, Nat.beq_eq, Bool.or_eq_true, decide_true, decide_false, beq_self_eq_true, Bool.true_or, Bool.or_true, true_and, and_true, lenA, eqv, eqB, eqP, scal, new_box_self, List.getElem?_cons_zero, List.getElem?_cons_succ, key_ii, key_ss, findM, updM, esc_i, esc_s, esc_b, Int.reduceEq, ret1, new_nb, new_set, reduceCtorEq, Bool.xor_true, Bool.xor_false, Bool.false_eq_true, List.all_cons, List.all_nil, noTok, Bool.and_self, Bool.and_true, Bool.true_and, or_true, false_or, h0, h1, h5, List.length_map, ofNat_len]
      refine CP_dec (fun hlt => ?_) (fun hge => ?_)
      · have hlt : i < A.length := by omega
        simp only [W_seq, W_reg, W_cond, W_blk, W_skip, W_exit, W_ret, W_regD, WO_nil, WO_cons, WO_guard2, wantV_b, bq_tt, bq_ft, bq_tf, bq_ff, Bool.not_true, Bool.not_false, WD_nil, WD_cons, WD_guard2, WS_some, WS_none, KS_n, KS_x, KS_r, KB_n, KB_x, KB_r, KN_ap, KO_ap, KD_ap, KC_nil, KF_n, KF_r, KG_n, KG_r, KL_n, KL_x, KL_r, CP_true, CP_false, evOp, evX, X.ev, optX, put_some, put_none, get_set2, sel_t, sel_f, Nat.reduceBEq, Nat.reduceAdd, Nat.reduceLT, Nat.reduceLeDiff, Nat.reduceEqDiff, reduceIte, if_true, if_false, bi_add, bi_sub, bi_mul, bi_eql, bi_neq, bi_lss, bi_leq, bi_gtr, bi_geq, bs_eql, bs_neq, bs_lss, Am.unOp, ret1, pubL, pubC_agg, pubC_s, pubC_i, pubC_b, pubC_p, pubC_np, pubC_nsl, pubC_ws, pubC_full, pubC_shut, pubC_fn, pubA, initT, wkZ, wk, wants, resOf, tupOf, quiet, AOp.cls, Nat.beq_eq, Bool.or_eq_true, decide_true, decide_false, beq_self_eq_true, Bool.true_or, Bool.or_true, true_and, and_true, lenA, eqv, eqB, eqP, scal, new_box_self, List.getElem?_cons_zero, List.getElem?_cons_succ, key_ii, key_ss, findM, updM, esc_i, esc_s, esc_b, Int.reduceEq, ret1, new_nb, new_set, reduceCtorEq, Bool.xor_true, Bool.xor_false, Bool.false_eq_true, List.all_cons, List.all_nil, noTok, Bool.and_self, Bool.and_true, Bool.true_and, or_true, false_or, h0, h1, h5, natOf_nat, tx_get hlt, tx_get (show i < B.length by omega), cells_s, ldA_1, wrap_succ (show i + 1 < 2 ^ 63 by omega)]
        refine CP_dec (fun hne => ?_) (fun heq => ?_)
        · exact KR_some (Over.enter s) rfl (by
            have : A ≠ B := fun h => hne (by subst h; rfl)
            simp [tupOf, wkZ, wk, this])
        · have heq : A[i] = B[i]'(by omega) := by simpa using heq
          refine ⟨n - 1, by omega, i + 1, by omega, rfl, fun j hj hL => ?_⟩
          by_cases hji : j = i
          · subst hji; exact heq
          · exact hn j (by omega) hL
      · exact KR_some (Over.enter s) rfl (by
          have : A = B := List.ext_getElem hl fun j h1 h2 => hn j (by omega) h1
          simp [tupOf, wkZ, wk, this])
    · simp only [W_seq, W_reg, W_cond, W_blk, W_skip, W_exit, W_ret, W_regD, WO_nil, WO_cons, WO_guard2, wantV_b, bq_tt, bq_ft, bq_tf, bq_ff, Bool.not_true, Bool.not_false, WD_nil, WD_cons, WD_guard2, WS_some, WS_none, KS_n, KS_x, KS_r, KB_n, KB_x, KB_r, KN_ap, KO_ap, KD_ap, KC_nil, KF_n, KF_r, KG_n, KG_r, KL_n, KL_x, KL_r, CP_true, CP_false, evOp, evX, X.ev, optX, put_some, put_none, get_set2, sel_t, sel_f, Nat.reduceBEq, Nat.reduceAdd, Nat.reduceLT, Nat.reduceLeDiff, Nat.reduceEqDiff, reduceIte, if_true, if_false, bi_add, bi_sub, bi_mul, bi_eql, bi_neq, bi_lss, bi_leq, bi_gtr, bi_geq, bs_eql, bs_neq, bs_lss, Am.unOp, ret1, pubL, pubC_agg, pubC_s, pubC_i, pubC_b, pubC_p, pubC_np, pubC_nsl, pubC_ws, pubC_full, pubC_shut, pubC_fn, pubA, initT, wkZ, wk, wants, resOf, tupOf, quiet, AOp.cls, Nat.beq_eq, Bool.or_eq_true, decide_true, decide_false, beq_self_eq_true, Bool.true_or, Bool.or_true, true_and, and_true, lenA, eqv, eqB, eqP, scal, new_box_self, List.getElem?_cons_zero, List.getElem?_cons_succ, key_ii, key_ss, findM, updM, esc_i, esc_s, esc_b, Int.reduceEq, ret1, new_nb, new_set, reduceCtorEq, Bool.xor_true, Bool.xor_false, Bool.false_eq_true, List.all_cons, List.all_nil, noTok, Bool.and_self, Bool.and_true, Bool.true_and, or_true, false_or]
      exact ⟨0, by omega, rfl, fun j hj => by omega⟩
  · have hl' : ((A.length : Int) ≠ (B.length : Int)) = True := by simp; omega
    simp only [W_seq, W_reg, W_cond, W_blk, W_skip, W_exit, W_ret, W_regD, WO_nil, WO_cons, WO_guard2, wantV_b, bq_tt, bq_ft, bq_tf, bq_ff, Bool.not_true, Bool.not_false, WD_nil, WD_cons, WD_guard2, WS_some, WS_none, KS_n, KS_x, KS_r, KB_n, KB_x, KB_r, KN_ap, KO_ap, KD_ap, KC_nil, KF_n, KF_r, KG_n, KG_r, KL_n, KL_x, KL_r, CP_true, CP_false, evOp, evX, X.ev, optX, put_some, put_none, get_set2, sel_t, sel_f, Nat.reduceBEq, Nat.reduceAdd, Nat.reduceLT, Nat.reduceLeDiff, Nat.reduceEqDiff, reduceIte, if_true, if_false, bi_add, bi_sub, bi_mul, bi_eql, bi_neq, bi_lss, bi_leq, bi_gtr, bi_geq, bs_eql, bs_neq, bs_lss, Am.unOp, ret1, pubL, pubC_agg, pubC_s, pubC_i, pubC_b, pubC_p, pubC_np, pubC_nsl, pubC_ws, pubC_full, pubC_shut, pubC_fn, pubA, initT, wkZ, wk, wants, resOf, tupOf, quiet, AOp.cls, Nat.beq_eq, Bool.or_eq_true, decide_true, decide_false, beq_self_eq_true, Bool.true_or, Bool.or_true, true_and, and_true, lenA, eqv, eqB, eqP, scal, new_box_self, List.getElem?_cons_zero, List.getElem?_cons_succ, key_ii, key_ss, findM, updM, esc_i, esc_s, esc_b, Int.reduceEq, ret1, new_nb, new_set, reduceCtorEq, Bool.xor_true, Bool.xor_false, Bool.false_eq_true, List.all_cons, List.all_nil, noTok, Bool.and_self, Bool.and_true, Bool.true_and, or_true, false_or, hl']
    exact KR_some (Over.enter s) rfl (by
      have : A ≠ B := fun h => hl (by rw [h])
      simp [tupOf, wkZ, wk, this])

theorem wk_tx (L : List (List Nat)) : wk (.sl 1 .id) (tx L) = tx L := by simp [wk, wkM_id]
theorem back_ok (v : VV) (s : St) (hw : Wf s) : (lim prog).call f_touchstonelaw05_back [v.av] s = some (v.av, s) := by
  refine fn_W p_touchstonelaw05_back rfl rfl ?_
  obtain ⟨s1, hs1⟩ : ∃ s1, (s.enter.new (.cells 28 v.cells)) = s1 := ⟨_, rfl⟩
  have ov1 : Over s s1 := by rw [← hs1]; exact (Over.enter s).new _
  have n1 : s1.nb = s.nb + 1 := by rw [← hs1]; rfl
  obtain ⟨s2, hs2⟩ : ∃ s2, s1.new (.cells 24 [.nsl, .nsl, .nsl, .i .i64 0]) = s2 := ⟨_, rfl⟩
  have b1 : s2.box? s.nb = some (.cells 28 v.cells) := by
    rw [← hs2, new_box_lt (by omega), ← hs1]; exact new_box_self s.enter _
  have b2 : s2.box? s1.nb = some (.cells 24 [.nsl, .nsl, .nsl, .i .i64 0]) := by rw [← hs2]; exact new_box_self s1 _
  have ov2 : Over s s2 := by rw [← hs2]; exact ov1.new _
  have l0 := ld_box (off := 0) (v := tx v.names) b1 rfl
  have l1 := ld_box (off := 1) (v := tx v.values) b1 rfl
  have l2 := ld_box (off := 2) (v := tx v.args) b1 rfl
  have l3 := ld_box (off := 3) (v := .i .i64 v.status) b1 rfl
  have est := st4_new (s := s2) b2 (tx v.names) (tx v.values) (tx v.args) (.i .i64 v.status) rfl (by simp [AV.refs.go, AV.refs, refs_s])
  have ov3 := ov2.setBox (id := s1.nb) (by omega) (by rw [← hs2]; show s1.nb < s1.nb + 1; omega) (.cells 24 v.cells)
  have hnb : s.enter.nb = s.nb := rfl
  have hs1' : s.enter.new (.cells 28 [tx v.names, tx v.values, tx v.args, .i .i64 v.status]) = s1 := hs1
  have cw : ∀ L : List (List Nat), (tx L).cells = [tx L] := fun _ => rfl
  have la : ldA (s2.setBox s1.nb (.cells 24 v.cells)) true 4 (.p s1.nb 0) = some v.av := ld_all4 (T := 24) (by
    have w2 : Wf s2 := by rw [← hs2, ← hs1]; exact (hw.enter.new _).new _
    rw [setBox_box? w2.b (by rw [← hs2]; show s1.nb < s1.nb + 1; omega), if_pos rfl])
  simp only [c_touchstonelaw05_back, W_seq, W_reg, W_cond, W_blk, W_skip, W_exit, W_ret, W_regD, WO_nil, WO_cons, WO_guard2, wantV_b, bq_tt, bq_ft, bq_tf, bq_ff, Bool.not_true, Bool.not_false, WD_nil, WD_cons, WD_guard2, WS_some, WS_none, KS_n, KS_x, KS_r, KB_n, KB_x, KB_r, KN_ap, KO_ap, KD_ap, KC_nil, KF_n, KF_r, KG_n, KG_r, KL_n, KL_x, KL_r, CP_true, CP_false, evOp, evX, X.ev, optX, put_some, put_none, get_set2, sel_t, sel_f, Nat.reduceBEq, Nat.reduceAdd, Nat.reduceLT, Nat.reduceLeDiff, Nat.reduceEqDiff, reduceIte, if_true, if_false, bi_add, bi_sub, bi_mul, bi_eql, bi_neq, bi_lss, bi_leq, bi_gtr, bi_geq, bs_eql, bs_neq, bs_lss, Am.unOp, ret1, pubL, pubC_agg, pubC_s, pubC_i, pubC_b, pubC_p, pubC_np, pubC_nsl, pubC_ws, pubC_full, pubC_shut, pubC_fn, pubA, initT, wkZ, wk, wants, resOf, tupOf, quiet, AOp.cls, Nat.beq_eq, Bool.or_eq_true, decide_true, decide_false, beq_self_eq_true, Bool.true_or, Bool.or_true, true_and, and_true, lenA, eqv, eqB, eqP, scal, new_box_self, List.getElem?_cons_zero, List.getElem?_cons_succ, key_ii, key_ss, findM, updM, esc_i, esc_s, esc_b, Int.reduceEq, ret1, new_nb, new_set, reduceCtorEq, Bool.xor_true, Bool.xor_false, Bool.false_eq_true, List.all_cons, List.all_nil, noTok, Bool.and_self, Bool.and_true, Bool.true_and, or_true, false_or, cells_agg, len4, hs1', hs2, hnb, l0, l1, l2, l3, Nat.zero_add, evParts, cw, cells_i, len1, over4_0, over4_1, over4_2, over4_3, est, la, frzL, frz]
  refine KR_some ov3 ?_ ?_
  · simp [tupOf, AV.refs, AV.refs.go, refs_s]
  · have e1 := wk_tx v.names
    have e2 := wk_tx v.values
    have e3 := wk_tx v.args
    simp only [wkZ, tupOf]
    rw [wk]
    simp only [wkZ, e1, e2, e3]
    rw [show wk .id (.i .i64 v.status) = .i .i64 v.status by rw [wk]]

theorem Same_ok (v : VV) (hv : v.Ok) (s : St) : (lim prog).call f_touchstoneref05_Same [v.av, v.av] s = some (.b true, s) := by
  refine fn_W p_touchstoneref05_Same rfl rfl ?_
  obtain ⟨s1, hs1⟩ : ∃ s1, (s.enter.new (.cells 24 v.cells)) = s1 := ⟨_, rfl⟩
  have ov1 : Over s s1 := by rw [← hs1]; exact (Over.enter s).new _
  have n1 : s1.nb = s.nb + 1 := by rw [← hs1]; rfl
  obtain ⟨s2, hs2⟩ : ∃ s2, s1.new (.cells 24 v.cells) = s2 := ⟨_, rfl⟩
  have b1 : s2.box? s.nb = some (.cells 24 v.cells) := by
    rw [← hs2, new_box_lt (by omega), ← hs1]; exact new_box_self s.enter _
  have b2 : s2.box? s1.nb = some (.cells 24 v.cells) := by rw [← hs2]; exact new_box_self s1 _
  have ov2 : Over s s2 := by rw [← hs2]; exact ov1.new _
  have l0 := ld_box (off := 0) (v := tx v.names) b1 rfl
  have l1 := ld_box (off := 1) (v := tx v.values) b1 rfl
  have l2 := ld_box (off := 2) (v := tx v.args) b1 rfl
  have l3 := ld_box (off := 3) (v := .i .i64 v.status) b1 rfl
  have m0 := ld_box (off := 0) (v := tx v.names) b2 rfl
  have m1 := ld_box (off := 1) (v := tx v.values) b2 rfl
  have m2 := ld_box (off := 2) (v := tx v.args) b2 rfl
  have m3 := ld_box (off := 3) (v := .i .i64 v.status) b2 rfl
  have hnb : s.enter.nb = s.nb := rfl
  have hs1' : s.enter.new (.cells 24 [tx v.names, tx v.values, tx v.args, .i .i64 v.status]) = s1 := hs1
  have hs2' : s1.new (.cells 24 [tx v.names, tx v.values, tx v.args, .i .i64 v.status]) = s2 := hs2
  have t0 := rtexts_ok v.names v.names hv.n s2
  have t1 := rtexts_ok v.values v.values hv.w s2
  have t2 := rtexts_ok v.args v.args hv.a s2
  simp only [decide_true] at t0 t1 t2
  simp only [c_touchstoneref05_Same, W_seq, W_reg, W_cond, W_blk, W_skip, W_exit, W_ret, W_regD, WO_nil, WO_cons, WO_guard2, wantV_b, bq_tt, bq_ft, bq_tf, bq_ff, Bool.not_true, Bool.not_false, WD_nil, WD_cons, WD_guard2, WS_some, WS_none, KS_n, KS_x, KS_r, KB_n, KB_x, KB_r, KN_ap, KO_ap, KD_ap, KC_nil, KF_n, KF_r, KG_n, KG_r, KL_n, KL_x, KL_r, CP_true, CP_false, evOp, evX, X.ev, optX, put_some, put_none, get_set2, sel_t, sel_f, Nat.reduceBEq, Nat.reduceAdd, Nat.reduceLT, Nat.reduceLeDiff, Nat.reduceEqDiff, reduceIte, if_true, if_false, bi_add, bi_sub, bi_mul, bi_eql, bi_neq, bi_lss, bi_leq, bi_gtr, bi_geq, bs_eql, bs_neq, bs_lss, Am.unOp, ret1, pubL, pubC_agg, pubC_s, pubC_i, pubC_b, pubC_p, pubC_np, pubC_nsl, pubC_ws, pubC_full, pubC_shut, pubC_fn, pubA, initT, wkZ, wk, wants, resOf, tupOf, quiet, AOp.cls, Nat.beq_eq, Bool.or_eq_true, decide_true, decide_false, beq_self_eq_true, Bool.true_or, Bool.or_true, true_and, and_true, lenA, eqv, eqB, eqP, scal, new_box_self, List.getElem?_cons_zero, List.getElem?_cons_succ, key_ii, key_ss, findM, updM, esc_i, esc_s, esc_b, Int.reduceEq, ret1, new_nb, new_set, reduceCtorEq, Bool.xor_true, Bool.xor_false, Bool.false_eq_true, List.all_cons, List.all_nil, noTok, Bool.and_self, Bool.and_true, Bool.true_and, or_true, false_or, cells_agg, len4, hs1', hs2', hnb, l0, l1, l2, l3, m0, m1, m2, m3, Nat.zero_add, t0, t1, t2, eq_self]
  exact KR_some ov2 rfl rfl

theorem le_fields (v : VV) (hv : v.Ok) {qs : List PP} (hS : Small v qs) (h1 : ∀ l ∈ v.values, Txt l) (h2 : ∀ l ∈ v.args, Txt l) (h3 : ∀ p ∈ qs, Txt p.text) : szF itoaN v qs ≤ 200 * 20000 := by
  have := szF_le v 20000 qs fun p h => (part_small hv hS h1 h2 h3 h).1
  have := hS.cnt
  have h4 : qs.length * 20000 ≤ 200 * 20000 := Nat.mul_le_mul_right _ this
  omega
theorem itemsL_bound (v : VV) (n : Nat) : ∀ l : List II, (∀ x ∈ l, (itemL v x).length ≤ n) → (itemsL v l).length ≤ l.length * n
  | [], _ => by simp [itemsL]
  | x :: l, h => by
    have h1 := itemsL_bound v n l fun y hy => h y (by simp [hy])
    have h2 := h x (by simp)
    simp only [itemsL, List.map_cons, List.flatten_cons, List.length_append, List.length_cons] at h1 ⊢
    rw [Nat.add_mul]; omega

theorem beq_vav (v : VV) : beqA v.av v.av = true := by
  have h1 := beq_tx v.names
  have h2 := beq_tx v.values
  have h3 := beq_tx v.args
  have h4 := beq_i .i64 v.status
  show beqA (.agg [tx v.names, tx v.values, tx v.args, .i .i64 v.status]) (.agg [tx v.names, tx v.values, tx v.args, .i .i64 v.status]) = true
  rw [beqA]
  simp only [beqAL, h1, h2, h3, h4, Bool.and_self]

/-- The frame of the law's variables. -/
def EX (ps : List PP) (its : List II) (idx idv : Nat) (e : Tr) : Prop := e.get 1 = partsA ps ∧ e.get 2 = itemsA its ∧ e.get 3 = .p idx 0 ∧ e.get 8 = .p idv 0

theorem stage4 {x : VV} {ps : List PP} {its : List II} {idx idv : Nat} {e : Tr} {q : St} {Q : Ex → Tr → St → Prop} (hE : EX ps its idx idv e)
    (la : ldA q true 4 (.p idv 0) = some x.av) (la' : ldA q true 4 (.p idx 0) = some x.av)
    (hT : (lim prog).call f_expand_Text [x.av, partsA ps] q = some (.s (textL itoaN x ps), q)) (hT' : (lim prog).call f_touchstoneref05_Text [x.av, partsA ps] q = some (.s (textL itoaN x ps), q))
    (hF : (lim prog).call f_expand_Fields [x.av, partsA ps] q = some (tx (fieldsL itoaN x ps), q)) (hF' : (lim prog).call f_touchstoneref05_Fields [x.av, partsA ps] q = some (tx (fieldsL itoaN x ps), q))
    (hI : (lim prog).call f_expand_Items [x.av, itemsA its] q = some (tx (itemsL x its), q)) (hI' : (lim prog).call f_touchstoneref05_Items [x.av, itemsA its] q = some (tx (itemsL x its), q))
    (hf : (fieldsL itoaN x ps).length < 2 ^ 63) (hi : (itemsL x its).length < 2 ^ 63)
    (hQ : ∀ e, EX ps its idx idv e → e.get 9 = .b true → Q .n e q) : W (lim prog) (subC c_touchstonelaw05_ExpandTexts.body [1, 1, 1, 1, 0]) e q Q := by
  obtain ⟨g1, g2, g3, g8⟩ := hE
  have hsF : (lim prog).call f_touchstonelaw05_same [tx (fieldsL itoaN x ps), tx (fieldsL itoaN x ps)] q = some (.b true, q) := by
    rw [same_ok _ _ hf q]; simp
  have hsI : (lim prog).call f_touchstonelaw05_same [tx (itemsL x its), tx (itemsL x its)] q = some (.b true, q) := by
    rw [same_ok _ _ hi q]; simp
  simp only [c_touchstonelaw05_ExpandTexts, subC, W_seq, W_reg, W_cond, W_blk, W_skip, W_exit, W_ret, W_regD, WO_nil, WO_cons, WO_guard2, wantV_b, bq_tt, bq_ft, bq_tf, bq_ff, Bool.not_true, Bool.not_false, WD_nil, WD_cons, WD_guard2, WS_some, WS_none, KS_n, KS_x, KS_r, KB_n, KB_x, KB_r, KN_ap, KO_ap, KD_ap, KC_nil, KF_n, KF_r, KG_n, KG_r, KL_n, KL_x, KL_r, CP_true, CP_false, evOp, evX, X.ev, optX, put_some, put_none, get_set2, sel_t, sel_f, Nat.reduceBEq, Nat.reduceAdd, Nat.reduceLT, Nat.reduceLeDiff, Nat.reduceEqDiff, reduceIte, if_true, if_false, bi_add, bi_sub, bi_mul, bi_eql, bi_neq, bi_lss, bi_leq, bi_gtr, bi_geq, bs_eql, bs_neq, bs_lss, Am.unOp, ret1, pubL, pubC_agg, pubC_s, pubC_i, pubC_b, pubC_p, pubC_np, pubC_nsl, pubC_ws, pubC_full, pubC_shut, pubC_fn, pubA, initT, wkZ, wk, wants, resOf, tupOf, quiet, AOp.cls, Nat.beq_eq, Bool.or_eq_true, decide_true, decide_false, beq_self_eq_true, Bool.true_or, Bool.or_true, true_and, and_true, lenA, eqv, eqB, eqP, scal, new_box_self, List.getElem?_cons_zero, List.getElem?_cons_succ, key_ii, key_ss, findM, updM, esc_i, esc_s, esc_b, Int.reduceEq, ret1, new_nb, new_set, reduceCtorEq, Bool.xor_true, Bool.xor_false, Bool.false_eq_true, List.all_cons, List.all_nil, noTok, Bool.and_self, Bool.and_true, Bool.true_and, or_true, false_or, g1, g2, g3, g8, la, la', hT, hT', hF, hF', hsF, hI, hI', hsI, eq_self]
  rw [KC_ap]
  refine ⟨?_, hQ _ ⟨?_, ?_, ?_, ?_⟩ ?_⟩
  · simp only [chkD, sameAt, List.range', List.nil_append, List.cons_append, Nat.reduceSub, Nat.reduceAdd, List.all_cons, List.all_nil, List.getElem?_cons_zero, List.getElem?_cons_succ, W_seq, W_reg, W_cond, W_blk, W_skip, W_exit, W_ret, W_regD, WO_nil, WO_cons, WO_guard2, wantV_b, bq_tt, bq_ft, bq_tf, bq_ff, Bool.not_true, Bool.not_false, WD_nil, WD_cons, WD_guard2, WS_some, WS_none, KS_n, KS_x, KS_r, KB_n, KB_x, KB_r, KN_ap, KO_ap, KD_ap, KC_nil, KF_n, KF_r, KG_n, KG_r, KL_n, KL_x, KL_r, CP_true, CP_false, evOp, evX, X.ev, optX, put_some, put_none, get_set2, sel_t, sel_f, Nat.reduceBEq, Nat.reduceAdd, Nat.reduceLT, Nat.reduceLeDiff, Nat.reduceEqDiff, reduceIte, if_true, if_false, bi_add, bi_sub, bi_mul, bi_eql, bi_neq, bi_lss, bi_leq, bi_gtr, bi_geq, bs_eql, bs_neq, bs_lss, Am.unOp, ret1, pubL, pubC_agg, pubC_s, pubC_i, pubC_b, pubC_p, pubC_np, pubC_nsl, pubC_ws, pubC_full, pubC_shut, pubC_fn, pubA, initT, wkZ, wk, wants, resOf, tupOf, quiet, AOp.cls, Nat.beq_eq, Bool.or_eq_true, decide_true, decide_false, beq_self_eq_true, Bool.true_or, Bool.or_true, true_and, and_true, lenA, eqv, eqB, eqP, scal, new_box_self, List.getElem?_cons_zero, List.getElem?_cons_succ, key_ii, key_ss, findM, updM, esc_i, esc_s, esc_b, Int.reduceEq, ret1, new_nb, new_set, reduceCtorEq, Bool.xor_true, Bool.xor_false, Bool.false_eq_true, List.all_cons, List.all_nil, noTok, Bool.and_self, Bool.and_true, Bool.true_and, or_true, false_or, la, la', g1, g2, g3, g8, beq_vav]
  all_goals simp only [W_seq, W_reg, W_cond, W_blk, W_skip, W_exit, W_ret, W_regD, WO_nil, WO_cons, WO_guard2, wantV_b, bq_tt, bq_ft, bq_tf, bq_ff, Bool.not_true, Bool.not_false, WD_nil, WD_cons, WD_guard2, WS_some, WS_none, KS_n, KS_x, KS_r, KB_n, KB_x, KB_r, KN_ap, KO_ap, KD_ap, KC_nil, KF_n, KF_r, KG_n, KG_r, KL_n, KL_x, KL_r, CP_true, CP_false, evOp, evX, X.ev, optX, put_some, put_none, get_set2, sel_t, sel_f, Nat.reduceBEq, Nat.reduceAdd, Nat.reduceLT, Nat.reduceLeDiff, Nat.reduceEqDiff, reduceIte, if_true, if_false, bi_add, bi_sub, bi_mul, bi_eql, bi_neq, bi_lss, bi_leq, bi_gtr, bi_geq, bs_eql, bs_neq, bs_lss, Am.unOp, ret1, pubL, pubC_agg, pubC_s, pubC_i, pubC_b, pubC_p, pubC_np, pubC_nsl, pubC_ws, pubC_full, pubC_shut, pubC_fn, pubA, initT, wkZ, wk, wants, resOf, tupOf, quiet, AOp.cls, Nat.beq_eq, Bool.or_eq_true, decide_true, decide_false, beq_self_eq_true, Bool.true_or, Bool.or_true, true_and, and_true, lenA, eqv, eqB, eqP, scal, new_box_self, List.getElem?_cons_zero, List.getElem?_cons_succ, key_ii, key_ss, findM, updM, esc_i, esc_s, esc_b, Int.reduceEq, ret1, new_nb, new_set, reduceCtorEq, Bool.xor_true, Bool.xor_false, Bool.false_eq_true, List.all_cons, List.all_nil, noTok, Bool.and_self, Bool.and_true, Bool.true_and, or_true, false_or, g1, g2, g3, g8]

theorem ldE_1 (s : St) (a b c : AV) : ldA s false 1 (.ep [a, b, c] 1 .shut) = scal false [b] := rfl

theorem stage5 {x : VV} {ps : List PP} {its : List II} {idx idv : Nat} {e : Tr} {q : St} {Q : Ex → Tr → St → Prop} (hE : EX ps its idx idv e) (h9 : e.get 9 = .b true) (h10 : e.get 10 = .i .i64 (0 : Nat)) (hlen : ps.length < 2 ^ 63)
    (la : ldA q true 4 (.p idv 0) = some x.av) (la' : ldA q true 4 (.p idx 0) = some x.av)
    (hV : ∀ p ∈ ps, (lim prog).call f_expand_Value [x.av, .s p.text] q = some (.s (valueL itoaN x p.text), q)) (hV' : ∀ p ∈ ps, (lim prog).call f_touchstoneref05_Value [x.av, .s p.text] q = some (.s (valueL itoaN x p.text), q))
    (hQ : ∀ e, EX ps its idx idv e → e.get 9 = .b true → Q (.x 2) e q) : W (lim prog) (subC c_touchstonelaw05_ExpandTexts.body [1, 1, 1, 1, 1, 0, 1, 0]) e q Q := by
  simp only [c_touchstonelaw05_ExpandTexts, subC]
  refine W_loop (fun n e q' => q = q' ∧ ∃ i : Nat, i + n = ps.length ∧ (EX ps its idx idv e ∧ e.get 9 = .b true ∧ e.get 10 = .i .i64 i)) ?_ ps.length _ _ ⟨rfl, 0, by omega, hE, h9, h10⟩
  rintro n e q' ⟨rfl, i, hi, ⟨g1, g2, g3, g8⟩, g9, g10⟩
  simp only [W_seq, W_reg, W_cond, W_blk, W_skip, W_exit, W_ret, W_regD, WO_nil, WO_cons, WO_guard2, wantV_b, bq_tt, bq_ft, bq_tf, bq_ff, Bool.not_true, Bool.not_false, WD_nil, WD_cons, WD_guard2, WS_some, WS_none, KS_n, KS_x, KS_r, KB_n, KB_x, KB_r, KN_ap, KO_ap, KD_ap, KC_nil, KF_n, KF_r, KG_n, KG_r, KL_n, KL_x, KL_r, CP_true, CP_false, evOp, evX, X.ev, optX, put_some, put_none, get_set2, sel_t, sel_f, Nat.reduceBEq, Nat.reduceAdd, Nat.reduceLT, Nat.reduceLeDiff, Nat.reduceEqDiff, reduceIte, if_true, if_false, bi_add, bi_sub, bi_mul, bi_eql, bi_neq, bi_lss, bi_leq, bi_gtr, bi_geq, bs_eql, bs_neq, bs_lss, Am.unOp, ret1, pubL, pubC_agg, pubC_s, pubC_i, pubC_b, pubC_p, pubC_np, pubC_nsl, pubC_ws, pubC_full, pubC_shut, pubC_fn, pubA, initT, wkZ, wk, wants, resOf, tupOf, quiet, AOp.cls, Nat.beq_eq, Bool.or_eq_true, decide_true, decide_false, beq_self_eq_true, Bool.true_or, Bool.or_true, true_and, and_true, lenA, eqv, eqB, eqP, scal, new_box_self, List.getElem?_cons_zero, List.getElem?_cons_succ, key_ii, key_ss, findM, updM, esc_i, esc_s, esc_b, Int.reduceEq, ret1, new_nb, new_set, reduceCtorEq, Bool.xor_true, Bool.xor_false, Bool.false_eq_true, List.all_cons, List.all_nil, noTok, Bool.and_self, Bool.and_true, Bool.true_and, or_true, false_or, g1, g9, g10, List.length_map, ofNat_len]
  refine CP_dec (fun hlt => ?_) (fun hge => ?_)
  · have hlt : i < ps.length := by omega
    have hget : (ps.map fun p => AV.agg p.cells)[i]? = some (.agg ps[i].cells) := by simp [hlt]
    have hw := wrap_succ (show i + 1 < 2 ^ 63 by omega)
    have v1 := hV _ (List.getElem_mem hlt)
    have v2 := hV' _ (List.getElem_mem hlt)
    simp only [W_seq, W_reg, W_cond, W_blk, W_skip, W_exit, W_ret, W_regD, WO_nil, WO_cons, WO_guard2, wantV_b, bq_tt, bq_ft, bq_tf, bq_ff, Bool.not_true, Bool.not_false, WD_nil, WD_cons, WD_guard2, WS_some, WS_none, KS_n, KS_x, KS_r, KB_n, KB_x, KB_r, KN_ap, KO_ap, KD_ap, KC_nil, KF_n, KF_r, KG_n, KG_r, KL_n, KL_x, KL_r, CP_true, CP_false, evOp, evX, X.ev, optX, put_some, put_none, get_set2, sel_t, sel_f, Nat.reduceBEq, Nat.reduceAdd, Nat.reduceLT, Nat.reduceLeDiff, Nat.reduceEqDiff, reduceIte, if_true, if_false, bi_add, bi_sub, bi_mul, bi_eql, bi_neq, bi_lss, bi_leq, bi_gtr, bi_geq, bs_eql, bs_neq, bs_lss, Am.unOp, ret1, pubL, pubC_agg, pubC_s, pubC_i, pubC_b, pubC_p, pubC_np, pubC_nsl, pubC_ws, pubC_full, pubC_shut, pubC_fn, pubA, initT, wkZ, wk, wants, resOf, tupOf, quiet, AOp.cls, Nat.beq_eq, Bool.or_eq_true, decide_true, decide_false, beq_self_eq_true, Bool.true_or, Bool.or_true, true_and, and_true, lenA, eqv, eqB, eqP, scal, new_box_self, List.getElem?_cons_zero, List.getElem?_cons_succ, key_ii, key_ss, findM, updM, esc_i, esc_s, esc_b, Int.reduceEq, ret1, new_nb, new_set, reduceCtorEq, Bool.xor_true, Bool.xor_false, Bool.false_eq_true, List.all_cons, List.all_nil, noTok, Bool.and_self, Bool.and_true, Bool.true_and, or_true, false_or, g1, g2, g3, g8, g9, g10, W_thw, thaw_ws, natOf_nat, hget, cells_agg, ldE_1, la, la', v1, v2, eq_self, hw]
    rw [KC_ap]
    refine ⟨?_, ?_⟩
    · simp only [chkD, sameAt, List.range', List.nil_append, List.cons_append, Nat.reduceSub, Nat.reduceAdd, List.all_cons, List.all_nil, List.getElem?_cons_zero, List.getElem?_cons_succ, W_seq, W_reg, W_cond, W_blk, W_skip, W_exit, W_ret, W_regD, WO_nil, WO_cons, WO_guard2, wantV_b, bq_tt, bq_ft, bq_tf, bq_ff, Bool.not_true, Bool.not_false, WD_nil, WD_cons, WD_guard2, WS_some, WS_none, KS_n, KS_x, KS_r, KB_n, KB_x, KB_r, KN_ap, KO_ap, KD_ap, KC_nil, KF_n, KF_r, KG_n, KG_r, KL_n, KL_x, KL_r, CP_true, CP_false, evOp, evX, X.ev, optX, put_some, put_none, get_set2, sel_t, sel_f, Nat.reduceBEq, Nat.reduceAdd, Nat.reduceLT, Nat.reduceLeDiff, Nat.reduceEqDiff, reduceIte, if_true, if_false, bi_add, bi_sub, bi_mul, bi_eql, bi_neq, bi_lss, bi_leq, bi_gtr, bi_geq, bs_eql, bs_neq, bs_lss, Am.unOp, ret1, pubL, pubC_agg, pubC_s, pubC_i, pubC_b, pubC_p, pubC_np, pubC_nsl, pubC_ws, pubC_full, pubC_shut, pubC_fn, pubA, initT, wkZ, wk, wants, resOf, tupOf, quiet, AOp.cls, Nat.beq_eq, Bool.or_eq_true, decide_true, decide_false, beq_self_eq_true, Bool.true_or, Bool.or_true, true_and, and_true, lenA, eqv, eqB, eqP, scal, new_box_self, List.getElem?_cons_zero, List.getElem?_cons_succ, key_ii, key_ss, findM, updM, esc_i, esc_s, esc_b, Int.reduceEq, ret1, new_nb, new_set, reduceCtorEq, Bool.xor_true, Bool.xor_false, Bool.false_eq_true, List.all_cons, List.all_nil, noTok, Bool.and_self, Bool.and_true, Bool.true_and, or_true, false_or, la, la', g1, g2, g3, g8, ldE_1, beq_vav, beq_s1]
    · simp only [W_seq, W_reg, W_cond, W_blk, W_skip, W_exit, W_ret, W_regD, WO_nil, WO_cons, WO_guard2, wantV_b, bq_tt, bq_ft, bq_tf, bq_ff, Bool.not_true, Bool.not_false, WD_nil, WD_cons, WD_guard2, WS_some, WS_none, KS_n, KS_x, KS_r, KB_n, KB_x, KB_r, KN_ap, KO_ap, KD_ap, KC_nil, KF_n, KF_r, KG_n, KG_r, KL_n, KL_x, KL_r, CP_true, CP_false, evOp, evX, X.ev, optX, put_some, put_none, get_set2, sel_t, sel_f, Nat.reduceBEq, Nat.reduceAdd, Nat.reduceLT, Nat.reduceLeDiff, Nat.reduceEqDiff, reduceIte, if_true, if_false, bi_add, bi_sub, bi_mul, bi_eql, bi_neq, bi_lss, bi_leq, bi_gtr, bi_geq, bs_eql, bs_neq, bs_lss, Am.unOp, ret1, pubL, pubC_agg, pubC_s, pubC_i, pubC_b, pubC_p, pubC_np, pubC_nsl, pubC_ws, pubC_full, pubC_shut, pubC_fn, pubA, initT, wkZ, wk, wants, resOf, tupOf, quiet, AOp.cls, Nat.beq_eq, Bool.or_eq_true, decide_true, decide_false, beq_self_eq_true, Bool.true_or, Bool.or_true, true_and, and_true, lenA, eqv, eqB, eqP, scal, new_box_self, List.getElem?_cons_zero, List.getElem?_cons_succ, key_ii, key_ss, findM, updM, esc_i, esc_s, esc_b, Int.reduceEq, ret1, new_nb, new_set, reduceCtorEq, Bool.xor_true, Bool.xor_false, Bool.false_eq_true, List.all_cons, List.all_nil, noTok, Bool.and_self, Bool.and_true, Bool.true_and, or_true, false_or, g10, hw]
      refine ⟨n - 1, by omega, i + 1, by omega, ⟨?_, ?_, ?_, ?_⟩, ?_⟩ <;> simp only [W_seq, W_reg, W_cond, W_blk, W_skip, W_exit, W_ret, W_regD, WO_nil, WO_cons, WO_guard2, wantV_b, bq_tt, bq_ft, bq_tf, bq_ff, Bool.not_true, Bool.not_false, WD_nil, WD_cons, WD_guard2, WS_some, WS_none, KS_n, KS_x, KS_r, KB_n, KB_x, KB_r, KN_ap, KO_ap, KD_ap, KC_nil, KF_n, KF_r, KG_n, KG_r, KL_n, KL_x, KL_r, CP_true, CP_false, evOp, evX, X.ev, optX, put_some, put_none, get_set2, sel_t, sel_f, Nat.reduceBEq, Nat.reduceAdd, Nat.reduceLT, Nat.reduceLeDiff, Nat.reduceEqDiff, reduceIte, if_true, if_false, bi_add, bi_sub, bi_mul, bi_eql, bi_neq, bi_lss, bi_leq, bi_gtr, bi_geq, bs_eql, bs_neq, bs_lss, Am.unOp, ret1, pubL, pubC_agg, pubC_s, pubC_i, pubC_b, pubC_p, pubC_np, pubC_nsl, pubC_ws, pubC_full, pubC_shut, pubC_fn, pubA, initT, wkZ, wk, wants, resOf, tupOf, quiet, AOp.cls, Nat.beq_eq, Bool.or_eq_true, decide_true, decide_false, beq_self_eq_true, Bool.true_or, Bool.or_true, true_and, and_true, lenA, eqv, eqB, eqP, scal, new_box_self, List.getElem?_cons_zero, List.getElem?_cons_succ, key_ii, key_ss, findM, updM, esc_i, esc_s, esc_b, Int.reduceEq, ret1, new_nb, new_set, reduceCtorEq, Bool.xor_true, Bool.xor_false, Bool.false_eq_true, List.all_cons, List.all_nil, noTok, Bool.and_self, Bool.and_true, Bool.true_and, or_true, false_or, g1, g2, g3, g8]
  · refine hQ _ ⟨?_, ?_, ?_, ?_⟩ ?_ <;> simp only [W_seq, W_reg, W_cond, W_blk, W_skip, W_exit, W_ret, W_regD, WO_nil, WO_cons, WO_guard2, wantV_b, bq_tt, bq_ft, bq_tf, bq_ff, Bool.not_true, Bool.not_false, WD_nil, WD_cons, WD_guard2, WS_some, WS_none, KS_n, KS_x, KS_r, KB_n, KB_x, KB_r, KN_ap, KO_ap, KD_ap, KC_nil, KF_n, KF_r, KG_n, KG_r, KL_n, KL_x, KL_r, CP_true, CP_false, evOp, evX, X.ev, optX, put_some, put_none, get_set2, sel_t, sel_f, Nat.reduceBEq, Nat.reduceAdd, Nat.reduceLT, Nat.reduceLeDiff, Nat.reduceEqDiff, reduceIte, if_true, if_false, bi_add, bi_sub, bi_mul, bi_eql, bi_neq, bi_lss, bi_leq, bi_gtr, bi_geq, bs_eql, bs_neq, bs_lss, Am.unOp, ret1, pubL, pubC_agg, pubC_s, pubC_i, pubC_b, pubC_p, pubC_np, pubC_nsl, pubC_ws, pubC_full, pubC_shut, pubC_fn, pubA, initT, wkZ, wk, wants, resOf, tupOf, quiet, AOp.cls, Nat.beq_eq, Bool.or_eq_true, decide_true, decide_false, beq_self_eq_true, Bool.true_or, Bool.or_true, true_and, and_true, lenA, eqv, eqB, eqP, scal, new_box_self, List.getElem?_cons_zero, List.getElem?_cons_succ, key_ii, key_ss, findM, updM, esc_i, esc_s, esc_b, Int.reduceEq, ret1, new_nb, new_set, reduceCtorEq, Bool.xor_true, Bool.xor_false, Bool.false_eq_true, List.all_cons, List.all_nil, noTok, Bool.and_self, Bool.and_true, Bool.true_and, or_true, false_or, g1, g2, g3, g8, g9]

theorem stage6 {x : VV} {ps : List PP} {its : List II} {idx idv : Nat} {e : Tr} {q : St} {Q : Ex → Tr → St → Prop} (hE : EX ps its idx idv e) (h9 : e.get 9 = .b true)
    (la : ldA q true 4 (.p idv 0) = some x.av) (la' : ldA q true 4 (.p idx 0) = some x.av)
    (hB : (lim prog).call f_touchstonelaw05_back [x.av] q = some (x.av, q)) (hS : (lim prog).call f_touchstoneref05_Same [x.av, x.av] q = some (.b true, q))
    (hQ : ∀ e, e.get 6 = .b true → Q .n e q) : W (lim prog) (subC c_touchstonelaw05_ExpandTexts.body [1, 1, 1, 1, 1, 1, 0]) e q Q := by
  obtain ⟨g1, g2, g3, g8⟩ := hE
  simp only [c_touchstonelaw05_ExpandTexts, subC, W_seq, W_reg, W_cond, W_blk, W_skip, W_exit, W_ret, W_regD, WO_nil, WO_cons, WO_guard2, wantV_b, bq_tt, bq_ft, bq_tf, bq_ff, Bool.not_true, Bool.not_false, WD_nil, WD_cons, WD_guard2, WS_some, WS_none, KS_n, KS_x, KS_r, KB_n, KB_x, KB_r, KN_ap, KO_ap, KD_ap, KC_nil, KF_n, KF_r, KG_n, KG_r, KL_n, KL_x, KL_r, CP_true, CP_false, evOp, evX, X.ev, optX, put_some, put_none, get_set2, sel_t, sel_f, Nat.reduceBEq, Nat.reduceAdd, Nat.reduceLT, Nat.reduceLeDiff, Nat.reduceEqDiff, reduceIte, if_true, if_false, bi_add, bi_sub, bi_mul, bi_eql, bi_neq, bi_lss, bi_leq, bi_gtr, bi_geq, bs_eql, bs_neq, bs_lss, Am.unOp, ret1, pubL, pubC_agg, pubC_s, pubC_i, pubC_b, pubC_p, pubC_np, pubC_nsl, pubC_ws, pubC_full, pubC_shut, pubC_fn, pubA, initT, wkZ, wk, wants, resOf, tupOf, quiet, AOp.cls, Nat.beq_eq, Bool.or_eq_true, decide_true, decide_false, beq_self_eq_true, Bool.true_or, Bool.or_true, true_and, and_true, lenA, eqv, eqB, eqP, scal, new_box_self, List.getElem?_cons_zero, List.getElem?_cons_succ, key_ii, key_ss, findM, updM, esc_i, esc_s, esc_b, Int.reduceEq, ret1, new_nb, new_set, reduceCtorEq, Bool.xor_true, Bool.xor_false, Bool.false_eq_true, List.all_cons, List.all_nil, noTok, Bool.and_self, Bool.and_true, Bool.true_and, or_true, false_or, g3, g8, h9, la, la', hB, hS]
  rw [KC_ap]
  refine ⟨?_, hQ _ ?_⟩
  · simp only [chkD, sameAt, List.range', List.nil_append, List.cons_append, Nat.reduceSub, Nat.reduceAdd, List.all_cons, List.all_nil, List.getElem?_cons_zero, List.getElem?_cons_succ, W_seq, W_reg, W_cond, W_blk, W_skip, W_exit, W_ret, W_regD, WO_nil, WO_cons, WO_guard2, wantV_b, bq_tt, bq_ft, bq_tf, bq_ff, Bool.not_true, Bool.not_false, WD_nil, WD_cons, WD_guard2, WS_some, WS_none, KS_n, KS_x, KS_r, KB_n, KB_x, KB_r, KN_ap, KO_ap, KD_ap, KC_nil, KF_n, KF_r, KG_n, KG_r, KL_n, KL_x, KL_r, CP_true, CP_false, evOp, evX, X.ev, optX, put_some, put_none, get_set2, sel_t, sel_f, Nat.reduceBEq, Nat.reduceAdd, Nat.reduceLT, Nat.reduceLeDiff, Nat.reduceEqDiff, reduceIte, if_true, if_false, bi_add, bi_sub, bi_mul, bi_eql, bi_neq, bi_lss, bi_leq, bi_gtr, bi_geq, bs_eql, bs_neq, bs_lss, Am.unOp, ret1, pubL, pubC_agg, pubC_s, pubC_i, pubC_b, pubC_p, pubC_np, pubC_nsl, pubC_ws, pubC_full, pubC_shut, pubC_fn, pubA, initT, wkZ, wk, wants, resOf, tupOf, quiet, AOp.cls, Nat.beq_eq, Bool.or_eq_true, decide_true, decide_false, beq_self_eq_true, Bool.true_or, Bool.or_true, true_and, and_true, lenA, eqv, eqB, eqP, scal, new_box_self, List.getElem?_cons_zero, List.getElem?_cons_succ, key_ii, key_ss, findM, updM, esc_i, esc_s, esc_b, Int.reduceEq, ret1, new_nb, new_set, reduceCtorEq, Bool.xor_true, Bool.xor_false, Bool.false_eq_true, List.all_cons, List.all_nil, noTok, Bool.and_self, Bool.and_true, Bool.true_and, or_true, false_or, la, la', g3, g8, beq_vav]
  · simp only [W_seq, W_reg, W_cond, W_blk, W_skip, W_exit, W_ret, W_regD, WO_nil, WO_cons, WO_guard2, wantV_b, bq_tt, bq_ft, bq_tf, bq_ff, Bool.not_true, Bool.not_false, WD_nil, WD_cons, WD_guard2, WS_some, WS_none, KS_n, KS_x, KS_r, KB_n, KB_x, KB_r, KN_ap, KO_ap, KD_ap, KC_nil, KF_n, KF_r, KG_n, KG_r, KL_n, KL_x, KL_r, CP_true, CP_false, evOp, evX, X.ev, optX, put_some, put_none, get_set2, sel_t, sel_f, Nat.reduceBEq, Nat.reduceAdd, Nat.reduceLT, Nat.reduceLeDiff, Nat.reduceEqDiff, reduceIte, if_true, if_false, bi_add, bi_sub, bi_mul, bi_eql, bi_neq, bi_lss, bi_leq, bi_gtr, bi_geq, bs_eql, bs_neq, bs_lss, Am.unOp, ret1, pubL, pubC_agg, pubC_s, pubC_i, pubC_b, pubC_p, pubC_np, pubC_nsl, pubC_ws, pubC_full, pubC_shut, pubC_fn, pubA, initT, wkZ, wk, wants, resOf, tupOf, quiet, AOp.cls, Nat.beq_eq, Bool.or_eq_true, decide_true, decide_false, beq_self_eq_true, Bool.true_or, Bool.or_true, true_and, and_true, lenA, eqv, eqB, eqP, scal, new_box_self, List.getElem?_cons_zero, List.getElem?_cons_succ, key_ii, key_ss, findM, updM, esc_i, esc_s, esc_b, Int.reduceEq, ret1, new_nb, new_set, reduceCtorEq, Bool.xor_true, Bool.xor_false, Bool.false_eq_true, List.all_cons, List.all_nil, noTok, Bool.and_self, Bool.and_true, Bool.true_and, or_true, false_or]

/-- From 'given' on. -/
theorem stage3 {x : VV} (hx : x.Ok) {ps : List PP} (hp : ∀ p ∈ ps, Txt p.text) (hv : ∀ l ∈ x.values, Txt l) (ha : ∀ l ∈ x.args, Txt l) (hlen : ps.length < 2 ^ 63) {its : List II} (hil : its.length < 2 ^ 63) (hS : Small x ps) (hG : ∀ y ∈ its, y.Good x) (hIL : (itemsL x its).length < 2 ^ 37)
    {s s1 : St} {idx : Nat} (hb1 : s1.box? idx = some (.cells 24 x.cells)) (hidx : idx < s1.nb) (w1 : Wf s1) (ov1 : Over s s1) {e : Tr} {Q : Ex → Tr → St → Prop} (g1 : e.get 1 = partsA ps) (g2 : e.get 2 = itemsA its) (g3 : e.get 3 = .p idx 0)
    (hQ : ∀ e q, Over s q → e.get 6 = .b true → Q .r e q) : W (lim prog) (subC c_touchstonelaw05_ExpandTexts.body [1, 1, 1]) e s1 Q := by
  have hla1 : ldA s1 true 4 (.p idx 0) = some x.av := ld_all4 hb1
  have hgiven := given_ok x (by have := hS.n; omega) (by have := hS.w; omega) (by have := hS.a; omega) s1 w1
  have est := st4_new (s := s1.new (.cells 28 [.nsl, .nsl, .nsl, .i .i64 0])) (new_box_self s1 _) (tx x.names) (tx x.values) (tx x.args) (.i .i64 x.status) rfl (by simp [AV.refs.go, AV.refs, refs_s])
  rw [new_set] at est
  obtain ⟨s2, hs2⟩ : ∃ s2, s1.new (.cells 28 x.cells) = s2 := ⟨_, rfl⟩
  rw [hs2] at est
  obtain ⟨idv, hidv⟩ : ∃ k, s1.nb = k := ⟨_, rfl⟩
  rw [hidv] at est
  have w2 : Wf s2 := by rw [← hs2]; exact w1.new _
  have ov2 : Over s s2 := by rw [← hs2]; exact ov1.new _
  have hb2 : s2.box? idv = some (.cells 28 x.cells) := by rw [← hs2, ← hidv]; exact new_box_self _ _
  have hb2' : s2.box? idx = some (.cells 24 x.cells) := by rw [← hs2, new_box_lt hidx]; exact hb1
  have la : ldA s2 true 4 (.p idv 0) = some x.av := ld_all4 hb2
  have la' : ldA s2 true 4 (.p idx 0) = some x.av := ld_all4 hb2'
  have hsz := le_fields x hx hS hv ha hp
  have hpt : ∀ p ∈ ps, Txt (partL itoaN x p) := fun p h => (part_small hx hS hv ha hp h).2
  have hT := text_ok itoaN itoa_ok x hx ps hp hpt hlen (by omega) s2 w2
  have hT' := refText_ok x hx ps hlen (by omega) s2
  have hF := fields_ok itoaN itoa_ok x hx ps hp hpt hlen (by omega) s2 w2
  have hF' := refFields_ok x hx ps hpt hlen (by omega) s2 w2
  have hI := expItems_ok x hx its hG hil hIL s2 w2
  have hI' := refItems_ok x hx its hG hil hIL s2 w2
  have hfl := fieldsL_len itoaN x ps
  simp only [c_touchstonelaw05_ExpandTexts, subC, W_seq, W_reg, W_cond, W_blk, W_skip, W_exit, W_ret, WO_nil, WO_cons, WO_guard2, wantV_b, bq_tt, bq_ft, bq_tf, bq_ff, Bool.not_true, Bool.not_false, WD_nil, WD_cons, WD_guard2, WS_some, WS_none, KS_n, KS_x, KS_r, KB_n, KB_x, KB_r, KN_ap, KO_ap, KD_ap, KC_nil, KF_n, KF_r, KG_n, KG_r, KL_n, KL_x, KL_r, CP_true, CP_false, evOp, evX, X.ev, optX, put_some, put_none, get_set2, sel_t, sel_f, Nat.reduceBEq, Nat.reduceAdd, Nat.reduceLT, Nat.reduceLeDiff, Nat.reduceEqDiff, reduceIte, if_true, if_false, bi_add, bi_sub, bi_mul, bi_eql, bi_neq, bi_lss, bi_leq, bi_gtr, bi_geq, bs_eql, bs_neq, bs_lss, Am.unOp, ret1, pubL, pubC_agg, pubC_s, pubC_i, pubC_b, pubC_p, pubC_np, pubC_nsl, pubC_ws, pubC_full, pubC_shut, pubC_fn, pubA, initT, wkZ, wk, wants, resOf, tupOf, quiet, AOp.cls, Nat.beq_eq, Bool.or_eq_true, decide_true, decide_false, beq_self_eq_true, Bool.true_or, Bool.or_true, true_and, and_true, lenA, eqv, eqB, eqP, scal, new_box_self, List.getElem?_cons_zero, List.getElem?_cons_succ, key_ii, key_ss, findM, updM, esc_i, esc_s, esc_b, Int.reduceEq, ret1, new_nb, new_set, reduceCtorEq, Bool.xor_true, Bool.xor_false, Bool.false_eq_true, List.all_cons, List.all_nil, noTok, Bool.and_self, Bool.and_true, Bool.true_and, or_true, false_or, g3, hla1, hgiven, hidv, est]
  refine stage4 (x := x) (ps := ps) (its := its) (idx := idx) (idv := idv) ⟨?_, ?_, ?_, ?_⟩ la la' hT hT' hF hF' hI hI' (by omega) (by omega) ?_
  iterate 4 simp only [W_seq, W_reg, W_cond, W_blk, W_skip, W_exit, W_ret, W_regD, WO_nil, WO_cons, WO_guard2, wantV_b, bq_tt, bq_ft, bq_tf, bq_ff, Bool.not_true, Bool.not_false, WD_nil, WD_cons, WD_guard2, WS_some, WS_none, KS_n, KS_x, KS_r, KB_n, KB_x, KB_r, KN_ap, KO_ap, KD_ap, KC_nil, KF_n, KF_r, KG_n, KG_r, KL_n, KL_x, KL_r, CP_true, CP_false, evOp, evX, X.ev, optX, put_some, put_none, get_set2, sel_t, sel_f, Nat.reduceBEq, Nat.reduceAdd, Nat.reduceLT, Nat.reduceLeDiff, Nat.reduceEqDiff, reduceIte, if_true, if_false, bi_add, bi_sub, bi_mul, bi_eql, bi_neq, bi_lss, bi_leq, bi_gtr, bi_geq, bs_eql, bs_neq, bs_lss, Am.unOp, ret1, pubL, pubC_agg, pubC_s, pubC_i, pubC_b, pubC_p, pubC_np, pubC_nsl, pubC_ws, pubC_full, pubC_shut, pubC_fn, pubA, initT, wkZ, wk, wants, resOf, tupOf, quiet, AOp.cls, Nat.beq_eq, Bool.or_eq_true, decide_true, decide_false, beq_self_eq_true, Bool.true_or, Bool.or_true, true_and, and_true, lenA, eqv, eqB, eqP, scal, new_box_self, List.getElem?_cons_zero, List.getElem?_cons_succ, key_ii, key_ss, findM, updM, esc_i, esc_s, esc_b, Int.reduceEq, ret1, new_nb, new_set, reduceCtorEq, Bool.xor_true, Bool.xor_false, Bool.false_eq_true, List.all_cons, List.all_nil, noTok, Bool.and_self, Bool.and_true, Bool.true_and, or_true, false_or, g1, g2, g3]
  intro e hE h9
  simp only [W_seq, W_reg, W_cond, W_blk, W_skip, W_exit, W_ret, WO_nil, WO_cons, WO_guard2, wantV_b, bq_tt, bq_ft, bq_tf, bq_ff, Bool.not_true, Bool.not_false, WD_nil, WD_cons, WD_guard2, WS_some, WS_none, KS_n, KS_x, KS_r, KB_n, KB_x, KB_r, KN_ap, KO_ap, KD_ap, KC_nil, KF_n, KF_r, KG_n, KG_r, KL_n, KL_x, KL_r, CP_true, CP_false, evOp, evX, X.ev, optX, put_some, put_none, get_set2, sel_t, sel_f, Nat.reduceBEq, Nat.reduceAdd, Nat.reduceLT, Nat.reduceLeDiff, Nat.reduceEqDiff, reduceIte, if_true, if_false, bi_add, bi_sub, bi_mul, bi_eql, bi_neq, bi_lss, bi_leq, bi_gtr, bi_geq, bs_eql, bs_neq, bs_lss, Am.unOp, ret1, pubL, pubC_agg, pubC_s, pubC_i, pubC_b, pubC_p, pubC_np, pubC_nsl, pubC_ws, pubC_full, pubC_shut, pubC_fn, pubA, initT, wkZ, wk, wants, resOf, tupOf, quiet, AOp.cls, Nat.beq_eq, Bool.or_eq_true, decide_true, decide_false, beq_self_eq_true, Bool.true_or, Bool.or_true, true_and, and_true, lenA, eqv, eqB, eqP, scal, new_box_self, List.getElem?_cons_zero, List.getElem?_cons_succ, key_ii, key_ss, findM, updM, esc_i, esc_s, esc_b, Int.reduceEq, ret1, new_nb, new_set, reduceCtorEq, Bool.xor_true, Bool.xor_false, Bool.false_eq_true, List.all_cons, List.all_nil, noTok, Bool.and_self, Bool.and_true, Bool.true_and, or_true, false_or]
  refine stage5 (x := x) (its := its) (idx := idx) (idv := idv) ?_ ?_ ?_ hlen la la' (fun p h => value_ok itoaN itoa_ok x hx p.text (hp p h) s2) (fun p h => refValue_ok x hx p.text s2) ?_
  · obtain ⟨k1, k2, k3, k8⟩ := hE
    refine ⟨?_, ?_, ?_, ?_⟩ <;> simp only [W_seq, W_reg, W_cond, W_blk, W_skip, W_exit, W_ret, W_regD, WO_nil, WO_cons, WO_guard2, wantV_b, bq_tt, bq_ft, bq_tf, bq_ff, Bool.not_true, Bool.not_false, WD_nil, WD_cons, WD_guard2, WS_some, WS_none, KS_n, KS_x, KS_r, KB_n, KB_x, KB_r, KN_ap, KO_ap, KD_ap, KC_nil, KF_n, KF_r, KG_n, KG_r, KL_n, KL_x, KL_r, CP_true, CP_false, evOp, evX, X.ev, optX, put_some, put_none, get_set2, sel_t, sel_f, Nat.reduceBEq, Nat.reduceAdd, Nat.reduceLT, Nat.reduceLeDiff, Nat.reduceEqDiff, reduceIte, if_true, if_false, bi_add, bi_sub, bi_mul, bi_eql, bi_neq, bi_lss, bi_leq, bi_gtr, bi_geq, bs_eql, bs_neq, bs_lss, Am.unOp, ret1, pubL, pubC_agg, pubC_s, pubC_i, pubC_b, pubC_p, pubC_np, pubC_nsl, pubC_ws, pubC_full, pubC_shut, pubC_fn, pubA, initT, wkZ, wk, wants, resOf, tupOf, quiet, AOp.cls, Nat.beq_eq, Bool.or_eq_true, decide_true, decide_false, beq_self_eq_true, Bool.true_or, Bool.or_true, true_and, and_true, lenA, eqv, eqB, eqP, scal, new_box_self, List.getElem?_cons_zero, List.getElem?_cons_succ, key_ii, key_ss, findM, updM, esc_i, esc_s, esc_b, Int.reduceEq, ret1, new_nb, new_set, reduceCtorEq, Bool.xor_true, Bool.xor_false, Bool.false_eq_true, List.all_cons, List.all_nil, noTok, Bool.and_self, Bool.and_true, Bool.true_and, or_true, false_or, k1, k2, k3, k8]
  · simp only [W_seq, W_reg, W_cond, W_blk, W_skip, W_exit, W_ret, W_regD, WO_nil, WO_cons, WO_guard2, wantV_b, bq_tt, bq_ft, bq_tf, bq_ff, Bool.not_true, Bool.not_false, WD_nil, WD_cons, WD_guard2, WS_some, WS_none, KS_n, KS_x, KS_r, KB_n, KB_x, KB_r, KN_ap, KO_ap, KD_ap, KC_nil, KF_n, KF_r, KG_n, KG_r, KL_n, KL_x, KL_r, CP_true, CP_false, evOp, evX, X.ev, optX, put_some, put_none, get_set2, sel_t, sel_f, Nat.reduceBEq, Nat.reduceAdd, Nat.reduceLT, Nat.reduceLeDiff, Nat.reduceEqDiff, reduceIte, if_true, if_false, bi_add, bi_sub, bi_mul, bi_eql, bi_neq, bi_lss, bi_leq, bi_gtr, bi_geq, bs_eql, bs_neq, bs_lss, Am.unOp, ret1, pubL, pubC_agg, pubC_s, pubC_i, pubC_b, pubC_p, pubC_np, pubC_nsl, pubC_ws, pubC_full, pubC_shut, pubC_fn, pubA, initT, wkZ, wk, wants, resOf, tupOf, quiet, AOp.cls, Nat.beq_eq, Bool.or_eq_true, decide_true, decide_false, beq_self_eq_true, Bool.true_or, Bool.or_true, true_and, and_true, lenA, eqv, eqB, eqP, scal, new_box_self, List.getElem?_cons_zero, List.getElem?_cons_succ, key_ii, key_ss, findM, updM, esc_i, esc_s, esc_b, Int.reduceEq, ret1, new_nb, new_set, reduceCtorEq, Bool.xor_true, Bool.xor_false, Bool.false_eq_true, List.all_cons, List.all_nil, noTok, Bool.and_self, Bool.and_true, Bool.true_and, or_true, false_or, h9]
  · simp only [W_seq, W_reg, W_cond, W_blk, W_skip, W_exit, W_ret, W_regD, WO_nil, WO_cons, WO_guard2, wantV_b, bq_tt, bq_ft, bq_tf, bq_ff, Bool.not_true, Bool.not_false, WD_nil, WD_cons, WD_guard2, WS_some, WS_none, KS_n, KS_x, KS_r, KB_n, KB_x, KB_r, KN_ap, KO_ap, KD_ap, KC_nil, KF_n, KF_r, KG_n, KG_r, KL_n, KL_x, KL_r, CP_true, CP_false, evOp, evX, X.ev, optX, put_some, put_none, get_set2, sel_t, sel_f, Nat.reduceBEq, Nat.reduceAdd, Nat.reduceLT, Nat.reduceLeDiff, Nat.reduceEqDiff, reduceIte, if_true, if_false, bi_add, bi_sub, bi_mul, bi_eql, bi_neq, bi_lss, bi_leq, bi_gtr, bi_geq, bs_eql, bs_neq, bs_lss, Am.unOp, ret1, pubL, pubC_agg, pubC_s, pubC_i, pubC_b, pubC_p, pubC_np, pubC_nsl, pubC_ws, pubC_full, pubC_shut, pubC_fn, pubA, initT, wkZ, wk, wants, resOf, tupOf, quiet, AOp.cls, Nat.beq_eq, Bool.or_eq_true, decide_true, decide_false, beq_self_eq_true, Bool.true_or, Bool.or_true, true_and, and_true, lenA, eqv, eqB, eqP, scal, new_box_self, List.getElem?_cons_zero, List.getElem?_cons_succ, key_ii, key_ss, findM, updM, esc_i, esc_s, esc_b, Int.reduceEq, ret1, new_nb, new_set, reduceCtorEq, Bool.xor_true, Bool.xor_false, Bool.false_eq_true, List.all_cons, List.all_nil, noTok, Bool.and_self, Bool.and_true, Bool.true_and, or_true, false_or]; rfl
  intro e hE h9
  simp only [W_seq, W_reg, W_cond, W_blk, W_skip, W_exit, W_ret, WO_nil, WO_cons, WO_guard2, wantV_b, bq_tt, bq_ft, bq_tf, bq_ff, Bool.not_true, Bool.not_false, WD_nil, WD_cons, WD_guard2, WS_some, WS_none, KS_n, KS_x, KS_r, KB_n, KB_x, KB_r, KN_ap, KO_ap, KD_ap, KC_nil, KF_n, KF_r, KG_n, KG_r, KL_n, KL_x, KL_r, CP_true, CP_false, evOp, evX, X.ev, optX, put_some, put_none, get_set2, sel_t, sel_f, Nat.reduceBEq, Nat.reduceAdd, Nat.reduceLT, Nat.reduceLeDiff, Nat.reduceEqDiff, reduceIte, if_true, if_false, bi_add, bi_sub, bi_mul, bi_eql, bi_neq, bi_lss, bi_leq, bi_gtr, bi_geq, bs_eql, bs_neq, bs_lss, Am.unOp, ret1, pubL, pubC_agg, pubC_s, pubC_i, pubC_b, pubC_p, pubC_np, pubC_nsl, pubC_ws, pubC_full, pubC_shut, pubC_fn, pubA, initT, wkZ, wk, wants, resOf, tupOf, quiet, AOp.cls, Nat.beq_eq, Bool.or_eq_true, decide_true, decide_false, beq_self_eq_true, Bool.true_or, Bool.or_true, true_and, and_true, lenA, eqv, eqB, eqP, scal, new_box_self, List.getElem?_cons_zero, List.getElem?_cons_succ, key_ii, key_ss, findM, updM, esc_i, esc_s, esc_b, Int.reduceEq, ret1, new_nb, new_set, reduceCtorEq, Bool.xor_true, Bool.xor_false, Bool.false_eq_true, List.all_cons, List.all_nil, noTok, Bool.and_self, Bool.and_true, Bool.true_and, or_true, false_or]
  refine stage6 (x := x) hE h9 la la' (back_ok x s2 w2) (Same_ok x hx s2) ?_
  intro e h6
  simp only [W_seq, W_reg, W_cond, W_blk, W_skip, W_exit, W_ret, WO_nil, WO_cons, WO_guard2, wantV_b, bq_tt, bq_ft, bq_tf, bq_ff, Bool.not_true, Bool.not_false, WD_nil, WD_cons, WD_guard2, WS_some, WS_none, KS_n, KS_x, KS_r, KB_n, KB_x, KB_r, KN_ap, KO_ap, KD_ap, KC_nil, KF_n, KF_r, KG_n, KG_r, KL_n, KL_x, KL_r, CP_true, CP_false, evOp, evX, X.ev, optX, put_some, put_none, get_set2, sel_t, sel_f, Nat.reduceBEq, Nat.reduceAdd, Nat.reduceLT, Nat.reduceLeDiff, Nat.reduceEqDiff, reduceIte, if_true, if_false, bi_add, bi_sub, bi_mul, bi_eql, bi_neq, bi_lss, bi_leq, bi_gtr, bi_geq, bs_eql, bs_neq, bs_lss, Am.unOp, ret1, pubL, pubC_agg, pubC_s, pubC_i, pubC_b, pubC_p, pubC_np, pubC_nsl, pubC_ws, pubC_full, pubC_shut, pubC_fn, pubA, initT, wkZ, wk, wants, resOf, tupOf, quiet, AOp.cls, Nat.beq_eq, Bool.or_eq_true, decide_true, decide_false, beq_self_eq_true, Bool.true_or, Bool.or_true, true_and, and_true, lenA, eqv, eqB, eqP, scal, new_box_self, List.getElem?_cons_zero, List.getElem?_cons_succ, key_ii, key_ss, findM, updM, esc_i, esc_s, esc_b, Int.reduceEq, ret1, new_nb, new_set, reduceCtorEq, Bool.xor_true, Bool.xor_false, Bool.false_eq_true, List.all_cons, List.all_nil, noTok, Bool.and_self, Bool.and_true, Bool.true_and, or_true, false_or]
  exact hQ e s2 ov2 h6

/-- The loop over the items: none is large. -/
theorem stage2 {x : VV} (hx : x.Ok) {ps : List PP} {its : List II} (hil : its.length < 2 ^ 63) (hit : ∀ y ∈ its, (∀ p ∈ y.parts, Txt p.text) ∧ y.parts.length < 2 ^ 63) {idx : Nat} {s1 : St} (hla1 : ldA s1 true 4 (.p idx 0) = some x.av) {e : Tr} {Q : Ex → Tr → St → Prop}
    (g1 : e.get 1 = partsA ps) (g2 : e.get 2 = itemsA its) (g3 : e.get 3 = .p idx 0) (g7 : e.get 7 = .i .i64 (0 : Nat)) (hR : ∀ e, e.get 6 = .b true → Q .r e s1)
    (hQ : ∀ e, e.get 1 = partsA ps → e.get 2 = itemsA its → e.get 3 = .p idx 0 → (∀ y ∈ its, largeP x y.parts = false) → Q (.x 0) e s1) : W (lim prog) (subC c_touchstonelaw05_ExpandTexts.body [1, 1, 0, 1, 0]) e s1 Q := by
  simp only [c_touchstonelaw05_ExpandTexts, subC]
  refine W_loop (fun n e q => s1 = q ∧ e.get 1 = partsA ps ∧ e.get 2 = itemsA its ∧ e.get 3 = .p idx 0 ∧ ∃ i : Nat, i + n = its.length ∧ e.get 7 = .i .i64 i ∧ ∀ (j : Nat) (hj : j < i) (hL : j < its.length), largeP x its[j].parts = false) ?_ its.length _ _ ⟨rfl, g1, g2, g3, 0, by omega, g7, fun j hj => by omega⟩
  · rintro n e q ⟨rfl, g1, g2, g3, i, hi, g7, hn⟩
    simp only [W_seq, W_reg, W_cond, W_blk, W_skip, W_exit, W_ret, W_regD, WO_nil, WO_cons, WO_guard2, wantV_b, bq_tt, bq_ft, bq_tf, bq_ff, Bool.not_true, Bool.not_false, WD_nil, WD_cons, WD_guard2, WS_some, WS_none, KS_n, KS_x, KS_r, KB_n, KB_x, KB_r, KN_ap, KO_ap, KD_ap, KC_nil, KF_n, KF_r, KG_n, KG_r, KL_n, KL_x, KL_r, CP_true, CP_false, evOp, evX, X.ev, optX, put_some, put_none, get_set2, sel_t, sel_f, Nat.reduceBEq, Nat.reduceAdd, Nat.reduceLT, Nat.reduceLeDiff, Nat.reduceEqDiff, reduceIte, if_true, if_false, bi_add, bi_sub, bi_mul, bi_eql, bi_neq, bi_lss, bi_leq, bi_gtr, bi_geq, bs_eql, bs_neq, bs_lss, Am.unOp, ret1, pubL, pubC_agg, pubC_s, pubC_i, pubC_b, pubC_p, pubC_np, pubC_nsl, pubC_ws, pubC_full, pubC_shut, pubC_fn, pubA, initT, wkZ, wk, wants, resOf, tupOf, quiet, AOp.cls, Nat.beq_eq, Bool.or_eq_true, decide_true, decide_false, beq_self_eq_true, Bool.true_or, Bool.or_true, true_and, and_true, lenA, eqv, eqB, eqP, scal, new_box_self, List.getElem?_cons_zero, List.getElem?_cons_succ, key_ii, key_ss, findM, updM, esc_i, esc_s, esc_b, Int.reduceEq, ret1, new_nb, new_set, reduceCtorEq, Bool.xor_true, Bool.xor_false, Bool.false_eq_true, List.all_cons, List.all_nil, noTok, Bool.and_self, Bool.and_true, Bool.true_and, or_true, false_or, g1, g2, g3, g7, List.length_map, ofNat_len]
    refine CP_dec (fun hlt => ?_) (fun hge => ?_)
    · have hlt : i < its.length := by omega
      have hget : (its.map fun x => AV.agg x.cells)[i]? = some (.agg its[i].cells) := by simp [hlt]
      have hlg := large_ok x hx its[i].parts (hit _ (List.getElem_mem hlt)).2 s1
      have hw2 := wrap_succ (show i + 1 < 2 ^ 63 by omega)
      cases hL2 : largeP x its[i].parts with
      | true =>
        rw [hL2] at hlg
        simp only [W_seq, W_reg, W_cond, W_blk, W_skip, W_exit, W_ret, W_regD, WO_nil, WO_cons, WO_guard2, wantV_b, bq_tt, bq_ft, bq_tf, bq_ff, Bool.not_true, Bool.not_false, WD_nil, WD_cons, WD_guard2, WS_some, WS_none, KS_n, KS_x, KS_r, KB_n, KB_x, KB_r, KN_ap, KO_ap, KD_ap, KC_nil, KF_n, KF_r, KG_n, KG_r, KL_n, KL_x, KL_r, CP_true, CP_false, evOp, evX, X.ev, optX, put_some, put_none, get_set2, sel_t, sel_f, Nat.reduceBEq, Nat.reduceAdd, Nat.reduceLT, Nat.reduceLeDiff, Nat.reduceEqDiff, reduceIte, if_true, if_false, bi_add, bi_sub, bi_mul, bi_eql, bi_neq, bi_lss, bi_leq, bi_gtr, bi_geq, bs_eql, bs_neq, bs_lss, Am.unOp, ret1, pubL, pubC_agg, pubC_s, pubC_i, pubC_b, pubC_p, pubC_np, pubC_nsl, pubC_ws, pubC_full, pubC_shut, pubC_fn, pubA, initT, wkZ, wk, wants, resOf, tupOf, quiet, AOp.cls, Nat.beq_eq, Bool.or_eq_true, decide_true, decide_false, beq_self_eq_true, Bool.true_or, Bool.or_true, true_and, and_true, lenA, eqv, eqB, eqP, scal, new_box_self, List.getElem?_cons_zero, List.getElem?_cons_succ, key_ii, key_ss, findM, updM, esc_i, esc_s, esc_b, Int.reduceEq, ret1, new_nb, new_set, reduceCtorEq, Bool.xor_true, Bool.xor_false, Bool.false_eq_true, List.all_cons, List.all_nil, noTok, Bool.and_self, Bool.and_true, Bool.true_and, or_true, false_or, g1, g2, g3, g7, natOf_nat, hget, cells_agg, W_thw, thaw_ws, ldP_0, hla1, hlg]
        exact hR _ (by simp only [W_seq, W_reg, W_cond, W_blk, W_skip, W_exit, W_ret, W_regD, WO_nil, WO_cons, WO_guard2, wantV_b, bq_tt, bq_ft, bq_tf, bq_ff, Bool.not_true, Bool.not_false, WD_nil, WD_cons, WD_guard2, WS_some, WS_none, KS_n, KS_x, KS_r, KB_n, KB_x, KB_r, KN_ap, KO_ap, KD_ap, KC_nil, KF_n, KF_r, KG_n, KG_r, KL_n, KL_x, KL_r, CP_true, CP_false, evOp, evX, X.ev, optX, put_some, put_none, get_set2, sel_t, sel_f, Nat.reduceBEq, Nat.reduceAdd, Nat.reduceLT, Nat.reduceLeDiff, Nat.reduceEqDiff, reduceIte, if_true, if_false, bi_add, bi_sub, bi_mul, bi_eql, bi_neq, bi_lss, bi_leq, bi_gtr, bi_geq, bs_eql, bs_neq, bs_lss, Am.unOp, ret1, pubL, pubC_agg, pubC_s, pubC_i, pubC_b, pubC_p, pubC_np, pubC_nsl, pubC_ws, pubC_full, pubC_shut, pubC_fn, pubA, initT, wkZ, wk, wants, resOf, tupOf, quiet, AOp.cls, Nat.beq_eq, Bool.or_eq_true, decide_true, decide_false, beq_self_eq_true, Bool.true_or, Bool.or_true, true_and, and_true, lenA, eqv, eqB, eqP, scal, new_box_self, List.getElem?_cons_zero, List.getElem?_cons_succ, key_ii, key_ss, findM, updM, esc_i, esc_s, esc_b, Int.reduceEq, ret1, new_nb, new_set, reduceCtorEq, Bool.xor_true, Bool.xor_false, Bool.false_eq_true, List.all_cons, List.all_nil, noTok, Bool.and_self, Bool.and_true, Bool.true_and, or_true, false_or])
      | false =>
        rw [hL2] at hlg
        simp only [W_seq, W_reg, W_cond, W_blk, W_skip, W_exit, W_ret, W_regD, WO_nil, WO_cons, WO_guard2, wantV_b, bq_tt, bq_ft, bq_tf, bq_ff, Bool.not_true, Bool.not_false, WD_nil, WD_cons, WD_guard2, WS_some, WS_none, KS_n, KS_x, KS_r, KB_n, KB_x, KB_r, KN_ap, KO_ap, KD_ap, KC_nil, KF_n, KF_r, KG_n, KG_r, KL_n, KL_x, KL_r, CP_true, CP_false, evOp, evX, X.ev, optX, put_some, put_none, get_set2, sel_t, sel_f, Nat.reduceBEq, Nat.reduceAdd, Nat.reduceLT, Nat.reduceLeDiff, Nat.reduceEqDiff, reduceIte, if_true, if_false, bi_add, bi_sub, bi_mul, bi_eql, bi_neq, bi_lss, bi_leq, bi_gtr, bi_geq, bs_eql, bs_neq, bs_lss, Am.unOp, ret1, pubL, pubC_agg, pubC_s, pubC_i, pubC_b, pubC_p, pubC_np, pubC_nsl, pubC_ws, pubC_full, pubC_shut, pubC_fn, pubA, initT, wkZ, wk, wants, resOf, tupOf, quiet, AOp.cls, Nat.beq_eq, Bool.or_eq_true, decide_true, decide_false, beq_self_eq_true, Bool.true_or, Bool.or_true, true_and, and_true, lenA, eqv, eqB, eqP, scal, new_box_self, List.getElem?_cons_zero, List.getElem?_cons_succ, key_ii, key_ss, findM, updM, esc_i, esc_s, esc_b, Int.reduceEq, ret1, new_nb, new_set, reduceCtorEq, Bool.xor_true, Bool.xor_false, Bool.false_eq_true, List.all_cons, List.all_nil, noTok, Bool.and_self, Bool.and_true, Bool.true_and, or_true, false_or, g1, g2, g3, g7, natOf_nat, hget, cells_agg, W_thw, thaw_ws, ldP_0, hla1, hlg, hw2]
        refine ⟨n - 1, by omega, i + 1, by omega, rfl, fun j hj hL => ?_⟩
        by_cases hji : j = i
        · subst hji; exact hL2
        · exact hn j (by omega) hL
    · have hno : ∀ y ∈ its, largeP x y.parts = false := fun y hy => by
        obtain ⟨j, hj, rfl⟩ := List.mem_iff_getElem.1 hy
        exact hn j (by omega) hj
      refine hQ _ ?_ ?_ ?_ hno <;> simp only [W_seq, W_reg, W_cond, W_blk, W_skip, W_exit, W_ret, W_regD, WO_nil, WO_cons, WO_guard2, wantV_b, bq_tt, bq_ft, bq_tf, bq_ff, Bool.not_true, Bool.not_false, WD_nil, WD_cons, WD_guard2, WS_some, WS_none, KS_n, KS_x, KS_r, KB_n, KB_x, KB_r, KN_ap, KO_ap, KD_ap, KC_nil, KF_n, KF_r, KG_n, KG_r, KL_n, KL_x, KL_r, CP_true, CP_false, evOp, evX, X.ev, optX, put_some, put_none, get_set2, sel_t, sel_f, Nat.reduceBEq, Nat.reduceAdd, Nat.reduceLT, Nat.reduceLeDiff, Nat.reduceEqDiff, reduceIte, if_true, if_false, bi_add, bi_sub, bi_mul, bi_eql, bi_neq, bi_lss, bi_leq, bi_gtr, bi_geq, bs_eql, bs_neq, bs_lss, Am.unOp, ret1, pubL, pubC_agg, pubC_s, pubC_i, pubC_b, pubC_p, pubC_np, pubC_nsl, pubC_ws, pubC_full, pubC_shut, pubC_fn, pubA, initT, wkZ, wk, wants, resOf, tupOf, quiet, AOp.cls, Nat.beq_eq, Bool.or_eq_true, decide_true, decide_false, beq_self_eq_true, Bool.true_or, Bool.or_true, true_and, and_true, lenA, eqv, eqB, eqP, scal, new_box_self, List.getElem?_cons_zero, List.getElem?_cons_succ, key_ii, key_ss, findM, updM, esc_i, esc_s, esc_b, Int.reduceEq, ret1, new_nb, new_set, reduceCtorEq, Bool.xor_true, Bool.xor_false, Bool.false_eq_true, List.all_cons, List.all_nil, noTok, Bool.and_self, Bool.and_true, Bool.true_and, or_true, false_or, g1, g2, g3]

theorem etexts_ok (x : VV) (hx : x.Ok) (ps : List PP) (hp : ∀ p ∈ ps, Txt p.text) (hv : ∀ l ∈ x.values, Txt l) (ha : ∀ l ∈ x.args, Txt l) (hlen : ps.length < 2 ^ 63) (its : List II) (hil : its.length < 2 ^ 63) (hit : ∀ y ∈ its, (∀ p ∈ y.parts, Txt p.text) ∧ y.parts.length < 2 ^ 63) (s : St) (hw : Wf s) :
    (lim prog).call f_touchstonelaw05_ExpandTexts [x.av, partsA ps, itemsA its] s = some (.b true, s) := by
  refine fn_W p_touchstonelaw05_ExpandTexts rfl rfl ?_
  obtain ⟨s1, hs1⟩ : ∃ s1, s.enter.new (.cells 24 x.cells) = s1 := ⟨_, rfl⟩
  have w1 : Wf s1 := by rw [← hs1]; exact hw.enter.new _
  have ov1 : Over s s1 := by rw [← hs1]; exact (Over.enter s).new _
  have hb1 : s1.box? s.nb = some (.cells 24 x.cells) := by rw [← hs1]; exact new_box_self s.enter _
  have n1 : s1.nb = s.nb + 1 := by rw [← hs1]; rfl
  have hla1 : ldA s1 true 4 (.p s.nb 0) = some x.av := ld_all4 hb1
  have hnb : s.enter.nb = s.nb := rfl
  have hs1' : s.enter.new (.cells 24 [tx x.names, tx x.values, tx x.args, .i .i64 x.status]) = s1 := hs1
  have hlarge := large_ok x hx ps hlen s1
  cases hL : largeP x ps with
  | true =>
    rw [hL] at hlarge
    simp only [c_touchstonelaw05_ExpandTexts, W_seq, W_reg, W_cond, W_blk, W_skip, W_exit, W_ret, W_regD, WO_nil, WO_cons, WO_guard2, wantV_b, bq_tt, bq_ft, bq_tf, bq_ff, Bool.not_true, Bool.not_false, WD_nil, WD_cons, WD_guard2, WS_some, WS_none, KS_n, KS_x, KS_r, KB_n, KB_x, KB_r, KN_ap, KO_ap, KD_ap, KC_nil, KF_n, KF_r, KG_n, KG_r, KL_n, KL_x, KL_r, CP_true, CP_false, evOp, evX, X.ev, optX, put_some, put_none, get_set2, sel_t, sel_f, Nat.reduceBEq, Nat.reduceAdd, Nat.reduceLT, Nat.reduceLeDiff, Nat.reduceEqDiff, reduceIte, if_true, if_false, bi_add, bi_sub, bi_mul, bi_eql, bi_neq, bi_lss, bi_leq, bi_gtr, bi_geq, bs_eql, bs_neq, bs_lss, Am.unOp, ret1, pubL, pubC_agg, pubC_s, pubC_i, pubC_b, pubC_p, pubC_np, pubC_nsl, pubC_ws, pubC_full, pubC_shut, pubC_fn, pubA, initT, wkZ, wk, wants, resOf, tupOf, quiet, AOp.cls, Nat.beq_eq, Bool.or_eq_true, decide_true, decide_false, beq_self_eq_true, Bool.true_or, Bool.or_true, true_and, and_true, lenA, eqv, eqB, eqP, scal, new_box_self, List.getElem?_cons_zero, List.getElem?_cons_succ, key_ii, key_ss, findM, updM, esc_i, esc_s, esc_b, Int.reduceEq, ret1, new_nb, new_set, reduceCtorEq, Bool.xor_true, Bool.xor_false, Bool.false_eq_true, List.all_cons, List.all_nil, noTok, Bool.and_self, Bool.and_true, Bool.true_and, or_true, false_or, cells_agg, len4, hs1', hnb, hla1, hlarge]
    exact KR_some ov1 rfl rfl
  | false =>
  rw [hL] at hlarge
  have hS := small_of hL
  simp only [c_touchstonelaw05_ExpandTexts, W_seq, W_reg, W_cond, W_blk, W_skip, W_exit, W_ret, W_regD, WO_nil, WO_cons, WO_guard2, wantV_b, bq_tt, bq_ft, bq_tf, bq_ff, Bool.not_true, Bool.not_false, WD_nil, WD_cons, WD_guard2, WS_some, WS_none, KS_n, KS_x, KS_r, KB_n, KB_x, KB_r, KN_ap, KO_ap, KD_ap, KC_nil, KF_n, KF_r, KG_n, KG_r, KL_n, KL_x, KL_r, CP_true, CP_false, evOp, evX, X.ev, optX, put_some, put_none, get_set2, sel_t, sel_f, Nat.reduceBEq, Nat.reduceAdd, Nat.reduceLT, Nat.reduceLeDiff, Nat.reduceEqDiff, reduceIte, if_true, if_false, bi_add, bi_sub, bi_mul, bi_eql, bi_neq, bi_lss, bi_leq, bi_gtr, bi_geq, bs_eql, bs_neq, bs_lss, Am.unOp, ret1, pubL, pubC_agg, pubC_s, pubC_i, pubC_b, pubC_p, pubC_np, pubC_nsl, pubC_ws, pubC_full, pubC_shut, pubC_fn, pubA, initT, wkZ, wk, wants, resOf, tupOf, quiet, AOp.cls, Nat.beq_eq, Bool.or_eq_true, decide_true, decide_false, beq_self_eq_true, Bool.true_or, Bool.or_true, true_and, and_true, lenA, eqv, eqB, eqP, scal, new_box_self, List.getElem?_cons_zero, List.getElem?_cons_succ, key_ii, key_ss, findM, updM, esc_i, esc_s, esc_b, Int.reduceEq, ret1, new_nb, new_set, reduceCtorEq, Bool.xor_true, Bool.xor_false, Bool.false_eq_true, List.all_cons, List.all_nil, noTok, Bool.and_self, Bool.and_true, Bool.true_and, or_true, false_or, cells_agg, len4, hs1', hnb, hla1, hlarge, List.length_map, ofNat_len]
  refine CP_dec (fun h30 => ?_) (fun h30 => ?_)
  · exact KR_some ov1 rfl rfl
  refine stage2 (ps := ps) hx hil hit hla1 ?_ ?_ ?_ ?_ ?_ ?_
  iterate 3 simp only [W_seq, W_reg, W_cond, W_blk, W_skip, W_exit, W_ret, W_regD, WO_nil, WO_cons, WO_guard2, wantV_b, bq_tt, bq_ft, bq_tf, bq_ff, Bool.not_true, Bool.not_false, WD_nil, WD_cons, WD_guard2, WS_some, WS_none, KS_n, KS_x, KS_r, KB_n, KB_x, KB_r, KN_ap, KO_ap, KD_ap, KC_nil, KF_n, KF_r, KG_n, KG_r, KL_n, KL_x, KL_r, CP_true, CP_false, evOp, evX, X.ev, optX, put_some, put_none, get_set2, sel_t, sel_f, Nat.reduceBEq, Nat.reduceAdd, Nat.reduceLT, Nat.reduceLeDiff, Nat.reduceEqDiff, reduceIte, if_true, if_false, bi_add, bi_sub, bi_mul, bi_eql, bi_neq, bi_lss, bi_leq, bi_gtr, bi_geq, bs_eql, bs_neq, bs_lss, Am.unOp, ret1, pubL, pubC_agg, pubC_s, pubC_i, pubC_b, pubC_p, pubC_np, pubC_nsl, pubC_ws, pubC_full, pubC_shut, pubC_fn, pubA, initT, wkZ, wk, wants, resOf, tupOf, quiet, AOp.cls, Nat.beq_eq, Bool.or_eq_true, decide_true, decide_false, beq_self_eq_true, Bool.true_or, Bool.or_true, true_and, and_true, lenA, eqv, eqB, eqP, scal, new_box_self, List.getElem?_cons_zero, List.getElem?_cons_succ, key_ii, key_ss, findM, updM, esc_i, esc_s, esc_b, Int.reduceEq, ret1, new_nb, new_set, reduceCtorEq, Bool.xor_true, Bool.xor_false, Bool.false_eq_true, List.all_cons, List.all_nil, noTok, Bool.and_self, Bool.and_true, Bool.true_and, or_true, false_or]
  · simp only [W_seq, W_reg, W_cond, W_blk, W_skip, W_exit, W_ret, W_regD, WO_nil, WO_cons, WO_guard2, wantV_b, bq_tt, bq_ft, bq_tf, bq_ff, Bool.not_true, Bool.not_false, WD_nil, WD_cons, WD_guard2, WS_some, WS_none, KS_n, KS_x, KS_r, KB_n, KB_x, KB_r, KN_ap, KO_ap, KD_ap, KC_nil, KF_n, KF_r, KG_n, KG_r, KL_n, KL_x, KL_r, CP_true, CP_false, evOp, evX, X.ev, optX, put_some, put_none, get_set2, sel_t, sel_f, Nat.reduceBEq, Nat.reduceAdd, Nat.reduceLT, Nat.reduceLeDiff, Nat.reduceEqDiff, reduceIte, if_true, if_false, bi_add, bi_sub, bi_mul, bi_eql, bi_neq, bi_lss, bi_leq, bi_gtr, bi_geq, bs_eql, bs_neq, bs_lss, Am.unOp, ret1, pubL, pubC_agg, pubC_s, pubC_i, pubC_b, pubC_p, pubC_np, pubC_nsl, pubC_ws, pubC_full, pubC_shut, pubC_fn, pubA, initT, wkZ, wk, wants, resOf, tupOf, quiet, AOp.cls, Nat.beq_eq, Bool.or_eq_true, decide_true, decide_false, beq_self_eq_true, Bool.true_or, Bool.or_true, true_and, and_true, lenA, eqv, eqB, eqP, scal, new_box_self, List.getElem?_cons_zero, List.getElem?_cons_succ, key_ii, key_ss, findM, updM, esc_i, esc_s, esc_b, Int.reduceEq, ret1, new_nb, new_set, reduceCtorEq, Bool.xor_true, Bool.xor_false, Bool.false_eq_true, List.all_cons, List.all_nil, noTok, Bool.and_self, Bool.and_true, Bool.true_and, or_true, false_or]; rfl
  · intro e h6
    simp only [KB_r, KS_r, KF_r, resOf, h6, frz, pub]
    exact KR_some ov1 rfl rfl
  · intro e g1 g2 g3 hno
    have hsm : ∀ y ∈ its, Small x y.parts := fun y hy => by
        exact small_of (hno y hy)
    have hG : ∀ y ∈ its, y.Good x := fun y hy => by
        have h1 := hit y hy
        have h2 := hsm y hy
        exact ⟨h1.1, fun p h => (part_small hx h2 hv ha h1.1 h).2, h1.2, by have := le_fields x hx h2 hv ha h1.1; omega⟩
    have hIL : (itemsL x its).length < 2 ^ 37 := by
        have h1 := itemsL_bound x 4000001 its fun y hy => by
          have h1 := le_fields x hx (hsm y hy) hv ha (hit y hy).1
          have h2 := fieldsL_len itoaN x y.parts
          unfold itemL
          split
          · omega
          · simp
        have h2 : its.length ≤ 30 := by omega
        have h3 : its.length * 4000001 ≤ 30 * 4000001 := Nat.mul_le_mul_right _ h2
        omega
    simp only [KB_x, if_true, KS_n]
    refine stage3 hx hp hv ha hlen hil hS hG hIL hb1 (by omega) w1 ov1 g1 g2 g3 ?_
    intro e q hov h6
    simp only [W_seq, W_reg, W_cond, W_blk, W_skip, W_exit, W_ret, W_regD, WO_nil, WO_cons, WO_guard2, wantV_b, bq_tt, bq_ft, bq_tf, bq_ff, Bool.not_true, Bool.not_false, WD_nil, WD_cons, WD_guard2, WS_some, WS_none, KS_n, KS_x, KS_r, KB_n, KB_x, KB_r, KN_ap, KO_ap, KD_ap, KC_nil, KF_n, KF_r, KG_n, KG_r, KL_n, KL_x, KL_r, CP_true, CP_false, evOp, evX, X.ev, optX, put_some, put_none, get_set2, sel_t, sel_f, Nat.reduceBEq, Nat.reduceAdd, Nat.reduceLT, Nat.reduceLeDiff, Nat.reduceEqDiff, reduceIte, if_true, if_false, bi_add, bi_sub, bi_mul, bi_eql, bi_neq, bi_lss, bi_leq, bi_gtr, bi_geq, bs_eql, bs_neq, bs_lss, Am.unOp, ret1, pubL, pubC_agg, pubC_s, pubC_i, pubC_b, pubC_p, pubC_np, pubC_nsl, pubC_ws, pubC_full, pubC_shut, pubC_fn, pubA, initT, wkZ, wk, wants, resOf, tupOf, quiet, AOp.cls, Nat.beq_eq, Bool.or_eq_true, decide_true, decide_false, beq_self_eq_true, Bool.true_or, Bool.or_true, true_and, and_true, lenA, eqv, eqB, eqP, scal, new_box_self, List.getElem?_cons_zero, List.getElem?_cons_succ, key_ii, key_ss, findM, updM, esc_i, esc_s, esc_b, Int.reduceEq, ret1, new_nb, new_set, reduceCtorEq, Bool.xor_true, Bool.xor_false, Bool.false_eq_true, List.all_cons, List.all_nil, noTok, Bool.and_self, Bool.and_true, Bool.true_and, or_true, false_or, h6]
    exact KR_some hov rfl rfl
end Go.Proofs.YtfpoihibfajhlaaDoor
