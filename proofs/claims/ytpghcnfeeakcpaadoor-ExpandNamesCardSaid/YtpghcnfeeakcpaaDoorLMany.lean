/-
  A text of one letter, made by writing into a row of bytes.
-/
import Derived.Test.YtpghcnfeeakcpaaDoorFns
import Derived.Test.YtpghcnfeeakcpaaDoorAmWp
import Derived.Test.YtpghcnfeeakcpaaDoorAmMemo
set_option linter.all false
set_option linter.unusedVariables false
set_option linter.unusedSimpArgs false
set_option linter.unusedSectionVars false
set_option maxRecDepth 100000
set_option linter.unusedSimpArgs false
namespace Go.Proofs.YtpghcnfeeakcpaaDoor
open Go.Proofs.YtpghcnfeeakcpaaDoor.Am

theorem repL_one (z : AV) : ∀ n, repL n [z] = List.replicate n z
  | 0 => rfl
  | n + 1 => by simp [repL, repL_one z n, List.replicate_succ]
theorem bytesL_rep : ∀ n, bytesL (List.replicate n (AV.i .u8 97)) = some (List.replicate n 97)
  | 0 => rfl
  | n + 1 => by simp only [List.replicate_succ, bytesL, bytesL_rep n]; rfl
def bm (i n : Nat) : List AV := List.replicate i (.i .u8 97) ++ List.replicate (n - i) (.i .u8 0)
theorem bm_len {i n : Nat} (h : i ≤ n) : (bm i n).length = n := by simp [bm]; omega
theorem bm_over {i n : Nat} (h : i < n) : over (bm i n) i [.i .u8 97] = some (bm (i + 1) n) := by
  unfold over
  rw [bm_len (by omega), if_pos (by simp; omega)]
  congr 1
  simp only [bm, List.length_cons, List.length_nil]
  rw [List.take_append_of_le_length (by simp), List.drop_append, List.take_of_length_le (by simp)]
  simp only [List.length_replicate, List.drop_replicate]
  rw [show i - (i + (0 + 1)) = 0 by omega, List.replicate_zero, List.nil_append, show n - i - (i + (0 + 1) - i) = n - (i + 1) by omega, List.replicate_succ', List.append_assoc]
theorem cut_all (l : List AV) : cut l 0 l.length = some l := by simp [cut]

theorem W_thw {σ : Self} {e : Tr} {s : St} {Q : Ex → Tr → St → Prop} (t : Nat) : W σ (.thw t) e s Q ↔ WS (thawA s (e.get t)) (fun v s => Q .n (e.set 10 t v) s) := by
  unfold W WS
  simp only [evC]
  cases thawA s (e.get t) <;> exact Iff.rfl
theorem natOf_nat' (k : IntKind) (i : Nat) : natOf (.i k (i : Int)) = some i := by simp [natOf]
theorem wrap_nat' {i : Nat} (h : i < 2 ^ 63) : IntKind.i64.wrap (i : Int) = i := by
  have e1 : ((i : Int) % 2 ^ 64) = i := by omega
  simp only [IntKind.wrap, IntKind.signed, IntKind.bits, e1]
  rw [if_neg]
  simp; omega
theorem wrap_succ' {i : Nat} (h : i + 1 < 2 ^ 63) : IntKind.i64.wrap ((i : Int) + 1) = ((i + 1 : Nat) : Int) := by
  rw [← wrap_nat' h]; simp
theorem thaw_bl (s : St) (id es off n : Nat) (x : Option Nat) : thawA s (.bl id es off n x) = some (.bl id es off n x, s) := rfl
theorem row_new (s : St) (T n : Nat) (l : List AV) (h : l.length = n) : rowB (s.new (.cells T l)) s.nb 0 n = some l := by
  subst h
  simp [rowB, St.cells?, new_box_self, cut_all]
theorem st_new (s : St) (T o : Nat) (l l' : List AV) (k : IntKind) (z : Int) (h : over l o [.i k z] = some l') : stA (s.new (.cells T l)) 1 (.p s.nb o) (.i k z) = some (s.new (.cells T l')) := by
  simp [stA, new_box_self, AV.cells, ones, h, esc_i, new_set]
theorem many_ok (n : Nat) (hn : n < 2 ^ 38) (s : St) : (lim prog).call f_touchstonelaw05_many [.i .i64 n] s = some (.s (List.replicate n 97), s) := by
  refine fn_W p_touchstonelaw05_many rfl rfl ?_
  have h0 : (0 : Int) ≤ n ∧ (n : Int) ≤ n ∧ (n : Int) * ((1 : Nat) : Int) < 2 ^ 38 ∧ (n : Int) < 2 ^ 38 := by omega
  simp only [c_touchstonelaw05_many, W_seq, W_reg, W_cond, W_blk, W_skip, W_exit, W_ret, W_regD, WO_nil, WO_cons, WO_guard2, wantV_b, bq_tt, bq_ft, bq_tf, bq_ff, Bool.not_true, Bool.not_false, WD_nil, WD_cons, WD_guard2, WS_some, WS_none, KS_n, KS_x, KS_r, KB_n, KB_x, KB_r, KN_ap, KO_ap, KD_ap, KC_nil, KF_n, KF_r, KL_n, KL_x, KL_r, CP_true, CP_false, evOp, evX, X.ev, optX, put_some, put_none, get_set2, sel_t, sel_f, Nat.reduceBEq, Nat.reduceAdd, Nat.reduceLT, Nat.reduceLeDiff, Nat.reduceEqDiff, reduceIte, if_true, if_false, bi_add, bi_sub, bi_mul, bi_eql, bi_neq, bi_lss, bi_leq, bi_gtr, bi_geq, bs_eql, bs_neq, bs_lss, Am.unOp, ret1, pubL, pub, pubA, initT, wkZ, wk, wants, resOf, tupOf, quiet, AOp.cls, Nat.beq_eq, Bool.or_eq_true, decide_true, decide_false, beq_self_eq_true, Bool.true_or, Bool.or_true, true_and, and_true, lenA, eqv, eqB, eqP, scal, new_box_self, List.getElem?_cons_zero, List.getElem?_cons_succ, key_ii, key_ss, findM, updM, esc_i, esc_s, esc_b, Int.reduceEq, ret1, new_nb, new_set, reduceCtorEq, Bool.xor_true, Bool.xor_false, Bool.false_eq_true, List.all_cons, List.all_nil, noTok, Bool.and_self, Bool.and_true, Bool.true_and, if_pos h0, Int.toNat_natCast, Nat.mul_one, repL_one]
  refine W_loop (fun m e s1 => ∃ i : Nat, i + m = n ∧ s1 = s.enter.new (.cells 5 (bm i n)) ∧ e.get 0 = .i .i64 n ∧ e.get 3 = .bl s.enter.nb 1 0 n (some n) ∧ e.get 4 = .i .i64 i) ?_ n _ _ ?_
  · rintro m e s1 ⟨i, hi, rfl, h0, h3, h4⟩
    simp only [W_seq, W_reg, W_cond, W_blk, W_skip, W_exit, W_ret, W_regD, WO_nil, WO_cons, WO_guard2, wantV_b, bq_tt, bq_ft, bq_tf, bq_ff, Bool.not_true, Bool.not_false, WD_nil, WD_cons, WD_guard2, WS_some, WS_none, KS_n, KS_x, KS_r, KB_n, KB_x, KB_r, KN_ap, KO_ap, KD_ap, KC_nil, KF_n, KF_r, KL_n, KL_x, KL_r, CP_true, CP_false, evOp, evX, X.ev, optX, put_some, put_none, get_set2, sel_t, sel_f, Nat.reduceBEq, Nat.reduceAdd, Nat.reduceLT, Nat.reduceLeDiff, Nat.reduceEqDiff, reduceIte, if_true, if_false, bi_add, bi_sub, bi_mul, bi_eql, bi_neq, bi_lss, bi_leq, bi_gtr, bi_geq, bs_eql, bs_neq, bs_lss, Am.unOp, ret1, pubL, pub, pubA, initT, wkZ, wk, wants, resOf, tupOf, quiet, AOp.cls, Nat.beq_eq, Bool.or_eq_true, decide_true, decide_false, beq_self_eq_true, Bool.true_or, Bool.or_true, true_and, and_true, lenA, eqv, eqB, eqP, scal, new_box_self, List.getElem?_cons_zero, List.getElem?_cons_succ, key_ii, key_ss, findM, updM, esc_i, esc_s, esc_b, Int.reduceEq, ret1, new_nb, new_set, reduceCtorEq, Bool.xor_true, Bool.xor_false, Bool.false_eq_true, List.all_cons, List.all_nil, noTok, Bool.and_self, Bool.and_true, Bool.true_and, h0, h3, h4]
    refine CP_dec (fun hlt => ?_) (fun hge => ?_)
    · have hlt : i < n := by omega
      simp only [W_seq, W_reg, W_cond, W_blk, W_skip, W_exit, W_ret, W_regD, WO_nil, WO_cons, WO_guard2, wantV_b, bq_tt, bq_ft, bq_tf, bq_ff, Bool.not_true, Bool.not_false, WD_nil, WD_cons, WD_guard2, WS_some, WS_none, KS_n, KS_x, KS_r, KB_n, KB_x, KB_r, KN_ap, KO_ap, KD_ap, KC_nil, KF_n, KF_r, KL_n, KL_x, KL_r, CP_true, CP_false, evOp, evX, X.ev, optX, put_some, put_none, get_set2, sel_t, sel_f, Nat.reduceBEq, Nat.reduceAdd, Nat.reduceLT, Nat.reduceLeDiff, Nat.reduceEqDiff, reduceIte, if_true, if_false, bi_add, bi_sub, bi_mul, bi_eql, bi_neq, bi_lss, bi_leq, bi_gtr, bi_geq, bs_eql, bs_neq, bs_lss, Am.unOp, ret1, pubL, pub, pubA, initT, wkZ, wk, wants, resOf, tupOf, quiet, AOp.cls, Nat.beq_eq, Bool.or_eq_true, decide_true, decide_false, beq_self_eq_true, Bool.true_or, Bool.or_true, true_and, and_true, lenA, eqv, eqB, eqP, scal, new_box_self, List.getElem?_cons_zero, List.getElem?_cons_succ, key_ii, key_ss, findM, updM, esc_i, esc_s, esc_b, Int.reduceEq, ret1, new_nb, new_set, reduceCtorEq, Bool.xor_true, Bool.xor_false, Bool.false_eq_true, List.all_cons, List.all_nil, noTok, Bool.and_self, Bool.and_true, Bool.true_and, W_thw, h0, h3, h4, thaw_bl, natOf_nat', hlt, and_self, if_pos, Nat.mul_one, Nat.zero_add, st_new _ _ _ _ _ _ _ (bm_over hlt), wrap_succ' (show i + 1 < 2 ^ 63 by omega)]
      exact ⟨m - 1, by omega, i + 1, by omega, rfl, rfl⟩
    · obtain rfl : i = n := by omega
      simp only [W_seq, W_reg, W_cond, W_blk, W_skip, W_exit, W_ret, W_regD, WO_nil, WO_cons, WO_guard2, wantV_b, bq_tt, bq_ft, bq_tf, bq_ff, Bool.not_true, Bool.not_false, WD_nil, WD_cons, WD_guard2, WS_some, WS_none, KS_n, KS_x, KS_r, KB_n, KB_x, KB_r, KN_ap, KO_ap, KD_ap, KC_nil, KF_n, KF_r, KL_n, KL_x, KL_r, CP_true, CP_false, evOp, evX, X.ev, optX, put_some, put_none, get_set2, sel_t, sel_f, Nat.reduceBEq, Nat.reduceAdd, Nat.reduceLT, Nat.reduceLeDiff, Nat.reduceEqDiff, reduceIte, if_true, if_false, bi_add, bi_sub, bi_mul, bi_eql, bi_neq, bi_lss, bi_leq, bi_gtr, bi_geq, bs_eql, bs_neq, bs_lss, Am.unOp, ret1, pubL, pub, pubA, initT, wkZ, wk, wants, resOf, tupOf, quiet, AOp.cls, Nat.beq_eq, Bool.or_eq_true, decide_true, decide_false, beq_self_eq_true, Bool.true_or, Bool.or_true, true_and, and_true, lenA, eqv, eqB, eqP, scal, new_box_self, List.getElem?_cons_zero, List.getElem?_cons_succ, key_ii, key_ss, findM, updM, esc_i, esc_s, esc_b, Int.reduceEq, ret1, new_nb, new_set, reduceCtorEq, Bool.xor_true, Bool.xor_false, Bool.false_eq_true, List.all_cons, List.all_nil, noTok, Bool.and_self, Bool.and_true, Bool.true_and, bm, Nat.sub_self, List.replicate_zero, List.append_nil, row_new _ _ _ _ (List.length_replicate), bytesL_rep]
      exact ⟨_, _, rfl, (Over.enter s).new _, rfl, rfl⟩
  · simp only [W_seq, W_reg, W_cond, W_blk, W_skip, W_exit, W_ret, W_regD, WO_nil, WO_cons, WO_guard2, wantV_b, bq_tt, bq_ft, bq_tf, bq_ff, Bool.not_true, Bool.not_false, WD_nil, WD_cons, WD_guard2, WS_some, WS_none, KS_n, KS_x, KS_r, KB_n, KB_x, KB_r, KN_ap, KO_ap, KD_ap, KC_nil, KF_n, KF_r, KL_n, KL_x, KL_r, CP_true, CP_false, evOp, evX, X.ev, optX, put_some, put_none, get_set2, sel_t, sel_f, Nat.reduceBEq, Nat.reduceAdd, Nat.reduceLT, Nat.reduceLeDiff, Nat.reduceEqDiff, reduceIte, if_true, if_false, bi_add, bi_sub, bi_mul, bi_eql, bi_neq, bi_lss, bi_leq, bi_gtr, bi_geq, bs_eql, bs_neq, bs_lss, Am.unOp, ret1, pubL, pub, pubA, initT, wkZ, wk, wants, resOf, tupOf, quiet, AOp.cls, Nat.beq_eq, Bool.or_eq_true, decide_true, decide_false, beq_self_eq_true, Bool.true_or, Bool.or_true, true_and, and_true, lenA, eqv, eqB, eqP, scal, new_box_self, List.getElem?_cons_zero, List.getElem?_cons_succ, key_ii, key_ss, findM, updM, esc_i, esc_s, esc_b, Int.reduceEq, ret1, new_nb, new_set, reduceCtorEq, Bool.xor_true, Bool.xor_false, Bool.false_eq_true, List.all_cons, List.all_nil, noTok, Bool.and_self, Bool.and_true, Bool.true_and]
    exact ⟨0, by omega, by simp [bm], rfl⟩
theorem many_ent {n : Nat} {x : Ent} (h : (Nat.blt n 4096 && (beqAL x.args [.i .i64 n] && (beqA x.r (.s (List.replicate n 97)) && beqSt x.s x.s'))) = true) : x.ok prog f_touchstonelaw05_many := by
  simp only [Bool.and_eq_true] at h
  obtain ⟨h1, h2, h3, h4⟩ := h
  unfold Ent.ok
  rw [beqAL_eq _ _ h2, beqA_eq _ _ h3, ← beqSt_eq h4]
  exact many_ok n (by rw [Nat.blt_eq] at h1; omega) x.s
end Go.Proofs.YtpghcnfeeakcpaaDoor
