/-
  The law PathPlaces on the abstract machine.
-/
import Derived.Test.YtmeahkccilkofaaDoorLPath
import Derived.Test.YtmeahkccilkofaaDoorLOrder
import Derived.Test.YtmeahkccilkofaaDoorAmPrim
import Derived.Test.YtmeahkccilkofaaDoorAmLaw
import Derived.KernelRfl
set_option linter.all false
set_option linter.unusedVariables false
set_option linter.unusedSimpArgs false
set_option linter.unusedSectionVars false
set_option maxRecDepth 100000
set_option linter.unusedSimpArgs false
namespace Go.Proofs.YtmeahkccilkofaaDoor
open Go.Proofs.YtmeahkccilkofaaDoor.Am

theorem awake_run : (run prog 100).call f_touchstonelaw06_awake [] s0 = some (.b true, s0) := by kernel_rfl
theorem awake_ok : (lim prog).call f_touchstonelaw06_awake [] (St.enter s0) = some (.b true, St.enter s0) := lim_call_iff.2 ⟨100, awake_run⟩

def rows (L : List (List Nat)) : List Nat := L.flatMap fun x => 47 :: x
def showP (L : List (List Nat)) : List Nat := if L = [] then [47] else rows L

theorem rows_join : ∀ {L : List (List Nat)}, L ≠ [] → rows L = 47 :: joinN [47] L
  | [], h => absurd rfl h
  | [a], _ => by simp [rows, joinN]
  | a :: b :: L, _ => by
    have ih := rows_join (L := b :: L) (by simp)
    simp only [rows, List.flatMap_cons] at ih ⊢
    rw [ih]
    simp [joinN]

theorem rows_len {n : Nat} : ∀ {L : List (List Nat)}, (∀ x ∈ L, x.length ≤ n) → (rows L).length ≤ L.length * (n + 1)
  | [], _ => by simp [rows]
  | a :: L, h => by
    have ih := rows_len (n := n) (L := L) fun x hx => h x (List.mem_cons_of_mem _ hx)
    have ha := h a (by simp)
    simp only [rows, List.flatMap_cons, List.length_append, List.length_cons] at ih ⊢
    rw [Nat.add_mul (L.length) 1 (n + 1)]
    omega

theorem bs_add_of {x y : List Nat} (h : x.length + y.length < 2 ^ 62) : Am.binOp .add (.s x) (.s y) = some (.s (x ++ y)) := by rw [bs_add, if_pos h]

/-- A short place. -/
structure Sh (L : List (List Nat)) : Prop where
  n : L.length ≤ 100
  l : ∀ x ∈ L, x.length ≤ 500

theorem join_ok {L : List (List Nat)} (h : Sh L) (s : St) : (lim prog).call f_strings_Join [tx L, .s [47]] s = some (.s (joinN [47] L), s) := by
  refine prim_call (p := primJoin) p_strings_Join rfl ?_
  have hl : (joinN [47] L).length ≤ 2 ^ 47 := by
    by_cases hn : L = []
    · subst hn; simp [joinN]
    · have h1 := rows_len h.l
      rw [rows_join hn] at h1
      have := Nat.mul_le_mul_right 501 h.n
      simp only [List.length_cons] at h1
      omega
  simp only [primJoin, txtsOf, txtL_tx]
  rw [if_pos ⟨by have := h.n; omega, hl⟩]

theorem show_ok {L : List (List Nat)} (h : Sh L) (s : St) : (lim prog).call f_path_Show [tx L] s = some (.s (showP L), s) := by
  refine fn_W p_path_Show rfl rfl ?_
  by_cases hn : L = []
  · subst hn
    simp only [c_path_Show, W_seq, W_reg, W_cond, W_blk, W_skip, W_exit, W_ret, W_regD, WO_nil, WO_cons, WO_guard2, wantV_b, bq_tt, bq_ft, bq_tf, bq_ff, Bool.not_true, Bool.not_false, WD_nil, WD_cons, WD_guard2, WS_some, WS_none, KS_n, KS_x, KS_r, KB_n, KB_x, KB_r, KN_ap, KO_ap, KD_ap, KC_nil, KF_n, KF_r, KL_n, KL_x, KL_r, CP_true, CP_false, evOp, evX, X.ev, optX, put_some, put_none, get_set2, sel_t, sel_f, Nat.reduceBEq, Nat.reduceAdd, Nat.reduceLT, Nat.reduceLeDiff, Nat.reduceEqDiff, reduceIte, if_true, if_false, bi_add, bi_sub, bi_mul, bi_eql, bi_neq, bi_lss, bi_leq, bi_gtr, bi_geq, bs_eql, bs_neq, bs_lss, Am.unOp, ret1, pubL, pub, pubA, initT, wkZ, wk, wants, resOf, tupOf, quiet, AOp.cls, Nat.beq_eq, Bool.or_eq_true, decide_true, decide_false, beq_self_eq_true, Bool.true_or, Bool.or_true, true_and, and_true, lenA, eqv, eqB, eqP, scal, new_box_self, List.getElem?_cons_zero, List.getElem?_cons_succ, key_ii, key_ss, findM, updM, esc_i, esc_s, esc_b, Int.reduceEq, ret1, new_nb, new_set, reduceCtorEq, Bool.xor_true, Bool.xor_false, Bool.false_eq_true, List.all_cons, List.all_nil, noTok, Bool.and_self, Bool.and_true, Bool.true_and, List.map_nil, List.length_nil, ofNat_len, Int.ofNat_zero]
    exact KR_some (Over.enter s) rfl rfl
  · have h1 := rows_len h.l
    rw [rows_join hn] at h1
    have := Nat.mul_le_mul_right 501 h.n
    simp only [List.length_cons] at h1
    have hadd := bs_add_of (x := [47]) (y := joinN [47] L) (by simp; omega)
    have hl : ¬ (Int.ofNat L.length = 0) := by
      cases L with
      | nil => exact absurd rfl hn
      | cons a L => simp; omega
    simp only [c_path_Show, W_seq, W_reg, W_cond, W_blk, W_skip, W_exit, W_ret, W_regD, WO_nil, WO_cons, WO_guard2, wantV_b, bq_tt, bq_ft, bq_tf, bq_ff, Bool.not_true, Bool.not_false, WD_nil, WD_cons, WD_guard2, WS_some, WS_none, KS_n, KS_x, KS_r, KB_n, KB_x, KB_r, KN_ap, KO_ap, KD_ap, KC_nil, KF_n, KF_r, KL_n, KL_x, KL_r, CP_true, CP_false, evOp, evX, X.ev, optX, put_some, put_none, get_set2, sel_t, sel_f, Nat.reduceBEq, Nat.reduceAdd, Nat.reduceLT, Nat.reduceLeDiff, Nat.reduceEqDiff, reduceIte, if_true, if_false, bi_add, bi_sub, bi_mul, bi_eql, bi_neq, bi_lss, bi_leq, bi_gtr, bi_geq, bs_eql, bs_neq, bs_lss, Am.unOp, ret1, pubL, pub, pubA, initT, wkZ, wk, wants, resOf, tupOf, quiet, AOp.cls, Nat.beq_eq, Bool.or_eq_true, decide_true, decide_false, beq_self_eq_true, Bool.true_or, Bool.or_true, true_and, and_true, lenA, eqv, eqB, eqP, scal, new_box_self, List.getElem?_cons_zero, List.getElem?_cons_succ, key_ii, key_ss, findM, updM, esc_i, esc_s, esc_b, Int.reduceEq, ret1, new_nb, new_set, reduceCtorEq, Bool.xor_true, Bool.xor_false, Bool.false_eq_true, List.all_cons, List.all_nil, noTok, Bool.and_self, Bool.and_true, Bool.true_and, List.length_map, join_ok h, hadd, decide_eq_false hl]
    refine KR_some (Over.enter s) rfl ?_
    simp [tupOf, wkZ, wk, showP, hn, rows_join hn]

theorem ref_show_ok {L : List (List Nat)} (h : Sh L) (s : St) : (lim prog).call f_touchstoneref06_Show [tx L] s = some (.s (showP L), s) := by
  refine fn_W p_touchstoneref06_Show rfl rfl ?_
  by_cases hn : L = []
  · subst hn
    simp only [c_touchstoneref06_Show, W_seq, W_reg, W_cond, W_blk, W_skip, W_exit, W_ret, W_regD, WO_nil, WO_cons, WO_guard2, wantV_b, bq_tt, bq_ft, bq_tf, bq_ff, Bool.not_true, Bool.not_false, WD_nil, WD_cons, WD_guard2, WS_some, WS_none, KS_n, KS_x, KS_r, KB_n, KB_x, KB_r, KN_ap, KO_ap, KD_ap, KC_nil, KF_n, KF_r, KL_n, KL_x, KL_r, CP_true, CP_false, evOp, evX, X.ev, optX, put_some, put_none, get_set2, sel_t, sel_f, Nat.reduceBEq, Nat.reduceAdd, Nat.reduceLT, Nat.reduceLeDiff, Nat.reduceEqDiff, reduceIte, if_true, if_false, bi_add, bi_sub, bi_mul, bi_eql, bi_neq, bi_lss, bi_leq, bi_gtr, bi_geq, bs_eql, bs_neq, bs_lss, Am.unOp, ret1, pubL, pub, pubA, initT, wkZ, wk, wants, resOf, tupOf, quiet, AOp.cls, Nat.beq_eq, Bool.or_eq_true, decide_true, decide_false, beq_self_eq_true, Bool.true_or, Bool.or_true, true_and, and_true, lenA, eqv, eqB, eqP, scal, new_box_self, List.getElem?_cons_zero, List.getElem?_cons_succ, key_ii, key_ss, findM, updM, esc_i, esc_s, esc_b, Int.reduceEq, ret1, new_nb, new_set, reduceCtorEq, Bool.xor_true, Bool.xor_false, Bool.false_eq_true, List.all_cons, List.all_nil, noTok, Bool.and_self, Bool.and_true, Bool.true_and, List.map_nil, List.length_nil, ofNat_len, Int.ofNat_zero]
    exact KR_some (Over.enter s) rfl rfl
  · have hl : ¬ (Int.ofNat L.length = 0) := by
      cases L with
      | nil => exact absurd rfl hn
      | cons a L => simp; omega
    have hbound : ∀ i, i ≤ L.length → (rows (L.take i)).length ≤ 60000 := fun i hi => by
      have h1 := rows_len (n := 500) (L := L.take i) fun x hx => h.l x (List.mem_of_mem_take hx)
      have h2 : (L.take i).length ≤ 100 := by rw [List.length_take]; have := h.n; omega
      have := Nat.mul_le_mul_right 501 h2
      omega
    simp only [c_touchstoneref06_Show, W_seq, W_reg, W_cond, W_blk, W_skip, W_exit, W_ret, W_regD, WO_nil, WO_cons, WO_guard2, wantV_b, bq_tt, bq_ft, bq_tf, bq_ff, Bool.not_true, Bool.not_false, WD_nil, WD_cons, WD_guard2, WS_some, WS_none, KS_n, KS_x, KS_r, KB_n, KB_x, KB_r, KN_ap, KO_ap, KD_ap, KC_nil, KF_n, KF_r, KL_n, KL_x, KL_r, CP_true, CP_false, evOp, evX, X.ev, optX, put_some, put_none, get_set2, sel_t, sel_f, Nat.reduceBEq, Nat.reduceAdd, Nat.reduceLT, Nat.reduceLeDiff, Nat.reduceEqDiff, reduceIte, if_true, if_false, bi_add, bi_sub, bi_mul, bi_eql, bi_neq, bi_lss, bi_leq, bi_gtr, bi_geq, bs_eql, bs_neq, bs_lss, Am.unOp, ret1, pubL, pub, pubA, initT, wkZ, wk, wants, resOf, tupOf, quiet, AOp.cls, Nat.beq_eq, Bool.or_eq_true, decide_true, decide_false, beq_self_eq_true, Bool.true_or, Bool.or_true, true_and, and_true, lenA, eqv, eqB, eqP, scal, new_box_self, List.getElem?_cons_zero, List.getElem?_cons_succ, key_ii, key_ss, findM, updM, esc_i, esc_s, esc_b, Int.reduceEq, ret1, new_nb, new_set, reduceCtorEq, Bool.xor_true, Bool.xor_false, Bool.false_eq_true, List.all_cons, List.all_nil, noTok, Bool.and_self, Bool.and_true, Bool.true_and, List.length_map, decide_eq_false hl]
    refine W_loop (fun n e s1 => s1 = s.enter ∧ e.get 0 = tx L ∧ ∃ i : Nat, i + n = L.length ∧ e.get 4 = .i .i64 i ∧ e.get 3 = .s (rows (L.take i))) ?_ L.length _ _ ?_
    · rintro n e s1 ⟨rfl, h0, i, hi, h4, h3⟩
      simp only [W_seq, W_reg, W_cond, W_blk, W_skip, W_exit, W_ret, W_regD, WO_nil, WO_cons, WO_guard2, wantV_b, bq_tt, bq_ft, bq_tf, bq_ff, Bool.not_true, Bool.not_false, WD_nil, WD_cons, WD_guard2, WS_some, WS_none, KS_n, KS_x, KS_r, KB_n, KB_x, KB_r, KN_ap, KO_ap, KD_ap, KC_nil, KF_n, KF_r, KL_n, KL_x, KL_r, CP_true, CP_false, evOp, evX, X.ev, optX, put_some, put_none, get_set2, sel_t, sel_f, Nat.reduceBEq, Nat.reduceAdd, Nat.reduceLT, Nat.reduceLeDiff, Nat.reduceEqDiff, reduceIte, if_true, if_false, bi_add, bi_sub, bi_mul, bi_eql, bi_neq, bi_lss, bi_leq, bi_gtr, bi_geq, bs_eql, bs_neq, bs_lss, Am.unOp, ret1, pubL, pub, pubA, initT, wkZ, wk, wants, resOf, tupOf, quiet, AOp.cls, Nat.beq_eq, Bool.or_eq_true, decide_true, decide_false, beq_self_eq_true, Bool.true_or, Bool.or_true, true_and, and_true, lenA, eqv, eqB, eqP, scal, new_box_self, List.getElem?_cons_zero, List.getElem?_cons_succ, key_ii, key_ss, findM, updM, esc_i, esc_s, esc_b, Int.reduceEq, ret1, new_nb, new_set, reduceCtorEq, Bool.xor_true, Bool.xor_false, Bool.false_eq_true, List.all_cons, List.all_nil, noTok, Bool.and_self, Bool.and_true, Bool.true_and, h0, h4, h3, List.length_map, ofNat_len]
      refine CP_dec (fun hlt => ?_) (fun hge => ?_)
      · have hlt : i < L.length := by omega
        have hb := hbound i (by omega)
        have hx := h.l L[i] (List.getElem_mem hlt)
        have hn100 := h.n
        have a1 := bs_add_of (x := rows (L.take i)) (y := [47]) (by simp; omega)
        have a2 := bs_add_of (x := rows (L.take i) ++ [47]) (y := L[i]) (by simp; omega)
        simp only [W_seq, W_reg, W_cond, W_blk, W_skip, W_exit, W_ret, W_regD, WO_nil, WO_cons, WO_guard2, wantV_b, bq_tt, bq_ft, bq_tf, bq_ff, Bool.not_true, Bool.not_false, WD_nil, WD_cons, WD_guard2, WS_some, WS_none, KS_n, KS_x, KS_r, KB_n, KB_x, KB_r, KN_ap, KO_ap, KD_ap, KC_nil, KF_n, KF_r, KL_n, KL_x, KL_r, CP_true, CP_false, evOp, evX, X.ev, optX, put_some, put_none, get_set2, sel_t, sel_f, Nat.reduceBEq, Nat.reduceAdd, Nat.reduceLT, Nat.reduceLeDiff, Nat.reduceEqDiff, reduceIte, if_true, if_false, bi_add, bi_sub, bi_mul, bi_eql, bi_neq, bi_lss, bi_leq, bi_gtr, bi_geq, bs_eql, bs_neq, bs_lss, Am.unOp, ret1, pubL, pub, pubA, initT, wkZ, wk, wants, resOf, tupOf, quiet, AOp.cls, Nat.beq_eq, Bool.or_eq_true, decide_true, decide_false, beq_self_eq_true, Bool.true_or, Bool.or_true, true_and, and_true, lenA, eqv, eqB, eqP, scal, new_box_self, List.getElem?_cons_zero, List.getElem?_cons_succ, key_ii, key_ss, findM, updM, esc_i, esc_s, esc_b, Int.reduceEq, ret1, new_nb, new_set, reduceCtorEq, Bool.xor_true, Bool.xor_false, Bool.false_eq_true, List.all_cons, List.all_nil, noTok, Bool.and_self, Bool.and_true, Bool.true_and, h0, h4, h3, List.length_map, ofNat_len, natOf_nat, tx_get hlt, cells_s, ldA_1, a1, a2, wrap_succ (show i + 1 < 2 ^ 63 by omega)]
        refine ⟨n - 1, by omega, i + 1, by omega, rfl, ?_⟩
        have ht : L.take (i + 1) = L.take i ++ [L[i]] := (List.take_append_getElem hlt).symm
        simp only [rows, ht, List.flatMap_append, List.flatMap_cons, List.flatMap_nil, List.append_nil, List.append_assoc, List.cons_append, List.nil_append]
      · have hi' : i = L.length := by omega
        subst hi'
        try simp only [W_seq, W_reg, W_cond, W_blk, W_skip, W_exit, W_ret, W_regD, WO_nil, WO_cons, WO_guard2, wantV_b, bq_tt, bq_ft, bq_tf, bq_ff, Bool.not_true, Bool.not_false, WD_nil, WD_cons, WD_guard2, WS_some, WS_none, KS_n, KS_x, KS_r, KB_n, KB_x, KB_r, KN_ap, KO_ap, KD_ap, KC_nil, KF_n, KF_r, KL_n, KL_x, KL_r, CP_true, CP_false, evOp, evX, X.ev, optX, put_some, put_none, get_set2, sel_t, sel_f, Nat.reduceBEq, Nat.reduceAdd, Nat.reduceLT, Nat.reduceLeDiff, Nat.reduceEqDiff, reduceIte, if_true, if_false, bi_add, bi_sub, bi_mul, bi_eql, bi_neq, bi_lss, bi_leq, bi_gtr, bi_geq, bs_eql, bs_neq, bs_lss, Am.unOp, ret1, pubL, pub, pubA, initT, wkZ, wk, wants, resOf, tupOf, quiet, AOp.cls, Nat.beq_eq, Bool.or_eq_true, decide_true, decide_false, beq_self_eq_true, Bool.true_or, Bool.or_true, true_and, and_true, lenA, eqv, eqB, eqP, scal, new_box_self, List.getElem?_cons_zero, List.getElem?_cons_succ, key_ii, key_ss, findM, updM, esc_i, esc_s, esc_b, Int.reduceEq, ret1, new_nb, new_set, reduceCtorEq, Bool.xor_true, Bool.xor_false, Bool.false_eq_true, List.all_cons, List.all_nil, noTok, Bool.and_self, Bool.and_true, Bool.true_and, h3]
        refine KR_some (Over.enter s) rfl ?_
        simp [tupOf, wkZ, wk, showP, hn]
    · simp only [W_seq, W_reg, W_cond, W_blk, W_skip, W_exit, W_ret, W_regD, WO_nil, WO_cons, WO_guard2, wantV_b, bq_tt, bq_ft, bq_tf, bq_ff, Bool.not_true, Bool.not_false, WD_nil, WD_cons, WD_guard2, WS_some, WS_none, KS_n, KS_x, KS_r, KB_n, KB_x, KB_r, KN_ap, KO_ap, KD_ap, KC_nil, KF_n, KF_r, KL_n, KL_x, KL_r, CP_true, CP_false, evOp, evX, X.ev, optX, put_some, put_none, get_set2, sel_t, sel_f, Nat.reduceBEq, Nat.reduceAdd, Nat.reduceLT, Nat.reduceLeDiff, Nat.reduceEqDiff, reduceIte, if_true, if_false, bi_add, bi_sub, bi_mul, bi_eql, bi_neq, bi_lss, bi_leq, bi_gtr, bi_geq, bs_eql, bs_neq, bs_lss, Am.unOp, ret1, pubL, pub, pubA, initT, wkZ, wk, wants, resOf, tupOf, quiet, AOp.cls, Nat.beq_eq, Bool.or_eq_true, decide_true, decide_false, beq_self_eq_true, Bool.true_or, Bool.or_true, true_and, and_true, lenA, eqv, eqB, eqP, scal, new_box_self, List.getElem?_cons_zero, List.getElem?_cons_succ, key_ii, key_ss, findM, updM, esc_i, esc_s, esc_b, Int.reduceEq, ret1, new_nb, new_set, reduceCtorEq, Bool.xor_true, Bool.xor_false, Bool.false_eq_true, List.all_cons, List.all_nil, noTok, Bool.and_self, Bool.and_true, Bool.true_and]
      exact ⟨0, by omega, rfl, by simp [rows]⟩

theorem ref_less_ok {L M : List (List Nat)} (hL : L.length < 2 ^ 62) (s : St) : (lim prog).call f_touchstoneref06_Less [tx L, tx M] s = some (.b (lessP L M), s) := by
  refine fn_W p_touchstoneref06_Less rfl rfl ?_
  simp only [c_touchstoneref06_Less, W_seq, W_reg, W_cond, W_blk, W_skip, W_exit, W_ret, W_regD, WO_nil, WO_cons, WO_guard2, wantV_b, bq_tt, bq_ft, bq_tf, bq_ff, Bool.not_true, Bool.not_false, WD_nil, WD_cons, WD_guard2, WS_some, WS_none, KS_n, KS_x, KS_r, KB_n, KB_x, KB_r, KN_ap, KO_ap, KD_ap, KC_nil, KF_n, KF_r, KL_n, KL_x, KL_r, CP_true, CP_false, evOp, evX, X.ev, optX, put_some, put_none, get_set2, sel_t, sel_f, Nat.reduceBEq, Nat.reduceAdd, Nat.reduceLT, Nat.reduceLeDiff, Nat.reduceEqDiff, reduceIte, if_true, if_false, bi_add, bi_sub, bi_mul, bi_eql, bi_neq, bi_lss, bi_leq, bi_gtr, bi_geq, bs_eql, bs_neq, bs_lss, Am.unOp, ret1, pubL, pub, pubA, initT, wkZ, wk, wants, resOf, tupOf, quiet, AOp.cls, Nat.beq_eq, Bool.or_eq_true, decide_true, decide_false, beq_self_eq_true, Bool.true_or, Bool.or_true, true_and, and_true, lenA, eqv, eqB, eqP, scal, new_box_self, List.getElem?_cons_zero, List.getElem?_cons_succ, key_ii, key_ss, findM, updM, esc_i, esc_s, esc_b, Int.reduceEq, ret1, new_nb, new_set, reduceCtorEq, Bool.xor_true, Bool.xor_false, Bool.false_eq_true, List.all_cons, List.all_nil, noTok, Bool.and_self, Bool.and_true, Bool.true_and]
  refine W_loop (fun n e s1 => s1 = s.enter ∧ e.get 0 = tx L ∧ e.get 1 = tx M ∧ ∃ i : Nat, i + n = L.length ∧ e.get 5 = .i .i64 i ∧ i ≤ M.length ∧ lessP L M = lessP (L.drop i) (M.drop i)) ?_ L.length _ _ ?_
  · rintro n e s1 ⟨rfl, h0, h1, i, hi, h5, him, hp⟩
    have fin : ¬ (i < L.length ∧ i < M.length) → lessP L M = decide (Int.ofNat L.length < Int.ofNat M.length) := by
      intro hno
      rw [hp]
      by_cases h2 : i < L.length
      · have : M.drop i = [] := List.drop_eq_nil_iff.2 (by omega)
        rw [this, List.drop_eq_getElem_cons h2]
        have : ¬ (L.length < M.length) := by omega
        simp [lessP, cmpT, this]
      · have hd : L.drop i = [] := List.drop_eq_nil_iff.2 (by omega)
        rw [hd]
        by_cases h3 : i < M.length
        · rw [List.drop_eq_getElem_cons h3]
          have : L.length < M.length := by omega
          simp [lessP, cmpT, this]
        · have : M.drop i = [] := List.drop_eq_nil_iff.2 (by omega)
          rw [this]
          have : ¬ (L.length < M.length) := by omega
          simp [lessP, cmpT, this]
    by_cases hlt : i < L.length
    · by_cases hlm : i < M.length
      · simp only [W_seq, W_reg, W_cond, W_blk, W_skip, W_exit, W_ret, W_regD, WO_nil, WO_cons, WO_guard2, wantV_b, bq_tt, bq_ft, bq_tf, bq_ff, Bool.not_true, Bool.not_false, WD_nil, WD_cons, WD_guard2, WS_some, WS_none, KS_n, KS_x, KS_r, KB_n, KB_x, KB_r, KN_ap, KO_ap, KD_ap, KC_nil, KF_n, KF_r, KL_n, KL_x, KL_r, CP_true, CP_false, evOp, evX, X.ev, optX, put_some, put_none, get_set2, sel_t, sel_f, Nat.reduceBEq, Nat.reduceAdd, Nat.reduceLT, Nat.reduceLeDiff, Nat.reduceEqDiff, reduceIte, if_true, if_false, bi_add, bi_sub, bi_mul, bi_eql, bi_neq, bi_lss, bi_leq, bi_gtr, bi_geq, bs_eql, bs_neq, bs_lss, Am.unOp, ret1, pubL, pub, pubA, initT, wkZ, wk, wants, resOf, tupOf, quiet, AOp.cls, Nat.beq_eq, Bool.or_eq_true, decide_true, decide_false, beq_self_eq_true, Bool.true_or, Bool.or_true, true_and, and_true, lenA, eqv, eqB, eqP, scal, new_box_self, List.getElem?_cons_zero, List.getElem?_cons_succ, key_ii, key_ss, findM, updM, esc_i, esc_s, esc_b, Int.reduceEq, ret1, new_nb, new_set, reduceCtorEq, Bool.xor_true, Bool.xor_false, Bool.false_eq_true, List.all_cons, List.all_nil, noTok, Bool.and_self, Bool.and_true, Bool.true_and, h0, h1, h5, List.length_map, ofNat_len, cast_lt hlt, cast_lt hlm]
        simp only [W_seq, W_reg, W_cond, W_blk, W_skip, W_exit, W_ret, W_regD, WO_nil, WO_cons, WO_guard2, wantV_b, bq_tt, bq_ft, bq_tf, bq_ff, Bool.not_true, Bool.not_false, WD_nil, WD_cons, WD_guard2, WS_some, WS_none, KS_n, KS_x, KS_r, KB_n, KB_x, KB_r, KN_ap, KO_ap, KD_ap, KC_nil, KF_n, KF_r, KL_n, KL_x, KL_r, CP_true, CP_false, evOp, evX, X.ev, optX, put_some, put_none, get_set2, sel_t, sel_f, Nat.reduceBEq, Nat.reduceAdd, Nat.reduceLT, Nat.reduceLeDiff, Nat.reduceEqDiff, reduceIte, if_true, if_false, bi_add, bi_sub, bi_mul, bi_eql, bi_neq, bi_lss, bi_leq, bi_gtr, bi_geq, bs_eql, bs_neq, bs_lss, Am.unOp, ret1, pubL, pub, pubA, initT, wkZ, wk, wants, resOf, tupOf, quiet, AOp.cls, Nat.beq_eq, Bool.or_eq_true, decide_true, decide_false, beq_self_eq_true, Bool.true_or, Bool.or_true, true_and, and_true, lenA, eqv, eqB, eqP, scal, new_box_self, List.getElem?_cons_zero, List.getElem?_cons_succ, key_ii, key_ss, findM, updM, esc_i, esc_s, esc_b, Int.reduceEq, ret1, new_nb, new_set, reduceCtorEq, Bool.xor_true, Bool.xor_false, Bool.false_eq_true, List.all_cons, List.all_nil, noTok, Bool.and_self, Bool.and_true, Bool.true_and, h0, h1, h5, List.length_map, ofNat_len, natOf_nat, tx_get hlt, tx_get hlm, cells_s, ldA_1]
        rw [List.drop_eq_getElem_cons hlt, List.drop_eq_getElem_cons hlm] at hp
        refine CP_dec (fun hne => ?_) (fun he => ?_)
        · try simp only [W_seq, W_reg, W_cond, W_blk, W_skip, W_exit, W_ret, W_regD, WO_nil, WO_cons, WO_guard2, wantV_b, bq_tt, bq_ft, bq_tf, bq_ff, Bool.not_true, Bool.not_false, WD_nil, WD_cons, WD_guard2, WS_some, WS_none, KS_n, KS_x, KS_r, KB_n, KB_x, KB_r, KN_ap, KO_ap, KD_ap, KC_nil, KF_n, KF_r, KL_n, KL_x, KL_r, CP_true, CP_false, evOp, evX, X.ev, optX, put_some, put_none, get_set2, sel_t, sel_f, Nat.reduceBEq, Nat.reduceAdd, Nat.reduceLT, Nat.reduceLeDiff, Nat.reduceEqDiff, reduceIte, if_true, if_false, bi_add, bi_sub, bi_mul, bi_eql, bi_neq, bi_lss, bi_leq, bi_gtr, bi_geq, bs_eql, bs_neq, bs_lss, Am.unOp, ret1, pubL, pub, pubA, initT, wkZ, wk, wants, resOf, tupOf, quiet, AOp.cls, Nat.beq_eq, Bool.or_eq_true, decide_true, decide_false, beq_self_eq_true, Bool.true_or, Bool.or_true, true_and, and_true, lenA, eqv, eqB, eqP, scal, new_box_self, List.getElem?_cons_zero, List.getElem?_cons_succ, key_ii, key_ss, findM, updM, esc_i, esc_s, esc_b, Int.reduceEq, ret1, new_nb, new_set, reduceCtorEq, Bool.xor_true, Bool.xor_false, Bool.false_eq_true, List.all_cons, List.all_nil, noTok, Bool.and_self, Bool.and_true, Bool.true_and, h0, h1, h5, List.length_map, ofNat_len, natOf_nat, tx_get hlt, tx_get hlm, cells_s, ldA_1]
          refine KR_some (Over.enter s) rfl ?_
          have hc : ¬ cmpS L[i] M[i] = 0 := fun hh => hne (cmpS_zero.1 hh)
          have hq : lessP L M = ltN L[i] M[i] := by
            rw [hp]
            simp only [lessP, cmpT, if_neg hc]
            rw [Bool.eq_iff_iff]
            simp only [decide_eq_true_eq]
            exact cmpS_neg
          simp [tupOf, wkZ, wk, hq]
        · have he : L[i] = M[i] := by simpa using he
          try simp only [W_seq, W_reg, W_cond, W_blk, W_skip, W_exit, W_ret, W_regD, WO_nil, WO_cons, WO_guard2, wantV_b, bq_tt, bq_ft, bq_tf, bq_ff, Bool.not_true, Bool.not_false, WD_nil, WD_cons, WD_guard2, WS_some, WS_none, KS_n, KS_x, KS_r, KB_n, KB_x, KB_r, KN_ap, KO_ap, KD_ap, KC_nil, KF_n, KF_r, KL_n, KL_x, KL_r, CP_true, CP_false, evOp, evX, X.ev, optX, put_some, put_none, get_set2, sel_t, sel_f, Nat.reduceBEq, Nat.reduceAdd, Nat.reduceLT, Nat.reduceLeDiff, Nat.reduceEqDiff, reduceIte, if_true, if_false, bi_add, bi_sub, bi_mul, bi_eql, bi_neq, bi_lss, bi_leq, bi_gtr, bi_geq, bs_eql, bs_neq, bs_lss, Am.unOp, ret1, pubL, pub, pubA, initT, wkZ, wk, wants, resOf, tupOf, quiet, AOp.cls, Nat.beq_eq, Bool.or_eq_true, decide_true, decide_false, beq_self_eq_true, Bool.true_or, Bool.or_true, true_and, and_true, lenA, eqv, eqB, eqP, scal, new_box_self, List.getElem?_cons_zero, List.getElem?_cons_succ, key_ii, key_ss, findM, updM, esc_i, esc_s, esc_b, Int.reduceEq, ret1, new_nb, new_set, reduceCtorEq, Bool.xor_true, Bool.xor_false, Bool.false_eq_true, List.all_cons, List.all_nil, noTok, Bool.and_self, Bool.and_true, Bool.true_and, h0, h1, h5, wrap_succ (show i + 1 < 2 ^ 63 by omega)]
          refine ⟨n - 1, by omega, i + 1, by omega, rfl, by omega, ?_⟩
          rw [hp]
          simp only [lessP, cmpT, if_pos (cmpS_zero.2 he)]
      · simp only [W_seq, W_reg, W_cond, W_blk, W_skip, W_exit, W_ret, W_regD, WO_nil, WO_cons, WO_guard2, wantV_b, bq_tt, bq_ft, bq_tf, bq_ff, Bool.not_true, Bool.not_false, WD_nil, WD_cons, WD_guard2, WS_some, WS_none, KS_n, KS_x, KS_r, KB_n, KB_x, KB_r, KN_ap, KO_ap, KD_ap, KC_nil, KF_n, KF_r, KL_n, KL_x, KL_r, CP_true, CP_false, evOp, evX, X.ev, optX, put_some, put_none, get_set2, sel_t, sel_f, Nat.reduceBEq, Nat.reduceAdd, Nat.reduceLT, Nat.reduceLeDiff, Nat.reduceEqDiff, reduceIte, if_true, if_false, bi_add, bi_sub, bi_mul, bi_eql, bi_neq, bi_lss, bi_leq, bi_gtr, bi_geq, bs_eql, bs_neq, bs_lss, Am.unOp, ret1, pubL, pub, pubA, initT, wkZ, wk, wants, resOf, tupOf, quiet, AOp.cls, Nat.beq_eq, Bool.or_eq_true, decide_true, decide_false, beq_self_eq_true, Bool.true_or, Bool.or_true, true_and, and_true, lenA, eqv, eqB, eqP, scal, new_box_self, List.getElem?_cons_zero, List.getElem?_cons_succ, key_ii, key_ss, findM, updM, esc_i, esc_s, esc_b, Int.reduceEq, ret1, new_nb, new_set, reduceCtorEq, Bool.xor_true, Bool.xor_false, Bool.false_eq_true, List.all_cons, List.all_nil, noTok, Bool.and_self, Bool.and_true, Bool.true_and, h0, h1, h5, List.length_map, ofNat_len, cast_lt hlt, cast_nlt hlm]
        refine KR_some (Over.enter s) rfl ?_
        rw [fin (fun hh => hlm hh.2)]
        simp [tupOf, wkZ, wk]
    · simp only [W_seq, W_reg, W_cond, W_blk, W_skip, W_exit, W_ret, W_regD, WO_nil, WO_cons, WO_guard2, wantV_b, bq_tt, bq_ft, bq_tf, bq_ff, Bool.not_true, Bool.not_false, WD_nil, WD_cons, WD_guard2, WS_some, WS_none, KS_n, KS_x, KS_r, KB_n, KB_x, KB_r, KN_ap, KO_ap, KD_ap, KC_nil, KF_n, KF_r, KL_n, KL_x, KL_r, CP_true, CP_false, evOp, evX, X.ev, optX, put_some, put_none, get_set2, sel_t, sel_f, Nat.reduceBEq, Nat.reduceAdd, Nat.reduceLT, Nat.reduceLeDiff, Nat.reduceEqDiff, reduceIte, if_true, if_false, bi_add, bi_sub, bi_mul, bi_eql, bi_neq, bi_lss, bi_leq, bi_gtr, bi_geq, bs_eql, bs_neq, bs_lss, Am.unOp, ret1, pubL, pub, pubA, initT, wkZ, wk, wants, resOf, tupOf, quiet, AOp.cls, Nat.beq_eq, Bool.or_eq_true, decide_true, decide_false, beq_self_eq_true, Bool.true_or, Bool.or_true, true_and, and_true, lenA, eqv, eqB, eqP, scal, new_box_self, List.getElem?_cons_zero, List.getElem?_cons_succ, key_ii, key_ss, findM, updM, esc_i, esc_s, esc_b, Int.reduceEq, ret1, new_nb, new_set, reduceCtorEq, Bool.xor_true, Bool.xor_false, Bool.false_eq_true, List.all_cons, List.all_nil, noTok, Bool.and_self, Bool.and_true, Bool.true_and, h0, h1, h5, List.length_map, ofNat_len, cast_nlt hlt]
      refine KR_some (Over.enter s) rfl ?_
      rw [fin (fun hh => hlt hh.1)]
      simp [tupOf, wkZ, wk]
  · simp only [W_seq, W_reg, W_cond, W_blk, W_skip, W_exit, W_ret, W_regD, WO_nil, WO_cons, WO_guard2, wantV_b, bq_tt, bq_ft, bq_tf, bq_ff, Bool.not_true, Bool.not_false, WD_nil, WD_cons, WD_guard2, WS_some, WS_none, KS_n, KS_x, KS_r, KB_n, KB_x, KB_r, KN_ap, KO_ap, KD_ap, KC_nil, KF_n, KF_r, KL_n, KL_x, KL_r, CP_true, CP_false, evOp, evX, X.ev, optX, put_some, put_none, get_set2, sel_t, sel_f, Nat.reduceBEq, Nat.reduceAdd, Nat.reduceLT, Nat.reduceLeDiff, Nat.reduceEqDiff, reduceIte, if_true, if_false, bi_add, bi_sub, bi_mul, bi_eql, bi_neq, bi_lss, bi_leq, bi_gtr, bi_geq, bs_eql, bs_neq, bs_lss, Am.unOp, ret1, pubL, pub, pubA, initT, wkZ, wk, wants, resOf, tupOf, quiet, AOp.cls, Nat.beq_eq, Bool.or_eq_true, decide_true, decide_false, beq_self_eq_true, Bool.true_or, Bool.or_true, true_and, and_true, lenA, eqv, eqB, eqP, scal, new_box_self, List.getElem?_cons_zero, List.getElem?_cons_succ, key_ii, key_ss, findM, updM, esc_i, esc_s, esc_b, Int.reduceEq, ret1, new_nb, new_set, reduceCtorEq, Bool.xor_true, Bool.xor_false, Bool.false_eq_true, List.all_cons, List.all_nil, noTok, Bool.and_self, Bool.and_true, Bool.true_and]
    exact ⟨0, by omega, rfl, by omega, rfl⟩

theorem sh_of {L : List (List Nat)} (h : longP L = false) : Sh L := by
  simp only [longP, Bool.or_eq_false_iff, decide_eq_false_iff_not, List.any_eq_false, decide_eq_true_eq] at h
  exact ⟨by omega, fun x hx => by have := h.2 x hx; omega⟩

set_option maxHeartbeats 2000000 in
theorem pathPlaces_ok (A B : List (List Nat)) : (lim prog).call f_touchstonelaw06_PathPlaces [tx A, tx B] s0 = some (.b true, s0) := by
  refine fn_W p_touchstonelaw06_PathPlaces rfl rfl ?_
  cases hA : longP A with
  | true =>
    simp only [c_touchstonelaw06_PathPlaces, W_seq, W_reg, W_cond, W_blk, W_skip, W_exit, W_ret, W_regD, WO_nil, WO_cons, WO_guard2, wantV_b, bq_tt, bq_ft, bq_tf, bq_ff, Bool.not_true, Bool.not_false, WD_nil, WD_cons, WD_guard2, WS_some, WS_none, KS_n, KS_x, KS_r, KB_n, KB_x, KB_r, KN_ap, KO_ap, KD_ap, KC_nil, KF_n, KF_r, KL_n, KL_x, KL_r, CP_true, CP_false, evOp, evX, X.ev, optX, put_some, put_none, get_set2, sel_t, sel_f, Nat.reduceBEq, Nat.reduceAdd, Nat.reduceLT, Nat.reduceLeDiff, Nat.reduceEqDiff, reduceIte, if_true, if_false, bi_add, bi_sub, bi_mul, bi_eql, bi_neq, bi_lss, bi_leq, bi_gtr, bi_geq, bs_eql, bs_neq, bs_lss, Am.unOp, ret1, pubL, pub, pubA, initT, wkZ, wk, wants, resOf, tupOf, quiet, AOp.cls, Nat.beq_eq, Bool.or_eq_true, decide_true, decide_false, beq_self_eq_true, Bool.true_or, Bool.or_true, true_and, and_true, lenA, eqv, eqB, eqP, scal, new_box_self, List.getElem?_cons_zero, List.getElem?_cons_succ, key_ii, key_ss, findM, updM, esc_i, esc_s, esc_b, Int.reduceEq, ret1, new_nb, new_set, reduceCtorEq, Bool.xor_true, Bool.xor_false, Bool.false_eq_true, List.all_cons, List.all_nil, noTok, Bool.and_self, Bool.and_true, Bool.true_and, long_ok, awake_ok, hA]
    exact KR_some (Over.enter s0) rfl rfl
  | false =>
  cases hB : longP B with
  | true =>
    simp only [c_touchstonelaw06_PathPlaces, W_seq, W_reg, W_cond, W_blk, W_skip, W_exit, W_ret, W_regD, WO_nil, WO_cons, WO_guard2, wantV_b, bq_tt, bq_ft, bq_tf, bq_ff, Bool.not_true, Bool.not_false, WD_nil, WD_cons, WD_guard2, WS_some, WS_none, KS_n, KS_x, KS_r, KB_n, KB_x, KB_r, KN_ap, KO_ap, KD_ap, KC_nil, KF_n, KF_r, KL_n, KL_x, KL_r, CP_true, CP_false, evOp, evX, X.ev, optX, put_some, put_none, get_set2, sel_t, sel_f, Nat.reduceBEq, Nat.reduceAdd, Nat.reduceLT, Nat.reduceLeDiff, Nat.reduceEqDiff, reduceIte, if_true, if_false, bi_add, bi_sub, bi_mul, bi_eql, bi_neq, bi_lss, bi_leq, bi_gtr, bi_geq, bs_eql, bs_neq, bs_lss, Am.unOp, ret1, pubL, pub, pubA, initT, wkZ, wk, wants, resOf, tupOf, quiet, AOp.cls, Nat.beq_eq, Bool.or_eq_true, decide_true, decide_false, beq_self_eq_true, Bool.true_or, Bool.or_true, true_and, and_true, lenA, eqv, eqB, eqP, scal, new_box_self, List.getElem?_cons_zero, List.getElem?_cons_succ, key_ii, key_ss, findM, updM, esc_i, esc_s, esc_b, Int.reduceEq, ret1, new_nb, new_set, reduceCtorEq, Bool.xor_true, Bool.xor_false, Bool.false_eq_true, List.all_cons, List.all_nil, noTok, Bool.and_self, Bool.and_true, Bool.true_and, long_ok, awake_ok, hA, hB]
    exact KR_some (Over.enter s0) rfl rfl
  | false =>
  have sA := sh_of hA
  have lA : A.length < 2 ^ 62 := by have := sA.n; omega
  simp only [c_touchstonelaw06_PathPlaces, W_seq, W_reg, W_cond, W_blk, W_skip, W_exit, W_ret, W_regD, WO_nil, WO_cons, WO_guard2, wantV_b, bq_tt, bq_ft, bq_tf, bq_ff, Bool.not_true, Bool.not_false, WD_nil, WD_cons, WD_guard2, WS_some, WS_none, KS_n, KS_x, KS_r, KB_n, KB_x, KB_r, KN_ap, KO_ap, KD_ap, KC_nil, KF_n, KF_r, KL_n, KL_x, KL_r, CP_true, CP_false, evOp, evX, X.ev, optX, put_some, put_none, get_set2, sel_t, sel_f, Nat.reduceBEq, Nat.reduceAdd, Nat.reduceLT, Nat.reduceLeDiff, Nat.reduceEqDiff, reduceIte, if_true, if_false, bi_add, bi_sub, bi_mul, bi_eql, bi_neq, bi_lss, bi_leq, bi_gtr, bi_geq, bs_eql, bs_neq, bs_lss, Am.unOp, ret1, pubL, pub, pubA, initT, wkZ, wk, wants, resOf, tupOf, quiet, AOp.cls, Nat.beq_eq, Bool.or_eq_true, decide_true, decide_false, beq_self_eq_true, Bool.true_or, Bool.or_true, true_and, and_true, lenA, eqv, eqB, eqP, scal, new_box_self, List.getElem?_cons_zero, List.getElem?_cons_succ, key_ii, key_ss, findM, updM, esc_i, esc_s, esc_b, Int.reduceEq, ret1, new_nb, new_set, reduceCtorEq, Bool.xor_true, Bool.xor_false, Bool.false_eq_true, List.all_cons, List.all_nil, noTok, Bool.and_self, Bool.and_true, Bool.true_and, long_ok, awake_ok, hA, hB]
  refine WS_cut (fun e => e.get 0 = tx A ∧ e.get 1 = tx B) (by simp only [W_seq, W_reg, W_cond, W_blk, W_skip, W_exit, W_ret, W_regD, WO_nil, WO_cons, WO_guard2, wantV_b, bq_tt, bq_ft, bq_tf, bq_ff, Bool.not_true, Bool.not_false, WD_nil, WD_cons, WD_guard2, WS_some, WS_none, KS_n, KS_x, KS_r, KB_n, KB_x, KB_r, KN_ap, KO_ap, KD_ap, KC_nil, KF_n, KF_r, KL_n, KL_x, KL_r, CP_true, CP_false, evOp, evX, X.ev, optX, put_some, put_none, get_set2, sel_t, sel_f, Nat.reduceBEq, Nat.reduceAdd, Nat.reduceLT, Nat.reduceLeDiff, Nat.reduceEqDiff, reduceIte, if_true, if_false, bi_add, bi_sub, bi_mul, bi_eql, bi_neq, bi_lss, bi_leq, bi_gtr, bi_geq, bs_eql, bs_neq, bs_lss, Am.unOp, ret1, pubL, pub, pubA, initT, wkZ, wk, wants, resOf, tupOf, quiet, AOp.cls, Nat.beq_eq, Bool.or_eq_true, decide_true, decide_false, beq_self_eq_true, Bool.true_or, Bool.or_true, true_and, and_true, lenA, eqv, eqB, eqP, scal, new_box_self, List.getElem?_cons_zero, List.getElem?_cons_succ, key_ii, key_ss, findM, updM, esc_i, esc_s, esc_b, Int.reduceEq, ret1, new_nb, new_set, reduceCtorEq, Bool.xor_true, Bool.xor_false, Bool.false_eq_true, List.all_cons, List.all_nil, noTok, Bool.and_self, Bool.and_true, Bool.true_and]) ?_
  rintro e ⟨e0, e1⟩
  have c1 := show_ok sA s0.enter
  have c2 := ref_show_ok sA s0.enter
  have c3 := under_ok A B lA s0.enter
  have c4 := ref_under_ok A B lA s0.enter
  have c5 := less_ok A B lA s0.enter
  have c6 := ref_less_ok (M := B) lA s0.enter
  simp only [W_seq, W_reg, W_cond, W_blk, W_skip, W_exit, W_ret, W_regD, WO_nil, WO_cons, WO_guard2, wantV_b, bq_tt, bq_ft, bq_tf, bq_ff, Bool.not_true, Bool.not_false, WD_nil, WD_cons, WD_guard2, WS_some, WS_none, KS_n, KS_x, KS_r, KB_n, KB_x, KB_r, KN_ap, KO_ap, KD_ap, KC_nil, KF_n, KF_r, KL_n, KL_x, KL_r, CP_true, CP_false, evOp, evX, X.ev, optX, put_some, put_none, get_set2, sel_t, sel_f, Nat.reduceBEq, Nat.reduceAdd, Nat.reduceLT, Nat.reduceLeDiff, Nat.reduceEqDiff, reduceIte, if_true, if_false, bi_add, bi_sub, bi_mul, bi_eql, bi_neq, bi_lss, bi_leq, bi_gtr, bi_geq, bs_eql, bs_neq, bs_lss, Am.unOp, ret1, pubL, pub, pubA, initT, wkZ, wk, wants, resOf, tupOf, quiet, AOp.cls, Nat.beq_eq, Bool.or_eq_true, decide_true, decide_false, beq_self_eq_true, Bool.true_or, Bool.or_true, true_and, and_true, lenA, eqv, eqB, eqP, scal, new_box_self, List.getElem?_cons_zero, List.getElem?_cons_succ, key_ii, key_ss, findM, updM, esc_i, esc_s, esc_b, Int.reduceEq, ret1, new_nb, new_set, reduceCtorEq, Bool.xor_true, Bool.xor_false, Bool.false_eq_true, List.all_cons, List.all_nil, noTok, Bool.and_self, Bool.and_true, Bool.true_and, c1, c2, c3, c4, c5, c6, awake_ok, e0, e1]
  exact KR_some (Over.enter s0) rfl rfl
end Go.Proofs.YtmeahkccilkofaaDoor
