/-
  Variables, parts and fields as plain lists.
-/
import Derived.Test.YtfpoihibfajhlaaDoorAmRows
import Derived.Test.YtfpoihibfajhlaaDoorAmTyped
import Derived.Test.YtfpoihibfajhlaaDoorFns
set_option linter.all false
set_option linter.unusedVariables false
set_option linter.unusedSimpArgs false
set_option linter.unusedSectionVars false
set_option maxRecDepth 100000
set_option linter.unusedSimpArgs false
namespace Go.Proofs.YtfpoihibfajhlaaDoor
open Go.Proofs.YtfpoihibfajhlaaDoor.Am

/-- A row of texts, as it is told at a call's border. -/
abbrev tx (L : List (List Nat)) : AV := .ws false 1 (L.map .s)

/-- Where a text stands first. -/
def idxL (l : List Nat) (L : List (List Nat)) : Int := match L.findIdx? (· == l) with
  | some i => (i : Int)
  | none => -1

section value
variable (it : Int → List Nat)
/-- Variables. -/
structure VV where
  names : List (List Nat)
  values : List (List Nat)
  args : List (List Nat)
  status : Int
structure VV.Ok (v : VV) : Prop where
  n : v.names.length < 2 ^ 63
  w : v.values.length < 2 ^ 63
  a : v.args.length < 2 ^ 63
  s0 : -9223372036854775808 ≤ v.status
  s1 : v.status ≤ 9223372036854775807
abbrev VV.cells (v : VV) : List AV := [tx v.names, tx v.values, tx v.args, .i .i64 v.status]
abbrev VV.av (v : VV) : AV := .agg v.cells

def valueL (v : VV) (name : List Nat) : List Nat :=
  if name = [35] then it v.args.length else
  if name = [63] then it v.status else
  match name with
  | [c] => if 49 ≤ c ∧ c ≤ 57 then v.args.getD (c - 49) [] else (if 0 ≤ idxL name v.names ∧ idxL name v.names < v.values.length then v.values.getD (idxL name v.names).toNat [] else [])
  | _ => if 0 ≤ idxL name v.names ∧ idxL name v.names < v.values.length then v.values.getD (idxL name v.names).toNat [] else []

def blankN (c : Nat) : Bool := decide (c = 32) || (decide (c = 9) || decide (c = 10))
/-- One byte of a value that is split. -/
def spl (x : List (List Nat) × List Nat × Bool) (c : Nat) : List (List Nat) × List Nat × Bool :=
  if blankN c then (if x.2.2 then x.1 ++ [x.2.1] else x.1, [], false) else (x.1, x.2.1 ++ [c], true)

structure PP where
  var : Bool
  text : List Nat
  quoted : Bool
abbrev PP.cells (p : PP) : List AV := [.b p.var, .s p.text, .b p.quoted]
def partL (v : VV) (p : PP) : List Nat := if p.var then valueL it v p.text else p.text

/-- One part. -/
def stepF (v : VV) (x : List (List Nat) × List Nat × Bool) (p : PP) : List (List Nat) × List Nat × Bool :=
  if (p.var && !p.quoted) = true then (partL it v p).foldl spl x else if (p.quoted || decide (partL it v p ≠ [])) = true then (x.1, x.2.1 ++ partL it v p, true) else x
def fieldsL (v : VV) (ps : List PP) : List (List Nat) :=
  let x := ps.foldl (stepF it v) ([], [], false)
  if x.2.2 then x.1 ++ [x.2.1] else x.1
def szF (v : VV) (ps : List PP) : Nat := (ps.map fun p => (partL it v p).length + 1).sum

end value
end Go.Proofs.YtfpoihibfajhlaaDoor

/-
  What the functions of expand come to on the abstract machine.
-/
set_option maxRecDepth 100000
set_option linter.unusedSimpArgs false
namespace Go.Proofs.YtfpoihibfajhlaaDoor
open Go.Proofs.YtfpoihibfajhlaaDoor.Am

theorem natOf_nat (k : IntKind) (i : Nat) : natOf (.i k (i : Int)) = some i := by simp [natOf]
theorem tx_get {L : List (List Nat)} {i : Nat} (h : i < L.length) : (L.map AV.s)[i]? = some (.s L[i]) := by simp [h]
theorem ldA_1 (s : St) (v : AV) : ldA s false 1 (.ep [v] 0 .shut) = some v := rfl
theorem cells_s (l : List Nat) : (AV.s l).cells = [.s l] := rfl
theorem wrap_nat {i : Nat} (h : i < 2 ^ 63) : IntKind.i64.wrap (i : Int) = i := by
  have e1 : ((i : Int) % 2 ^ 64) = i := by omega
  simp only [IntKind.wrap, IntKind.signed, IntKind.bits, e1]
  rw [if_neg]
  simp; omega
theorem wrap_succ {i : Nat} (h : i + 1 < 2 ^ 63) : IntKind.i64.wrap ((i : Int) + 1) = ((i + 1 : Nat) : Int) := by
  rw [← wrap_nat h]; simp
theorem ofNat_len (n : Nat) : Int.ofNat n = (n : Int) := rfl

theorem idxL_hit {l : List Nat} {L : List (List Nat)} {i : Nat} (h : i < L.length) (he : L[i] = l) (hn : ∀ (j : Nat) (hj : j < i), L[j]'(by omega) ≠ l) : idxL l L = i := by
  have : L.findIdx? (· == l) = some i := by
    rw [List.findIdx?_eq_some_iff_getElem]
    exact ⟨h, by simpa using he, fun j hj => by simpa using hn j hj⟩
  simp [idxL, this]
theorem idxL_miss {l : List Nat} {L : List (List Nat)} (hn : ∀ (j : Nat) (hj : j < L.length), L[j] ≠ l) : idxL l L = -1 := by
  have : L.findIdx? (· == l) = none := by
    rw [List.findIdx?_eq_none_iff]
    intro x hx
    obtain ⟨j, hj, rfl⟩ := List.mem_iff_getElem.1 hx
    simpa using hn j hj
  simp [idxL, this]

theorem index_ok (L : List (List Nat)) (l : List Nat) (hL : L.length < 2 ^ 63) (s : St) : (lim prog).call f_slices_Index_string_string [tx L, .s l] s = some (.i .i64 (idxL l L), s) := by
  refine fn_W p_slices_Index_string_string rfl rfl ?_
  simp only [c_slices_Index_string_string, W_seq, W_reg, W_cond, W_blk, W_skip, W_exit, W_ret, W_regD, WO_nil, WO_cons, WO_guard2, wantV_b, bq_tt, bq_ft, bq_tf, bq_ff, Bool.not_true, Bool.not_false, WD_nil, WD_cons, WD_guard2, WS_some, WS_none, KS_n, KS_x, KS_r, KB_n, KB_x, KB_r, KN_ap, KO_ap, KD_ap, KC_nil, KF_n, KF_r, KG_n, KG_r, KL_n, KL_x, KL_r, CP_true, CP_false, evOp, evX, X.ev, optX, put_some, put_none, get_set2, sel_t, sel_f, Nat.reduceBEq, Nat.reduceAdd, Nat.reduceLT, Nat.reduceLeDiff, Nat.reduceEqDiff, reduceIte, if_true, if_false, bi_add, bi_sub, bi_mul, bi_eql, bi_neq, bi_lss, bi_leq, bi_gtr, bi_geq, bs_eql, bs_neq, bs_lss, Am.unOp, ret1, pubL, pub, pubA, initT, wkZ, wk, wants, resOf, tupOf, quiet, AOp.cls, Nat.beq_eq, Bool.or_eq_true, decide_true, decide_false, beq_self_eq_true, Bool.true_or, Bool.or_true, true_and, and_true, lenA, eqv, eqB, eqP, scal, new_box_self, List.getElem?_cons_zero, List.getElem?_cons_succ, key_ii, key_ss, findM, updM, esc_i, esc_s, esc_b, Int.reduceEq, ret1, new_nb, new_set, reduceCtorEq, Bool.xor_true, Bool.xor_false, Bool.false_eq_true, List.all_cons, List.all_nil, noTok, Bool.and_self, Bool.and_true, Bool.true_and, List.length_map, ofNat_len]
  refine W_loop (fun n e s1 => s1 = s.enter ∧ e.get 0 = tx L ∧ e.get 1 = .s l ∧ e.get 7 = .i .i64 L.length ∧ ∃ i : Nat, i + n = L.length ∧ e.get 8 = .i .i64 i ∧ ∀ (j : Nat) (hj : j < i) (hL : j < L.length), L[j] ≠ l) ?_ L.length _ _ ?_
  · rintro n e s1 ⟨rfl, h0, h1, h7, i, hi, h8, hn⟩
    simp only [W_seq, W_reg, W_cond, W_blk, W_skip, W_exit, W_ret, W_regD, WO_nil, WO_cons, WO_guard2, wantV_b, bq_tt, bq_ft, bq_tf, bq_ff, Bool.not_true, Bool.not_false, WD_nil, WD_cons, WD_guard2, WS_some, WS_none, KS_n, KS_x, KS_r, KB_n, KB_x, KB_r, KN_ap, KO_ap, KD_ap, KC_nil, KF_n, KF_r, KG_n, KG_r, KL_n, KL_x, KL_r, CP_true, CP_false, evOp, evX, X.ev, optX, put_some, put_none, get_set2, sel_t, sel_f, Nat.reduceBEq, Nat.reduceAdd, Nat.reduceLT, Nat.reduceLeDiff, Nat.reduceEqDiff, reduceIte, if_true, if_false, bi_add, bi_sub, bi_mul, bi_eql, bi_neq, bi_lss, bi_leq, bi_gtr, bi_geq, bs_eql, bs_neq, bs_lss, Am.unOp, ret1, pubL, pub, pubA, initT, wkZ, wk, wants, resOf, tupOf, quiet, AOp.cls, Nat.beq_eq, Bool.or_eq_true, decide_true, decide_false, beq_self_eq_true, Bool.true_or, Bool.or_true, true_and, and_true, lenA, eqv, eqB, eqP, scal, new_box_self, List.getElem?_cons_zero, List.getElem?_cons_succ, key_ii, key_ss, findM, updM, esc_i, esc_s, esc_b, Int.reduceEq, ret1, new_nb, new_set, reduceCtorEq, Bool.xor_true, Bool.xor_false, Bool.false_eq_true, List.all_cons, List.all_nil, noTok, Bool.and_self, Bool.and_true, Bool.true_and, h0, h1, h7, h8, List.length_map, ofNat_len]
    refine CP_dec (fun hlt => ?_) (fun hge => ?_)
    · have hlt : i < L.length := by omega
      simp only [W_seq, W_reg, W_cond, W_blk, W_skip, W_exit, W_ret, W_regD, WO_nil, WO_cons, WO_guard2, wantV_b, bq_tt, bq_ft, bq_tf, bq_ff, Bool.not_true, Bool.not_false, WD_nil, WD_cons, WD_guard2, WS_some, WS_none, KS_n, KS_x, KS_r, KB_n, KB_x, KB_r, KN_ap, KO_ap, KD_ap, KC_nil, KF_n, KF_r, KG_n, KG_r, KL_n, KL_x, KL_r, CP_true, CP_false, evOp, evX, X.ev, optX, put_some, put_none, get_set2, sel_t, sel_f, Nat.reduceBEq, Nat.reduceAdd, Nat.reduceLT, Nat.reduceLeDiff, Nat.reduceEqDiff, reduceIte, if_true, if_false, bi_add, bi_sub, bi_mul, bi_eql, bi_neq, bi_lss, bi_leq, bi_gtr, bi_geq, bs_eql, bs_neq, bs_lss, Am.unOp, ret1, pubL, pub, pubA, initT, wkZ, wk, wants, resOf, tupOf, quiet, AOp.cls, Nat.beq_eq, Bool.or_eq_true, decide_true, decide_false, beq_self_eq_true, Bool.true_or, Bool.or_true, true_and, and_true, lenA, eqv, eqB, eqP, scal, new_box_self, List.getElem?_cons_zero, List.getElem?_cons_succ, key_ii, key_ss, findM, updM, esc_i, esc_s, esc_b, Int.reduceEq, ret1, new_nb, new_set, reduceCtorEq, Bool.xor_true, Bool.xor_false, Bool.false_eq_true, List.all_cons, List.all_nil, noTok, Bool.and_self, Bool.and_true, Bool.true_and, h0, h1, h7, h8, natOf_nat, tx_get hlt, cells_s, ldA_1, wrap_succ (show i + 1 < 2 ^ 63 by omega)]
      refine CP_dec (fun h5 => ?_) (fun h5 => ?_)
      · exact KR_some (Over.enter s) rfl (by simp only [tupOf, wkZ, wk, idxL_hit hlt h5.symm (fun j hj => hn j hj (by omega))])
      · refine ⟨n - 1, by omega, i + 1, by omega, rfl, fun j hj hjL => ?_⟩
        by_cases hji : j = i
        · subst hji; exact fun hh => h5 hh.symm
        · exact hn j (by omega) hjL
    · exact KR_some (Over.enter s) rfl (by simp only [tupOf, wkZ, wk, idxL_miss (fun j hj => hn j (by omega) hj)])
  · simp only [W_seq, W_reg, W_cond, W_blk, W_skip, W_exit, W_ret, W_regD, WO_nil, WO_cons, WO_guard2, wantV_b, bq_tt, bq_ft, bq_tf, bq_ff, Bool.not_true, Bool.not_false, WD_nil, WD_cons, WD_guard2, WS_some, WS_none, KS_n, KS_x, KS_r, KB_n, KB_x, KB_r, KN_ap, KO_ap, KD_ap, KC_nil, KF_n, KF_r, KG_n, KG_r, KL_n, KL_x, KL_r, CP_true, CP_false, evOp, evX, X.ev, optX, put_some, put_none, get_set2, sel_t, sel_f, Nat.reduceBEq, Nat.reduceAdd, Nat.reduceLT, Nat.reduceLeDiff, Nat.reduceEqDiff, reduceIte, if_true, if_false, bi_add, bi_sub, bi_mul, bi_eql, bi_neq, bi_lss, bi_leq, bi_gtr, bi_geq, bs_eql, bs_neq, bs_lss, Am.unOp, ret1, pubL, pub, pubA, initT, wkZ, wk, wants, resOf, tupOf, quiet, AOp.cls, Nat.beq_eq, Bool.or_eq_true, decide_true, decide_false, beq_self_eq_true, Bool.true_or, Bool.or_true, true_and, and_true, lenA, eqv, eqB, eqP, scal, new_box_self, List.getElem?_cons_zero, List.getElem?_cons_succ, key_ii, key_ss, findM, updM, esc_i, esc_s, esc_b, Int.reduceEq, ret1, new_nb, new_set, reduceCtorEq, Bool.xor_true, Bool.xor_false, Bool.false_eq_true, List.all_cons, List.all_nil, noTok, Bool.and_self, Bool.and_true, Bool.true_and]
    exact ⟨0, by omega, rfl, fun j hj => by omega⟩

section value
variable (it : Int → List Nat)

/-- What Itoa tells. -/
def ItoaOk : Prop := ∀ (n : Int) (s : St), -9223372036854775808 ≤ n → n ≤ 9223372036854775807 → (lim prog).call f_strconv_Itoa [.i .i64 n] s = some (.s (it n), s)

theorem cells_agg (l : List AV) : (AV.agg l).cells = l := rfl
theorem len4 (a b c d : AV) : [a, b, c, d].length = 4 := rfl
theorem ld4 {s : St} {T : Nat} {a b c d : AV} : ldA (s.new (.cells T [a, b, c, d])) false 1 (.p s.nb 0) = some a ∧ ldA (s.new (.cells T [a, b, c, d])) false 1 (.p s.nb 1) = some b ∧
    ldA (s.new (.cells T [a, b, c, d])) false 1 (.p s.nb 2) = some c ∧ ldA (s.new (.cells T [a, b, c, d])) false 1 (.p s.nb 3) = some d := by
  simp [ldA, St.cells?, new_box_self, cut, scal]
theorem ld4_0 (s : St) (T : Nat) (a b c d : AV) : ldA (s.new (.cells T [a, b, c, d])) false 1 (.p s.nb 0) = some a := ld4.1
theorem ld4_1 (s : St) (T : Nat) (a b c d : AV) : ldA (s.new (.cells T [a, b, c, d])) false 1 (.p s.nb 1) = some b := ld4.2.1
theorem ld4_2 (s : St) (T : Nat) (a b c d : AV) : ldA (s.new (.cells T [a, b, c, d])) false 1 (.p s.nb 2) = some c := ld4.2.2.1
theorem ld4_3 (s : St) (T : Nat) (a b c d : AV) : ldA (s.new (.cells T [a, b, c, d])) false 1 (.p s.nb 3) = some d := ld4.2.2.2

theorem natOf_int {k : IntKind} {n : Int} (h : 0 ≤ n) : natOf (.i k n) = some n.toNat := by simp [natOf, h]

theorem value_ok (hI : ItoaOk it) (v : VV) (hv : v.Ok) (name : List Nat) (hn : Txt name) (s : St) : (lim prog).call f_expand_Value [v.av, .s name] s = some (.s (valueL it v name), s) := by
  refine fn_W p_expand_Value rfl rfl ?_
  simp only [c_expand_Value, W_seq, W_reg, W_cond, W_blk, W_skip, W_exit, W_ret, W_regD, WO_nil, WO_cons, WO_guard2, wantV_b, bq_tt, bq_ft, bq_tf, bq_ff, Bool.not_true, Bool.not_false, WD_nil, WD_cons, WD_guard2, WS_some, WS_none, KS_n, KS_x, KS_r, KB_n, KB_x, KB_r, KN_ap, KO_ap, KD_ap, KC_nil, KF_n, KF_r, KG_n, KG_r, KL_n, KL_x, KL_r, CP_true, CP_false, evOp, evX, X.ev, optX, put_some, put_none, get_set2, sel_t, sel_f, Nat.reduceBEq, Nat.reduceAdd, Nat.reduceLT, Nat.reduceLeDiff, Nat.reduceEqDiff, reduceIte, if_true, if_false, bi_add, bi_sub, bi_mul, bi_eql, bi_neq, bi_lss, bi_leq, bi_gtr, bi_geq, bs_eql, bs_neq, bs_lss, Am.unOp, ret1, pubL, pub, pubA, initT, wkZ, wk, wants, resOf, tupOf, quiet, AOp.cls, Nat.beq_eq, Bool.or_eq_true, decide_true, decide_false, beq_self_eq_true, Bool.true_or, Bool.or_true, true_and, and_true, lenA, eqv, eqB, eqP, scal, new_box_self, List.getElem?_cons_zero, List.getElem?_cons_succ, key_ii, key_ss, findM, updM, esc_i, esc_s, esc_b, Int.reduceEq, ret1, new_nb, new_set, reduceCtorEq, Bool.xor_true, Bool.xor_false, Bool.false_eq_true, List.all_cons, List.all_nil, noTok, Bool.and_self, Bool.and_true, Bool.true_and, cells_agg, len4, ld4_0, ld4_1, ld4_2, ld4_3, List.length_map, ofNat_len]
  refine CP_dec (fun h => ?_) (fun h1 => ?_)
  · subst h
    rw [hI _ _ (by omega) (by have := hv.a; omega)]
    simp only [W_seq, W_reg, W_cond, W_blk, W_skip, W_exit, W_ret, W_regD, WO_nil, WO_cons, WO_guard2, wantV_b, bq_tt, bq_ft, bq_tf, bq_ff, Bool.not_true, Bool.not_false, WD_nil, WD_cons, WD_guard2, WS_some, WS_none, KS_n, KS_x, KS_r, KB_n, KB_x, KB_r, KN_ap, KO_ap, KD_ap, KC_nil, KF_n, KF_r, KG_n, KG_r, KL_n, KL_x, KL_r, CP_true, CP_false, evOp, evX, X.ev, optX, put_some, put_none, get_set2, sel_t, sel_f, Nat.reduceBEq, Nat.reduceAdd, Nat.reduceLT, Nat.reduceLeDiff, Nat.reduceEqDiff, reduceIte, if_true, if_false, bi_add, bi_sub, bi_mul, bi_eql, bi_neq, bi_lss, bi_leq, bi_gtr, bi_geq, bs_eql, bs_neq, bs_lss, Am.unOp, ret1, pubL, pub, pubA, initT, wkZ, wk, wants, resOf, tupOf, quiet, AOp.cls, Nat.beq_eq, Bool.or_eq_true, decide_true, decide_false, beq_self_eq_true, Bool.true_or, Bool.or_true, true_and, and_true, lenA, eqv, eqB, eqP, scal, new_box_self, List.getElem?_cons_zero, List.getElem?_cons_succ, key_ii, key_ss, findM, updM, esc_i, esc_s, esc_b, Int.reduceEq, ret1, new_nb, new_set, reduceCtorEq, Bool.xor_true, Bool.xor_false, Bool.false_eq_true, List.all_cons, List.all_nil, noTok, Bool.and_self, Bool.and_true, Bool.true_and]
    exact KR_some ((Over.enter s).new _) rfl (by simp [tupOf, wkZ, wk, valueL])
  refine CP_dec (fun h => ?_) (fun h2 => ?_)
  · subst h
    rw [hI _ _ hv.s0 hv.s1]
    simp only [W_seq, W_reg, W_cond, W_blk, W_skip, W_exit, W_ret, W_regD, WO_nil, WO_cons, WO_guard2, wantV_b, bq_tt, bq_ft, bq_tf, bq_ff, Bool.not_true, Bool.not_false, WD_nil, WD_cons, WD_guard2, WS_some, WS_none, KS_n, KS_x, KS_r, KB_n, KB_x, KB_r, KN_ap, KO_ap, KD_ap, KC_nil, KF_n, KF_r, KG_n, KG_r, KL_n, KL_x, KL_r, CP_true, CP_false, evOp, evX, X.ev, optX, put_some, put_none, get_set2, sel_t, sel_f, Nat.reduceBEq, Nat.reduceAdd, Nat.reduceLT, Nat.reduceLeDiff, Nat.reduceEqDiff, reduceIte, if_true, if_false, bi_add, bi_sub, bi_mul, bi_eql, bi_neq, bi_lss, bi_leq, bi_gtr, bi_geq, bs_eql, bs_neq, bs_lss, Am.unOp, ret1, pubL, pub, pubA, initT, wkZ, wk, wants, resOf, tupOf, quiet, AOp.cls, Nat.beq_eq, Bool.or_eq_true, decide_true, decide_false, beq_self_eq_true, Bool.true_or, Bool.or_true, true_and, and_true, lenA, eqv, eqB, eqP, scal, new_box_self, List.getElem?_cons_zero, List.getElem?_cons_succ, key_ii, key_ss, findM, updM, esc_i, esc_s, esc_b, Int.reduceEq, ret1, new_nb, new_set, reduceCtorEq, Bool.xor_true, Bool.xor_false, Bool.false_eq_true, List.all_cons, List.all_nil, noTok, Bool.and_self, Bool.and_true, Bool.true_and]
    exact KR_some ((Over.enter s).new _) rfl (by simp [tupOf, wkZ, wk, valueL])
  by_cases hl : name.length = 1
  · obtain ⟨c, hnc⟩ : ∃ c, name = [c] := List.length_eq_one_iff.1 hl
    have hn0 : natOf (.i .i64 0) = some 0 := rfl
    have h11 : (((1 : Nat) : Int) = 1) = True := by simp
    by_cases hd : 49 ≤ c ∧ c ≤ 57
    · subst hnc
      obtain ⟨ha, hb⟩ := hd
      have ha' : ((49 : Int) ≤ c) = True := by simp; omega
      have hb' : ((c : Int) ≤ 57) = True := by simp; omega
      have hsub : IntKind.u8.wrap ((c : Int) - 49) = ((c - 49 : Nat) : Int) := by
        have e1 : (((c : Int) - 49) % 2 ^ 8) = ((c - 49 : Nat) : Int) := by omega
        simp only [IntKind.wrap, IntKind.signed, IntKind.bits, e1]
        rfl
      have hval : valueL it v [c] = v.args.getD (c - 49) [] := by
        unfold valueL
        rw [if_neg h1, if_neg h2]
        simp only [if_pos (⟨ha, hb⟩ : 49 ≤ c ∧ c ≤ 57)]
      simp only [W_seq, W_reg, W_cond, W_blk, W_skip, W_exit, W_ret, W_regD, WO_nil, WO_cons, WO_guard2, wantV_b, bq_tt, bq_ft, bq_tf, bq_ff, Bool.not_true, Bool.not_false, WD_nil, WD_cons, WD_guard2, WS_some, WS_none, KS_n, KS_x, KS_r, KB_n, KB_x, KB_r, KN_ap, KO_ap, KD_ap, KC_nil, KF_n, KF_r, KG_n, KG_r, KL_n, KL_x, KL_r, CP_true, CP_false, evOp, evX, X.ev, optX, put_some, put_none, get_set2, sel_t, sel_f, Nat.reduceBEq, Nat.reduceAdd, Nat.reduceLT, Nat.reduceLeDiff, Nat.reduceEqDiff, reduceIte, if_true, if_false, bi_add, bi_sub, bi_mul, bi_eql, bi_neq, bi_lss, bi_leq, bi_gtr, bi_geq, bs_eql, bs_neq, bs_lss, Am.unOp, ret1, pubL, pub, pubA, initT, wkZ, wk, wants, resOf, tupOf, quiet, AOp.cls, Nat.beq_eq, Bool.or_eq_true, decide_true, decide_false, beq_self_eq_true, Bool.true_or, Bool.or_true, true_and, and_true, lenA, eqv, eqB, eqP, scal, new_box_self, List.getElem?_cons_zero, List.getElem?_cons_succ, key_ii, key_ss, findM, updM, esc_i, esc_s, esc_b, Int.reduceEq, ret1, new_nb, new_set, reduceCtorEq, Bool.xor_true, Bool.xor_false, Bool.false_eq_true, List.all_cons, List.all_nil, noTok, Bool.and_self, Bool.and_true, Bool.true_and, List.length_cons, List.length_nil, hn0, h11, ha', hb', hsub, cells_agg, len4, ld4_0, ld4_1, ld4_2, ld4_3, List.length_map, ofNat_len, wrap_nat (show c - 49 < 2 ^ 63 by omega), natOf_nat]
      refine CP_dec (fun h => ?_) (fun h => ?_)
      · have hi : c - 49 < v.args.length := by omega
        simp only [W_seq, W_reg, W_cond, W_blk, W_skip, W_exit, W_ret, W_regD, WO_nil, WO_cons, WO_guard2, wantV_b, bq_tt, bq_ft, bq_tf, bq_ff, Bool.not_true, Bool.not_false, WD_nil, WD_cons, WD_guard2, WS_some, WS_none, KS_n, KS_x, KS_r, KB_n, KB_x, KB_r, KN_ap, KO_ap, KD_ap, KC_nil, KF_n, KF_r, KG_n, KG_r, KL_n, KL_x, KL_r, CP_true, CP_false, evOp, evX, X.ev, optX, put_some, put_none, get_set2, sel_t, sel_f, Nat.reduceBEq, Nat.reduceAdd, Nat.reduceLT, Nat.reduceLeDiff, Nat.reduceEqDiff, reduceIte, if_true, if_false, bi_add, bi_sub, bi_mul, bi_eql, bi_neq, bi_lss, bi_leq, bi_gtr, bi_geq, bs_eql, bs_neq, bs_lss, Am.unOp, ret1, pubL, pub, pubA, initT, wkZ, wk, wants, resOf, tupOf, quiet, AOp.cls, Nat.beq_eq, Bool.or_eq_true, decide_true, decide_false, beq_self_eq_true, Bool.true_or, Bool.or_true, true_and, and_true, lenA, eqv, eqB, eqP, scal, new_box_self, List.getElem?_cons_zero, List.getElem?_cons_succ, key_ii, key_ss, findM, updM, esc_i, esc_s, esc_b, Int.reduceEq, ret1, new_nb, new_set, reduceCtorEq, Bool.xor_true, Bool.xor_false, Bool.false_eq_true, List.all_cons, List.all_nil, noTok, Bool.and_self, Bool.and_true, Bool.true_and, tx_get hi, cells_s, ldA_1]
        exact KR_some ((Over.enter s).new _) rfl (by rw [hval]; simp [tupOf, wkZ, wk, hi])
      · exact KR_some ((Over.enter s).new _) rfl (by
          have : v.args.length ≤ c - 49 := by omega
          rw [hval]; simp [tupOf, wkZ, wk, this])
    · have hval : valueL it v name = if 0 ≤ idxL name v.names ∧ idxL name v.names < v.values.length then v.values.getD (idxL name v.names).toNat [] else [] := by
        unfold valueL
        rw [if_neg h1, if_neg h2]
        subst hnc
        simp only [if_neg hd]
      have hlen : (name.length : Int) = 1 := by omega
      have hget : name[0]? = some c := by rw [hnc]; rfl
      by_cases ha : 49 ≤ c
      · have ha' : ((49 : Int) ≤ c) = True := by simp; omega
        have hb' : ((c : Int) ≤ 57) = False := by simp; omega
        simp only [W_seq, W_reg, W_cond, W_blk, W_skip, W_exit, W_ret, W_regD, WO_nil, WO_cons, WO_guard2, wantV_b, bq_tt, bq_ft, bq_tf, bq_ff, Bool.not_true, Bool.not_false, WD_nil, WD_cons, WD_guard2, WS_some, WS_none, KS_n, KS_x, KS_r, KB_n, KB_x, KB_r, KN_ap, KO_ap, KD_ap, KC_nil, KF_n, KF_r, KG_n, KG_r, KL_n, KL_x, KL_r, CP_true, CP_false, evOp, evX, X.ev, optX, put_some, put_none, get_set2, sel_t, sel_f, Nat.reduceBEq, Nat.reduceAdd, Nat.reduceLT, Nat.reduceLeDiff, Nat.reduceEqDiff, reduceIte, if_true, if_false, bi_add, bi_sub, bi_mul, bi_eql, bi_neq, bi_lss, bi_leq, bi_gtr, bi_geq, bs_eql, bs_neq, bs_lss, Am.unOp, ret1, pubL, pub, pubA, initT, wkZ, wk, wants, resOf, tupOf, quiet, AOp.cls, Nat.beq_eq, Bool.or_eq_true, decide_true, decide_false, beq_self_eq_true, Bool.true_or, Bool.or_true, true_and, and_true, lenA, eqv, eqB, eqP, scal, new_box_self, List.getElem?_cons_zero, List.getElem?_cons_succ, key_ii, key_ss, findM, updM, esc_i, esc_s, esc_b, Int.reduceEq, ret1, new_nb, new_set, reduceCtorEq, Bool.xor_true, Bool.xor_false, Bool.false_eq_true, List.all_cons, List.all_nil, noTok, Bool.and_self, Bool.and_true, Bool.true_and, hlen, hn0, hget, ha', hb', cells_agg, len4, ld4_0, ld4_1, ld4_2, ld4_3, List.length_map, ofNat_len, index_ok _ _ hv.n]
        by_cases h0 : 0 ≤ idxL name v.names
        · by_cases hlt : idxL name v.names < v.values.length
          · have hi : (idxL name v.names).toNat < v.values.length := by omega
            simp only [W_seq, W_reg, W_cond, W_blk, W_skip, W_exit, W_ret, W_regD, WO_nil, WO_cons, WO_guard2, wantV_b, bq_tt, bq_ft, bq_tf, bq_ff, Bool.not_true, Bool.not_false, WD_nil, WD_cons, WD_guard2, WS_some, WS_none, KS_n, KS_x, KS_r, KB_n, KB_x, KB_r, KN_ap, KO_ap, KD_ap, KC_nil, KF_n, KF_r, KG_n, KG_r, KL_n, KL_x, KL_r, CP_true, CP_false, evOp, evX, X.ev, optX, put_some, put_none, get_set2, sel_t, sel_f, Nat.reduceBEq, Nat.reduceAdd, Nat.reduceLT, Nat.reduceLeDiff, Nat.reduceEqDiff, reduceIte, if_true, if_false, bi_add, bi_sub, bi_mul, bi_eql, bi_neq, bi_lss, bi_leq, bi_gtr, bi_geq, bs_eql, bs_neq, bs_lss, Am.unOp, ret1, pubL, pub, pubA, initT, wkZ, wk, wants, resOf, tupOf, quiet, AOp.cls, Nat.beq_eq, Bool.or_eq_true, decide_true, decide_false, beq_self_eq_true, Bool.true_or, Bool.or_true, true_and, and_true, lenA, eqv, eqB, eqP, scal, new_box_self, List.getElem?_cons_zero, List.getElem?_cons_succ, key_ii, key_ss, findM, updM, esc_i, esc_s, esc_b, Int.reduceEq, ret1, new_nb, new_set, reduceCtorEq, Bool.xor_true, Bool.xor_false, Bool.false_eq_true, List.all_cons, List.all_nil, noTok, Bool.and_self, Bool.and_true, Bool.true_and, h0, hlt, cells_agg, len4, ld4_0, ld4_1, ld4_2, ld4_3, natOf_int h0, tx_get hi, cells_s, ldA_1]
            exact KR_some ((Over.enter s).new _) rfl (by rw [hval, if_pos ⟨h0, hlt⟩]; simp [tupOf, wkZ, wk, hi])
          · simp only [W_seq, W_reg, W_cond, W_blk, W_skip, W_exit, W_ret, W_regD, WO_nil, WO_cons, WO_guard2, wantV_b, bq_tt, bq_ft, bq_tf, bq_ff, Bool.not_true, Bool.not_false, WD_nil, WD_cons, WD_guard2, WS_some, WS_none, KS_n, KS_x, KS_r, KB_n, KB_x, KB_r, KN_ap, KO_ap, KD_ap, KC_nil, KF_n, KF_r, KG_n, KG_r, KL_n, KL_x, KL_r, CP_true, CP_false, evOp, evX, X.ev, optX, put_some, put_none, get_set2, sel_t, sel_f, Nat.reduceBEq, Nat.reduceAdd, Nat.reduceLT, Nat.reduceLeDiff, Nat.reduceEqDiff, reduceIte, if_true, if_false, bi_add, bi_sub, bi_mul, bi_eql, bi_neq, bi_lss, bi_leq, bi_gtr, bi_geq, bs_eql, bs_neq, bs_lss, Am.unOp, ret1, pubL, pub, pubA, initT, wkZ, wk, wants, resOf, tupOf, quiet, AOp.cls, Nat.beq_eq, Bool.or_eq_true, decide_true, decide_false, beq_self_eq_true, Bool.true_or, Bool.or_true, true_and, and_true, lenA, eqv, eqB, eqP, scal, new_box_self, List.getElem?_cons_zero, List.getElem?_cons_succ, key_ii, key_ss, findM, updM, esc_i, esc_s, esc_b, Int.reduceEq, ret1, new_nb, new_set, reduceCtorEq, Bool.xor_true, Bool.xor_false, Bool.false_eq_true, List.all_cons, List.all_nil, noTok, Bool.and_self, Bool.and_true, Bool.true_and, h0, hlt]
            exact KR_some ((Over.enter s).new _) rfl (by rw [hval, if_neg (fun hh => hlt hh.2)]; rfl)
        · simp only [W_seq, W_reg, W_cond, W_blk, W_skip, W_exit, W_ret, W_regD, WO_nil, WO_cons, WO_guard2, wantV_b, bq_tt, bq_ft, bq_tf, bq_ff, Bool.not_true, Bool.not_false, WD_nil, WD_cons, WD_guard2, WS_some, WS_none, KS_n, KS_x, KS_r, KB_n, KB_x, KB_r, KN_ap, KO_ap, KD_ap, KC_nil, KF_n, KF_r, KG_n, KG_r, KL_n, KL_x, KL_r, CP_true, CP_false, evOp, evX, X.ev, optX, put_some, put_none, get_set2, sel_t, sel_f, Nat.reduceBEq, Nat.reduceAdd, Nat.reduceLT, Nat.reduceLeDiff, Nat.reduceEqDiff, reduceIte, if_true, if_false, bi_add, bi_sub, bi_mul, bi_eql, bi_neq, bi_lss, bi_leq, bi_gtr, bi_geq, bs_eql, bs_neq, bs_lss, Am.unOp, ret1, pubL, pub, pubA, initT, wkZ, wk, wants, resOf, tupOf, quiet, AOp.cls, Nat.beq_eq, Bool.or_eq_true, decide_true, decide_false, beq_self_eq_true, Bool.true_or, Bool.or_true, true_and, and_true, lenA, eqv, eqB, eqP, scal, new_box_self, List.getElem?_cons_zero, List.getElem?_cons_succ, key_ii, key_ss, findM, updM, esc_i, esc_s, esc_b, Int.reduceEq, ret1, new_nb, new_set, reduceCtorEq, Bool.xor_true, Bool.xor_false, Bool.false_eq_true, List.all_cons, List.all_nil, noTok, Bool.and_self, Bool.and_true, Bool.true_and, h0]
          exact KR_some ((Over.enter s).new _) rfl (by rw [hval, if_neg (fun hh => h0 hh.1)]; rfl)
      · have ha' : ((49 : Int) ≤ c) = False := by simp; omega
        simp only [W_seq, W_reg, W_cond, W_blk, W_skip, W_exit, W_ret, W_regD, WO_nil, WO_cons, WO_guard2, wantV_b, bq_tt, bq_ft, bq_tf, bq_ff, Bool.not_true, Bool.not_false, WD_nil, WD_cons, WD_guard2, WS_some, WS_none, KS_n, KS_x, KS_r, KB_n, KB_x, KB_r, KN_ap, KO_ap, KD_ap, KC_nil, KF_n, KF_r, KG_n, KG_r, KL_n, KL_x, KL_r, CP_true, CP_false, evOp, evX, X.ev, optX, put_some, put_none, get_set2, sel_t, sel_f, Nat.reduceBEq, Nat.reduceAdd, Nat.reduceLT, Nat.reduceLeDiff, Nat.reduceEqDiff, reduceIte, if_true, if_false, bi_add, bi_sub, bi_mul, bi_eql, bi_neq, bi_lss, bi_leq, bi_gtr, bi_geq, bs_eql, bs_neq, bs_lss, Am.unOp, ret1, pubL, pub, pubA, initT, wkZ, wk, wants, resOf, tupOf, quiet, AOp.cls, Nat.beq_eq, Bool.or_eq_true, decide_true, decide_false, beq_self_eq_true, Bool.true_or, Bool.or_true, true_and, and_true, lenA, eqv, eqB, eqP, scal, new_box_self, List.getElem?_cons_zero, List.getElem?_cons_succ, key_ii, key_ss, findM, updM, esc_i, esc_s, esc_b, Int.reduceEq, ret1, new_nb, new_set, reduceCtorEq, Bool.xor_true, Bool.xor_false, Bool.false_eq_true, List.all_cons, List.all_nil, noTok, Bool.and_self, Bool.and_true, Bool.true_and, hlen, hn0, hget, ha', cells_agg, len4, ld4_0, ld4_1, ld4_2, ld4_3, List.length_map, ofNat_len, index_ok _ _ hv.n]
        by_cases h0 : 0 ≤ idxL name v.names
        · by_cases hlt : idxL name v.names < v.values.length
          · have hi : (idxL name v.names).toNat < v.values.length := by omega
            simp only [W_seq, W_reg, W_cond, W_blk, W_skip, W_exit, W_ret, W_regD, WO_nil, WO_cons, WO_guard2, wantV_b, bq_tt, bq_ft, bq_tf, bq_ff, Bool.not_true, Bool.not_false, WD_nil, WD_cons, WD_guard2, WS_some, WS_none, KS_n, KS_x, KS_r, KB_n, KB_x, KB_r, KN_ap, KO_ap, KD_ap, KC_nil, KF_n, KF_r, KG_n, KG_r, KL_n, KL_x, KL_r, CP_true, CP_false, evOp, evX, X.ev, optX, put_some, put_none, get_set2, sel_t, sel_f, Nat.reduceBEq, Nat.reduceAdd, Nat.reduceLT, Nat.reduceLeDiff, Nat.reduceEqDiff, reduceIte, if_true, if_false, bi_add, bi_sub, bi_mul, bi_eql, bi_neq, bi_lss, bi_leq, bi_gtr, bi_geq, bs_eql, bs_neq, bs_lss, Am.unOp, ret1, pubL, pub, pubA, initT, wkZ, wk, wants, resOf, tupOf, quiet, AOp.cls, Nat.beq_eq, Bool.or_eq_true, decide_true, decide_false, beq_self_eq_true, Bool.true_or, Bool.or_true, true_and, and_true, lenA, eqv, eqB, eqP, scal, new_box_self, List.getElem?_cons_zero, List.getElem?_cons_succ, key_ii, key_ss, findM, updM, esc_i, esc_s, esc_b, Int.reduceEq, ret1, new_nb, new_set, reduceCtorEq, Bool.xor_true, Bool.xor_false, Bool.false_eq_true, List.all_cons, List.all_nil, noTok, Bool.and_self, Bool.and_true, Bool.true_and, h0, hlt, cells_agg, len4, ld4_0, ld4_1, ld4_2, ld4_3, natOf_int h0, tx_get hi, cells_s, ldA_1]
            exact KR_some ((Over.enter s).new _) rfl (by rw [hval, if_pos ⟨h0, hlt⟩]; simp [tupOf, wkZ, wk, hi])
          · simp only [W_seq, W_reg, W_cond, W_blk, W_skip, W_exit, W_ret, W_regD, WO_nil, WO_cons, WO_guard2, wantV_b, bq_tt, bq_ft, bq_tf, bq_ff, Bool.not_true, Bool.not_false, WD_nil, WD_cons, WD_guard2, WS_some, WS_none, KS_n, KS_x, KS_r, KB_n, KB_x, KB_r, KN_ap, KO_ap, KD_ap, KC_nil, KF_n, KF_r, KG_n, KG_r, KL_n, KL_x, KL_r, CP_true, CP_false, evOp, evX, X.ev, optX, put_some, put_none, get_set2, sel_t, sel_f, Nat.reduceBEq, Nat.reduceAdd, Nat.reduceLT, Nat.reduceLeDiff, Nat.reduceEqDiff, reduceIte, if_true, if_false, bi_add, bi_sub, bi_mul, bi_eql, bi_neq, bi_lss, bi_leq, bi_gtr, bi_geq, bs_eql, bs_neq, bs_lss, Am.unOp, ret1, pubL, pub, pubA, initT, wkZ, wk, wants, resOf, tupOf, quiet, AOp.cls, Nat.beq_eq, Bool.or_eq_true, decide_true, decide_false, beq_self_eq_true, Bool.true_or, Bool.or_true, true_and, and_true, lenA, eqv, eqB, eqP, scal, new_box_self, List.getElem?_cons_zero, List.getElem?_cons_succ, key_ii, key_ss, findM, updM, esc_i, esc_s, esc_b, Int.reduceEq, ret1, new_nb, new_set, reduceCtorEq, Bool.xor_true, Bool.xor_false, Bool.false_eq_true, List.all_cons, List.all_nil, noTok, Bool.and_self, Bool.and_true, Bool.true_and, h0, hlt]
            exact KR_some ((Over.enter s).new _) rfl (by rw [hval, if_neg (fun hh => hlt hh.2)]; rfl)
        · simp only [W_seq, W_reg, W_cond, W_blk, W_skip, W_exit, W_ret, W_regD, WO_nil, WO_cons, WO_guard2, wantV_b, bq_tt, bq_ft, bq_tf, bq_ff, Bool.not_true, Bool.not_false, WD_nil, WD_cons, WD_guard2, WS_some, WS_none, KS_n, KS_x, KS_r, KB_n, KB_x, KB_r, KN_ap, KO_ap, KD_ap, KC_nil, KF_n, KF_r, KG_n, KG_r, KL_n, KL_x, KL_r, CP_true, CP_false, evOp, evX, X.ev, optX, put_some, put_none, get_set2, sel_t, sel_f, Nat.reduceBEq, Nat.reduceAdd, Nat.reduceLT, Nat.reduceLeDiff, Nat.reduceEqDiff, reduceIte, if_true, if_false, bi_add, bi_sub, bi_mul, bi_eql, bi_neq, bi_lss, bi_leq, bi_gtr, bi_geq, bs_eql, bs_neq, bs_lss, Am.unOp, ret1, pubL, pub, pubA, initT, wkZ, wk, wants, resOf, tupOf, quiet, AOp.cls, Nat.beq_eq, Bool.or_eq_true, decide_true, decide_false, beq_self_eq_true, Bool.true_or, Bool.or_true, true_and, and_true, lenA, eqv, eqB, eqP, scal, new_box_self, List.getElem?_cons_zero, List.getElem?_cons_succ, key_ii, key_ss, findM, updM, esc_i, esc_s, esc_b, Int.reduceEq, ret1, new_nb, new_set, reduceCtorEq, Bool.xor_true, Bool.xor_false, Bool.false_eq_true, List.all_cons, List.all_nil, noTok, Bool.and_self, Bool.and_true, Bool.true_and, h0]
          exact KR_some ((Over.enter s).new _) rfl (by rw [hval, if_neg (fun hh => h0 hh.1)]; rfl)
  · have hval : valueL it v name = if 0 ≤ idxL name v.names ∧ idxL name v.names < v.values.length then v.values.getD (idxL name v.names).toNat [] else [] := by
      unfold valueL
      rw [if_neg h1, if_neg h2]
      split
      · simp at hl
      · rfl
    have : ¬ ((name.length : Int) = 1) := by omega
    simp only [W_seq, W_reg, W_cond, W_blk, W_skip, W_exit, W_ret, W_regD, WO_nil, WO_cons, WO_guard2, wantV_b, bq_tt, bq_ft, bq_tf, bq_ff, Bool.not_true, Bool.not_false, WD_nil, WD_cons, WD_guard2, WS_some, WS_none, KS_n, KS_x, KS_r, KB_n, KB_x, KB_r, KN_ap, KO_ap, KD_ap, KC_nil, KF_n, KF_r, KG_n, KG_r, KL_n, KL_x, KL_r, CP_true, CP_false, evOp, evX, X.ev, optX, put_some, put_none, get_set2, sel_t, sel_f, Nat.reduceBEq, Nat.reduceAdd, Nat.reduceLT, Nat.reduceLeDiff, Nat.reduceEqDiff, reduceIte, if_true, if_false, bi_add, bi_sub, bi_mul, bi_eql, bi_neq, bi_lss, bi_leq, bi_gtr, bi_geq, bs_eql, bs_neq, bs_lss, Am.unOp, ret1, pubL, pub, pubA, initT, wkZ, wk, wants, resOf, tupOf, quiet, AOp.cls, Nat.beq_eq, Bool.or_eq_true, decide_true, decide_false, beq_self_eq_true, Bool.true_or, Bool.or_true, true_and, and_true, lenA, eqv, eqB, eqP, scal, new_box_self, List.getElem?_cons_zero, List.getElem?_cons_succ, key_ii, key_ss, findM, updM, esc_i, esc_s, esc_b, Int.reduceEq, ret1, new_nb, new_set, reduceCtorEq, Bool.xor_true, Bool.xor_false, Bool.false_eq_true, List.all_cons, List.all_nil, noTok, Bool.and_self, Bool.and_true, Bool.true_and, this, cells_agg, len4, ld4_0, ld4_1, ld4_2, ld4_3, List.length_map, ofNat_len, index_ok _ _ hv.n]
    by_cases h0 : 0 ≤ idxL name v.names
    · by_cases hlt : idxL name v.names < v.values.length
      · have hi : (idxL name v.names).toNat < v.values.length := by omega
        simp only [W_seq, W_reg, W_cond, W_blk, W_skip, W_exit, W_ret, W_regD, WO_nil, WO_cons, WO_guard2, wantV_b, bq_tt, bq_ft, bq_tf, bq_ff, Bool.not_true, Bool.not_false, WD_nil, WD_cons, WD_guard2, WS_some, WS_none, KS_n, KS_x, KS_r, KB_n, KB_x, KB_r, KN_ap, KO_ap, KD_ap, KC_nil, KF_n, KF_r, KG_n, KG_r, KL_n, KL_x, KL_r, CP_true, CP_false, evOp, evX, X.ev, optX, put_some, put_none, get_set2, sel_t, sel_f, Nat.reduceBEq, Nat.reduceAdd, Nat.reduceLT, Nat.reduceLeDiff, Nat.reduceEqDiff, reduceIte, if_true, if_false, bi_add, bi_sub, bi_mul, bi_eql, bi_neq, bi_lss, bi_leq, bi_gtr, bi_geq, bs_eql, bs_neq, bs_lss, Am.unOp, ret1, pubL, pub, pubA, initT, wkZ, wk, wants, resOf, tupOf, quiet, AOp.cls, Nat.beq_eq, Bool.or_eq_true, decide_true, decide_false, beq_self_eq_true, Bool.true_or, Bool.or_true, true_and, and_true, lenA, eqv, eqB, eqP, scal, new_box_self, List.getElem?_cons_zero, List.getElem?_cons_succ, key_ii, key_ss, findM, updM, esc_i, esc_s, esc_b, Int.reduceEq, ret1, new_nb, new_set, reduceCtorEq, Bool.xor_true, Bool.xor_false, Bool.false_eq_true, List.all_cons, List.all_nil, noTok, Bool.and_self, Bool.and_true, Bool.true_and, h0, hlt, cells_agg, len4, ld4_0, ld4_1, ld4_2, ld4_3, natOf_int h0, tx_get hi, cells_s, ldA_1]
        exact KR_some ((Over.enter s).new _) rfl (by rw [hval, if_pos ⟨h0, hlt⟩]; simp [tupOf, wkZ, wk, hi])
      · simp only [W_seq, W_reg, W_cond, W_blk, W_skip, W_exit, W_ret, W_regD, WO_nil, WO_cons, WO_guard2, wantV_b, bq_tt, bq_ft, bq_tf, bq_ff, Bool.not_true, Bool.not_false, WD_nil, WD_cons, WD_guard2, WS_some, WS_none, KS_n, KS_x, KS_r, KB_n, KB_x, KB_r, KN_ap, KO_ap, KD_ap, KC_nil, KF_n, KF_r, KG_n, KG_r, KL_n, KL_x, KL_r, CP_true, CP_false, evOp, evX, X.ev, optX, put_some, put_none, get_set2, sel_t, sel_f, Nat.reduceBEq, Nat.reduceAdd, Nat.reduceLT, Nat.reduceLeDiff, Nat.reduceEqDiff, reduceIte, if_true, if_false, bi_add, bi_sub, bi_mul, bi_eql, bi_neq, bi_lss, bi_leq, bi_gtr, bi_geq, bs_eql, bs_neq, bs_lss, Am.unOp, ret1, pubL, pub, pubA, initT, wkZ, wk, wants, resOf, tupOf, quiet, AOp.cls, Nat.beq_eq, Bool.or_eq_true, decide_true, decide_false, beq_self_eq_true, Bool.true_or, Bool.or_true, true_and, and_true, lenA, eqv, eqB, eqP, scal, new_box_self, List.getElem?_cons_zero, List.getElem?_cons_succ, key_ii, key_ss, findM, updM, esc_i, esc_s, esc_b, Int.reduceEq, ret1, new_nb, new_set, reduceCtorEq, Bool.xor_true, Bool.xor_false, Bool.false_eq_true, List.all_cons, List.all_nil, noTok, Bool.and_self, Bool.and_true, Bool.true_and, h0, hlt]
        exact KR_some ((Over.enter s).new _) rfl (by rw [hval, if_neg (fun hh => hlt hh.2)]; rfl)
    · simp only [W_seq, W_reg, W_cond, W_blk, W_skip, W_exit, W_ret, W_regD, WO_nil, WO_cons, WO_guard2, wantV_b, bq_tt, bq_ft, bq_tf, bq_ff, Bool.not_true, Bool.not_false, WD_nil, WD_cons, WD_guard2, WS_some, WS_none, KS_n, KS_x, KS_r, KB_n, KB_x, KB_r, KN_ap, KO_ap, KD_ap, KC_nil, KF_n, KF_r, KG_n, KG_r, KL_n, KL_x, KL_r, CP_true, CP_false, evOp, evX, X.ev, optX, put_some, put_none, get_set2, sel_t, sel_f, Nat.reduceBEq, Nat.reduceAdd, Nat.reduceLT, Nat.reduceLeDiff, Nat.reduceEqDiff, reduceIte, if_true, if_false, bi_add, bi_sub, bi_mul, bi_eql, bi_neq, bi_lss, bi_leq, bi_gtr, bi_geq, bs_eql, bs_neq, bs_lss, Am.unOp, ret1, pubL, pub, pubA, initT, wkZ, wk, wants, resOf, tupOf, quiet, AOp.cls, Nat.beq_eq, Bool.or_eq_true, decide_true, decide_false, beq_self_eq_true, Bool.true_or, Bool.or_true, true_and, and_true, lenA, eqv, eqB, eqP, scal, new_box_self, List.getElem?_cons_zero, List.getElem?_cons_succ, key_ii, key_ss, findM, updM, esc_i, esc_s, esc_b, Int.reduceEq, ret1, new_nb, new_set, reduceCtorEq, Bool.xor_true, Bool.xor_false, Bool.false_eq_true, List.all_cons, List.all_nil, noTok, Bool.and_self, Bool.and_true, Bool.true_and, h0]
      exact KR_some ((Over.enter s).new _) rfl (by rw [hval, if_neg (fun hh => h0 hh.1)]; rfl)
end value
end Go.Proofs.YtfpoihibfajhlaaDoor

/-
  A byte in a text.
-/
set_option maxRecDepth 100000
set_option linter.unusedSimpArgs false
set_option linter.constructorNameAsVariable false
namespace Go.Proofs.YtfpoihibfajhlaaDoor
open Go.Proofs.YtfpoihibfajhlaaDoor.Am

/-! ### A byte in a text -/
theorem nbeq_ne {a c : Nat} (h : ¬ a = c) : Nat.beq a c = false := Bool.eq_false_iff.2 (by rw [Ne, Nat.beq_eq]; exact h)
theorem idxB_neg {c : Nat} : ∀ {l : List Nat} {n : Nat}, idxB c n l < 0 ↔ c ∉ l
  | [], n => by simp [idxB]
  | a :: l, n => by
    simp only [idxB]
    by_cases h : a = c
    · subst h
      simp [Nat.beq_eq]
    · have hb : Nat.beq a c = false := nbeq_ne h
      rw [hb, cond_false, idxB_neg]
      simp; omega
theorem idxB_miss {c : Nat} : ∀ {l : List Nat} {n : Nat}, c ∉ l → idxB c n l = -1
  | [], n, _ => rfl
  | a :: l, n, h => by
    simp only [List.mem_cons, not_or] at h
    have hb : Nat.beq a c = false := nbeq_ne (Ne.symm h.1)
    simp only [idxB]
    rw [hb, cond_false, idxB_miss h.2]
theorem idxB_app {c : Nat} : ∀ {a b : List Nat} {n : Nat}, c ∉ a → idxB c n (a ++ c :: b) = ((n + a.length : Nat) : Int)
  | [], b, n, _ => by simp [idxB]
  | x :: a, b, n, h => by
    simp only [List.mem_cons, not_or] at h
    have hb : Nat.beq x c = false := nbeq_ne (Ne.symm h.1)
    simp only [List.cons_append, idxB]
    rw [hb, cond_false, idxB_app h.2]
    simp; omega

theorem ext0 (s : St) (l : List Nat) (c : Nat) (hc : c < 256) : extA s 0 [.s l, .i .u8 (c : Int)] = some (.i .i64 (idxB c 0 l), s) := by
  have h : ((IntKind.u8 = IntKind.u8) ∧ (0 : Int) ≤ (c : Int) ∧ (c : Int) < 256) := ⟨rfl, by omega, by omega⟩
  show (if _ then _ else _) = _
  rw [if_pos h]
  simp
theorem indexByteL_ok (l : List Nat) (c : Nat) (hc : c < 256) (s : St) : (lim prog).call f_internal_stringslite_IndexByte [.s l, .i .u8 (c : Int)] s = some (.i .i64 (idxB c 0 l), s) := by
  refine fn_W p_internal_stringslite_IndexByte rfl rfl ?_
  simp only [c_internal_stringslite_IndexByte, go_sem, W_regD, KB_n, KB_x, Nat.reduceBEq, Nat.reduceAdd, Nat.reduceLT, Nat.reduceLeDiff, Nat.reduceEqDiff, reduceIte, Int.reduceEq, reduceCtorEq, ext0 _ l c hc]
  exact KR_some (Over.enter s) rfl rfl
theorem natOf0 : natOf (.i .i64 0) = some 0 := rfl
theorem indexL_ok (l : List Nat) (c : Nat) (hc : c < 256) (s : St) : (lim prog).call f_internal_stringslite_Index [.s l, .s [c]] s = some (.i .i64 (idxB c 0 l), s) := by
  refine fn_W p_internal_stringslite_Index rfl rfl ?_
  have h1 : (((List.length [c] : Nat) : Int) = 0) = False := by simp
  have h2 : (((List.length [c] : Nat) : Int) = 1) = True := by simp
  simp only [c_internal_stringslite_Index, go_sem, W_regD, KB_n, KB_x, Nat.reduceBEq, Nat.reduceAdd, Nat.reduceLT, Nat.reduceLeDiff, Nat.reduceEqDiff, reduceIte, Int.reduceEq, reduceCtorEq, ofNat_len, h1, natOf0, h2]
  have hk : KR s [CT.id] (.i .i64 (idxB c 0 l)) (some ([.i .i64 (idxB c 0 l)], s.enter)) := KR_some (Over.enter s) rfl rfl
  by_cases hl : [c] = l
  · subst hl
    simp only [go_sem, W_regD, KB_n, KB_x, Nat.reduceBEq, Nat.reduceAdd, Nat.reduceLT, Nat.reduceLeDiff, Nat.reduceEqDiff, reduceIte, Int.reduceEq, reduceCtorEq, ofNat_len, h1, natOf0, h2, eq_self, indexByteL_ok _ c hc]
    exact KR_some (Over.enter s) rfl (by simp [tupOf, wkZ, wk, idxB])
  · have hl' : ([c] = l) = False := by simp [hl]
    simp only [go_sem, W_regD, KB_n, KB_x, Nat.reduceBEq, Nat.reduceAdd, Nat.reduceLT, Nat.reduceLeDiff, Nat.reduceEqDiff, reduceIte, Int.reduceEq, reduceCtorEq, ofNat_len, h1, natOf0, h2, hl', indexByteL_ok _ c hc]
    exact hk
theorem sindex_ok (l : List Nat) (c : Nat) (hc : c < 256) (s : St) : (lim prog).call f_strings_Index [.s l, .s [c]] s = some (.i .i64 (idxB c 0 l), s) := by
  refine fn_W p_strings_Index rfl rfl ?_
  simp only [c_strings_Index, go_sem, W_regD, KB_n, KB_x, Nat.reduceBEq, Nat.reduceAdd, Nat.reduceLT, Nat.reduceLeDiff, Nat.reduceEqDiff, reduceIte, Int.reduceEq, reduceCtorEq, indexL_ok l c hc]
  exact KR_some (Over.enter s) rfl rfl
end Go.Proofs.YtfpoihibfajhlaaDoor

/-
  Names of variables: what isName tells.
-/
set_option maxRecDepth 100000
set_option linter.unusedSimpArgs false
set_option linter.constructorNameAsVariable false
namespace Go.Proofs.YtfpoihibfajhlaaDoor
open Go.Proofs.YtfpoihibfajhlaaDoor.Am

def orN (c : Nat) : Nat := (BitVec.ofInt 8 (c : Int) ||| BitVec.ofInt 8 32).toNat
def letterN (c : Nat) : Bool := decide (c = 95) || (decide (97 ≤ orN c) && decide (orN c ≤ 122))
def digitN (c : Nat) : Bool := decide (48 ≤ c) && decide (c ≤ 57)
theorem bi_or32 (c : Nat) : Am.binOp .or (.i .u8 (c : Int)) (.i .u8 32) = some (.i .u8 (orN c : Int)) := by
  have h : orN c < 256 := (BitVec.ofInt 8 (c : Int) ||| BitVec.ofInt 8 32).isLt
  have e1 : IntKind.u8.wrap ((orN c : Nat) : Int) = (orN c : Int) := by
    have e2 : (((orN c : Nat) : Int) % 2 ^ 8) = (orN c : Int) := by omega
    simp only [IntKind.wrap, IntKind.signed, IntKind.bits, e2]
    rfl
  show some (AV.i .u8 (IntKind.u8.wrap ((orN c : Nat) : Int))) = _
  rw [e1]
theorem letter_ok (c : Nat) (s : St) : (lim prog).call f_word_letter [.i .u8 (c : Int)] s = some (.b (letterN c), s) := by
  refine fn_W p_word_letter rfl rfl ?_
  by_cases h1 : c = 95
  · have e1 : ((c : Int) = 95) = True := by simp; omega
    simp only [c_word_letter, go_sem, W_regD, KB_n, KB_x, Nat.reduceBEq, Nat.reduceAdd, Nat.reduceLT, Nat.reduceLeDiff, Nat.reduceEqDiff, reduceIte, Int.reduceEq, reduceCtorEq, e1]
    exact KR_some (Over.enter s) rfl (by simp [tupOf, wkZ, wk, letterN, h1])
  · have e1 : ((c : Int) = 95) = False := by simp; omega
    by_cases h2 : 97 ≤ orN c
    · have e2 : ((97 : Int) ≤ (orN c : Int)) = True := by simp; omega
      simp only [c_word_letter, go_sem, W_regD, KB_n, KB_x, Nat.reduceBEq, Nat.reduceAdd, Nat.reduceLT, Nat.reduceLeDiff, Nat.reduceEqDiff, reduceIte, Int.reduceEq, reduceCtorEq, e1, bi_or32, e2]
      exact KR_some (Over.enter s) rfl (by simp [tupOf, wkZ, wk, letterN, h1, h2]; omega)
    · have e2 : ((97 : Int) ≤ (orN c : Int)) = False := by simp; omega
      simp only [c_word_letter, go_sem, W_regD, KB_n, KB_x, Nat.reduceBEq, Nat.reduceAdd, Nat.reduceLT, Nat.reduceLeDiff, Nat.reduceEqDiff, reduceIte, Int.reduceEq, reduceCtorEq, e1, bi_or32, e2]
      exact KR_some (Over.enter s) rfl (by simp [tupOf, wkZ, wk, letterN, h1, h2])
theorem digit_ok (c : Nat) (s : St) : (lim prog).call f_word_digit [.i .u8 (c : Int)] s = some (.b (digitN c), s) := by
  refine fn_W p_word_digit rfl rfl ?_
  by_cases h1 : 48 ≤ c
  · have e1 : ((48 : Int) ≤ (c : Int)) = True := by simp; omega
    simp only [c_word_digit, go_sem, W_regD, KB_n, KB_x, Nat.reduceBEq, Nat.reduceAdd, Nat.reduceLT, Nat.reduceLeDiff, Nat.reduceEqDiff, reduceIte, Int.reduceEq, reduceCtorEq, e1]
    exact KR_some (Over.enter s) rfl (by simp [tupOf, wkZ, wk, digitN, h1]; omega)
  · have e1 : ((48 : Int) ≤ (c : Int)) = False := by simp; omega
    simp only [c_word_digit, go_sem, W_regD, KB_n, KB_x, Nat.reduceBEq, Nat.reduceAdd, Nat.reduceLT, Nat.reduceLeDiff, Nat.reduceEqDiff, reduceIte, Int.reduceEq, reduceCtorEq, e1]
    exact KR_some (Over.enter s) rfl (by simp [tupOf, wkZ, wk, digitN, h1])

def leadGo : Nat → List Nat → Nat
  | 0, _ => 0
  | _ + 1, [] => 0
  | k + 1, c :: l => if letterN c || digitN c then 1 + leadGo k l else 0
def leadN : List Nat → Nat
  | [] => 0
  | c :: l => if letterN c then 1 + leadGo 63 l else 0
theorem leadGo_le : ∀ (k : Nat) (l : List Nat), leadGo k l ≤ l.length ∧ leadGo k l ≤ k
  | 0, l => by simp [leadGo]
  | k + 1, [] => by simp [leadGo]
  | k + 1, c :: l => by
    have := leadGo_le k l
    simp only [leadGo]
    split <;> simp <;> omega
theorem lead_ok (l : List Nat) (hl : l.length < 2 ^ 62) (s : St) : (lim prog).call f_word_lead [.s l] s = some (.i .i64 (leadN l : Int), s) := by
  refine fn_W p_word_lead rfl rfl ?_
  cases l with
  | nil =>
    have e1 : (([] : List Nat) = []) = True := by simp
    simp only [c_word_lead, go_sem, W_regD, KB_n, KB_x, Nat.reduceBEq, Nat.reduceAdd, Nat.reduceLT, Nat.reduceLeDiff, Nat.reduceEqDiff, reduceIte, Int.reduceEq, reduceCtorEq, e1]
    exact KR_some (Over.enter s) rfl rfl
  | cons c l =>
    have e1 : ((c :: l) = []) = False := by simp
    cases hc : letterN c with
    | false =>
      simp only [c_word_lead, go_sem, W_regD, KB_n, KB_x, Nat.reduceBEq, Nat.reduceAdd, Nat.reduceLT, Nat.reduceLeDiff, Nat.reduceEqDiff, reduceIte, Int.reduceEq, reduceCtorEq, e1, natOf0, ofNat_len, letter_ok, hc]
      exact KR_some (Over.enter s) rfl (by simp [tupOf, wkZ, wk, leadN, hc])
    | true =>
      simp only [c_word_lead, go_sem, W_regD, KB_n, KB_x, Nat.reduceBEq, Nat.reduceAdd, Nat.reduceLT, Nat.reduceLeDiff, Nat.reduceEqDiff, reduceIte, Int.reduceEq, reduceCtorEq, e1, natOf0, ofNat_len, letter_ok, hc]
      have hln : leadN (c :: l) = 1 + leadGo 63 l := by simp [leadN, hc]
      refine W_loop (fun n e q => s.enter = q ∧ e.get 0 = .s (c :: l) ∧ ∃ i : Nat, i + n = (c :: l).length ∧ e.get 3 = .i .i64 i ∧ i ≤ 64 ∧ leadN (c :: l) = i + leadGo (64 - i) ((c :: l).drop i)) ?_ l.length _ _ ?_
      · rintro n e q ⟨rfl, g0, i, hi, g3, hi64, hld⟩
        have hend : leadGo (64 - i) ((c :: l).drop i) = 0 → KR s [CT.id] (.i .i64 (leadN (c :: l) : Int)) (some ([.i .i64 (i : Int)], s.enter)) := fun h => KR_some (Over.enter s) rfl (by simp [tupOf, wkZ, wk]; omega)
        by_cases h1 : i < (c :: l).length
        · have e2 : ((i : Int) < ((c :: l).length : Int)) = True := by simp only [eq_iff_iff, iff_true]; omega
          by_cases h2 : i < 64
          · have e3 : ((i : Int) < 64) = True := by simp only [eq_iff_iff, iff_true]; omega
            have hget : (c :: l)[i]? = some (c :: l)[i] := List.getElem?_eq_getElem h1
            have hdrop : (c :: l).drop i = (c :: l)[i] :: (c :: l).drop (i + 1) := List.drop_eq_getElem_cons h1
            generalize (c :: l)[i] = d at hget hdrop
            have hgo : leadGo (64 - i) ((c :: l).drop i) = if letterN d || digitN d then 1 + leadGo (64 - (i + 1)) ((c :: l).drop (i + 1)) else 0 := by
              rw [hdrop, show 64 - i = (64 - (i + 1)) + 1 by omega]; rfl
            cases hd : letterN d with
            | true =>
              simp only [go_sem, W_regD, KB_n, KB_x, Nat.reduceBEq, Nat.reduceAdd, Nat.reduceLT, Nat.reduceLeDiff, Nat.reduceEqDiff, reduceIte, Int.reduceEq, reduceCtorEq, g0, g3, ofNat_len, e2, e3, natOf_nat, hget, letter_ok, hd, wrap_succ (show i + 1 < 2 ^ 63 by omega)]
              refine ⟨n - 1, by omega, i + 1, by omega, rfl, by omega, ?_⟩
              rw [hd] at hgo
              simp only [Bool.true_or, if_true] at hgo
              omega
            | false =>
              cases hd2 : digitN d with
              | true =>
                simp only [go_sem, W_regD, KB_n, KB_x, Nat.reduceBEq, Nat.reduceAdd, Nat.reduceLT, Nat.reduceLeDiff, Nat.reduceEqDiff, reduceIte, Int.reduceEq, reduceCtorEq, g0, g3, ofNat_len, e2, e3, natOf_nat, hget, letter_ok, hd, digit_ok, hd2, wrap_succ (show i + 1 < 2 ^ 63 by omega)]
                refine ⟨n - 1, by omega, i + 1, by omega, rfl, by omega, ?_⟩
                rw [hd, hd2] at hgo
                simp only [Bool.or_true, if_true] at hgo
                omega
              | false =>
                simp only [go_sem, W_regD, KB_n, KB_x, Nat.reduceBEq, Nat.reduceAdd, Nat.reduceLT, Nat.reduceLeDiff, Nat.reduceEqDiff, reduceIte, Int.reduceEq, reduceCtorEq, g0, g3, ofNat_len, e2, e3, natOf_nat, hget, letter_ok, hd, digit_ok, hd2]
                exact hend (by rw [hgo, hd, hd2]; rfl)
          · have e3 : ((i : Int) < 64) = False := by simp only [eq_iff_iff, iff_false]; omega
            simp only [go_sem, W_regD, KB_n, KB_x, Nat.reduceBEq, Nat.reduceAdd, Nat.reduceLT, Nat.reduceLeDiff, Nat.reduceEqDiff, reduceIte, Int.reduceEq, reduceCtorEq, g0, g3, ofNat_len, e2, e3]
            exact hend (by rw [show 64 - i = 0 by omega]; rfl)
        · have e2 : ((i : Int) < ((c :: l).length : Int)) = False := by simp only [eq_iff_iff, iff_false]; omega
          simp only [go_sem, W_regD, KB_n, KB_x, Nat.reduceBEq, Nat.reduceAdd, Nat.reduceLT, Nat.reduceLeDiff, Nat.reduceEqDiff, reduceIte, Int.reduceEq, reduceCtorEq, g0, g3, ofNat_len, e2]
          exact hend (by
            rw [List.drop_eq_nil_of_le (by omega)]
            cases 64 - i <;> rfl)
      · simp only [go_sem, W_regD, KB_n, KB_x, Nat.reduceBEq, Nat.reduceAdd, Nat.reduceLT, Nat.reduceLeDiff, Nat.reduceEqDiff, reduceIte, Int.reduceEq, reduceCtorEq]
        exact ⟨1, by simp; omega, rfl, by omega, by rw [hln]; rfl⟩

/-- The bytes that are parameters' names by themselves. -/
def parK : List Nat := [49, 50, 51, 52, 53, 54, 55, 56, 57, 35, 63]
theorem contains_ok (l : List Nat) (c : Nat) (hc : c < 256) (s : St) : (lim prog).call f_strings_Contains [.s l, .s [c]] s = some (.b (decide ((0 : Int) ≤ idxB c 0 l)), s) := by
  refine fn_W p_strings_Contains rfl rfl ?_
  simp only [c_strings_Contains, go_sem, W_regD, KB_n, KB_x, Nat.reduceBEq, Nat.reduceAdd, Nat.reduceLT, Nat.reduceLeDiff, Nat.reduceEqDiff, reduceIte, Int.reduceEq, reduceCtorEq, sindex_ok l c hc]
  exact KR_some (Over.enter s) rfl rfl
def paramN (l : List Nat) : Bool := match l with
  | [] => false
  | [c] => decide ((0 : Int) ≤ idxB c 0 parK) || decide (leadN [c] = 1)
  | c :: d :: r => decide (leadN (c :: d :: r) = (c :: d :: r).length)
theorem param_ok (l : List Nat) (hl : Txt l) (hl2 : l.length < 2 ^ 62) (s : St) : (lim prog).call f_word_Param [.s l] s = some (.b (paramN l), s) := by
  refine fn_W p_word_Param rfl rfl ?_
  have hlead := lead_ok l hl2
  match l, hl, hl2, hlead with
  | [], _, _, _ =>
    have e0 : ((([] : List Nat).length : Int) = 1) = False := by simp
    have e1 : (([] : List Nat) ≠ []) = False := by simp
    simp only [c_word_Param, go_sem, W_regD, KB_n, KB_x, Nat.reduceBEq, Nat.reduceAdd, Nat.reduceLT, Nat.reduceLeDiff, Nat.reduceEqDiff, reduceIte, Int.reduceEq, reduceCtorEq, ofNat_len, e0, e1]
    exact KR_some (Over.enter s) rfl rfl
  | [c], hl, _, hlead =>
    have e0 : (([c].length : Int) = 1) = True := by simp
    have e1 : ([c] ≠ []) = True := by simp
    have hcon : ∀ s, (lim prog).call f_strings_Contains [.s [49, 50, 51, 52, 53, 54, 55, 56, 57, 35, 63], .s [c]] s = some (.b (decide ((0 : Int) ≤ idxB c 0 parK)), s) := fun s => contains_ok parK c (hl.lt c (by simp)) s
    by_cases h : (0 : Int) ≤ idxB c 0 parK
    · rw [decide_eq_true h] at hcon
      simp only [c_word_Param, go_sem, W_regD, KB_n, KB_x, Nat.reduceBEq, Nat.reduceAdd, Nat.reduceLT, Nat.reduceLeDiff, Nat.reduceEqDiff, reduceIte, Int.reduceEq, reduceCtorEq, ofNat_len, e0, e1, hcon]
      exact KR_some (Over.enter s) rfl (by simp [tupOf, wkZ, wk, paramN, h])
    · rw [decide_eq_false h] at hcon
      simp only [c_word_Param, go_sem, W_regD, KB_n, KB_x, Nat.reduceBEq, Nat.reduceAdd, Nat.reduceLT, Nat.reduceLeDiff, Nat.reduceEqDiff, reduceIte, Int.reduceEq, reduceCtorEq, ofNat_len, e0, e1, hcon, hlead]
      exact KR_some (Over.enter s) rfl (by simp [tupOf, wkZ, wk, paramN, h]; omega)
  | c :: d :: r, hl, _, hlead =>
    have e0 : (((c :: d :: r).length : Int) = 1) = False := by simp; omega
    have e1 : ((c :: d :: r) ≠ []) = True := by simp
    simp only [c_word_Param, go_sem, W_regD, KB_n, KB_x, Nat.reduceBEq, Nat.reduceAdd, Nat.reduceLT, Nat.reduceLeDiff, Nat.reduceEqDiff, reduceIte, Int.reduceEq, reduceCtorEq, ofNat_len, e0, e1, hlead]
    exact KR_some (Over.enter s) rfl (by
      simp only [tupOf, wkZ, wk, paramN, AV.b.injEq, decide_eq_decide]
      omega)
def isNameN (l : List Nat) : Bool := paramN l && (decide (l ≠ [35]) && (decide (l ≠ [63]) && match l with
  | [] => false
  | c :: _ => decide (c < 48) || decide (57 < c)))
theorem isName_ok (l : List Nat) (hl : Txt l) (hl2 : l.length < 2 ^ 62) (s : St) : (lim prog).call f_expand_isName [.s l] s = some (.b (isNameN l), s) := by
  refine fn_W p_expand_isName rfl rfl ?_
  have hp := param_ok l hl hl2
  cases h : paramN l with
  | false =>
    rw [h] at hp
    simp only [c_expand_isName, go_sem, W_regD, KB_n, KB_x, Nat.reduceBEq, Nat.reduceAdd, Nat.reduceLT, Nat.reduceLeDiff, Nat.reduceEqDiff, reduceIte, Int.reduceEq, reduceCtorEq, hp]
    exact KR_some (Over.enter s) rfl (by simp [tupOf, wkZ, wk, isNameN, h])
  | true =>
  rw [h] at hp
  cases l with
  | nil => cases h
  | cons c r =>
  by_cases h1 : (c :: r) = [35]
  · have e1 : ((c :: r) ≠ [35]) = False := by simp [h1]
    simp only [c_expand_isName, go_sem, W_regD, KB_n, KB_x, Nat.reduceBEq, Nat.reduceAdd, Nat.reduceLT, Nat.reduceLeDiff, Nat.reduceEqDiff, reduceIte, Int.reduceEq, reduceCtorEq, hp, e1]
    exact KR_some (Over.enter s) rfl (by rw [isNameN, h]; simp [tupOf, wkZ, wk, h1])
  have e1 : ((c :: r) ≠ [35]) = True := by simp only [eq_iff_iff, iff_true]; exact h1
  by_cases h2 : (c :: r) = [63]
  · have e2 : ((c :: r) ≠ [63]) = False := by simp [h2]
    simp only [c_expand_isName, go_sem, W_regD, KB_n, KB_x, Nat.reduceBEq, Nat.reduceAdd, Nat.reduceLT, Nat.reduceLeDiff, Nat.reduceEqDiff, reduceIte, Int.reduceEq, reduceCtorEq, hp, e1, e2]
    exact KR_some (Over.enter s) rfl (by rw [isNameN, h]; simp [tupOf, wkZ, wk, h2])
  have e2 : ((c :: r) ≠ [63]) = True := by simp only [eq_iff_iff, iff_true]; exact h2
  have hres : isNameN (c :: r) = (decide (c < 48) || decide (57 < c)) := by
    unfold isNameN
    rw [h, decide_eq_true h1, decide_eq_true h2]; rfl
  by_cases h3 : c < 48
  · have e3 : ((c : Int) < 48) = True := by simp only [eq_iff_iff, iff_true]; omega
    simp only [c_expand_isName, go_sem, W_regD, KB_n, KB_x, Nat.reduceBEq, Nat.reduceAdd, Nat.reduceLT, Nat.reduceLeDiff, Nat.reduceEqDiff, reduceIte, Int.reduceEq, reduceCtorEq, hp, e1, e2, natOf0, ofNat_len, e3]
    exact KR_some (Over.enter s) rfl (by rw [hres]; simp [tupOf, wkZ, wk, h3])
  · have e3 : ((c : Int) < 48) = False := by simp only [eq_iff_iff, iff_false]; omega
    simp only [c_expand_isName, go_sem, W_regD, KB_n, KB_x, Nat.reduceBEq, Nat.reduceAdd, Nat.reduceLT, Nat.reduceLeDiff, Nat.reduceEqDiff, reduceIte, Int.reduceEq, reduceCtorEq, hp, e1, e2, natOf0, ofNat_len, e3]
    exact KR_some (Over.enter s) rfl (by
      rw [hres]
      simp only [tupOf, wkZ, wk, decide_eq_false h3, Bool.false_or, AV.b.injEq, decide_eq_decide]
      omega)
end Go.Proofs.YtfpoihibfajhlaaDoor

/-
  slices.Clone of texts, over a heap.
-/
set_option maxRecDepth 100000
set_option linter.unusedSimpArgs false
set_option linter.constructorNameAsVariable false
namespace Go.Proofs.YtfpoihibfajhlaaDoor
open Go.Proofs.YtfpoihibfajhlaaDoor.Am

theorem le11s : (1 ≤ 1) = True := by simp
theorem clone_nil (s : St) : (lim prog).call f_slices_Clone_string_string [tx []] s = some (.ws true 1 [], { s with lo := min s.lo s.nb }) := by
  rw [lim_call]
  unfold callF
  rw [p_slices_Clone_string_string]
  have h1 : wkZ c_slices_Clone_string_string.cin [tx []] = [.ws false 1 []] := by
    simp [c_slices_Clone_string_string, wkZ, wk, wkM]
  have h2 : both c_slices_Clone_string_string [.ws false 1 []] = some (.ws true 1 []) := by rfl
  have h3 : Nat.ble [tx []].length c_slices_Clone_string_string.ntmps = true := rfl
  have h4 : c_slices_Clone_string_string.prim = none := rfl
  simp only [h4, h3, h1, h2]
theorem clone_cons (x : List Nat) (L : List (List Nat)) (hL : (x :: L).length < 2 ^ 38) (s : St) :
    (lim prog).call f_slices_Clone_string_string [tx (x :: L)] s = some (.sl 1 ((x :: L).map .s) (.tok s.nt 0), { s.newTok (x :: L).length (some 9) with lo := min s.lo s.nb }) := by
  have h1 : wkZ c_slices_Clone_string_string.cin [tx (x :: L)] = [tx (x :: L)] := by
    have := (told_tx (x :: L)).wk
    simp only [c_slices_Clone_string_string, wkZ, this]
  obtain ⟨r, s', hc, rfl, rfl⟩ := fn_K (t := 2) (s := s) (args := [tx (x :: L)]) (Post := fun r s' => r = .sl 1 ((x :: L).map .s) (.tok s.nt 0) ∧ s' = { s.newTok (x :: L).length (some 9) with lo := min s.lo s.nb }) p_slices_Clone_string_string rfl rfl rfl (by rw [h1]; rfl) (by
    rw [h1]
    have heq : eqS (tx (x :: L)) .nsl = some false := rfl
    have ha : appA s.enter 1 9 (.sl 1 [] .full) (tx (x :: L)) = some (.sl 1 ((x :: L).map .s) (.tok s.nt 0), s.enter.newTok (x :: L).length (some 9)) := by
      simp only [tx, List.map_cons, appA, elems, if_true, List.nil_append, List.length_nil, Nat.zero_add, true_and]
      rw [if_pos (by simpa using hL)]
      simp [St.enter]
    have hal : allLen 1 [] = true := rfl
    simp only [c_slices_Clone_string_string, go_sem, W_regD, KB_n, KB_x, Nat.reduceBEq, Nat.reduceAdd, Nat.reduceLT, Nat.reduceLeDiff, Nat.reduceEqDiff, reduceIte, Int.reduceEq, reduceCtorEq, heq, hal, le11s, ha, KK_n, KK_r]
    rfl)
  exact hc
theorem clone_hp {s0 s : St} {n : En} {R : List RA} {B : List (Nat × Box)} (H : Hp s0 s n R B) (L : List (List Nat)) (hL : L.length < 2 ^ 38) :
    ∃ r s', (lim prog).call f_slices_Clone_string_string [tx L] s = some (r, s') ∧ Hp s0 s' n (⟨1, 9, r, L.map .s, true⟩ :: R) B ∧ s'.nb = s.nb := by
  have hlo := H.lo
  have h1 := H.over.lo
  have h2 := H.over.nb
  cases L with
  | nil =>
    refine ⟨_, _, clone_nil s, ?_, rfl⟩
    exact (H.setLo (m := min s.lo s.nb) (by omega) (by omega)).addFull 1 9 true .ws
  | cons x L =>
    refine ⟨_, _, clone_cons x L hL s, ?_, rfl⟩
    have := H.newTok 1 9 ((x :: L).map .s)
    rw [List.length_map] at this
    exact this.setLo (m := min s.lo s.nb) (by omega) (by omega)
/-- A clone that is told at once. -/
theorem clone_hpQ {s0 s : St} {n : En} {R : List RA} {B : List (Nat × Box)} (H : Hp s0 s n R B) (L : List (List Nat)) (hL : L.length < 2 ^ 38) :
    ∃ r s1 a s', (lim prog).call f_slices_Clone_string_string [tx L] s = some (r, s1) ∧ shutA false s1 r = some (a, s') ∧ Told1 1 a (L.map .s) ∧ Hp s0 s' n R B ∧ s'.nb = s.nb := by
  obtain ⟨r, s1, h1, H1, e1⟩ := clone_hp H L hL
  obtain ⟨a, s', h2, h3, H2, e2⟩ := H1.pub 0 rfl
  refine ⟨r, s1, a, s', h1, h2, h3, ?_, by omega⟩
  exact H2.dropR
end Go.Proofs.YtfpoihibfajhlaaDoor

/-
  expand.Set.
-/
set_option maxRecDepth 100000
set_option maxHeartbeats 2000000
set_option linter.unusedSimpArgs false
set_option linter.constructorNameAsVariable false
namespace Go.Proofs.YtfpoihibfajhlaaDoor
open Go.Proofs.YtfpoihibfajhlaaDoor.Am
attribute [local irreducible] W WO WE WQ WD Tr.get Tr.set

def setVal (v : VV) (name value l : List Nat) : List Nat := if l = name then value else v.values.getD (idxL l v.names).toNat []
def setK (v : VV) (name : List Nat) : List (List Nat) := setN (v.names ++ [name])
def setV (v : VV) (name value : List Nat) : VV := ⟨setK v name, (setK v name).map (setVal v name value), v.args, v.status⟩
def setE (name value : List Nat) : Nat := if isNameN name = false then 1 else if 1024 < value.length then 40 else 0
def noV : VV := ⟨[], [], [], 0⟩
abbrev noV0 : List AV := [.nsl, .nsl, .nsl, .i .i64 0]
def setR (v : VV) (name value : List Nat) : VV := if setE name value = 0 then setV v name value else noV

theorem alS1 (a : List Nat) : allLen 1 [AV.s a] = true := rfl
theorem prim_sort {args : List AV} {s : St} : (lim prog).call f_slices_Sort_string_string args s = primSort args s := prim_callS p_slices_Sort_string_string rfl
theorem prim_comp {args : List AV} {s : St} : (lim prog).call f_slices_Compact_string_string args s = primCompact args s := prim_callS p_slices_Compact_string_string rfl

theorem idxL_mem {l : List Nat} {L : List (List Nat)} (h : l ∈ L) : ∃ j : Nat, idxL l L = (j : Int) ∧ j < L.length := by
  unfold idxL
  cases hf : L.findIdx? (· == l) with
  | some i => exact ⟨i, rfl, by rw [List.findIdx?_eq_some_iff_getElem] at hf; exact hf.1⟩
  | none =>
    rw [List.findIdx?_eq_none_iff] at hf
    have := hf l h
    simp at this
theorem getD_some {L : List (List Nat)} {j : Nat} (h : j < L.length) : ∃ y, (L.map AV.s)[j]? = some (.s y) ∧ L.getD j [] = y := ⟨L[j], by simp [h], by simp [List.getD_eq_getElem?_getD, h]⟩
theorem getD_none {L : List (List Nat)} {j : Nat} (h : ¬ j < L.length) : L.getD j [] = [] := by simp [List.getD_eq_getElem?_getD, h]
/-- A name and its value are put behind the others. -/
theorem set_put {s0 q : St} {n : En} {B : List (Nat × Box)} {an av a1 st : AV} {A V : List (List Nat)} {l x : List Nat} {e : Tr} {i8 : Nat} {p : Nat × Box} {Q : Ex → Tr → St → Prop}
    (H : Hp s0 q n [⟨1, 9, an, A.map .s, true⟩, ⟨1, 9, av, V.map .s, true⟩] (p :: (i8, .cells 28 [an, av, a1, st]) :: B)) (g8 : e.get 8 = .p i8 0) (g11 : e.get 11 = .s l) (g12 : e.get 12 = .s x) (hA : A.length + 1 < 2 ^ 38) (hV : V.length + 1 < 2 ^ 38)
    (k : ∀ e' an' av' q', Sm 63 e e' → Hp s0 q' n [⟨1, 9, an', (A ++ [l]).map .s, true⟩, ⟨1, 9, av', (V ++ [x]).map .s, true⟩] (p :: (i8, .cells 28 [an', av', a1, st]) :: B) → Q .n e' q') :
    W (lim prog) (subC c_expand_Set.body [1, 1, 1, 1, 1, 0, 1, 0, 0, 1, 1, 0, 0, 1, 1, 1]) e q Q := by
  obtain ⟨an', q1, h1, H1, _, p1⟩ := H.app 0 (y := .sl 1 [.s l] .full) (ys := [.s l]) rfl (by simp [elems, St.ok]) (by simp; omega)
  obtain ⟨av', q2, h2, H2, _, p2⟩ := H1.app 1 (y := .sl 1 [.s x] .full) (ys := [.s x]) rfl (by simp [elems, St.ok]) (by simp; omega)
  obtain ⟨q3, h3, H3, _, _⟩ := H2.st 1 (off := 0) (v := an') rfl (by simp) ⟨(H2.rcells 0 rfl).1, (H2.rcells 0 rfl).2.1⟩
  obtain ⟨q4, h4, H4, _, _⟩ := H3.st 1 (off := 1) (v := av') rfl (by simp) ⟨(H3.rcells 1 rfl).1, (H3.rcells 1 rfl).2.1⟩
  have l1 := H.ld 1 (off := 0) rfl rfl
  have l2 := H1.ld 1 (off := 1) rfl rfl
  have l3 := H.ld 1 (off := 1) rfl rfl
  simp only [c_expand_Set, subC]
  refine W_regE rfl ?_
  have r0 := H.rld 0 rfl
  have r1 := H1.rld 1 rfl
  simp only [go_sem, KB_n, KB_x, Nat.reduceBEq, Nat.reduceAdd, Nat.reduceLT, Nat.reduceLeDiff, Nat.reduceEqDiff, reduceIte, Int.reduceEq, reduceCtorEq, g8, g11, g12, l1, l2, h1, h2, h3, h4, alS1, Nat.zero_add, r0, r1]
  refine KW_ld rfl ?_ (H.still 1 rfl (beqAL_strs _)) ⟨⟨_, rfl, l2⟩, ⟨_, rfl, l3⟩, ⟨_, rfl, l2⟩, ⟨_, rfl, l2⟩, trivial⟩ (KW_end ?_)
  · simp only [go_sem, KB_n, KB_x, Nat.reduceBEq, Nat.reduceAdd, Nat.reduceLT, Nat.reduceLeDiff, Nat.reduceEqDiff, reduceIte, Int.reduceEq, reduceCtorEq]
  refine k _ an' av' _ ?_ ?_
  · repeat first | exact Sm.refl _ _ | refine Sm.put ?_ (by decide) (by decide)
  · rw [List.map_append, List.map_append]
    exact H4
theorem set_ok (v : VV) (hv : v.Ok) (hn : v.names.length + 1 < 2 ^ 38) (ha : v.args.length < 2 ^ 38) (name value : List Nat) (hnm : Txt name) (hvn : ∀ l ∈ v.names, Txt l) (hl2 : name.length < 2 ^ 62) (s : St) (hw : Wf s) :
    (lim prog).call f_expand_Set [v.av, .s name, .s value] s = some (.tup [(setR v name value).av, .i .i64 (setE name value : Nat)], s) := by
  refine fn_W p_expand_Set rfl rfl ?_
  have hin := isName_ok name hnm hl2
  have hall : ∀ l ∈ v.names ++ [name], ∀ n ∈ l, n < 256 := fun l hl => by
    rcases List.mem_append.1 hl with hl | hl
    · exact (hvn l hl).lt
    · rw [List.mem_singleton.1 hl]; exact hnm.lt
  have H0 := Hp.begin hw
  have H1 := (H0.new (.cells 28 v.cells)).new (.cells 28 noV0)
  have hz : noV0 = [.nsl, .nsl, .nsl, .i .i64 0] := rfl
  rw [new_nb] at H1
  generalize hq : (s.enter.new (.cells 28 v.cells)).new (.cells 28 noV0) = q at H1
  rw [hz] at hq H1
  generalize hm : s.enter.nb = m at H1
  have bad : ∀ k : Nat, (∃ q2, stA q 4 (.p (m + 1) 0) (.agg noV0) = some q2 ∧ ldA q2 true 4 (.p (m + 1) 0) = some (.agg noV0) ∧ KR s [(.agg [(.sl 1 .id), (.sl 1 .id), (.sl 1 .id), .id]), .id] (.tup [noV.av, .i .i64 (k : Nat)]) (some ([.agg noV0, .i .i64 (k : Nat)], q2))) := fun k => by
    obtain ⟨q2, e1, H2, _⟩ := H1.stw 0 (v := .agg noV0) (m := 4) rfl rfl ⟨rfl, rfl⟩
    exact ⟨q2, e1, H2.ldw 0 rfl rfl, KR_some H2.over rfl rfl⟩
  cases h1 : isNameN name with
  | false =>
    rw [h1] at hin
    obtain ⟨q2, e1, e2, e3⟩ := bad 1
    rw [hz] at e1 e2 e3
    simp only [c_expand_Set, go_sem, W_regD, KB_n, KB_x, Nat.reduceBEq, Nat.reduceAdd, Nat.reduceLT, Nat.reduceLeDiff, Nat.reduceEqDiff, reduceIte, Int.reduceEq, reduceCtorEq, hin, hq, hm, e1, e2]
    have h4 : setE name value = 1 := by simp [setE, h1]
    have h5 : setR v name value = noV := by simp [setR, h4]
    rw [h4, h5]
    exact e3
  | true =>
  rw [h1] at hin
  by_cases h2 : 1024 < value.length
  · have c1 : ((1024 : Int) < (value.length : Int)) = True := by simp only [eq_iff_iff, iff_true]; omega
    obtain ⟨q2, e1, e2, e3⟩ := bad 40
    rw [hz] at e1 e2 e3
    simp only [c_expand_Set, go_sem, W_regD, KB_n, KB_x, Nat.reduceBEq, Nat.reduceAdd, Nat.reduceLT, Nat.reduceLeDiff, Nat.reduceEqDiff, reduceIte, Int.reduceEq, reduceCtorEq, hin, hq, hm, c1, e1, e2]
    have h4 : setE name value = 40 := by simp [setE, h1, h2]
    have h5 : setR v name value = noV := by simp [setR, h4]
    rw [h4, h5]
    exact e3
  have c1 : ((1024 : Int) < (value.length : Int)) = False := by simp only [eq_iff_iff, iff_false]; omega
  have h4 : setE name value = 0 := by simp [setE, h1]; omega
  have h5 : setR v name value = setV v name value := by simp [setR, h4]
  rw [h4, h5]
  obtain ⟨r1, s1, a1, q2, d1, d2, t1, H2, n2⟩ := clone_hpQ H1 v.args ha
  obtain ⟨q3, d3, H3, n3⟩ := H2.adp (T := 28) (z := noV0) (m := 4) (v := .agg [.nsl, .nsl, a1, .i .i64 v.status]) rfl ⟨rfl, t1.ones _⟩
  have l1 := H1.ld 1 (off := 2) rfl rfl
  have l2 := H2.ld 1 (off := 3) rfl rfl
  have l3 := H1.ld 1 (off := 3) rfl rfl
  rw [hz] at d3
  simp only [c_expand_Set, go_sem, KB_n, KB_x, Nat.reduceBEq, Nat.reduceAdd, Nat.reduceLT, Nat.reduceLeDiff, Nat.reduceEqDiff, reduceIte, Int.reduceEq, reduceCtorEq, hin, hq, hm, c1]
  refine W_regE rfl ?_
  simp only [go_sem, KB_n, KB_x, Nat.reduceBEq, Nat.reduceAdd, Nat.reduceLT, Nat.reduceLeDiff, Nat.reduceEqDiff, reduceIte, Int.reduceEq, reduceCtorEq, l1, d1, d2, l2, l3, t1.noTok, t1.pub, t1.cells.1, d3]
  refine KW_ld rfl ?_ ?_ ⟨⟨_, rfl, l2⟩, ⟨_, rfl, l3⟩, ⟨_, rfl, l2⟩, ⟨_, rfl, l2⟩, trivial⟩ (KW_end ?_)
  · simp only [go_sem, KB_n, KB_x, Nat.reduceBEq, Nat.reduceAdd, Nat.reduceLT, Nat.reduceLeDiff, Nat.reduceEqDiff, reduceIte, Int.reduceEq, reduceCtorEq]
  · exact still_i _ _
  obtain ⟨r4, q4, d4, H4, n4⟩ := clone_hp H3 v.names (by omega)
  obtain ⟨a5, q5, d5, H5, n5, p5⟩ := H4.app 0 (y := .sl 1 [.s name] .full) (ys := [.s name]) rfl (by simp [elems, St.ok]) (by simp; omega)
  have p5 := p5 (by simp)
  obtain ⟨q6, d6, H6, n6⟩ := H5.thaw 0 rfl p5.1 [] (by simp) (by simp)
  have hM : v.names.map AV.s ++ [.s name] = (v.names ++ [name]).map .s := by simp
  rw [hM, flatC_s] at H6
  rw [hM, List.length_map, Nat.mul_one] at d6
  generalize hMM : v.names ++ [name] = M at H6 d6
  have hMl : M.length = v.names.length + 1 := by rw [← hMM]; simp
  generalize hidr : q5.nb = idr at H6 d6
  obtain ⟨q7, d7, H7, n7⟩ := H6.sort 0 rfl (by omega) (M.length, false)
  have hsl := sortN_len M
  obtain ⟨q8, d8, H8, n8⟩ := H7.compact 0 rfl (by omega) (compN_len _) (M.length, false)
  rw [hsl] at d8
  have hK : compN (sortN M) = setK v name := by rw [← hMM]; rfl
  have hKl : (setK v name).length ≤ M.length := by rw [← hK]; have := compN_len (sortN M); omega
  have hKm : ∀ x ∈ setK v name, x ∈ v.names ++ [name] := fun x hx => (setN_mem hall x).1 hx
  have hR : (setV v name value).av = .agg [tx (setK v name), tx ((setK v name).map (setVal v name value)), tx v.args, .i .i64 v.status] := rfl
  rw [hK] at d8 H8
  have l4 := H3.ld 2 (off := 0) rfl rfl
  simp only [KS_n]
  simp only [go_sem, KB_n, KB_x, Nat.reduceBEq, Nat.reduceAdd, Nat.reduceLT, Nat.reduceLeDiff, Nat.reduceEqDiff, reduceIte, Int.reduceEq, reduceCtorEq, l4, d4, alS1, d5, d6, prim_sort, d7, thaw_bl, prim_comp, d8]
  generalize hpad : List.replicate ((sortN M).length - (setK v name).length) ([] : List Nat) = pad at H8
  generalize hi8 : q2.nb = i8 at H8
  generalize setK v name = K at H8 hKl hKm hR
  refine W_loop (fun n e q => ∃ (i : Nat) (an av : AV), i + n = K.length ∧ Hp s q s.en [⟨1, 9, an, (K.take i).map .s, true⟩, ⟨1, 9, av, ((K.take i).map (setVal v name value)).map .s, true⟩] [(idr, .row 9 ((K ++ pad).map .s) false 0), (i8, .cells 28 [an, av, a1, .i .i64 v.status]), (m + 1, .cells 28 noV0), (m, .cells 28 v.cells)] ∧
    e.get 1 = .s name ∧ e.get 2 = .s value ∧ e.get 3 = .p m 0 ∧ e.get 6 = .p (m + 1) 0 ∧ e.get 8 = .p i8 0 ∧ e.get 39 = .bl idr 1 0 K.length (M.length, false) ∧ e.get 40 = .i .i64 (K.length : Nat) ∧ e.get 41 = .i .i64 i) ?_ K.length _ _ ?_
  · rintro n e q ⟨i, an, av, hin, H, g1, g2, g3, g6, g8, g39, g40, g41⟩
    by_cases c2 : i < K.length
    · have e2 : ((i : Int) < (K.length : Int)) = True := by simp only [eq_iff_iff, iff_true]; omega
      obtain ⟨l, hl⟩ : ∃ l, K[i] = l := ⟨_, rfl⟩
      have l5 := H.ldr 0 (off := i) (v := .s l) rfl (by rw [List.getElem?_map, List.getElem?_append_left c2, List.getElem?_eq_getElem c2, hl]; rfl)
      have hKi : l ∈ v.names ++ [name] := hKm l (by rw [← hl]; exact List.getElem_mem c2)
      have htk : K.take i ++ [l] = K.take (i + 1) := by rw [← hl]; exact List.take_append_getElem c2
      have htk2 : ∀ {x}, setVal v name value l = x → (K.take (i + 1)).map (setVal v name value) = (K.take i).map (setVal v name value) ++ [x] := fun h => by rw [← htk, List.map_append, List.map_singleton, h]
      have hsz1 : (K.take i).length + 1 < 2 ^ 38 := by rw [List.length_take]; omega
      have hsz2 : ((K.take i).map (setVal v name value)).length + 1 < 2 ^ 38 := by rw [List.length_map]; exact hsz1
      have hw1 := wrap_succ (show i + 1 < 2 ^ 63 by omega)
      by_cases c3 : l = name
      · have e3 : (l ≠ name) = False := by simp only [eq_iff_iff, iff_false]; exact fun h => h c3
        have hx : setVal v name value l = value := by simp [setVal, c3]
        simp only [go_sem, KB_n, KB_x, Nat.reduceBEq, Nat.reduceAdd, Nat.reduceLT, Nat.reduceLeDiff, Nat.reduceEqDiff, reduceIte, Int.reduceEq, reduceCtorEq, g39, g40, g41, e2, natOf_nat, c2, l5, g1, g2, Nat.zero_add, Nat.mul_one, e3]
        refine set_put (p := (idr, .row 9 ((K ++ pad).map .s) false 0)) (l := l) (x := value) H ?_ ?_ ?_ hsz1 hsz2 ?_
        · simp only [go_sem, KB_n, KB_x, Nat.reduceBEq, Nat.reduceAdd, Nat.reduceLT, Nat.reduceLeDiff, Nat.reduceEqDiff, reduceIte, Int.reduceEq, reduceCtorEq, g8]
        · simp only [go_sem, KB_n, KB_x, Nat.reduceBEq, Nat.reduceAdd, Nat.reduceLT, Nat.reduceLeDiff, Nat.reduceEqDiff, reduceIte, Int.reduceEq, reduceCtorEq]
        · simp only [go_sem, KB_n, KB_x, Nat.reduceBEq, Nat.reduceAdd, Nat.reduceLT, Nat.reduceLeDiff, Nat.reduceEqDiff, reduceIte, Int.reduceEq, reduceCtorEq]
        intro e' an' av' q' hsm H'
        simp only [go_sem, KB_n, KB_x, Nat.reduceBEq, Nat.reduceAdd, Nat.reduceLT, Nat.reduceLeDiff, Nat.reduceEqDiff, reduceIte, Int.reduceEq, reduceCtorEq, hsm.get, g1, g2, g3, g6, g8, g39, g40, g41, hw1]
        exact ⟨n - 1, by omega, i + 1, an', av', by omega, by rw [htk2 hx, ← htk]; exact H', rfl⟩
      · have e3 : (l ≠ name) = True := by simp only [eq_iff_iff, iff_true]; exact c3
        have hx : setVal v name value l = v.values.getD (idxL l v.names).toNat [] := by simp [setVal, c3]
        have hin' : l ∈ v.names := by
          rcases List.mem_append.1 hKi with h | h
          · exact h
          · exact absurd (List.mem_singleton.1 h) c3
        obtain ⟨j, hj, hj2⟩ := idxL_mem hin'
        have hix := index_ok v.names l (by omega)
        have la := H.ld 3 (off := 0) rfl rfl
        have lb := H.ld 3 (off := 1) rfl rfl
        have hvn := hv.n
        rw [hj] at hix hx
        have hx : setVal v name value l = v.values.getD j [] := hx
        by_cases c4 : j < v.values.length
        · have e4 : ((j : Int) < (v.values.length : Int)) = True := by simp only [eq_iff_iff, iff_true]; omega
          obtain ⟨y, hy, hgd⟩ := getD_some c4
          simp only [go_sem, KB_n, KB_x, Nat.reduceBEq, Nat.reduceAdd, Nat.reduceLT, Nat.reduceLeDiff, Nat.reduceEqDiff, reduceIte, Int.reduceEq, reduceCtorEq, g39, g40, g41, e2, natOf_nat, c2, l5, g1, g2, g3, Nat.zero_add, Nat.mul_one, e3, la, lb, hix, e4, List.length_map, hy, cells_s, ldA_1]
          refine set_put (p := (idr, .row 9 ((K ++ pad).map .s) false 0)) (l := l) (x := y) H ?_ ?_ ?_ hsz1 hsz2 ?_
          · simp only [go_sem, KB_n, KB_x, Nat.reduceBEq, Nat.reduceAdd, Nat.reduceLT, Nat.reduceLeDiff, Nat.reduceEqDiff, reduceIte, Int.reduceEq, reduceCtorEq, g8]
          · simp only [go_sem, KB_n, KB_x, Nat.reduceBEq, Nat.reduceAdd, Nat.reduceLT, Nat.reduceLeDiff, Nat.reduceEqDiff, reduceIte, Int.reduceEq, reduceCtorEq]
          · simp only [go_sem, KB_n, KB_x, Nat.reduceBEq, Nat.reduceAdd, Nat.reduceLT, Nat.reduceLeDiff, Nat.reduceEqDiff, reduceIte, Int.reduceEq, reduceCtorEq]
          intro e' an' av' q' hsm H'
          simp only [go_sem, KB_n, KB_x, Nat.reduceBEq, Nat.reduceAdd, Nat.reduceLT, Nat.reduceLeDiff, Nat.reduceEqDiff, reduceIte, Int.reduceEq, reduceCtorEq, hsm.get, g1, g2, g3, g6, g8, g39, g40, g41, hw1]
          exact ⟨n - 1, by omega, i + 1, an', av', by omega, by rw [htk2 (hx.trans hgd), ← htk]; exact H', rfl⟩
        · have e4 : ((j : Int) < (v.values.length : Int)) = False := by simp only [eq_iff_iff, iff_false]; omega
          have hgd := getD_none c4
          simp only [go_sem, KB_n, KB_x, Nat.reduceBEq, Nat.reduceAdd, Nat.reduceLT, Nat.reduceLeDiff, Nat.reduceEqDiff, reduceIte, Int.reduceEq, reduceCtorEq, g39, g40, g41, e2, natOf_nat, c2, l5, g1, g2, g3, Nat.zero_add, Nat.mul_one, e3, la, lb, hix, e4, List.length_map]
          refine set_put (p := (idr, .row 9 ((K ++ pad).map .s) false 0)) (l := l) (x := []) H ?_ ?_ ?_ hsz1 hsz2 ?_
          · simp only [go_sem, KB_n, KB_x, Nat.reduceBEq, Nat.reduceAdd, Nat.reduceLT, Nat.reduceLeDiff, Nat.reduceEqDiff, reduceIte, Int.reduceEq, reduceCtorEq, g8]
          · simp only [go_sem, KB_n, KB_x, Nat.reduceBEq, Nat.reduceAdd, Nat.reduceLT, Nat.reduceLeDiff, Nat.reduceEqDiff, reduceIte, Int.reduceEq, reduceCtorEq]
          · simp only [go_sem, KB_n, KB_x, Nat.reduceBEq, Nat.reduceAdd, Nat.reduceLT, Nat.reduceLeDiff, Nat.reduceEqDiff, reduceIte, Int.reduceEq, reduceCtorEq]
          intro e' an' av' q' hsm H'
          simp only [go_sem, KB_n, KB_x, Nat.reduceBEq, Nat.reduceAdd, Nat.reduceLT, Nat.reduceLeDiff, Nat.reduceEqDiff, reduceIte, Int.reduceEq, reduceCtorEq, hsm.get, g1, g2, g3, g6, g8, g39, g40, g41, hw1]
          exact ⟨n - 1, by omega, i + 1, an', av', by omega, by rw [htk2 (hx.trans hgd), ← htk]; exact H', rfl⟩
    · have e2 : ((i : Int) < (K.length : Int)) = False := by simp only [eq_iff_iff, iff_false]; omega
      obtain rfl : i = K.length := by omega
      obtain ⟨an', q1, k1, u1, G1, _⟩ := H.pub 0 rfl
      obtain ⟨av', q2, k2, u2, G2, _⟩ := G1.pub 1 rfl
      have l6 := H.ldw 1 (m := 4) rfl rfl
      obtain ⟨q3, k3, G3, _⟩ := G2.stw 2 (v := .agg [an', av', a1, .i .i64 v.status]) (m := 4) rfl rfl ⟨rfl, by simp only [cl_agg, u1.ones, u2.ones, t1.ones]; rfl⟩
      have l7 := G3.ldw 2 (m := 4) rfl rfl
      simp only [go_sem, KB_n, KB_x, Nat.reduceBEq, Nat.reduceAdd, Nat.reduceLT, Nat.reduceLeDiff, Nat.reduceEqDiff, reduceIte, Int.reduceEq, reduceCtorEq, g39, g40, g41, e2, g8, l6, k1, k2, t1.pub, g6, k3, l7, u1.frz, u2.frz, t1.frz]
      refine KR_some G3.over ?_ ?_
      · simp only [tupOf, AV.refs, AV.refs.go, u1.refs (refs_goS _), u2.refs (refs_goS _), t1.refs (refs_goS _), Bool.or_self]
      · rw [hR]
        simp only [tupOf, wkZ, wk, u1.wk (wkM_s _), u2.wk (wkM_s _), t1.wk (wkM_s _), List.take_length]
        rfl
  · simp only [go_sem, KB_n, KB_x, Nat.reduceBEq, Nat.reduceAdd, Nat.reduceLT, Nat.reduceLeDiff, Nat.reduceEqDiff, reduceIte, Int.reduceEq, reduceCtorEq]
    refine ⟨0, .nsl, .nsl, by omega, ?_, rfl⟩
    have H9 := (H8.addFull 1 9 (a := .nsl) (xs := []) true .nil).addFull 1 9 (a := .nsl) (xs := []) true .nil
    exact H9
end Go.Proofs.YtfpoihibfajhlaaDoor

/-
  What stands behind Set, in plain lists.
-/
set_option maxRecDepth 100000
set_option linter.unusedSimpArgs false
set_option linter.constructorNameAsVariable false
namespace Go.Proofs.YtfpoihibfajhlaaDoor
open Go.Proofs.YtfpoihibfajhlaaDoor.Am

theorem idxL_at {l : List Nat} {L : List (List Nat)} (h : l ∈ L) : ∃ (j : Nat) (hj : j < L.length), idxL l L = (j : Int) ∧ L[j] = l := by
  unfold idxL
  cases hf : L.findIdx? (· == l) with
  | some i =>
    rw [List.findIdx?_eq_some_iff_getElem] at hf
    obtain ⟨hj, h1, _⟩ := hf
    exact ⟨i, hj, rfl, by simpa using h1⟩
  | none =>
    rw [List.findIdx?_eq_none_iff] at hf
    have := hf l h
    simp at this
theorem idxL_not {l : List Nat} {L : List (List Nat)} (h : l ∉ L) : idxL l L = -1 := by
  unfold idxL
  have : L.findIdx? (· == l) = none := by
    rw [List.findIdx?_eq_none_iff]
    intro x hx
    simp only [beq_eq_false_iff_ne, ne_eq]
    intro he
    exact h (he ▸ hx)
  rw [this]
def lookL (v : VV) (l : List Nat) : List Nat := if 0 ≤ idxL l v.names ∧ idxL l v.names < v.values.length then v.values.getD (idxL l v.names).toNat [] else []
theorem lookL_in {v : VV} {l : List Nat} (h : l ∈ v.names) : lookL v l = v.values.getD (idxL l v.names).toNat [] := by
  obtain ⟨j, hj, h1, h2⟩ := idxL_at h
  unfold lookL
  rw [h1]
  by_cases hc : j < v.values.length
  · rw [if_pos ⟨by omega, by omega⟩]
  · rw [if_neg (by omega)]
    simp [List.getD_eq_getElem?_getD, hc]
theorem lookL_out {v : VV} {l : List Nat} (h : l ∉ v.names) : lookL v l = [] := by
  unfold lookL
  rw [idxL_not h, if_neg (by omega)]
/-- No variable's name. -/
def specN (l : List Nat) : Bool := decide (l = [35]) || (decide (l = [63]) || match l with
  | [c] => decide (49 ≤ c) && decide (c ≤ 57)
  | _ => false)
theorem valueL_look (it : Int → List Nat) (v : VV) {l : List Nat} (h : specN l = false) : valueL it v l = lookL v l := by
  simp only [specN, Bool.or_eq_false_iff, decide_eq_false_iff_not] at h
  obtain ⟨h1, h2, h3⟩ := h
  unfold valueL
  rw [if_neg h1, if_neg h2]
  match l, h3 with
  | [], _ => rfl
  | [c], h3 =>
    have : ¬ (49 ≤ c ∧ c ≤ 57) := by
      intro hh
      simp [hh.1, hh.2] at h3
    simp only [if_neg this]
    rfl
  | a :: b :: r, _ => rfl
theorem valueL_spec (it : Int → List Nat) (v w : VV) {l : List Nat} (h : specN l = true) (ha : w.args = v.args) (hs : w.status = v.status) : valueL it w l = valueL it v l := by
  unfold valueL
  by_cases h1 : l = [35]
  · rw [if_pos h1, if_pos h1, ha]
  by_cases h2 : l = [63]
  · rw [if_neg h1, if_neg h1, if_pos h2, if_pos h2, hs]
  rw [if_neg h1, if_neg h1, if_neg h2, if_neg h2]
  simp only [specN, decide_eq_false h1, decide_eq_false h2, Bool.false_or] at h
  match l, h with
  | [c], h =>
    simp only [Bool.and_eq_true, decide_eq_true_eq] at h
    simp only [if_pos h, ha]
theorem isName_spec {l : List Nat} (h : isNameN l = true) : specN l = false := by
  unfold isNameN at h
  simp only [Bool.and_eq_true, decide_eq_true_eq] at h
  obtain ⟨_, h1, h2, h3⟩ := h
  simp only [specN, decide_eq_false h1, decide_eq_false h2, Bool.false_or]
  match l, h3 with
  | [c], h3 =>
    simp only [Bool.or_eq_true, decide_eq_true_eq] at h3
    simp
    omega
  | a :: b :: r, _ => rfl
section
variable {v : VV} {name value : List Nat} (hall : ∀ l ∈ v.names ++ [name], ∀ n ∈ l, n < 256)
include hall
theorem look_set {l : List Nat} (h : l ∈ v.names ++ [name]) : lookL (setV v name value) l = setVal v name value l := by
  have hm : l ∈ setK v name := (setN_mem hall l).2 h
  rw [lookL_in (v := setV v name value) hm]
  obtain ⟨j, hj, h1, h2⟩ := idxL_at hm
  show ((setK v name).map (setVal v name value)).getD (idxL l (setK v name)).toNat [] = _
  rw [h1]
  simp [List.getD_eq_getElem?_getD, hj, h2]
theorem keep_name (it : Int → List Nat) (h : isNameN name = true) : valueL it (setV v name value) name = value := by
  rw [valueL_look it _ (isName_spec h), look_set hall (by simp)]
  simp [setVal]
theorem keep_other (it : Int → List Nat) {other : List Nat} (hne : other ≠ name) : valueL it (setV v name value) other = valueL it v other := by
  cases hs : specN other with
  | true => exact valueL_spec it v (setV v name value) hs rfl rfl
  | false =>
    rw [valueL_look it _ hs, valueL_look it _ hs]
    by_cases hm : other ∈ v.names
    · rw [look_set hall (by simp [hm]), lookL_in hm]
      simp [setVal, hne]
    · rw [lookL_out hm, lookL_out]
      show other ∉ setK v name
      intro hh
      have := (setN_mem hall other).1 hh
      simp only [List.mem_append, List.mem_singleton] at this
      rcases this with h | h
      · exact hm h
      · exact hne h
end
theorem setK_len (v : VV) (name : List Nat) : (setK v name).length ≤ v.names.length + 1 := by
  have h1 := compN_len (sortN (v.names ++ [name]))
  have h2 := sortN_len (v.names ++ [name])
  simp only [List.length_append, List.length_singleton] at h2
  show (compN (sortN (v.names ++ [name]))).length ≤ _
  omega
theorem ltN_asym : ∀ {a b : List Nat}, ltN a b = true → ltN b a = false ∧ beqN b a = false
  | [], [], h => by simp [ltN] at h
  | [], _ :: _, _ => by simp [ltN, beqN]
  | _ :: _, [], h => by simp [ltN] at h
  | a :: x, b :: y, h => by
    simp only [ltN, Bool.or_eq_true, Bool.and_eq_true, Nat.blt_eq, Nat.beq_eq] at h
    simp only [ltN, beqN, Bool.or_eq_false_iff, Bool.and_eq_false_iff]
    rcases h with h | ⟨h1, h2⟩
    · refine ⟨⟨?_, .inl ?_⟩, .inl ?_⟩
      · rw [Bool.eq_false_iff]; intro hh; rw [Nat.blt_eq] at hh; omega
      · rw [Bool.eq_false_iff]; intro hh; rw [Nat.beq_eq] at hh; omega
      · rw [Bool.eq_false_iff]; intro hh; rw [Nat.beq_eq] at hh; omega
    · obtain ⟨h3, h4⟩ := ltN_asym h2
      exact ⟨⟨by rw [Bool.eq_false_iff]; intro hh; rw [Nat.blt_eq] at hh; omega, .inr h3⟩, .inr h4⟩
theorem setK_asc {v : VV} {name : List Nat} {i : Nat} {a b : List Nat} (ha : (setK v name)[i]? = some a) (hb : (setK v name)[i + 1]? = some b) : (ltN b a || beqN b a) = false := by
  rw [List.getElem?_eq_some_iff] at ha hb
  obtain ⟨ha, ea⟩ := ha
  obtain ⟨hb, eb⟩ := hb
  have := (List.pairwise_iff_getElem.1 (setN_asc (v.names ++ [name]))) i (i + 1) ha hb (by omega)
  have h2 : ltN a b = true := by rw [← ea, ← eb]; exact this
  obtain ⟨h3, h4⟩ := ltN_asym h2
  rw [h3, h4]; rfl
end Go.Proofs.YtfpoihibfajhlaaDoor

/-
  The builder of fields.
-/
set_option maxRecDepth 100000
set_option linter.unusedSimpArgs false
namespace Go.Proofs.YtfpoihibfajhlaaDoor
open Go.Proofs.YtfpoihibfajhlaaDoor.Am

abbrev by8 (l : List Nat) : List AV := l.map fun n => AV.i .u8 (Int.ofNat n)
/-- The builder at a box: its fields, the one that is open, and whether one is. -/
def BB (t0 : Nat) (s : St) (id : Nat) (out : List (List Nat)) (cur : List Nat) (op : Bool) : Prop :=
  ∃ ao ac, s.box? id = some (.cells 61 [ao, ac, .b op]) ∧ RowIs t0 s 9 ao (out.map .s) ∧ RowIs t0 s 5 ac (by8 cur) ∧ ∀ k, rowTok ao = some k → rowTok ac ≠ some k

theorem row_cells {t0 T : Nat} {s : St} {a : AV} {xs : List AV} (h : RowIs t0 s T a xs) : a.cells = [a] ∧ ones [a] = true := by
  rcases h with ⟨rfl, _⟩ | ⟨k, v, t, rfl, _⟩ <;> exact ⟨rfl, rfl⟩
theorem row_refs {t0 T : Nat} {s : St} {a : AV} {xs : List AV} (h : RowIs t0 s T a xs) (hx : xs ≠ []) : a.refs = true := by
  rcases h with ⟨_, rfl⟩ | ⟨k, v, t, rfl, _⟩
  · exact absurd rfl hx
  · rfl

theorem add_ok {t0 id : Nat} {s : St} {out : List (List Nat)} {cur : List Nat} {op : Bool} (l : List Nat) (hw : Wf s) (ht0 : t0 ≤ s.nt) (hid : id < s.nb) (hB : BB t0 s id out cur op) (hsz : cur.length + l.length < 2 ^ 38) :
    ∃ r s', (lim prog).call f_expand_builder_add [.p id 0, .s l] s = some (r, s') ∧ r = .tup [] ∧ Eff t0 id s s' ∧ BB t0 s' id out (cur ++ l) true := by
  obtain ⟨ao, ac, hb, ho, hc, hd⟩ := hB
  refine fn_G (Post := fun r s' => r = .tup [] ∧ Eff t0 id s s' ∧ BB t0 s' id out (cur ++ l) true) p_expand_builder_add rfl rfl ?_
  have hwe := hw.enter
  have e1 : stA s.enter 1 (.p id 2) (.b true) = some (s.enter.setBox id (.cells 61 [ao, ac, .b true])) := st_box (s := s.enter) (v := .b true) hb rfl rfl (by simp)
  obtain ⟨s1, hs1⟩ : ∃ s1, s.enter.setBox id (.cells 61 [ao, ac, .b true]) = s1 := ⟨_, rfl⟩
  rw [hs1] at e1
  have b1 : s1.box? id = some (.cells 61 [ao, ac, .b true]) := by rw [← hs1, setBox_box? hwe.b hid, if_pos rfl]
  have o1 : ∀ j, j ≠ id → s1.box? j = s.box? j := fun j hj => by rw [← hs1, setBox_box? hwe.b hid, if_neg hj]; rfl
  have w1 : Wf s1 := by rw [← hs1]; exact hwe.setBox _ _
  have n1 : s1.nb = s.nb ∧ s1.nt = s.nt ∧ s1.lo = s.nb ∧ s1.toks = s.toks := by rw [← hs1]; exact ⟨rfl, rfl, rfl, rfl⟩
  have t1 : ∀ k, s1.tok? k = s.tok? k := fun k => by rw [← hs1]; rfl
  have ld1 := ld_box (v := ac) (off := 1) b1 rfl
  have hc1 : RowIs t0 s1 5 ac (by8 cur) := hc.mono (by omega) fun k _ => t1 k
  have ho1 : RowIs t0 s1 9 ao (out.map .s) := ho.mono (by omega) fun k _ => t1 k
  have ov1 : ∀ s0 : St, s0.nb ≤ id → Over s0 s → Over s0 s1 := fun s0 h0 hov => by
    rw [← hs1]
    refine Over.setBox ?_ h0 (by simpa [St.enter] using hid) _
    exact ⟨hov.nb, hov.boxes, hov.nt, hov.toks, hov.nb⟩
  have hel : elems s1 1 (.s l) = some (by8 l) := by simp [elems]
  cases l with
  | nil =>
    have happ : appA s1 1 5 ac (.s []) = some (ac, s1) := by
      unfold appA
      rw [hel]
      rcases hc with ⟨rfl, _⟩ | ⟨k, v, t, rfl, _⟩ <;> rfl
    have e2 := st_box (s := s1) (off := 1) (v := ac) b1 (row_cells hc).1 (row_cells hc).2 (by simp)
    obtain ⟨s3, hs3⟩ : ∃ s3, esc (s1.setBox id (.cells 61 ([ao, ac, .b true].set 1 ac))) id ac = s3 := ⟨_, rfl⟩
    rw [hs3] at e2
    have key : KH s [] (fun r s' => r = .tup [] ∧ Eff t0 id s s' ∧ BB t0 s' id out (cur ++ []) true) (some ([], s3)) := by
      obtain ⟨n, k1, k2, k3⟩ := end_box (s := s) (sx := s1) (B := .cells 61 ([ao, ac, .b true].set 1 ac)) (a := ac) hid n1.1 (by omega) (.inr n1.2.1)
      rw [hs3] at k1
      refine ⟨_, _, rfl, rfl, ?_⟩
      show Eff t0 id s (leave s s3 (.tup [])) ∧ BB t0 (leave s s3 (.tup [])) id out (cur ++ []) true
      rw [k1]
      have hbx : ∀ j, ({ s1.setBox id (.cells 61 ([ao, ac, .b true].set 1 ac)) with lo := n } : St).box? j = if j = id then some (.cells 61 ([ao, ac, .b true].set 1 ac)) else s1.box? j := fun j => setBox_box? w1.b (by omega) j
      have htk : ∀ k, ({ s1.setBox id (.cells 61 ([ao, ac, .b true].set 1 ac)) with lo := n } : St).tok? k = s.tok? k := fun k => t1 k
      refine ⟨⟨n1.1, by show s.nt ≤ s1.nt; omega, fun j hj => by rw [hbx, if_neg hj]; exact o1 j hj, (w1.setBox _ _).lo n, fun s0 h0 h1 hov => Over.setLo (Over.setBox (ov1 s0 h1 hov) h1 (by omega) _) (k2 s0 hov h1), k3⟩, ?_⟩
      refine ⟨ao, ac, by rw [hbx, if_pos rfl]; rfl, ho.mono (by show s.nt ≤ s1.nt; omega) fun k _ => htk k, ?_, hd⟩
      rw [List.append_nil]
      exact hc.mono (by show s.nt ≤ s1.nt; omega) fun k _ => htk k
    rcases hc with ⟨rfl, _⟩ | ⟨k, v, t, rfl, _⟩ <;> (simp only [c_expand_builder_add, W_seq, W_reg, W_cond, W_blk, W_skip, W_exit, W_ret, W_regD, WO_nil, WO_cons, WO_guard2, wantV_b, bq_tt, bq_ft, bq_tf, bq_ff, Bool.not_true, Bool.not_false, WD_nil, WD_cons, WD_guard2, WS_some, WS_none, KS_n, KS_x, KS_r, KB_n, KB_x, KB_r, KN_ap, KO_ap, KD_ap, KC_nil, KF_n, KF_r, KG_n, KG_r, KL_n, KL_x, KL_r, CP_true, CP_false, evOp, evX, X.ev, optX, put_some, put_none, get_set2, sel_t, sel_f, Nat.reduceBEq, Nat.reduceAdd, Nat.reduceLT, Nat.reduceLeDiff, Nat.reduceEqDiff, reduceIte, if_true, if_false, bi_add, bi_sub, bi_mul, bi_eql, bi_neq, bi_lss, bi_leq, bi_gtr, bi_geq, bs_eql, bs_neq, bs_lss, Am.unOp, ret1, pubL, pub, pubA, initT, wkZ, wk, wants, resOf, tupOf, quiet, AOp.cls, Nat.beq_eq, Bool.or_eq_true, decide_true, decide_false, beq_self_eq_true, Bool.true_or, Bool.or_true, true_and, and_true, lenA, eqv, eqB, eqP, scal, new_box_self, List.getElem?_cons_zero, List.getElem?_cons_succ, key_ii, key_ss, findM, updM, esc_i, esc_s, esc_b, Int.reduceEq, ret1, new_nb, new_set, reduceCtorEq, Bool.xor_true, Bool.xor_false, Bool.false_eq_true, List.all_cons, List.all_nil, noTok, Bool.and_self, Bool.and_true, Bool.true_and, Nat.zero_add, e1, ld1, happ, e2]; exact key)
  | cons l0 l =>
    obtain ⟨a', s2, happ, hr2, hg⟩ := app_row (y := .s (l0 :: l)) w1 (by omega) hc1 hel (by simp) (by simpa using hsz)
    have b2 : s2.box? id = some (.cells 61 [ao, ac, .b true]) := by
      rw [← b1]; simp [St.box?, hg.nb, hg.boxes]
    have e2 := st_box (s := s2) (off := 1) (v := a') b2 (row_cells hr2).1 (row_cells hr2).2 (by simp)
    obtain ⟨s3, hs3⟩ : ∃ s3, esc (s2.setBox id (.cells 61 ([ao, ac, .b true].set 1 a'))) id a' = s3 := ⟨_, rfl⟩
    rw [hs3] at e2
    have key : KH s [] (fun r s' => r = .tup [] ∧ Eff t0 id s s' ∧ BB t0 s' id out (cur ++ l0 :: l) true) (some ([], s3)) := by
      obtain ⟨n, k1, k2, k3⟩ := end_box (s := s) (sx := s2) (B := .cells 61 ([ao, ac, .b true].set 1 a')) (a := a') hid (by rw [hg.nb]; exact n1.1) (by rw [hg.lo]; omega) (.inl (row_refs hr2 (by simp)))
      rw [hs3] at k1
      refine ⟨_, _, rfl, rfl, ?_⟩
      show Eff t0 id s (leave s s3 (.tup [])) ∧ BB t0 (leave s s3 (.tup [])) id out (cur ++ l0 :: l) true
      rw [k1]
      have w2 := hg.wf w1
      have hnb2 : s2.nb = s.nb := by rw [hg.nb]; exact n1.1
      have hnt2 := hg.nt
      have hbx : ∀ j, ({ s2.setBox id (.cells 61 ([ao, ac, .b true].set 1 a')) with lo := n } : St).box? j = if j = id then some (.cells 61 ([ao, ac, .b true].set 1 a')) else s2.box? j := fun j => setBox_box? w2.b (by omega) j
      have hb2 : ∀ j, s2.box? j = s1.box? j := fun j => by simp [St.box?, hg.nb, hg.boxes]
      refine ⟨⟨hnb2, by show s.nt ≤ s2.nt; omega, fun j hj => by rw [hbx, if_neg hj, hb2]; exact o1 j hj, (w2.setBox _ _).lo n, fun s0 h0 h1 hov => Over.setLo (Over.setBox (hg.over s0 h0 (by have := hov.nt; omega) (ov1 s0 h1 hov)) h1 (by omega) _) (k2 s0 hov h1), k3⟩, ?_⟩
      have hdis : ∀ k, rowTok ao = some k → rowTok ac ≠ some k ∧ k < s1.nt := fun k hk => ⟨hd k hk, by
        rcases ho1 with ⟨rfl, _⟩ | ⟨k', v, t, rfl, _, h2, _⟩
        · simp [rowTok] at hk
        · simp only [rowTok, Option.some.injEq] at hk; omega⟩
      refine ⟨ao, a', by rw [hbx, if_pos rfl]; rfl, ho1.mono (by show s1.nt ≤ s2.nt; omega) fun k hk => (hg.toks k (hdis k hk).2 (hdis k hk).1).1, ?_, fun k hk => (hg.toks k (hdis k hk).2 (hdis k hk).1).2⟩
      have := hr2.mono (s' := { s2.setBox id (.cells 61 ([ao, ac, .b true].set 1 a')) with lo := n }) (Nat.le_refl _) fun k _ => rfl
      simpa [by8] using this
    rcases hc with ⟨rfl, _⟩ | ⟨k, v, t, rfl, _⟩ <;> (simp only [c_expand_builder_add, W_seq, W_reg, W_cond, W_blk, W_skip, W_exit, W_ret, W_regD, WO_nil, WO_cons, WO_guard2, wantV_b, bq_tt, bq_ft, bq_tf, bq_ff, Bool.not_true, Bool.not_false, WD_nil, WD_cons, WD_guard2, WS_some, WS_none, KS_n, KS_x, KS_r, KB_n, KB_x, KB_r, KN_ap, KO_ap, KD_ap, KC_nil, KF_n, KF_r, KG_n, KG_r, KL_n, KL_x, KL_r, CP_true, CP_false, evOp, evX, X.ev, optX, put_some, put_none, get_set2, sel_t, sel_f, Nat.reduceBEq, Nat.reduceAdd, Nat.reduceLT, Nat.reduceLeDiff, Nat.reduceEqDiff, reduceIte, if_true, if_false, bi_add, bi_sub, bi_mul, bi_eql, bi_neq, bi_lss, bi_leq, bi_gtr, bi_geq, bs_eql, bs_neq, bs_lss, Am.unOp, ret1, pubL, pub, pubA, initT, wkZ, wk, wants, resOf, tupOf, quiet, AOp.cls, Nat.beq_eq, Bool.or_eq_true, decide_true, decide_false, beq_self_eq_true, Bool.true_or, Bool.or_true, true_and, and_true, lenA, eqv, eqB, eqP, scal, new_box_self, List.getElem?_cons_zero, List.getElem?_cons_succ, key_ii, key_ss, findM, updM, esc_i, esc_s, esc_b, Int.reduceEq, ret1, new_nb, new_set, reduceCtorEq, Bool.xor_true, Bool.xor_false, Bool.false_eq_true, List.all_cons, List.all_nil, noTok, Bool.and_self, Bool.and_true, Bool.true_and, Nat.zero_add, e1, ld1, happ, e2]; exact key)

theorem byteOf_nat {a : Nat} (h : a < 256) : Am.byteOf (.i .u8 (Int.ofNat a)) = some a := by
  have h1 : (0 : Int) ≤ Int.ofNat a ∧ Int.ofNat a < 256 := ⟨Int.natCast_nonneg _, by
    show (a : Int) < 256
    omega⟩
  simp only [Am.byteOf, if_pos h1]
  rfl
theorem bytesL_by8 : ∀ {l : List Nat}, (∀ n ∈ l, n < 256) → bytesL (by8 l) = some l
  | [], _ => rfl
  | a :: l, h => by
    have ih := bytesL_by8 (l := l) fun n hn => h n (by simp [hn])
    simp only [by8, List.map_cons] at ih ⊢
    simp only [bytesL, ih, byteOf_nat (h a (by simp))]
theorem allLen_s (l : List Nat) : allLen 1 [AV.s l] = true := rfl

theorem row_ok {t0 T : Nat} {s : St} {a : AV} {xs : List AV} (h : RowIs t0 s T a xs) : (a = .nsl ∧ xs = []) ∨ ∃ k v, a = .sl 1 xs (.tok k v) ∧ s.ok (.tok k v) = true := by
  rcases h with h | ⟨k, v, t, rfl, _, _, h3, h4, _⟩
  · exact .inl h
  · refine .inr ⟨k, v, rfl, ?_⟩
    simp only [St.ok, h3, h4]
    exact Nat.beq_refl _

/-- The end of 'end': the field that was open is gone. -/
theorem end_tail {t0 id : Nat} {s sx : St} {out : List (List Nat)} {ao ac : AV} {op : Bool} (hid : id < s.nb) (hw : Wf sx) (hnb : sx.nb = s.nb) (hnt : s.nt ≤ sx.nt)
    (hb : sx.box? id = some (.cells 61 [ao, ac, .b op])) (ho : RowIs t0 sx 9 ao (out.map .s)) (hob : ∀ j, j ≠ id → sx.box? j = s.box? j)
    (hov : ∀ s0 : St, s0.nt ≤ t0 → s0.nb ≤ id → Over s0 s → Over s0 sx) (hlv : (s.nb ≤ sx.lo ∧ sx.nt = s.nt) ∨ sx.lo ≤ id) (hlo0 : ∀ s0 : St, Over s0 s → s0.nb ≤ id → s0.nb ≤ sx.lo) :
    ∃ s1 s2, stA sx 1 (.p id 1) .nsl = some s1 ∧ stA s1 1 (.p id 2) (.b false) = some s2 ∧ Eff t0 id s (leave s s2 (.tup [])) ∧ BB t0 (leave s s2 (.tup [])) id out [] false := by
  have e1 := st_box (s := sx) (off := 1) (v := .nsl) hb rfl rfl (by simp)
  have hidx : id < sx.nb := by omega
  obtain ⟨s1, hs1⟩ : ∃ s1, esc (sx.setBox id (.cells 61 ([ao, ac, .b op].set 1 .nsl))) id .nsl = s1 := ⟨_, rfl⟩
  have hs1' : sx.setBox id (.cells 61 [ao, .nsl, .b op]) = s1 := by rw [← hs1]; rfl
  rw [hs1] at e1
  have b1 : s1.box? id = some (.cells 61 [ao, .nsl, .b op]) := by rw [← hs1', setBox_box? hw.b hidx, if_pos rfl]
  have w1 : Wf s1 := by rw [← hs1']; exact hw.setBox _ _
  have e2 := st_box (s := s1) (off := 2) (v := .b false) b1 rfl rfl (by simp)
  obtain ⟨s2, hs2⟩ : ∃ s2, esc (s1.setBox id (.cells 61 ([ao, .nsl, .b op].set 2 (.b false)))) id (.b false) = s2 := ⟨_, rfl⟩
  have hs2' : s1.setBox id (.cells 61 [ao, .nsl, .b false]) = s2 := by rw [← hs2]; rfl
  rw [hs2] at e2
  refine ⟨s1, s2, e1, e2, ?_⟩
  have n2 : s2.nb = s.nb ∧ s2.nt = sx.nt ∧ s2.lo = sx.lo := by rw [← hs2', ← hs1']; exact ⟨hnb, rfl, rfl⟩
  have w2 : Wf s2 := by rw [← hs2']; exact w1.setBox _ _
  have hbx : ∀ j, s2.box? j = if j = id then some (.cells 61 [ao, .nsl, .b false]) else sx.box? j := fun j => by
    rw [← hs2', setBox_box? w1.b (by rw [← hs1']; exact hidx)]
    by_cases hj : j = id
    · rw [if_pos hj, if_pos hj]
    · rw [if_neg hj, if_neg hj, ← hs1', setBox_box? hw.b hidx, if_neg hj]
  have htk : ∀ k, s2.tok? k = sx.tok? k := fun k => by rw [← hs2', ← hs1']; rfl
  have hlv2 : ∃ n, leave s s2 (.tup []) = { s2 with lo := n } ∧ (∀ s0 : St, Over s0 s → s0.nb ≤ id → s0.nb ≤ n) ∧ ((n = s.lo ∧ s2.nt = s.nt) ∨ n ≤ id) := by
    rcases hlv with ⟨h1, h2⟩ | h1
    · exact ⟨s.lo, leave_same n2.1 (by omega) (by omega) rfl, fun s0 h _ => h.lo, .inl ⟨rfl, by omega⟩⟩
    · exact ⟨_, leave_esc n2.1 (by omega), fun s0 h h2 => by have := h.lo; have := hlo0 s0 h h2; omega, .inr (by omega)⟩
  obtain ⟨n, k1, k2, k3⟩ := hlv2
  rw [k1]
  refine ⟨⟨n2.1, by show s.nt ≤ s2.nt; omega, fun j hj => by show s2.box? j = _; rw [hbx, if_neg hj]; exact hob j hj, w2.lo n, fun s0 h0 h1 h => Over.setLo ?_ (k2 s0 h h1), k3⟩, ?_⟩
  · rw [← hs2', ← hs1']
    exact Over.setBox (Over.setBox (hov s0 h0 h1 h) h1 hidx _) h1 (by simpa [St.setBox] using hidx) _
  · refine ⟨ao, .nsl, by show s2.box? id = _; rw [hbx, if_pos rfl], ho.mono (by show sx.nt ≤ s2.nt; omega) fun k _ => htk k, .inl ⟨rfl, rfl⟩, fun k _ => by simp [rowTok]⟩

theorem end_ok {t0 id : Nat} {s : St} {out : List (List Nat)} {cur : List Nat} {op : Bool} (hw : Wf s) (ht0 : t0 ≤ s.nt) (hid : id < s.nb) (hB : BB t0 s id out cur op) (hc256 : ∀ n ∈ cur, n < 256) (hsz : out.length + 1 < 2 ^ 38) :
    ∃ r s', (lim prog).call f_expand_builder_end [.p id 0] s = some (r, s') ∧ r = .tup [] ∧ Eff t0 id s s' ∧ BB t0 s' id (if op then out ++ [cur] else out) [] false := by
  obtain ⟨ao, ac, hb, ho, hc, hd⟩ := hB
  refine fn_G (Post := fun r s' => r = .tup [] ∧ Eff t0 id s s' ∧ BB t0 s' id (if op then out ++ [cur] else out) [] false) p_expand_builder_end rfl rfl ?_
  have hwe := hw.enter
  have ld2 := ld_box (s := s.enter) (v := .b op) (off := 2) hb rfl
  cases op with
  | false =>
    obtain ⟨s1, s2, e1, e2, hE, hBB⟩ := end_tail (t0 := t0) (s := s) (sx := s.enter) hid hwe rfl (Nat.le_refl _) hb ho (fun _ _ => rfl) (fun s0 _ _ h => ⟨h.nb, h.boxes, h.nt, h.toks, h.nb⟩) (.inl ⟨Nat.le_refl _, rfl⟩) (fun s0 h _ => h.nb)
    simp only [c_expand_builder_end, W_seq, W_reg, W_cond, W_blk, W_skip, W_exit, W_ret, W_regD, WO_nil, WO_cons, WO_guard2, wantV_b, bq_tt, bq_ft, bq_tf, bq_ff, Bool.not_true, Bool.not_false, WD_nil, WD_cons, WD_guard2, WS_some, WS_none, KS_n, KS_x, KS_r, KB_n, KB_x, KB_r, KN_ap, KO_ap, KD_ap, KC_nil, KF_n, KF_r, KG_n, KG_r, KL_n, KL_x, KL_r, CP_true, CP_false, evOp, evX, X.ev, optX, put_some, put_none, get_set2, sel_t, sel_f, Nat.reduceBEq, Nat.reduceAdd, Nat.reduceLT, Nat.reduceLeDiff, Nat.reduceEqDiff, reduceIte, if_true, if_false, bi_add, bi_sub, bi_mul, bi_eql, bi_neq, bi_lss, bi_leq, bi_gtr, bi_geq, bs_eql, bs_neq, bs_lss, Am.unOp, ret1, pubL, pub, pubA, initT, wkZ, wk, wants, resOf, tupOf, quiet, AOp.cls, Nat.beq_eq, Bool.or_eq_true, decide_true, decide_false, beq_self_eq_true, Bool.true_or, Bool.or_true, true_and, and_true, lenA, eqv, eqB, eqP, scal, new_box_self, List.getElem?_cons_zero, List.getElem?_cons_succ, key_ii, key_ss, findM, updM, esc_i, esc_s, esc_b, Int.reduceEq, ret1, new_nb, new_set, reduceCtorEq, Bool.xor_true, Bool.xor_false, Bool.false_eq_true, List.all_cons, List.all_nil, noTok, Bool.and_self, Bool.and_true, Bool.true_and, Nat.zero_add, ld2, e1, e2]
    exact ⟨_, _, rfl, rfl, hE, hBB⟩
  | true =>
    have ld0 := ld_box (s := s.enter) (v := ao) (off := 0) hb rfl
    have ld1 := ld_box (s := s.enter) (v := ac) (off := 1) hb rfl
    have hel : elems s.enter 1 (.sl 1 [.s cur] .full) = some [.s cur] := by simp [elems, St.ok]
    obtain ⟨a', s2, happ, hr2, hg⟩ := app_row (t0 := t0) (T := 9) (a := ao) (y := .sl 1 [.s cur] .full) hwe ht0 ho hel (by simp) (by simpa using hsz)
    have b2 : s2.box? id = some (.cells 61 [ao, ac, .b true]) := by rw [← hb]; simp [St.box?, hg.nb, hg.boxes, St.enter]
    have e0 := st_box (s := s2) (off := 0) (v := a') b2 (row_cells hr2).1 (row_cells hr2).2 (by simp)
    obtain ⟨s3, hs3⟩ : ∃ s3, esc (s2.setBox id (.cells 61 ([ao, ac, .b true].set 0 a'))) id a' = s3 := ⟨_, rfl⟩
    rw [hs3] at e0
    have w2 := hg.wf hwe
    have hidx : id < s2.nb := by rw [hg.nb]; exact hid
    obtain ⟨m, hm1, hm2, hm3⟩ := esc_eq (s2.setBox id (.cells 61 ([ao, ac, .b true].set 0 a'))) id a'
    rw [hs3] at hm1
    have hbx : ∀ j, s3.box? j = if j = id then some (.cells 61 [a', ac, .b true]) else s.box? j := fun j => by
      rw [hm1]
      show (s2.setBox id (.cells 61 ([ao, ac, .b true].set 0 a'))).box? j = _
      rw [setBox_box? w2.b hidx]
      by_cases hj : j = id
      · rw [if_pos hj, if_pos hj]; rfl
      · rw [if_neg hj, if_neg hj]; simp [St.box?, hg.nb, hg.boxes, St.enter]
    have hlo3 : s3.lo ≤ id := by rw [hm1]; exact hm3 (row_refs hr2 (by simp))
    have hlom : ∀ s0 : St, Over s0 s → s0.nb ≤ id → s0.nb ≤ s3.lo := fun s0 h h1 => by
      have e : s3 = esc (s2.setBox id (.cells 61 ([ao, ac, .b true].set 0 a'))) id a' := hs3.symm
      rw [e]
      unfold Am.esc
      have h2 : s2.lo = s.nb := hg.lo
      have h3 := h.nb
      split
      · show s0.nb ≤ min s2.lo id; omega
      · show s0.nb ≤ s2.lo; omega
    obtain ⟨s4, s5, e4, e5, hE, hBB⟩ := end_tail (t0 := t0) (s := s) (sx := s3) (out := out ++ [cur]) (op := true) hid (by rw [hm1]; exact (w2.setBox _ _).lo m) (by rw [hm1]; exact hg.nb) (by rw [hm1]; exact hg.nt) (by rw [hbx, if_pos rfl])
      (by
        have := hr2.mono (s' := s3) (by rw [hm1]; exact Nat.le_refl _) fun k _ => by rw [hm1]; rfl
        simpa using this)
      (fun j hj => by rw [hbx, if_neg hj])
      (fun s0 h0 h1 h => by
        rw [hm1]
        refine Over.setLo (Over.setBox (hg.over s0 h0 h.nt ⟨h.nb, h.boxes, h.nt, h.toks, h.nb⟩) h1 hidx _) ?_
        have := hlom s0 h h1
        rw [hm1] at this
        exact this)
      (.inr hlo3) hlom
    have h8 := bytesL_by8 hc256
    rcases row_ok ho with ⟨rfl, hx⟩ | ⟨k, v, rfl, hok⟩ <;> rcases row_ok hc with ⟨rfl, hx2⟩ | ⟨k2, v2, rfl, hok2⟩ <;>
      (first
        | (have : cur = [] := by simpa [by8] using hx2
           subst this
           simp only [c_expand_builder_end, W_seq, W_reg, W_cond, W_blk, W_skip, W_exit, W_ret, W_regD, WO_nil, WO_cons, WO_guard2, wantV_b, bq_tt, bq_ft, bq_tf, bq_ff, Bool.not_true, Bool.not_false, WD_nil, WD_cons, WD_guard2, WS_some, WS_none, KS_n, KS_x, KS_r, KB_n, KB_x, KB_r, KN_ap, KO_ap, KD_ap, KC_nil, KF_n, KF_r, KG_n, KG_r, KL_n, KL_x, KL_r, CP_true, CP_false, evOp, evX, X.ev, optX, put_some, put_none, get_set2, sel_t, sel_f, Nat.reduceBEq, Nat.reduceAdd, Nat.reduceLT, Nat.reduceLeDiff, Nat.reduceEqDiff, reduceIte, if_true, if_false, bi_add, bi_sub, bi_mul, bi_eql, bi_neq, bi_lss, bi_leq, bi_gtr, bi_geq, bs_eql, bs_neq, bs_lss, Am.unOp, ret1, pubL, pub, pubA, initT, wkZ, wk, wants, resOf, tupOf, quiet, AOp.cls, Nat.beq_eq, Bool.or_eq_true, decide_true, decide_false, beq_self_eq_true, Bool.true_or, Bool.or_true, true_and, and_true, lenA, eqv, eqB, eqP, scal, new_box_self, List.getElem?_cons_zero, List.getElem?_cons_succ, key_ii, key_ss, findM, updM, esc_i, esc_s, esc_b, Int.reduceEq, ret1, new_nb, new_set, reduceCtorEq, Bool.xor_true, Bool.xor_false, Bool.false_eq_true, List.all_cons, List.all_nil, noTok, Bool.and_self, Bool.and_true, Bool.true_and, Nat.zero_add, ld0, ld1, ld2, allLen_s, happ, e0, e4, e5]
           exact ⟨_, _, rfl, rfl, hE, hBB⟩)
        | (have hok3 : s.enter.ok (.tok k2 v2) = true := hok2
           simp only [c_expand_builder_end, W_seq, W_reg, W_cond, W_blk, W_skip, W_exit, W_ret, W_regD, WO_nil, WO_cons, WO_guard2, wantV_b, bq_tt, bq_ft, bq_tf, bq_ff, Bool.not_true, Bool.not_false, WD_nil, WD_cons, WD_guard2, WS_some, WS_none, KS_n, KS_x, KS_r, KB_n, KB_x, KB_r, KN_ap, KO_ap, KD_ap, KC_nil, KF_n, KF_r, KG_n, KG_r, KL_n, KL_x, KL_r, CP_true, CP_false, evOp, evX, X.ev, optX, put_some, put_none, get_set2, sel_t, sel_f, Nat.reduceBEq, Nat.reduceAdd, Nat.reduceLT, Nat.reduceLeDiff, Nat.reduceEqDiff, reduceIte, if_true, if_false, bi_add, bi_sub, bi_mul, bi_eql, bi_neq, bi_lss, bi_leq, bi_gtr, bi_geq, bs_eql, bs_neq, bs_lss, Am.unOp, ret1, pubL, pub, pubA, initT, wkZ, wk, wants, resOf, tupOf, quiet, AOp.cls, Nat.beq_eq, Bool.or_eq_true, decide_true, decide_false, beq_self_eq_true, Bool.true_or, Bool.or_true, true_and, and_true, lenA, eqv, eqB, eqP, scal, new_box_self, List.getElem?_cons_zero, List.getElem?_cons_succ, key_ii, key_ss, findM, updM, esc_i, esc_s, esc_b, Int.reduceEq, ret1, new_nb, new_set, reduceCtorEq, Bool.xor_true, Bool.xor_false, Bool.false_eq_true, List.all_cons, List.all_nil, noTok, Bool.and_self, Bool.and_true, Bool.true_and, Nat.zero_add, ld0, ld1, ld2, allLen_s, hok3, h8, happ, e0, e4, e5]
           exact ⟨_, _, rfl, rfl, hE, hBB⟩))

theorem spl_len : ∀ (l : List Nat) (x : List (List Nat) × List Nat × Bool), (l.foldl spl x).1.length ≤ x.1.length + l.length ∧ (l.foldl spl x).2.1.length ≤ x.2.1.length + l.length
  | [], x => ⟨Nat.le_refl _, Nat.le_refl _⟩
  | c :: l, x => by
    obtain ⟨h1, h2⟩ := spl_len l (spl x c)
    have : (spl x c).1.length ≤ x.1.length + 1 ∧ (spl x c).2.1.length ≤ x.2.1.length + 1 := by
      unfold spl
      split
      · refine ⟨?_, by simp⟩
        simp only
        split <;> simp
      · exact ⟨by simp, by simp⟩
    simp only [List.foldl_cons, List.length_cons]
    omega
theorem spl_lt : ∀ (l : List Nat) (x : List (List Nat) × List Nat × Bool), (∀ n ∈ l, n < 256) → (∀ n ∈ x.2.1, n < 256) → ∀ n ∈ (l.foldl spl x).2.1, n < 256
  | [], _, _, h => h
  | c :: l, x, hl, h => by
    rw [List.foldl_cons]
    refine spl_lt l _ (fun n hn => hl n (by simp [hn])) ?_
    unfold spl
    split
    · simp
    · intro n hn
      simp only [List.mem_append, List.mem_singleton] at hn
      rcases hn with hn | rfl
      · exact h n hn
      · exact hl n (by simp)

theorem bounds_ii {len a b : Nat} (h1 : a ≤ b) (h2 : b ≤ len) : bounds len (some (.i .i64 (a : Int))) (some (.i .i64 (b : Int))) = some (a, b) := by
  simp [bounds, natOf, h1, h2]

theorem split_ok {t0 id : Nat} {s : St} {out : List (List Nat)} {cur : List Nat} {op : Bool} (l : List Nat) (hl : Txt l) (hw : Wf s) (ht0 : t0 ≤ s.nt) (hid : id < s.nb) (hB : BB t0 s id out cur op) (hc256 : ∀ n ∈ cur, n < 256)
    (hsz : out.length + l.length + 1 < 2 ^ 38) (hsz2 : cur.length + l.length + 1 < 2 ^ 38) :
    ∃ r s', (lim prog).call f_expand_builder_split [.p id 0, .s l] s = some (r, s') ∧ r = .tup [] ∧ Eff t0 id s s' ∧ BB t0 s' id (l.foldl spl (out, cur, op)).1 (l.foldl spl (out, cur, op)).2.1 (l.foldl spl (out, cur, op)).2.2 := by
  refine fn_G (Post := fun r s' => r = .tup [] ∧ Eff t0 id s s' ∧ BB t0 s' id (l.foldl spl (out, cur, op)).1 (l.foldl spl (out, cur, op)).2.1 (l.foldl spl (out, cur, op)).2.2) p_expand_builder_split rfl rfl ?_
  simp only [c_expand_builder_split, W_seq, W_reg, W_cond, W_blk, W_skip, W_exit, W_ret, W_regD, WO_nil, WO_cons, WO_guard2, wantV_b, bq_tt, bq_ft, bq_tf, bq_ff, Bool.not_true, Bool.not_false, WD_nil, WD_cons, WD_guard2, WS_some, WS_none, KS_n, KS_x, KS_r, KB_n, KB_x, KB_r, KN_ap, KO_ap, KD_ap, KC_nil, KF_n, KF_r, KG_n, KG_r, KL_n, KL_x, KL_r, CP_true, CP_false, evOp, evX, X.ev, optX, put_some, put_none, get_set2, sel_t, sel_f, Nat.reduceBEq, Nat.reduceAdd, Nat.reduceLT, Nat.reduceLeDiff, Nat.reduceEqDiff, reduceIte, if_true, if_false, bi_add, bi_sub, bi_mul, bi_eql, bi_neq, bi_lss, bi_leq, bi_gtr, bi_geq, bs_eql, bs_neq, bs_lss, Am.unOp, ret1, pubL, pub, pubA, initT, wkZ, wk, wants, resOf, tupOf, quiet, AOp.cls, Nat.beq_eq, Bool.or_eq_true, decide_true, decide_false, beq_self_eq_true, Bool.true_or, Bool.or_true, true_and, and_true, lenA, eqv, eqB, eqP, scal, new_box_self, List.getElem?_cons_zero, List.getElem?_cons_succ, key_ii, key_ss, findM, updM, esc_i, esc_s, esc_b, Int.reduceEq, ret1, new_nb, new_set, reduceCtorEq, Bool.xor_true, Bool.xor_false, Bool.false_eq_true, List.all_cons, List.all_nil, noTok, Bool.and_self, Bool.and_true, Bool.true_and, ofNat_len]
  refine W_loop (fun n e s1 => ∃ i : Nat, i + n = l.length ∧ e.get 0 = .p id 0 ∧ e.get 1 = .s l ∧ e.get 7 = .i .i64 l.length ∧ e.get 8 = .i .i64 i ∧ Eff t0 id s.enter s1 ∧
    BB t0 s1 id ((l.take i).foldl spl (out, cur, op)).1 ((l.take i).foldl spl (out, cur, op)).2.1 ((l.take i).foldl spl (out, cur, op)).2.2) ?_ l.length _ _ ?_
  · rintro n e s1 ⟨i, hi, h0, h1, h7, h8, hE, hBB⟩
    simp only [W_seq, W_reg, W_cond, W_blk, W_skip, W_exit, W_ret, W_regD, WO_nil, WO_cons, WO_guard2, wantV_b, bq_tt, bq_ft, bq_tf, bq_ff, Bool.not_true, Bool.not_false, WD_nil, WD_cons, WD_guard2, WS_some, WS_none, KS_n, KS_x, KS_r, KB_n, KB_x, KB_r, KN_ap, KO_ap, KD_ap, KC_nil, KF_n, KF_r, KG_n, KG_r, KL_n, KL_x, KL_r, CP_true, CP_false, evOp, evX, X.ev, optX, put_some, put_none, get_set2, sel_t, sel_f, Nat.reduceBEq, Nat.reduceAdd, Nat.reduceLT, Nat.reduceLeDiff, Nat.reduceEqDiff, reduceIte, if_true, if_false, bi_add, bi_sub, bi_mul, bi_eql, bi_neq, bi_lss, bi_leq, bi_gtr, bi_geq, bs_eql, bs_neq, bs_lss, Am.unOp, ret1, pubL, pub, pubA, initT, wkZ, wk, wants, resOf, tupOf, quiet, AOp.cls, Nat.beq_eq, Bool.or_eq_true, decide_true, decide_false, beq_self_eq_true, Bool.true_or, Bool.or_true, true_and, and_true, lenA, eqv, eqB, eqP, scal, new_box_self, List.getElem?_cons_zero, List.getElem?_cons_succ, key_ii, key_ss, findM, updM, esc_i, esc_s, esc_b, Int.reduceEq, ret1, new_nb, new_set, reduceCtorEq, Bool.xor_true, Bool.xor_false, Bool.false_eq_true, List.all_cons, List.all_nil, noTok, Bool.and_self, Bool.and_true, Bool.true_and, h0, h1, h7, h8, ofNat_len]
    refine CP_dec (fun hlt => ?_) (fun hge => ?_)
    · have hlt : i < l.length := by omega
      have hget : l[i]? = some l[i] := List.getElem?_eq_getElem hlt
      have hst : (l.take (i + 1)).foldl spl (out, cur, op) = spl ((l.take i).foldl spl (out, cur, op)) l[i] := by
        rw [List.take_succ_eq_append_getElem hlt, List.foldl_append]; rfl
      obtain ⟨q1, q2⟩ := spl_len (l.take i) (out, cur, op)
      have q3 := spl_lt (l.take i) (out, cur, op) (fun n hn => hl.lt n (List.mem_of_mem_take hn)) hc256
      have q4 : (l.take i).length = i := by simp; omega
      have hid1 : id < s1.nb := by have : s1.nb = s.nb := hE.nb; omega
      have hnt1 : t0 ≤ s1.nt := by have : s.nt ≤ s1.nt := hE.nt; omega
      have hsub : (l.drop i).take (i + 1 - i) = [l[i]] := by
        rw [show i + 1 - i = 1 by omega, List.take_one, List.head?_drop, hget]; rfl
      cases hb : blankN l[i] with
      | true =>
        obtain ⟨r, s2, c1, rfl, c3, c4⟩ := end_ok hE.wf hnt1 hid1 hBB q3 (by simp only at q1; omega)
        have hfin : ∃ m, m < n ∧ ∃ i', i' + m = l.length ∧ AV.i .i64 ((i + 1 : Nat) : Int) = .i .i64 i' ∧ Eff t0 id s.enter s2 ∧
            BB t0 s2 id ((l.take i').foldl spl (out, cur, op)).1 ((l.take i').foldl spl (out, cur, op)).2.1 ((l.take i').foldl spl (out, cur, op)).2.2 := by
          refine ⟨n - 1, by omega, i + 1, by omega, rfl, hE.trans c3, ?_⟩
          rw [hst]
          unfold spl
          rw [if_pos hb]
          exact c4
        simp only [blankN, Bool.or_eq_true, decide_eq_true_eq] at hb
        by_cases h32 : l[i] = 32
        · have h32' : ((l[i] : Int) = 32) = True := by simp; omega
          simp only [W_seq, W_reg, W_cond, W_blk, W_skip, W_exit, W_ret, W_regD, WO_nil, WO_cons, WO_guard2, wantV_b, bq_tt, bq_ft, bq_tf, bq_ff, Bool.not_true, Bool.not_false, WD_nil, WD_cons, WD_guard2, WS_some, WS_none, KS_n, KS_x, KS_r, KB_n, KB_x, KB_r, KN_ap, KO_ap, KD_ap, KC_nil, KF_n, KF_r, KG_n, KG_r, KL_n, KL_x, KL_r, CP_true, CP_false, evOp, evX, X.ev, optX, put_some, put_none, get_set2, sel_t, sel_f, Nat.reduceBEq, Nat.reduceAdd, Nat.reduceLT, Nat.reduceLeDiff, Nat.reduceEqDiff, reduceIte, if_true, if_false, bi_add, bi_sub, bi_mul, bi_eql, bi_neq, bi_lss, bi_leq, bi_gtr, bi_geq, bs_eql, bs_neq, bs_lss, Am.unOp, ret1, pubL, pub, pubA, initT, wkZ, wk, wants, resOf, tupOf, quiet, AOp.cls, Nat.beq_eq, Bool.or_eq_true, decide_true, decide_false, beq_self_eq_true, Bool.true_or, Bool.or_true, true_and, and_true, lenA, eqv, eqB, eqP, scal, new_box_self, List.getElem?_cons_zero, List.getElem?_cons_succ, key_ii, key_ss, findM, updM, esc_i, esc_s, esc_b, Int.reduceEq, ret1, new_nb, new_set, reduceCtorEq, Bool.xor_true, Bool.xor_false, Bool.false_eq_true, List.all_cons, List.all_nil, noTok, Bool.and_self, Bool.and_true, Bool.true_and, h0, h1, h7, h8, natOf_nat, hget, ofNat_len, h32', c1, wrap_succ (show i + 1 < 2 ^ 63 by have := hl.len; omega)]
          exact hfin
        · have h32' : ((l[i] : Int) = 32) = False := by simp; omega
          by_cases h9 : l[i] = 9
          · have h9' : ((l[i] : Int) = 9) = True := by simp; omega
            simp only [W_seq, W_reg, W_cond, W_blk, W_skip, W_exit, W_ret, W_regD, WO_nil, WO_cons, WO_guard2, wantV_b, bq_tt, bq_ft, bq_tf, bq_ff, Bool.not_true, Bool.not_false, WD_nil, WD_cons, WD_guard2, WS_some, WS_none, KS_n, KS_x, KS_r, KB_n, KB_x, KB_r, KN_ap, KO_ap, KD_ap, KC_nil, KF_n, KF_r, KG_n, KG_r, KL_n, KL_x, KL_r, CP_true, CP_false, evOp, evX, X.ev, optX, put_some, put_none, get_set2, sel_t, sel_f, Nat.reduceBEq, Nat.reduceAdd, Nat.reduceLT, Nat.reduceLeDiff, Nat.reduceEqDiff, reduceIte, if_true, if_false, bi_add, bi_sub, bi_mul, bi_eql, bi_neq, bi_lss, bi_leq, bi_gtr, bi_geq, bs_eql, bs_neq, bs_lss, Am.unOp, ret1, pubL, pub, pubA, initT, wkZ, wk, wants, resOf, tupOf, quiet, AOp.cls, Nat.beq_eq, Bool.or_eq_true, decide_true, decide_false, beq_self_eq_true, Bool.true_or, Bool.or_true, true_and, and_true, lenA, eqv, eqB, eqP, scal, new_box_self, List.getElem?_cons_zero, List.getElem?_cons_succ, key_ii, key_ss, findM, updM, esc_i, esc_s, esc_b, Int.reduceEq, ret1, new_nb, new_set, reduceCtorEq, Bool.xor_true, Bool.xor_false, Bool.false_eq_true, List.all_cons, List.all_nil, noTok, Bool.and_self, Bool.and_true, Bool.true_and, h0, h1, h7, h8, natOf_nat, hget, ofNat_len, h32', h9', c1, wrap_succ (show i + 1 < 2 ^ 63 by have := hl.len; omega)]
            exact hfin
          · have h9' : ((l[i] : Int) = 9) = False := by simp; omega
            have h10' : ((l[i] : Int) = 10) = True := by simp; omega
            simp only [W_seq, W_reg, W_cond, W_blk, W_skip, W_exit, W_ret, W_regD, WO_nil, WO_cons, WO_guard2, wantV_b, bq_tt, bq_ft, bq_tf, bq_ff, Bool.not_true, Bool.not_false, WD_nil, WD_cons, WD_guard2, WS_some, WS_none, KS_n, KS_x, KS_r, KB_n, KB_x, KB_r, KN_ap, KO_ap, KD_ap, KC_nil, KF_n, KF_r, KG_n, KG_r, KL_n, KL_x, KL_r, CP_true, CP_false, evOp, evX, X.ev, optX, put_some, put_none, get_set2, sel_t, sel_f, Nat.reduceBEq, Nat.reduceAdd, Nat.reduceLT, Nat.reduceLeDiff, Nat.reduceEqDiff, reduceIte, if_true, if_false, bi_add, bi_sub, bi_mul, bi_eql, bi_neq, bi_lss, bi_leq, bi_gtr, bi_geq, bs_eql, bs_neq, bs_lss, Am.unOp, ret1, pubL, pub, pubA, initT, wkZ, wk, wants, resOf, tupOf, quiet, AOp.cls, Nat.beq_eq, Bool.or_eq_true, decide_true, decide_false, beq_self_eq_true, Bool.true_or, Bool.or_true, true_and, and_true, lenA, eqv, eqB, eqP, scal, new_box_self, List.getElem?_cons_zero, List.getElem?_cons_succ, key_ii, key_ss, findM, updM, esc_i, esc_s, esc_b, Int.reduceEq, ret1, new_nb, new_set, reduceCtorEq, Bool.xor_true, Bool.xor_false, Bool.false_eq_true, List.all_cons, List.all_nil, noTok, Bool.and_self, Bool.and_true, Bool.true_and, h0, h1, h7, h8, natOf_nat, hget, ofNat_len, h32', h9', h10', c1, wrap_succ (show i + 1 < 2 ^ 63 by have := hl.len; omega)]
            exact hfin
      | false =>
        obtain ⟨r, s2, c1, rfl, c3, c4⟩ := add_ok [l[i]] hE.wf hnt1 hid1 hBB (by simp only at q2; simp; omega)
        have hfin : ∃ m, m < n ∧ ∃ i', i' + m = l.length ∧ AV.i .i64 ((i + 1 : Nat) : Int) = .i .i64 i' ∧ Eff t0 id s.enter s2 ∧
            BB t0 s2 id ((l.take i').foldl spl (out, cur, op)).1 ((l.take i').foldl spl (out, cur, op)).2.1 ((l.take i').foldl spl (out, cur, op)).2.2 := by
          refine ⟨n - 1, by omega, i + 1, by omega, rfl, hE.trans c3, ?_⟩
          rw [hst]
          unfold spl
          rw [hb]
          exact c4
        simp only [blankN, Bool.or_eq_false_iff, decide_eq_false_iff_not] at hb
        have h32' : ((l[i] : Int) = 32) = False := by simp; omega
        have h9' : ((l[i] : Int) = 9) = False := by simp; omega
        have h10' : ((l[i] : Int) = 10) = False := by simp; omega
        simp only [W_seq, W_reg, W_cond, W_blk, W_skip, W_exit, W_ret, W_regD, WO_nil, WO_cons, WO_guard2, wantV_b, bq_tt, bq_ft, bq_tf, bq_ff, Bool.not_true, Bool.not_false, WD_nil, WD_cons, WD_guard2, WS_some, WS_none, KS_n, KS_x, KS_r, KB_n, KB_x, KB_r, KN_ap, KO_ap, KD_ap, KC_nil, KF_n, KF_r, KG_n, KG_r, KL_n, KL_x, KL_r, CP_true, CP_false, evOp, evX, X.ev, optX, put_some, put_none, get_set2, sel_t, sel_f, Nat.reduceBEq, Nat.reduceAdd, Nat.reduceLT, Nat.reduceLeDiff, Nat.reduceEqDiff, reduceIte, if_true, if_false, bi_add, bi_sub, bi_mul, bi_eql, bi_neq, bi_lss, bi_leq, bi_gtr, bi_geq, bs_eql, bs_neq, bs_lss, Am.unOp, ret1, pubL, pub, pubA, initT, wkZ, wk, wants, resOf, tupOf, quiet, AOp.cls, Nat.beq_eq, Bool.or_eq_true, decide_true, decide_false, beq_self_eq_true, Bool.true_or, Bool.or_true, true_and, and_true, lenA, eqv, eqB, eqP, scal, new_box_self, List.getElem?_cons_zero, List.getElem?_cons_succ, key_ii, key_ss, findM, updM, esc_i, esc_s, esc_b, Int.reduceEq, ret1, new_nb, new_set, reduceCtorEq, Bool.xor_true, Bool.xor_false, Bool.false_eq_true, List.all_cons, List.all_nil, noTok, Bool.and_self, Bool.and_true, Bool.true_and, h0, h1, h7, h8, natOf_nat, hget, ofNat_len, h32', h9', h10', bounds_ii (show i ≤ i + 1 by omega) (show i + 1 ≤ l.length by omega), hsub, c1, wrap_succ (show i + 1 < 2 ^ 63 by have := hl.len; omega)]
        exact hfin
    · have hil : i = l.length := by omega
      subst hil
      rw [List.take_length] at hBB
      obtain ⟨m, k1, k2⟩ := hE.leave hid
      refine ⟨_, _, rfl, rfl, ?_⟩
      show Eff t0 id s (leave s s1 (.tup [])) ∧ BB t0 (leave s s1 (.tup [])) id _ _ _
      rw [k1]
      exact ⟨k2, hBB⟩
  · simp only [W_seq, W_reg, W_cond, W_blk, W_skip, W_exit, W_ret, W_regD, WO_nil, WO_cons, WO_guard2, wantV_b, bq_tt, bq_ft, bq_tf, bq_ff, Bool.not_true, Bool.not_false, WD_nil, WD_cons, WD_guard2, WS_some, WS_none, KS_n, KS_x, KS_r, KB_n, KB_x, KB_r, KN_ap, KO_ap, KD_ap, KC_nil, KF_n, KF_r, KG_n, KG_r, KL_n, KL_x, KL_r, CP_true, CP_false, evOp, evX, X.ev, optX, put_some, put_none, get_set2, sel_t, sel_f, Nat.reduceBEq, Nat.reduceAdd, Nat.reduceLT, Nat.reduceLeDiff, Nat.reduceEqDiff, reduceIte, if_true, if_false, bi_add, bi_sub, bi_mul, bi_eql, bi_neq, bi_lss, bi_leq, bi_gtr, bi_geq, bs_eql, bs_neq, bs_lss, Am.unOp, ret1, pubL, pub, pubA, initT, wkZ, wk, wants, resOf, tupOf, quiet, AOp.cls, Nat.beq_eq, Bool.or_eq_true, decide_true, decide_false, beq_self_eq_true, Bool.true_or, Bool.or_true, true_and, and_true, lenA, eqv, eqB, eqP, scal, new_box_self, List.getElem?_cons_zero, List.getElem?_cons_succ, key_ii, key_ss, findM, updM, esc_i, esc_s, esc_b, Int.reduceEq, ret1, new_nb, new_set, reduceCtorEq, Bool.xor_true, Bool.xor_false, Bool.false_eq_true, List.all_cons, List.all_nil, noTok, Bool.and_self, Bool.and_true, Bool.true_and]
    exact ⟨0, by omega, rfl, Eff.refl hw.enter, hB⟩
end Go.Proofs.YtfpoihibfajhlaaDoor

/-
  Items as plain lists.
-/
namespace Go.Proofs.YtfpoihibfajhlaaDoor
open Go.Proofs.YtfpoihibfajhlaaDoor.Am
abbrev partsA (ps : List PP) : AV := .ws false 3 (ps.map fun p => AV.agg p.cells)
structure II where
  parts : List PP
  split : Bool
abbrev II.cells (x : II) : List AV := [partsA x.parts, .b x.split]
abbrev itemsA (l : List II) : AV := .ws false 2 (l.map fun x => AV.agg x.cells)
end Go.Proofs.YtfpoihibfajhlaaDoor

/-
  Values, parts, fields.
-/
set_option maxRecDepth 100000
set_option linter.unusedSimpArgs false
namespace Go.Proofs.YtfpoihibfajhlaaDoor
open Go.Proofs.YtfpoihibfajhlaaDoor.Am
variable (it : Int → List Nat)

theorem values_ok (v : VV) (s : St) : (lim prog).call f_expand_values [v.av] s = some (.fn f_expand_values_1 [.p s.nb 0], { s.enter.new (.cells 28 v.cells) with lo := min s.lo s.nb }) := by
  obtain ⟨r, s', h, rfl, rfl⟩ := fn_G (f := f_expand_values) (args := [v.av]) (s := s) (Post := fun r s' => r = .fn f_expand_values_1 [.p s.nb 0] ∧ s' = { s.enter.new (.cells 28 v.cells) with lo := min s.lo s.nb }) p_expand_values rfl rfl (by
    simp only [c_expand_values, W_seq, W_reg, W_cond, W_blk, W_skip, W_exit, W_ret, W_regD, WO_nil, WO_cons, WO_guard2, wantV_b, bq_tt, bq_ft, bq_tf, bq_ff, Bool.not_true, Bool.not_false, WD_nil, WD_cons, WD_guard2, WS_some, WS_none, KS_n, KS_x, KS_r, KB_n, KB_x, KB_r, KN_ap, KO_ap, KD_ap, KC_nil, KF_n, KF_r, KG_n, KG_r, KL_n, KL_x, KL_r, CP_true, CP_false, evOp, evX, X.ev, optX, put_some, put_none, get_set2, sel_t, sel_f, Nat.reduceBEq, Nat.reduceAdd, Nat.reduceLT, Nat.reduceLeDiff, Nat.reduceEqDiff, reduceIte, if_true, if_false, bi_add, bi_sub, bi_mul, bi_eql, bi_neq, bi_lss, bi_leq, bi_gtr, bi_geq, bs_eql, bs_neq, bs_lss, Am.unOp, ret1, pubL, pub, pubA, initT, wkZ, wk, wants, resOf, tupOf, quiet, AOp.cls, Nat.beq_eq, Bool.or_eq_true, decide_true, decide_false, beq_self_eq_true, Bool.true_or, Bool.or_true, true_and, and_true, lenA, eqv, eqB, eqP, scal, new_box_self, List.getElem?_cons_zero, List.getElem?_cons_succ, key_ii, key_ss, findM, updM, esc_i, esc_s, esc_b, Int.reduceEq, ret1, new_nb, new_set, reduceCtorEq, Bool.xor_true, Bool.xor_false, Bool.false_eq_true, List.all_cons, List.all_nil, noTok, Bool.and_self, Bool.and_true, Bool.true_and, cells_agg, len4]
    refine ⟨_, _, rfl, rfl, ?_⟩
    have : Am.leave s (s.enter.new (.cells 28 v.cells)) (.fn f_expand_values_1 [.p s.nb 0]) = { s.enter.new (.cells 28 v.cells) with lo := min s.lo s.nb } := by
      unfold Am.leave
      rw [show (AV.fn f_expand_values_1 [AV.p s.nb 0]).refs = true from rfl, Bool.not_true, Bool.and_false, if_neg (by simp)]
      rfl
    exact this)
  exact h

theorem len3 (a b c : AV) : [a, b, c].length = 3 := rfl
theorem ld3_0 (s : St) (T : Nat) (a b c : AV) : ldA (s.new (.cells T [a, b, c])) false 1 (.p s.nb 0) = some a := ld_box (new_box_self s _) rfl
theorem ld3_1 (s : St) (T : Nat) (a b c : AV) : ldA (s.new (.cells T [a, b, c])) false 1 (.p s.nb 1) = some b := ld_box (new_box_self s _) rfl
theorem ld3_2 (s : St) (T : Nat) (a b c : AV) : ldA (s.new (.cells T [a, b, c])) false 1 (.p s.nb 2) = some c := ld_box (new_box_self s _) rfl
theorem ld_all4 {s : St} {T id : Nat} {a b c d : AV} (h : s.box? id = some (.cells T [a, b, c, d])) : ldA s true 4 (.p id 0) = some (.agg [a, b, c, d]) := by
  simp [ldA, St.cells?, h, cut, scal]
theorem ld_all3 {s : St} {T id : Nat} {a b c : AV} (h : s.box? id = some (.cells T [a, b, c])) : ldA s true 3 (.p id 0) = some (.agg [a, b, c]) := by
  simp [ldA, St.cells?, h, cut, scal]

theorem of_ok (hI : ItoaOk it) (v : VV) (hv : v.Ok) (p : PP) (hp : Txt p.text) {s : St} {idv : Nat} (hid : idv < s.nb) (hb : s.box? idv = some (.cells 28 v.cells)) :
    (lim prog).call f_expand_values_1 [.agg p.cells, .p idv 0] s = some (.s (partL it v p), s) := by
  refine fn_W p_expand_values_1 rfl rfl ?_
  have hb2 : (s.enter.new (.cells 31 p.cells)).box? idv = some (.cells 28 v.cells) := by rw [new_box_lt (s := s.enter) hid]; exact hb
  cases hpv : p.var with
  | true =>
    have hb3 : (s.enter.new (.cells 31 [.b true, .s p.text, .b p.quoted])).box? idv = some (.cells 28 v.cells) := by rw [new_box_lt (s := s.enter) hid]; exact hb
    simp only [c_expand_values_1, W_seq, W_reg, W_cond, W_blk, W_skip, W_exit, W_ret, W_regD, WO_nil, WO_cons, WO_guard2, wantV_b, bq_tt, bq_ft, bq_tf, bq_ff, Bool.not_true, Bool.not_false, WD_nil, WD_cons, WD_guard2, WS_some, WS_none, KS_n, KS_x, KS_r, KB_n, KB_x, KB_r, KN_ap, KO_ap, KD_ap, KC_nil, KF_n, KF_r, KG_n, KG_r, KL_n, KL_x, KL_r, CP_true, CP_false, evOp, evX, X.ev, optX, put_some, put_none, get_set2, sel_t, sel_f, Nat.reduceBEq, Nat.reduceAdd, Nat.reduceLT, Nat.reduceLeDiff, Nat.reduceEqDiff, reduceIte, if_true, if_false, bi_add, bi_sub, bi_mul, bi_eql, bi_neq, bi_lss, bi_leq, bi_gtr, bi_geq, bs_eql, bs_neq, bs_lss, Am.unOp, ret1, pubL, pub, pubA, initT, wkZ, wk, wants, resOf, tupOf, quiet, AOp.cls, Nat.beq_eq, Bool.or_eq_true, decide_true, decide_false, beq_self_eq_true, Bool.true_or, Bool.or_true, true_and, and_true, lenA, eqv, eqB, eqP, scal, new_box_self, List.getElem?_cons_zero, List.getElem?_cons_succ, key_ii, key_ss, findM, updM, esc_i, esc_s, esc_b, Int.reduceEq, ret1, new_nb, new_set, reduceCtorEq, Bool.xor_true, Bool.xor_false, Bool.false_eq_true, List.all_cons, List.all_nil, noTok, Bool.and_self, Bool.and_true, Bool.true_and, cells_agg, len3, hpv, ld3_0, ld3_1, ld3_2, Nat.zero_add, ld_all4 hb3, value_ok it hI v hv p.text hp]
    exact KR_some ((Over.enter s).new _) rfl (by simp [tupOf, wkZ, wk, partL, hpv])
  | false =>
    simp only [c_expand_values_1, W_seq, W_reg, W_cond, W_blk, W_skip, W_exit, W_ret, W_regD, WO_nil, WO_cons, WO_guard2, wantV_b, bq_tt, bq_ft, bq_tf, bq_ff, Bool.not_true, Bool.not_false, WD_nil, WD_cons, WD_guard2, WS_some, WS_none, KS_n, KS_x, KS_r, KB_n, KB_x, KB_r, KN_ap, KO_ap, KD_ap, KC_nil, KF_n, KF_r, KG_n, KG_r, KL_n, KL_x, KL_r, CP_true, CP_false, evOp, evX, X.ev, optX, put_some, put_none, get_set2, sel_t, sel_f, Nat.reduceBEq, Nat.reduceAdd, Nat.reduceLT, Nat.reduceLeDiff, Nat.reduceEqDiff, reduceIte, if_true, if_false, bi_add, bi_sub, bi_mul, bi_eql, bi_neq, bi_lss, bi_leq, bi_gtr, bi_geq, bs_eql, bs_neq, bs_lss, Am.unOp, ret1, pubL, pub, pubA, initT, wkZ, wk, wants, resOf, tupOf, quiet, AOp.cls, Nat.beq_eq, Bool.or_eq_true, decide_true, decide_false, beq_self_eq_true, Bool.true_or, Bool.or_true, true_and, and_true, lenA, eqv, eqB, eqP, scal, new_box_self, List.getElem?_cons_zero, List.getElem?_cons_succ, key_ii, key_ss, findM, updM, esc_i, esc_s, esc_b, Int.reduceEq, ret1, new_nb, new_set, reduceCtorEq, Bool.xor_true, Bool.xor_false, Bool.false_eq_true, List.all_cons, List.all_nil, noTok, Bool.and_self, Bool.and_true, Bool.true_and, cells_agg, len3, hpv, ld3_0, ld3_1, ld3_2, Nat.zero_add]
    exact KR_some ((Over.enter s).new _) rfl (by simp [tupOf, wkZ, wk, partL, hpv])

theorem szF_append (v : VV) (a b : List PP) : szF it v (a ++ b) = szF it v a + szF it v b := by simp [szF]
theorem szF_cons (v : VV) (p : PP) (b : List PP) : szF it v (p :: b) = (partL it v p).length + 1 + szF it v b := by simp [szF]
theorem stepF_len (v : VV) : ∀ (ps : List PP) (x : List (List Nat) × List Nat × Bool), (ps.foldl (stepF it v) x).1.length ≤ x.1.length + szF it v ps ∧ (ps.foldl (stepF it v) x).2.1.length ≤ x.2.1.length + szF it v ps
  | [], x => ⟨Nat.le_refl _, Nat.le_refl _⟩
  | p :: ps, x => by
    obtain ⟨h1, h2⟩ := stepF_len v ps (stepF it v x p)
    have h3 : (stepF it v x p).1.length ≤ x.1.length + (partL it v p).length + 1 ∧ (stepF it v x p).2.1.length ≤ x.2.1.length + (partL it v p).length + 1 := by
      unfold stepF
      split
      · obtain ⟨q1, q2⟩ := spl_len (partL it v p) x
        omega
      · split
        · simp; omega
        · omega
    simp only [List.foldl_cons, szF, List.map_cons, List.sum_cons] at h1 h2 ⊢
    omega
theorem stepF_lt (v : VV) : ∀ (ps : List PP) (x : List (List Nat) × List Nat × Bool), (∀ p ∈ ps, ∀ n ∈ partL it v p, n < 256) → (∀ n ∈ x.2.1, n < 256) → ∀ n ∈ (ps.foldl (stepF it v) x).2.1, n < 256
  | [], _, _, h => h
  | p :: ps, x, hp, h => by
    rw [List.foldl_cons]
    refine stepF_lt v ps _ (fun q hq => hp q (by simp [hq])) ?_
    have hp0 := hp p (by simp)
    unfold stepF
    split
    · exact spl_lt _ _ hp0 h
    · split
      · intro n hn
        simp only [List.mem_append] at hn
        rcases hn with hn | hn
        · exact h n hn
        · exact hp0 n hn
      · exact h

theorem wkM_id : ∀ l : List AV, wkM .id l = l
  | [] => rfl
  | a :: l => by simp [wkM, wk, wkM_id l]
theorem refs_s : ∀ L : List (List Nat), AV.refs.go (L.map AV.s) = false
  | [] => rfl
  | _ :: L => by simp [AV.refs.go, AV.refs, refs_s L]


theorem ldE3 (s : St) (a b c : AV) : ldA s true 3 (.ep [a, b, c] 0 .shut) = some (.agg [a, b, c]) := rfl
theorem callV_fn (σ : Self) (g : Nat) (caps args : List AV) (s : St) : callV σ (.fn g caps) args s = σ.call g (args ++ caps) s := rfl

theorem fields_ok (hI : ItoaOk it) (v : VV) (hv : v.Ok) (ps : List PP) (hp : ∀ p ∈ ps, Txt p.text) (ht : ∀ p ∈ ps, Txt (partL it v p)) (hlen : ps.length < 2 ^ 63) (hsz : szF it v ps < 2 ^ 37) (s : St) (hw : Wf s) :
    (lim prog).call f_expand_Fields [v.av, partsA ps] s = some (tx (fieldsL it v ps), s) := by
  refine fn_W p_expand_Fields rfl rfl ?_
  obtain ⟨s1, hs1⟩ : ∃ s1, ({ (s.enter.new (.cells 28 v.cells)).enter.new (.cells 28 v.cells) with lo := min (s.enter.new (.cells 28 v.cells)).lo (s.enter.new (.cells 28 v.cells)).nb } : St) = s1 := ⟨_, rfl⟩
  have hval := values_ok v (s.enter.new (.cells 28 v.cells))
  rw [hs1] at hval
  have hb0 : (s.enter.new (.cells 28 v.cells)).box? s.enter.nb = some (.cells 28 v.cells) := new_box_self _ _
  have n1 : s1.nb = s.nb + 2 ∧ s1.nt = s.nt := by rw [← hs1]; exact ⟨rfl, rfl⟩
  have w1 : Wf s1 := by rw [← hs1]; exact (((hw.enter.new _).enter).new _).lo _
  have ov1 : Over s s1 := by
    rw [← hs1]
    refine Over.setLo (((Over.enter s).new _).toEnter.new _) ?_
    show s.nb ≤ min s.nb (s.nb + 1)
    omega
  have bv1 : s1.box? (s.nb + 1) = some (.cells 28 v.cells) := by
    rw [← hs1]
    exact new_box_self ((s.enter.new (.cells 28 v.cells)).enter) _
  obtain ⟨idb, hidb⟩ : ∃ k, s1.nb = k := ⟨_, rfl⟩
  have hpl : (ps.map fun p => AV.agg p.cells).length = ps.length := by simp
  simp only [c_expand_Fields, W_seq, W_reg, W_cond, W_blk, W_skip, W_exit, W_ret, W_regD, WO_nil, WO_cons, WO_guard2, wantV_b, bq_tt, bq_ft, bq_tf, bq_ff, Bool.not_true, Bool.not_false, WD_nil, WD_cons, WD_guard2, WS_some, WS_none, KS_n, KS_x, KS_r, KB_n, KB_x, KB_r, KN_ap, KO_ap, KD_ap, KC_nil, KF_n, KF_r, KG_n, KG_r, KL_n, KL_x, KL_r, CP_true, CP_false, evOp, evX, X.ev, optX, put_some, put_none, get_set2, sel_t, sel_f, Nat.reduceBEq, Nat.reduceAdd, Nat.reduceLT, Nat.reduceLeDiff, Nat.reduceEqDiff, reduceIte, if_true, if_false, bi_add, bi_sub, bi_mul, bi_eql, bi_neq, bi_lss, bi_leq, bi_gtr, bi_geq, bs_eql, bs_neq, bs_lss, Am.unOp, ret1, pubL, pub, pubA, initT, wkZ, wk, wants, resOf, tupOf, quiet, AOp.cls, Nat.beq_eq, Bool.or_eq_true, decide_true, decide_false, beq_self_eq_true, Bool.true_or, Bool.or_true, true_and, and_true, lenA, eqv, eqB, eqP, scal, new_box_self, List.getElem?_cons_zero, List.getElem?_cons_succ, key_ii, key_ss, findM, updM, esc_i, esc_s, esc_b, Int.reduceEq, ret1, new_nb, new_set, reduceCtorEq, Bool.xor_true, Bool.xor_false, Bool.false_eq_true, List.all_cons, List.all_nil, noTok, Bool.and_self, Bool.and_true, Bool.true_and, cells_agg, len4, len3, ld_all4 hb0, hval, evParts, hidb, List.length_map, ofNat_len]
  refine W_loop (fun n e q => ∃ i : Nat, i + n = ps.length ∧ e.get 5 = .fn f_expand_values_1 [.p (s.nb + 1) 0] ∧ e.get 6 = .p idb 0 ∧ e.get 14 = partsA ps ∧ e.get 15 = .i .i64 ps.length ∧ e.get 16 = .i .i64 i ∧
    Over s q ∧ Wf q ∧ idb < q.nb ∧ q.box? (s.nb + 1) = some (.cells 28 v.cells) ∧ BB s.nt q idb ((ps.take i).foldl (stepF it v) ([], [], false)).1 ((ps.take i).foldl (stepF it v) ([], [], false)).2.1 ((ps.take i).foldl (stepF it v) ([], [], false)).2.2) ?_ ps.length _ _ ?_
  · rintro n e q ⟨i, hi, h5, h6, h14, h15, h16, hov, hwq, hq, hbv, hBB⟩
    simp only [W_seq, W_reg, W_cond, W_blk, W_skip, W_exit, W_ret, W_regD, WO_nil, WO_cons, WO_guard2, wantV_b, bq_tt, bq_ft, bq_tf, bq_ff, Bool.not_true, Bool.not_false, WD_nil, WD_cons, WD_guard2, WS_some, WS_none, KS_n, KS_x, KS_r, KB_n, KB_x, KB_r, KN_ap, KO_ap, KD_ap, KC_nil, KF_n, KF_r, KG_n, KG_r, KL_n, KL_x, KL_r, CP_true, CP_false, evOp, evX, X.ev, optX, put_some, put_none, get_set2, sel_t, sel_f, Nat.reduceBEq, Nat.reduceAdd, Nat.reduceLT, Nat.reduceLeDiff, Nat.reduceEqDiff, reduceIte, if_true, if_false, bi_add, bi_sub, bi_mul, bi_eql, bi_neq, bi_lss, bi_leq, bi_gtr, bi_geq, bs_eql, bs_neq, bs_lss, Am.unOp, ret1, pubL, pub, pubA, initT, wkZ, wk, wants, resOf, tupOf, quiet, AOp.cls, Nat.beq_eq, Bool.or_eq_true, decide_true, decide_false, beq_self_eq_true, Bool.true_or, Bool.or_true, true_and, and_true, lenA, eqv, eqB, eqP, scal, new_box_self, List.getElem?_cons_zero, List.getElem?_cons_succ, key_ii, key_ss, findM, updM, esc_i, esc_s, esc_b, Int.reduceEq, ret1, new_nb, new_set, reduceCtorEq, Bool.xor_true, Bool.xor_false, Bool.false_eq_true, List.all_cons, List.all_nil, noTok, Bool.and_self, Bool.and_true, Bool.true_and, h5, h6, h14, h15, h16, ofNat_len]
    refine CP_dec (fun hlt => ?_) (fun hge => ?_)
    · have hlt : i < ps.length := by omega
      have hget : (ps.map fun p => AV.agg p.cells)[i]? = some (.agg ps[i].cells) := by simp [hlt]
      have hst : (ps.take (i + 1)).foldl (stepF it v) ([], [], false) = stepF it v ((ps.take i).foldl (stepF it v) ([], [], false)) ps[i] := by
        rw [List.take_succ_eq_append_getElem hlt, List.foldl_append]; rfl
      -- the part in a box of its own
      obtain ⟨q2, hq2⟩ : ∃ q2, q.new (.cells 31 ps[i].cells) = q2 := ⟨_, rfl⟩
      have w2 : Wf q2 := by rw [← hq2]; exact hwq.new _
      have ov2 : Over s q2 := by rw [← hq2]; exact hov.new _
      have nb2 : q2.nb = q.nb + 1 ∧ q2.nt = q.nt := by rw [← hq2]; exact ⟨rfl, rfl⟩
      have lt2 : ∀ j, j < q.nb → q2.box? j = q.box? j := fun j hj => by rw [← hq2]; exact new_box_lt hj
      have est : stA (q.new (.cells 31 [.b false, .s [], .b false])) 3 (.p q.nb 0) (.agg ps[i].cells) = some q2 := by
        rw [← hq2]
        simp [stA, new_box_self, AV.cells, ones, over, esc, AV.refs, AV.refs.go, new_set]
      have bq2 : q2.box? q.nb = some (.cells 31 ps[i].cells) := by rw [← hq2]; exact new_box_self _ _
      have hofc := of_ok it hI v hv ps[i] (hp _ (List.getElem_mem hlt)) (s := q2) (idv := s.nb + 1) (by omega) (by rw [lt2 _ (by omega)]; exact hbv)
      have hBB2 : BB s.nt q2 idb ((ps.take i).foldl (stepF it v) ([], [], false)).1 ((ps.take i).foldl (stepF it v) ([], [], false)).2.1 ((ps.take i).foldl (stepF it v) ([], [], false)).2.2 := by
        obtain ⟨ao, ac, k1, k2, k3, k4⟩ := hBB
        refine ⟨ao, ac, by rw [lt2 _ hq]; exact k1, k2.mono (by omega) fun k _ => by rw [← hq2]; rfl, k3.mono (by omega) fun k _ => by rw [← hq2]; rfl, k4⟩
      have l0 := ld_box (s := q2) (off := 0) (v := .b ps[i].var) bq2 rfl
      have l2 := ld_box (s := q2) (off := 2) (v := .b ps[i].quoted) bq2 rfl
      have la := ld_all3 (s := q2) bq2
      have hfin : ∀ q3, Eff s.nt idb q2 q3 → BB s.nt q3 idb (stepF it v ((ps.take i).foldl (stepF it v) ([], [], false)) ps[i]).1 (stepF it v ((ps.take i).foldl (stepF it v) ([], [], false)) ps[i]).2.1 (stepF it v ((ps.take i).foldl (stepF it v) ([], [], false)) ps[i]).2.2 →
          ∃ m, m < n ∧ ∃ i' : Nat, i' + m = ps.length ∧ AV.i .i64 ((i + 1 : Nat) : Int) = .i .i64 i' ∧ Over s q3 ∧ Wf q3 ∧ idb < q3.nb ∧ q3.box? (s.nb + 1) = some (.cells 28 v.cells) ∧
            BB s.nt q3 idb ((ps.take i').foldl (stepF it v) ([], [], false)).1 ((ps.take i').foldl (stepF it v) ([], [], false)).2.1 ((ps.take i').foldl (stepF it v) ([], [], false)).2.2 := by
        intro q3 hE h
        refine ⟨n - 1, by omega, i + 1, by omega, rfl, hE.over s (Nat.le_refl _) (by omega) ov2, hE.wf, by rw [hE.nb]; omega, by rw [hE.box _ (by omega), lt2 _ (by omega)]; exact hbv, ?_⟩
        rw [hst]
        exact h
      have htp := ht ps[i] (List.getElem_mem hlt)
      obtain ⟨z1, z2⟩ := stepF_len it v (ps.take i) ([], [], false)
      have z3 := stepF_lt it v (ps.take i) ([], [], false) (fun p hp' n hn => (ht p (List.mem_of_mem_take hp')).lt n hn) (by simp)
      have z4 : szF it v (ps.take i) + (partL it v ps[i]).length + 1 ≤ szF it v ps := by
        have e1 : ps.take i ++ (ps[i] :: ps.drop (i + 1)) = ps := by rw [← List.drop_eq_getElem_cons hlt, List.take_append_drop]
        have e2 := congrArg (szF it v) e1
        rw [szF_append, szF_cons] at e2
        omega
      simp only [List.length_nil, Nat.zero_add] at z1 z2
      have hnt2 : s.nt ≤ q2.nt := ov2.nt
      have hib2 : idb < q2.nb := by omega
      have hw64 := wrap_succ (show i + 1 < 2 ^ 63 by omega)
      cases hvar : ps[i].var with
      | true =>
        cases hqu : ps[i].quoted with
        | false =>
          obtain ⟨r, q3, c1, rfl, c3, c4⟩ := split_ok (partL it v ps[i]) htp w2 hnt2 hib2 hBB2 z3 (by omega) (by omega)
          simp only [PP.cells, hvar, hqu] at est l0 l2 la hofc
          simp only [W_seq, W_reg, W_cond, W_blk, W_skip, W_exit, W_ret, W_regD, WO_nil, WO_cons, WO_guard2, wantV_b, bq_tt, bq_ft, bq_tf, bq_ff, Bool.not_true, Bool.not_false, WD_nil, WD_cons, WD_guard2, WS_some, WS_none, KS_n, KS_x, KS_r, KB_n, KB_x, KB_r, KN_ap, KO_ap, KD_ap, KC_nil, KF_n, KF_r, KG_n, KG_r, KL_n, KL_x, KL_r, CP_true, CP_false, evOp, evX, X.ev, optX, put_some, put_none, get_set2, sel_t, sel_f, Nat.reduceBEq, Nat.reduceAdd, Nat.reduceLT, Nat.reduceLeDiff, Nat.reduceEqDiff, reduceIte, if_true, if_false, bi_add, bi_sub, bi_mul, bi_eql, bi_neq, bi_lss, bi_leq, bi_gtr, bi_geq, bs_eql, bs_neq, bs_lss, Am.unOp, ret1, pubL, pub, pubA, initT, wkZ, wk, wants, resOf, tupOf, quiet, AOp.cls, Nat.beq_eq, Bool.or_eq_true, decide_true, decide_false, beq_self_eq_true, Bool.true_or, Bool.or_true, true_and, and_true, lenA, eqv, eqB, eqP, scal, new_box_self, List.getElem?_cons_zero, List.getElem?_cons_succ, key_ii, key_ss, findM, updM, esc_i, esc_s, esc_b, Int.reduceEq, ret1, new_nb, new_set, reduceCtorEq, Bool.xor_true, Bool.xor_false, Bool.false_eq_true, List.all_cons, List.all_nil, noTok, Bool.and_self, Bool.and_true, Bool.true_and, h5, h6, h14, h15, h16, natOf_nat, hget, cells_agg, len3, ofNat_len, ldE3, est, la, l0, l2, callV_fn, List.cons_append, List.nil_append, Nat.zero_add, hofc, hvar, hqu, c1, hw64]
          refine hfin q3 c3 ?_
          unfold stepF
          rw [hvar, hqu]
          exact c4
        | true =>
          obtain ⟨r, q3, c1, rfl, c3, c4⟩ := add_ok (partL it v ps[i]) w2 hnt2 hib2 hBB2 (by omega)
          simp only [PP.cells, hvar, hqu] at est l0 l2 la hofc
          simp only [W_seq, W_reg, W_cond, W_blk, W_skip, W_exit, W_ret, W_regD, WO_nil, WO_cons, WO_guard2, wantV_b, bq_tt, bq_ft, bq_tf, bq_ff, Bool.not_true, Bool.not_false, WD_nil, WD_cons, WD_guard2, WS_some, WS_none, KS_n, KS_x, KS_r, KB_n, KB_x, KB_r, KN_ap, KO_ap, KD_ap, KC_nil, KF_n, KF_r, KG_n, KG_r, KL_n, KL_x, KL_r, CP_true, CP_false, evOp, evX, X.ev, optX, put_some, put_none, get_set2, sel_t, sel_f, Nat.reduceBEq, Nat.reduceAdd, Nat.reduceLT, Nat.reduceLeDiff, Nat.reduceEqDiff, reduceIte, if_true, if_false, bi_add, bi_sub, bi_mul, bi_eql, bi_neq, bi_lss, bi_leq, bi_gtr, bi_geq, bs_eql, bs_neq, bs_lss, Am.unOp, ret1, pubL, pub, pubA, initT, wkZ, wk, wants, resOf, tupOf, quiet, AOp.cls, Nat.beq_eq, Bool.or_eq_true, decide_true, decide_false, beq_self_eq_true, Bool.true_or, Bool.or_true, true_and, and_true, lenA, eqv, eqB, eqP, scal, new_box_self, List.getElem?_cons_zero, List.getElem?_cons_succ, key_ii, key_ss, findM, updM, esc_i, esc_s, esc_b, Int.reduceEq, ret1, new_nb, new_set, reduceCtorEq, Bool.xor_true, Bool.xor_false, Bool.false_eq_true, List.all_cons, List.all_nil, noTok, Bool.and_self, Bool.and_true, Bool.true_and, h5, h6, h14, h15, h16, natOf_nat, hget, cells_agg, len3, ofNat_len, ldE3, est, la, l0, l2, callV_fn, List.cons_append, List.nil_append, Nat.zero_add, hofc, hvar, hqu, c1, hw64]
          refine hfin q3 c3 ?_
          unfold stepF
          rw [hvar, hqu]
          exact c4
      | false =>
        cases hqu : ps[i].quoted with
        | true =>
          obtain ⟨r, q3, c1, rfl, c3, c4⟩ := add_ok (partL it v ps[i]) w2 hnt2 hib2 hBB2 (by omega)
          simp only [PP.cells, hvar, hqu] at est l0 l2 la hofc
          simp only [W_seq, W_reg, W_cond, W_blk, W_skip, W_exit, W_ret, W_regD, WO_nil, WO_cons, WO_guard2, wantV_b, bq_tt, bq_ft, bq_tf, bq_ff, Bool.not_true, Bool.not_false, WD_nil, WD_cons, WD_guard2, WS_some, WS_none, KS_n, KS_x, KS_r, KB_n, KB_x, KB_r, KN_ap, KO_ap, KD_ap, KC_nil, KF_n, KF_r, KG_n, KG_r, KL_n, KL_x, KL_r, CP_true, CP_false, evOp, evX, X.ev, optX, put_some, put_none, get_set2, sel_t, sel_f, Nat.reduceBEq, Nat.reduceAdd, Nat.reduceLT, Nat.reduceLeDiff, Nat.reduceEqDiff, reduceIte, if_true, if_false, bi_add, bi_sub, bi_mul, bi_eql, bi_neq, bi_lss, bi_leq, bi_gtr, bi_geq, bs_eql, bs_neq, bs_lss, Am.unOp, ret1, pubL, pub, pubA, initT, wkZ, wk, wants, resOf, tupOf, quiet, AOp.cls, Nat.beq_eq, Bool.or_eq_true, decide_true, decide_false, beq_self_eq_true, Bool.true_or, Bool.or_true, true_and, and_true, lenA, eqv, eqB, eqP, scal, new_box_self, List.getElem?_cons_zero, List.getElem?_cons_succ, key_ii, key_ss, findM, updM, esc_i, esc_s, esc_b, Int.reduceEq, ret1, new_nb, new_set, reduceCtorEq, Bool.xor_true, Bool.xor_false, Bool.false_eq_true, List.all_cons, List.all_nil, noTok, Bool.and_self, Bool.and_true, Bool.true_and, h5, h6, h14, h15, h16, natOf_nat, hget, cells_agg, len3, ofNat_len, ldE3, est, la, l0, l2, callV_fn, List.cons_append, List.nil_append, Nat.zero_add, hofc, hvar, hqu, c1, hw64]
          refine hfin q3 c3 ?_
          unfold stepF
          rw [hvar, hqu]
          exact c4
        | false =>
          simp only [PP.cells, hvar, hqu] at est l0 l2 la hofc
          by_cases hne : partL it v ps[i] = []
          · have hne' : (partL it v ps[i] ≠ []) = False := by simp [hne]
            simp only [W_seq, W_reg, W_cond, W_blk, W_skip, W_exit, W_ret, W_regD, WO_nil, WO_cons, WO_guard2, wantV_b, bq_tt, bq_ft, bq_tf, bq_ff, Bool.not_true, Bool.not_false, WD_nil, WD_cons, WD_guard2, WS_some, WS_none, KS_n, KS_x, KS_r, KB_n, KB_x, KB_r, KN_ap, KO_ap, KD_ap, KC_nil, KF_n, KF_r, KG_n, KG_r, KL_n, KL_x, KL_r, CP_true, CP_false, evOp, evX, X.ev, optX, put_some, put_none, get_set2, sel_t, sel_f, Nat.reduceBEq, Nat.reduceAdd, Nat.reduceLT, Nat.reduceLeDiff, Nat.reduceEqDiff, reduceIte, if_true, if_false, bi_add, bi_sub, bi_mul, bi_eql, bi_neq, bi_lss, bi_leq, bi_gtr, bi_geq, bs_eql, bs_neq, bs_lss, Am.unOp, ret1, pubL, pub, pubA, initT, wkZ, wk, wants, resOf, tupOf, quiet, AOp.cls, Nat.beq_eq, Bool.or_eq_true, decide_true, decide_false, beq_self_eq_true, Bool.true_or, Bool.or_true, true_and, and_true, lenA, eqv, eqB, eqP, scal, new_box_self, List.getElem?_cons_zero, List.getElem?_cons_succ, key_ii, key_ss, findM, updM, esc_i, esc_s, esc_b, Int.reduceEq, ret1, new_nb, new_set, reduceCtorEq, Bool.xor_true, Bool.xor_false, Bool.false_eq_true, List.all_cons, List.all_nil, noTok, Bool.and_self, Bool.and_true, Bool.true_and, h5, h6, h14, h15, h16, natOf_nat, hget, cells_agg, len3, ofNat_len, ldE3, est, la, l0, l2, callV_fn, List.cons_append, List.nil_append, Nat.zero_add, hofc, hvar, hqu, hne', hw64]
            refine hfin q2 (Eff.refl w2) ?_
            unfold stepF
            rw [hvar, hqu, hne]
            exact hBB2
          · obtain ⟨r, q3, c1, rfl, c3, c4⟩ := add_ok (partL it v ps[i]) w2 hnt2 hib2 hBB2 (by omega)
            have hne' : (partL it v ps[i] ≠ []) = True := by simp [hne]
            simp only [W_seq, W_reg, W_cond, W_blk, W_skip, W_exit, W_ret, W_regD, WO_nil, WO_cons, WO_guard2, wantV_b, bq_tt, bq_ft, bq_tf, bq_ff, Bool.not_true, Bool.not_false, WD_nil, WD_cons, WD_guard2, WS_some, WS_none, KS_n, KS_x, KS_r, KB_n, KB_x, KB_r, KN_ap, KO_ap, KD_ap, KC_nil, KF_n, KF_r, KG_n, KG_r, KL_n, KL_x, KL_r, CP_true, CP_false, evOp, evX, X.ev, optX, put_some, put_none, get_set2, sel_t, sel_f, Nat.reduceBEq, Nat.reduceAdd, Nat.reduceLT, Nat.reduceLeDiff, Nat.reduceEqDiff, reduceIte, if_true, if_false, bi_add, bi_sub, bi_mul, bi_eql, bi_neq, bi_lss, bi_leq, bi_gtr, bi_geq, bs_eql, bs_neq, bs_lss, Am.unOp, ret1, pubL, pub, pubA, initT, wkZ, wk, wants, resOf, tupOf, quiet, AOp.cls, Nat.beq_eq, Bool.or_eq_true, decide_true, decide_false, beq_self_eq_true, Bool.true_or, Bool.or_true, true_and, and_true, lenA, eqv, eqB, eqP, scal, new_box_self, List.getElem?_cons_zero, List.getElem?_cons_succ, key_ii, key_ss, findM, updM, esc_i, esc_s, esc_b, Int.reduceEq, ret1, new_nb, new_set, reduceCtorEq, Bool.xor_true, Bool.xor_false, Bool.false_eq_true, List.all_cons, List.all_nil, noTok, Bool.and_self, Bool.and_true, Bool.true_and, h5, h6, h14, h15, h16, natOf_nat, hget, cells_agg, len3, ofNat_len, ldE3, est, la, l0, l2, callV_fn, List.cons_append, List.nil_append, Nat.zero_add, hofc, hvar, hqu, hne', c1, hw64]
            refine hfin q3 c3 ?_
            unfold stepF
            rw [hvar, hqu, if_neg (by simp), if_pos (by simp [hne])]
            exact c4
    · have hil : i = ps.length := by omega
      subst hil
      rw [List.take_length] at hBB
      obtain ⟨z1, z2⟩ := stepF_len it v ps ([], [], false)
      have z3 := stepF_lt it v ps ([], [], false) (fun p hp' n hn => (ht p hp').lt n hn) (by simp)
      simp only [List.length_nil, Nat.zero_add] at z1 z2
      obtain ⟨r, q3, c1, rfl, c3, c4⟩ := end_ok hwq hov.nt hq hBB z3 (by omega)
      obtain ⟨ao, ac, k1, k2, k3, k4⟩ := c4
      have l0 := ld_box (s := q3) (off := 0) k1 rfl
      have ov3 := c3.over s (Nat.le_refl _) (by omega) hov
      have hval2 : (if (ps.foldl (stepF it v) ([], [], false)).2.2 = true then (ps.foldl (stepF it v) ([], [], false)).1 ++ [(ps.foldl (stepF it v) ([], [], false)).2.1] else (ps.foldl (stepF it v) ([], [], false)).1) = fieldsL it v ps := rfl
      rw [hval2] at k2
      rcases k2 with ⟨rfl, hx⟩ | ⟨k, vv, t, rfl, m1, m2, m3, m4, _⟩
      · have hx : fieldsL it v ps = [] := by simpa using hx
        simp only [W_seq, W_reg, W_cond, W_blk, W_skip, W_exit, W_ret, W_regD, WO_nil, WO_cons, WO_guard2, wantV_b, bq_tt, bq_ft, bq_tf, bq_ff, Bool.not_true, Bool.not_false, WD_nil, WD_cons, WD_guard2, WS_some, WS_none, KS_n, KS_x, KS_r, KB_n, KB_x, KB_r, KN_ap, KO_ap, KD_ap, KC_nil, KF_n, KF_r, KG_n, KG_r, KL_n, KL_x, KL_r, CP_true, CP_false, evOp, evX, X.ev, optX, put_some, put_none, get_set2, sel_t, sel_f, Nat.reduceBEq, Nat.reduceAdd, Nat.reduceLT, Nat.reduceLeDiff, Nat.reduceEqDiff, reduceIte, if_true, if_false, bi_add, bi_sub, bi_mul, bi_eql, bi_neq, bi_lss, bi_leq, bi_gtr, bi_geq, bs_eql, bs_neq, bs_lss, Am.unOp, ret1, pubL, pub, pubA, initT, wkZ, wk, wants, resOf, tupOf, quiet, AOp.cls, Nat.beq_eq, Bool.or_eq_true, decide_true, decide_false, beq_self_eq_true, Bool.true_or, Bool.or_true, true_and, and_true, lenA, eqv, eqB, eqP, scal, new_box_self, List.getElem?_cons_zero, List.getElem?_cons_succ, key_ii, key_ss, findM, updM, esc_i, esc_s, esc_b, Int.reduceEq, ret1, new_nb, new_set, reduceCtorEq, Bool.xor_true, Bool.xor_false, Bool.false_eq_true, List.all_cons, List.all_nil, noTok, Bool.and_self, Bool.and_true, Bool.true_and, h5, h6, c1, l0]
        refine KR_some ov3 rfl ?_
        rw [hx]; rfl
      · simp only [W_seq, W_reg, W_cond, W_blk, W_skip, W_exit, W_ret, W_regD, WO_nil, WO_cons, WO_guard2, wantV_b, bq_tt, bq_ft, bq_tf, bq_ff, Bool.not_true, Bool.not_false, WD_nil, WD_cons, WD_guard2, WS_some, WS_none, KS_n, KS_x, KS_r, KB_n, KB_x, KB_r, KN_ap, KO_ap, KD_ap, KC_nil, KF_n, KF_r, KG_n, KG_r, KL_n, KL_x, KL_r, CP_true, CP_false, evOp, evX, X.ev, optX, put_some, put_none, get_set2, sel_t, sel_f, Nat.reduceBEq, Nat.reduceAdd, Nat.reduceLT, Nat.reduceLeDiff, Nat.reduceEqDiff, reduceIte, if_true, if_false, bi_add, bi_sub, bi_mul, bi_eql, bi_neq, bi_lss, bi_leq, bi_gtr, bi_geq, bs_eql, bs_neq, bs_lss, Am.unOp, ret1, pubL, pub, pubA, initT, wkZ, wk, wants, resOf, tupOf, quiet, AOp.cls, Nat.beq_eq, Bool.or_eq_true, decide_true, decide_false, beq_self_eq_true, Bool.true_or, Bool.or_true, true_and, and_true, lenA, eqv, eqB, eqP, scal, new_box_self, List.getElem?_cons_zero, List.getElem?_cons_succ, key_ii, key_ss, findM, updM, esc_i, esc_s, esc_b, Int.reduceEq, ret1, new_nb, new_set, reduceCtorEq, Bool.xor_true, Bool.xor_false, Bool.false_eq_true, List.all_cons, List.all_nil, noTok, Bool.and_self, Bool.and_true, Bool.true_and, h5, h6, c1, l0, frz, pub, m3, m4]
        refine KR_some (Over.setTok ov3 m1 m2 _) (refs_s _) ?_
        simp [tupOf, wkZ, wk, wkM_id]
  · simp only [W_seq, W_reg, W_cond, W_blk, W_skip, W_exit, W_ret, W_regD, WO_nil, WO_cons, WO_guard2, wantV_b, bq_tt, bq_ft, bq_tf, bq_ff, Bool.not_true, Bool.not_false, WD_nil, WD_cons, WD_guard2, WS_some, WS_none, KS_n, KS_x, KS_r, KB_n, KB_x, KB_r, KN_ap, KO_ap, KD_ap, KC_nil, KF_n, KF_r, KG_n, KG_r, KL_n, KL_x, KL_r, CP_true, CP_false, evOp, evX, X.ev, optX, put_some, put_none, get_set2, sel_t, sel_f, Nat.reduceBEq, Nat.reduceAdd, Nat.reduceLT, Nat.reduceLeDiff, Nat.reduceEqDiff, reduceIte, if_true, if_false, bi_add, bi_sub, bi_mul, bi_eql, bi_neq, bi_lss, bi_leq, bi_gtr, bi_geq, bs_eql, bs_neq, bs_lss, Am.unOp, ret1, pubL, pub, pubA, initT, wkZ, wk, wants, resOf, tupOf, quiet, AOp.cls, Nat.beq_eq, Bool.or_eq_true, decide_true, decide_false, beq_self_eq_true, Bool.true_or, Bool.or_true, true_and, and_true, lenA, eqv, eqB, eqP, scal, new_box_self, List.getElem?_cons_zero, List.getElem?_cons_succ, key_ii, key_ss, findM, updM, esc_i, esc_s, esc_b, Int.reduceEq, ret1, new_nb, new_set, reduceCtorEq, Bool.xor_true, Bool.xor_false, Bool.false_eq_true, List.all_cons, List.all_nil, noTok, Bool.and_self, Bool.and_true, Bool.true_and]
    refine ⟨0, by omega, rfl, rfl, ov1.new _, w1.new _, by omega, by rw [new_box_lt (by omega)]; exact bv1, ?_⟩
    refine ⟨.nsl, .nsl, by rw [← hidb]; exact new_box_self _ _, .inl ⟨rfl, rfl⟩, .inl ⟨rfl, rfl⟩, fun k _ => by simp [rowTok]⟩
end Go.Proofs.YtfpoihibfajhlaaDoor

/-
  Laws of the fields, in plain Lean.
-/
set_option maxRecDepth 100000
namespace Go.Proofs.YtfpoihibfajhlaaDoor
open Go.Proofs.YtfpoihibfajhlaaDoor.Am
section
variable (it : Int → List Nat)

abbrev ST := List (List Nat) × List Nat × Bool
def textL (v : VV) (ps : List PP) : List Nat := (ps.map (partL it v)).flatten
def nb (l : List Nat) : List Nat := l.filter fun c => !blankN c
def quo (p : PP) : PP := ⟨p.var, p.text, true⟩
def bare (p : PP) : PP := ⟨p.var, if p.var then p.text else nb p.text, false⟩

/-- Fields without blanks, none empty. -/
def okF (l : List Nat) : Prop := l ≠ [] ∧ ∀ c ∈ l, blankN c = false
structure Good (x : ST) : Prop where
  out : ∀ l ∈ x.1, okF l
  cur : ∀ c ∈ x.2.1, blankN c = false
  op : x.2.2 = true ↔ x.2.1 ≠ []

def flat (x : ST) : List Nat := x.1.flatten ++ x.2.1

theorem spl_good {x : ST} (h : Good x) (c : Nat) : Good (spl x c) ∧ flat (spl x c) = flat x ++ nb [c] := by
  obtain ⟨o, u, b⟩ := x
  unfold spl
  cases hb : blankN c with
  | true =>
    refine ⟨⟨?_, by simp, by simp⟩, ?_⟩
    · intro l hl
      simp only [if_true] at hl
      cases b with
      | false => exact h.out l (by simpa using hl)
      | true =>
        simp only [if_true, List.mem_append, List.mem_singleton] at hl
        rcases hl with hl | rfl
        · exact h.out l hl
        · exact ⟨h.op.1 rfl, h.cur⟩
    · cases b with
      | true => simp [flat, nb, hb]
      | false =>
        have : u = [] := by
          have := h.op
          simp only [Bool.false_eq_true, false_iff, ne_eq, Decidable.not_not] at this
          exact this
        subst this
        simp [flat, nb, hb]
  | false =>
    refine ⟨⟨h.out, ?_, ?_⟩, ?_⟩
    · intro d hd
      simp only [if_false, Bool.false_eq_true, List.mem_append, List.mem_singleton] at hd
      rcases hd with hd | rfl
      · exact h.cur d hd
      · exact hb
    · simp
    · simp [flat, nb, hb]

theorem nb_append (a b : List Nat) : nb (a ++ b) = nb a ++ nb b := by simp [nb]
theorem spls_good : ∀ (l : List Nat) {x : ST}, Good x → Good (l.foldl spl x) ∧ flat (l.foldl spl x) = flat x ++ nb l
  | [], x, h => ⟨h, by simp [nb]⟩
  | c :: l, x, h => by
    obtain ⟨h1, h2⟩ := spl_good h c
    obtain ⟨k1, k2⟩ := spls_good l h1
    refine ⟨k1, ?_⟩
    rw [List.foldl_cons, k2, h2, List.append_assoc, ← nb_append]
    rfl

theorem nb_nb (l : List Nat) : nb (nb l) = nb l := by simp [nb, List.filter_filter]
theorem nb_blank {l : List Nat} {c : Nat} (h : c ∈ nb l) : blankN c = false := by
  simp only [nb, List.mem_filter, Bool.not_eq_true'] at h; exact h.2

theorem step_good (v : VV) {x : ST} (h : Good x) (p : PP) : Good (stepF it v x (bare p)) ∧ flat (stepF it v x (bare p)) = flat x ++ nb (partL it v (bare p)) := by
  obtain ⟨pv, pt, pq⟩ := p
  cases pv with
  | true =>
    have : stepF it v x (bare ⟨true, pt, pq⟩) = (partL it v (bare ⟨true, pt, pq⟩)).foldl spl x := by
      unfold stepF bare; simp
    rw [this]
    exact spls_good _ h
  | false =>
    have hp : partL it v (bare ⟨false, pt, pq⟩) = nb pt := by simp [partL, bare]
    have : stepF it v x (bare ⟨false, pt, pq⟩) = if nb pt ≠ [] then (x.1, x.2.1 ++ nb pt, true) else x := by
      unfold stepF
      rw [hp]
      simp only [bare, Bool.false_and, Bool.false_or, decide_eq_true_eq]
      rfl
    rw [this, hp, nb_nb]
    by_cases hn : nb pt = []
    · rw [if_neg (by simp [hn]), hn, List.append_nil]
      exact ⟨h, rfl⟩
    · rw [if_pos hn]
      refine ⟨⟨h.out, ?_, ?_⟩, ?_⟩
      · intro c hc
        simp only [List.mem_append] at hc
        rcases hc with hc | hc
        · exact h.cur c hc
        · exact nb_blank hc
      · simp [hn]
      · simp [flat]

theorem steps_good (v : VV) : ∀ (ps : List PP) {x : ST}, Good x → Good ((ps.map bare).foldl (stepF it v) x) ∧ flat ((ps.map bare).foldl (stepF it v) x) = flat x ++ nb (textL it v (ps.map bare))
  | [], x, h => ⟨h, by simp [textL, nb]⟩
  | p :: ps, x, h => by
    obtain ⟨h1, h2⟩ := step_good it v h p
    obtain ⟨k1, k2⟩ := steps_good v ps h1
    refine ⟨k1, ?_⟩
    rw [List.map_cons, List.foldl_cons, k2, h2, List.append_assoc, ← nb_append]
    rfl

theorem good0 : Good ([], [], false) := ⟨by simp, by simp, by simp⟩

/-- The fields of bare parts. -/
theorem bare_fields (v : VV) (ps : List PP) : (∀ l ∈ fieldsL it v (ps.map bare), okF l) ∧ (fieldsL it v (ps.map bare)).flatten = nb (textL it v (ps.map bare)) := by
  obtain ⟨h1, h2⟩ := steps_good it v ps good0
  unfold fieldsL
  simp only
  cases hb : ((ps.map bare).foldl (stepF it v) ([], [], false)).2.2 with
  | true =>
    rw [if_pos rfl]
    refine ⟨?_, ?_⟩
    · intro l hl
      simp only [List.mem_append, List.mem_singleton] at hl
      rcases hl with hl | rfl
      · exact h1.out l hl
      · exact ⟨h1.op.1 hb, h1.cur⟩
    · rw [List.flatten_append]
      simpa [flat] using h2
  | false =>
    have hc : ((ps.map bare).foldl (stepF it v) ([], [], false)).2.1 = [] := by
      have := h1.op
      rw [hb] at this
      simpa using this
    rw [if_neg (by simp)]
    refine ⟨h1.out, ?_⟩
    simpa [flat, hc] using h2

/-- The fields of quoted parts. -/
theorem quo_step (v : VV) (x : ST) (p : PP) : stepF it v x (quo p) = (x.1, x.2.1 ++ partL it v p, true) := by
  unfold stepF quo
  simp [partL]
theorem quo_steps (v : VV) : ∀ (ps : List PP) (x : ST), (ps.map quo).foldl (stepF it v) x = if ps = [] then x else (x.1, x.2.1 ++ textL it v ps, true)
  | [], x => rfl
  | p :: ps, x => by
    rw [List.map_cons, List.foldl_cons, quo_step, quo_steps v ps]
    by_cases h : ps = []
    · subst h; simp [textL]
    · simp [h, textL]
theorem quo_fields (v : VV) (ps : List PP) : fieldsL it v (ps.map quo) = if ps = [] then [] else [textL it v ps] := by
  unfold fieldsL
  simp only [quo_steps]
  by_cases h : ps = []
  · simp [h]
  · simp [h]

/-- Put together with a blank ahead of each. -/
def putL (L : List (List Nat)) : List Nat := (L.map fun l => 32 :: l).flatten
theorem run_field : ∀ (l : List Nat) (x : ST), (∀ c ∈ l, blankN c = false) → l.foldl spl x = if l = [] then x else (x.1, x.2.1 ++ l, true)
  | [], x, _ => rfl
  | c :: l, x, h => by
    have hc : spl x c = (x.1, x.2.1 ++ [c], true) := by
      unfold spl; rw [h c (by simp)]; rfl
    rw [List.foldl_cons, hc, run_field l _ fun d hd => h d (by simp [hd])]
    by_cases hl : l = []
    · subst hl; simp
    · simp [hl]
def close (x : ST) : List (List Nat) := if x.2.2 then x.1 ++ [x.2.1] else x.1
theorem run_put : ∀ (L : List (List Nat)) (x : ST), (∀ l ∈ L, okF l) → close ((putL L).foldl spl x) = close x ++ L
  | [], x, _ => by simp [putL]
  | l :: L, x, h => by
    have hl := h l (by simp)
    have e : putL (l :: L) = 32 :: (l ++ putL L) := by simp [putL]
    have e1 : spl x 32 = (close x, [], false) := by
      unfold spl; rw [show blankN 32 = true from rfl]; rfl
    rw [e, List.foldl_cons, List.foldl_append, run_put L _ fun k hk => h k (by simp [hk]), e1, run_field _ _ hl.2, if_neg hl.1]
    simp [close]

theorem again (v : VV) (L : List (List Nat)) (h : ∀ l ∈ L, okF l) (p : PP) (hp : partL it v p = putL L) (hv : p.var = true) (hq : p.quoted = false) : fieldsL it v [p] = L := by
  have : fieldsL it v [p] = close ((partL it v p).foldl spl ([], [], false)) := by
    unfold fieldsL close stepF
    simp [hv, hq]
  rw [this, hp, run_put L _ h]
  simp [close]
end
end Go.Proofs.YtfpoihibfajhlaaDoor

/-
  The builder of texts; what parts come to as one text.
-/
set_option maxRecDepth 100000
set_option linter.unusedSimpArgs false
namespace Go.Proofs.YtfpoihibfajhlaaDoor
open Go.Proofs.YtfpoihibfajhlaaDoor.Am
variable (it : Int → List Nat)

/-- A builder of texts at a box. -/
def WB (t0 : Nat) (s : St) (id : Nat) (buf : List Nat) : Prop :=
  ∃ sf ab, s.box? id = some (.cells 65 [sf, ab]) ∧ (sf = .np ∨ sf = .p id 0) ∧ RowIs t0 s 5 ab (by8 buf)

theorem check_ok {t0 id : Nat} {s : St} {buf : List Nat} (hw : Wf s) (hid : id < s.nb) (hB : WB t0 s id buf) :
    ∃ r s', (lim prog).call f_strings_Builder_copyCheck [.p id 0] s = some (r, s') ∧ r = .tup [] ∧ Eff t0 id s s' ∧ WB t0 s' id buf := by
  obtain ⟨sf, ab, hb, hs, hr⟩ := hB
  refine fn_G (Post := fun r s' => r = .tup [] ∧ Eff t0 id s s' ∧ WB t0 s' id buf) p_strings_Builder_copyCheck rfl rfl ?_
  have ld0 := ld_box (s := s.enter) (v := sf) (off := 0) hb rfl
  rcases hs with rfl | rfl
  · obtain ⟨s1, e1, hE, hb1, hn1, ht1⟩ := st_cell (t0 := t0) (s := s.enter) (off := 0) (v := .p id 0) hw.enter hid hb (by simp) rfl rfl
    have hb' : s.enter.box? id = some (.cells 65 [.np, ab]) := hb
    have hx : extA s.enter 1 [.p id 0] = some (.p id 0, s.enter) := rfl
    have hl2 : [AV.np, ab].length = 2 := rfl
    simp only [c_strings_Builder_copyCheck, W_seq, W_reg, W_cond, W_blk, W_skip, W_exit, W_ret, W_regD, WO_nil, WO_cons, WO_guard2, wantV_b, bq_tt, bq_ft, bq_tf, bq_ff, Bool.not_true, Bool.not_false, WD_nil, WD_cons, WD_guard2, WS_some, WS_none, KS_n, KS_x, KS_r, KB_n, KB_x, KB_r, KN_ap, KO_ap, KD_ap, KC_nil, KF_n, KF_r, KG_n, KG_r, KL_n, KL_x, KL_r, CP_true, CP_false, evOp, evX, X.ev, optX, put_some, put_none, get_set2, sel_t, sel_f, Nat.reduceBEq, Nat.reduceAdd, Nat.reduceLT, Nat.reduceLeDiff, Nat.reduceEqDiff, reduceIte, if_true, if_false, bi_add, bi_sub, bi_mul, bi_eql, bi_neq, bi_lss, bi_leq, bi_gtr, bi_geq, bs_eql, bs_neq, bs_lss, Am.unOp, ret1, pubL, pub, pubA, initT, wkZ, wk, wants, resOf, tupOf, quiet, AOp.cls, Nat.beq_eq, Bool.or_eq_true, decide_true, decide_false, beq_self_eq_true, Bool.true_or, Bool.or_true, true_and, and_true, lenA, eqv, eqB, eqP, scal, new_box_self, List.getElem?_cons_zero, List.getElem?_cons_succ, key_ii, key_ss, findM, updM, esc_i, esc_s, esc_b, Int.reduceEq, ret1, new_nb, new_set, reduceCtorEq, Bool.xor_true, Bool.xor_false, Bool.false_eq_true, List.all_cons, List.all_nil, noTok, Bool.and_self, Bool.and_true, Bool.true_and, Nat.zero_add, ld0, hb', hl2, hx, e1]
    obtain ⟨m, k1, k2⟩ := hE.leave hid
    refine ⟨_, _, rfl, rfl, ?_⟩
    show Eff t0 id s (leave s s1 (.tup [])) ∧ WB t0 (leave s s1 (.tup [])) id _
    rw [k1]
    refine ⟨k2, .p id 0, ab, hb1, .inr rfl, hr.mono ?_ fun k _ => ht1 k⟩
    show s.nt ≤ s1.nt
    rw [hn1]; exact Nat.le_refl _
  · simp only [c_strings_Builder_copyCheck, W_seq, W_reg, W_cond, W_blk, W_skip, W_exit, W_ret, W_regD, WO_nil, WO_cons, WO_guard2, wantV_b, bq_tt, bq_ft, bq_tf, bq_ff, Bool.not_true, Bool.not_false, WD_nil, WD_cons, WD_guard2, WS_some, WS_none, KS_n, KS_x, KS_r, KB_n, KB_x, KB_r, KN_ap, KO_ap, KD_ap, KC_nil, KF_n, KF_r, KG_n, KG_r, KL_n, KL_x, KL_r, CP_true, CP_false, evOp, evX, X.ev, optX, put_some, put_none, get_set2, sel_t, sel_f, Nat.reduceBEq, Nat.reduceAdd, Nat.reduceLT, Nat.reduceLeDiff, Nat.reduceEqDiff, reduceIte, if_true, if_false, bi_add, bi_sub, bi_mul, bi_eql, bi_neq, bi_lss, bi_leq, bi_gtr, bi_geq, bs_eql, bs_neq, bs_lss, Am.unOp, ret1, pubL, pub, pubA, initT, wkZ, wk, wants, resOf, tupOf, quiet, AOp.cls, Nat.beq_eq, Bool.or_eq_true, decide_true, decide_false, beq_self_eq_true, Bool.true_or, Bool.or_true, true_and, and_true, lenA, eqv, eqB, eqP, scal, new_box_self, List.getElem?_cons_zero, List.getElem?_cons_succ, key_ii, key_ss, findM, updM, esc_i, esc_s, esc_b, Int.reduceEq, ret1, new_nb, new_set, reduceCtorEq, Bool.xor_true, Bool.xor_false, Bool.false_eq_true, List.all_cons, List.all_nil, noTok, Bool.and_self, Bool.and_true, Bool.true_and, Nat.zero_add, ld0]
    obtain ⟨m, k1, k2⟩ := (Eff.refl (t0 := t0) (id := id) hw.enter).leave hid
    refine ⟨_, _, rfl, rfl, ?_⟩
    show Eff t0 id s (leave s s.enter (.tup [])) ∧ WB t0 (leave s s.enter (.tup [])) id _
    rw [k1]
    exact ⟨k2, .p id 0, ab, hb, .inr rfl, hr.mono (Nat.le_refl _) fun k _ => rfl⟩

theorem write_ok {t0 id : Nat} {s : St} {buf : List Nat} (l : List Nat) (hw : Wf s) (ht0 : t0 ≤ s.nt) (hid : id < s.nb) (hB : WB t0 s id buf) (hsz : buf.length + l.length < 2 ^ 38) :
    ∃ r s', (lim prog).call f_strings_Builder_WriteString [.p id 0, .s l] s = some (r, s') ∧ r = .tup [.i .i64 l.length, .ni] ∧ Eff t0 id s s' ∧ WB t0 s' id (buf ++ l) := by
  refine fn_G (Post := fun r s' => r = .tup [.i .i64 l.length, .ni] ∧ Eff t0 id s s' ∧ WB t0 s' id (buf ++ l)) p_strings_Builder_WriteString rfl rfl ?_
  have hB' : WB t0 s.enter id buf := by
    obtain ⟨sf, ab, hb, hs, hr⟩ := hB
    exact ⟨sf, ab, hb, hs, hr.mono (Nat.le_refl _) fun k _ => rfl⟩
  obtain ⟨r1, s1, c1, rfl, hE1, sf, ab, hb, hs, hr⟩ := check_ok hw.enter hid hB'
  have ld1 := ld_box (s := s1) (v := ab) (off := 1) hb rfl
  have hid1 : id < s1.nb := by rw [hE1.nb]; exact hid
  have ht1 : t0 ≤ s1.nt := Nat.le_trans ht0 hE1.nt
  have hel : elems s1 1 (.s l) = some (by8 l) := by simp [elems]
  obtain ⟨a', s2, s3, e1, e2, hE2, hb3, hr3, ht3⟩ := app_st hE1.wf ht1 hid1 hb (off := 1) (by simp) hr hel (by simpa using hsz)
  have key : KH s [.id, .id] (fun r s' => r = .tup [.i .i64 l.length, .ni] ∧ Eff t0 id s s' ∧ WB t0 s' id (buf ++ l)) (some ([.i .i64 l.length, .ni], s3)) := by
    obtain ⟨m, k1, k2⟩ := (hE1.trans hE2).leave' (v := .tup [.i .i64 l.length, .ni]) rfl hid
    refine ⟨_, _, rfl, rfl, ?_⟩
    show Eff t0 id s (leave s s3 (.tup [.i .i64 l.length, .ni])) ∧ WB t0 (leave s s3 (.tup [.i .i64 l.length, .ni])) id _
    rw [k1]
    refine ⟨k2, sf, a', hb3, hs, ?_⟩
    have := hr3.mono (s' := { s3 with lo := m }) (Nat.le_refl _) fun k _ => rfl
    simpa [by8] using this
  have hr' := row_cells hr
  rcases hr with ⟨rfl, _⟩ | ⟨k, v, t, rfl, _⟩ <;> (simp only [c_strings_Builder_WriteString, W_seq, W_reg, W_cond, W_blk, W_skip, W_exit, W_ret, W_regD, WO_nil, WO_cons, WO_guard2, wantV_b, bq_tt, bq_ft, bq_tf, bq_ff, Bool.not_true, Bool.not_false, WD_nil, WD_cons, WD_guard2, WS_some, WS_none, KS_n, KS_x, KS_r, KB_n, KB_x, KB_r, KN_ap, KO_ap, KD_ap, KC_nil, KF_n, KF_r, KG_n, KG_r, KL_n, KL_x, KL_r, CP_true, CP_false, evOp, evX, X.ev, optX, put_some, put_none, get_set2, sel_t, sel_f, Nat.reduceBEq, Nat.reduceAdd, Nat.reduceLT, Nat.reduceLeDiff, Nat.reduceEqDiff, reduceIte, if_true, if_false, bi_add, bi_sub, bi_mul, bi_eql, bi_neq, bi_lss, bi_leq, bi_gtr, bi_geq, bs_eql, bs_neq, bs_lss, Am.unOp, ret1, pubL, pub, pubA, initT, wkZ, wk, wants, resOf, tupOf, quiet, AOp.cls, Nat.beq_eq, Bool.or_eq_true, decide_true, decide_false, beq_self_eq_true, Bool.true_or, Bool.or_true, true_and, and_true, lenA, eqv, eqB, eqP, scal, new_box_self, List.getElem?_cons_zero, List.getElem?_cons_succ, key_ii, key_ss, findM, updM, esc_i, esc_s, esc_b, Int.reduceEq, ret1, new_nb, new_set, reduceCtorEq, Bool.xor_true, Bool.xor_false, Bool.false_eq_true, List.all_cons, List.all_nil, noTok, Bool.and_self, Bool.and_true, Bool.true_and, Nat.zero_add, ofNat_len, c1, ld1, e1, e2]; exact key)

theorem string_ok {t0 id : Nat} {s : St} {buf : List Nat} (hw : Wf s) (hid : id < s.nb) (hB : WB t0 s id buf) (hlt : ∀ n ∈ buf, n < 256) (hsz : buf.length < 2 ^ 38) :
    ∃ r s', (lim prog).call f_strings_Builder_String [.p id 0] s = some (r, s') ∧ r = .s buf ∧ Eff t0 id s s' ∧ WB t0 s' id buf := by
  obtain ⟨sf, ab, hb, hs, hr⟩ := hB
  refine fn_G (Post := fun r s' => r = .s buf ∧ Eff t0 id s s' ∧ WB t0 s' id buf) p_strings_Builder_String rfl rfl ?_
  have ld1 := ld_box (s := s.enter) (v := ab) (off := 1) hb rfl
  have h8 := bytesL_by8 hlt
  cases buf with
  | nil =>
    rcases hr with ⟨rfl, _⟩ | ⟨k, v, t, rfl, _, _, _, _, _, _, hl⟩
    · simp only [c_strings_Builder_String, W_seq, W_reg, W_cond, W_blk, W_skip, W_exit, W_ret, W_regD, WO_nil, WO_cons, WO_guard2, wantV_b, bq_tt, bq_ft, bq_tf, bq_ff, Bool.not_true, Bool.not_false, WD_nil, WD_cons, WD_guard2, WS_some, WS_none, KS_n, KS_x, KS_r, KB_n, KB_x, KB_r, KN_ap, KO_ap, KD_ap, KC_nil, KF_n, KF_r, KG_n, KG_r, KL_n, KL_x, KL_r, CP_true, CP_false, evOp, evX, X.ev, optX, put_some, put_none, get_set2, sel_t, sel_f, Nat.reduceBEq, Nat.reduceAdd, Nat.reduceLT, Nat.reduceLeDiff, Nat.reduceEqDiff, reduceIte, if_true, if_false, bi_add, bi_sub, bi_mul, bi_eql, bi_neq, bi_lss, bi_leq, bi_gtr, bi_geq, bs_eql, bs_neq, bs_lss, Am.unOp, ret1, pubL, pub, pubA, initT, wkZ, wk, wants, resOf, tupOf, quiet, AOp.cls, Nat.beq_eq, Bool.or_eq_true, decide_true, decide_false, beq_self_eq_true, Bool.true_or, Bool.or_true, true_and, and_true, lenA, eqv, eqB, eqP, scal, new_box_self, List.getElem?_cons_zero, List.getElem?_cons_succ, key_ii, key_ss, findM, updM, esc_i, esc_s, esc_b, Int.reduceEq, ret1, new_nb, new_set, reduceCtorEq, Bool.xor_true, Bool.xor_false, Bool.false_eq_true, List.all_cons, List.all_nil, noTok, Bool.and_self, Bool.and_true, Bool.true_and, Nat.zero_add, ld1, udA, usA]
      obtain ⟨m, k1, k2⟩ := (Eff.refl (t0 := t0) (id := id) hw.enter).leave' (v := .s []) rfl hid
      refine ⟨_, _, rfl, rfl, ?_⟩
      show Eff t0 id s (leave s s.enter (.s [])) ∧ WB t0 (leave s s.enter (.s [])) id _
      rw [k1]
      exact ⟨k2, sf, .nsl, hb, hs, .inl ⟨rfl, rfl⟩⟩
    · simp at hl
  | cons b buf =>
    rcases hr with ⟨rfl, hx⟩ | ⟨k, v, t, rfl, q1, q2, q3, q4, q5, q6, hl⟩
    · simp at hx
    · have hlen : (by8 (b :: buf)).length = (b :: buf).length := by simp
      have hus : usA s.enter 5 (.sd (by8 (b :: buf)) k v) (.i .i64 ((by8 (b :: buf)).length : Nat)) = some (.s (b :: buf), s.enter.setTok k ⟨t.front, t.ver, t.front, t.ty⟩) := by
        have q3' : s.enter.tok? k = some t := q3
        unfold usA
        simp only [q3', h8]
        rw [if_pos ⟨q4, q6, q5, rfl, hl, by rw [hlen]; omega⟩]
      have hok : s.enter.ok (.tok k v) = true := by
        have q3' : s.enter.tok? k = some t := q3
        simp only [St.ok, q3', q4]
        exact Nat.beq_refl _
      have hud : udA s.enter (.sl 1 (by8 (b :: buf)) (.tok k v)) = some (.sd (by8 (b :: buf)) k v, s.enter) := rfl
      simp only [c_strings_Builder_String, W_seq, W_reg, W_cond, W_blk, W_skip, W_exit, W_ret, W_regD, WO_nil, WO_cons, WO_guard2, wantV_b, bq_tt, bq_ft, bq_tf, bq_ff, Bool.not_true, Bool.not_false, WD_nil, WD_cons, WD_guard2, WS_some, WS_none, KS_n, KS_x, KS_r, KB_n, KB_x, KB_r, KN_ap, KO_ap, KD_ap, KC_nil, KF_n, KF_r, KG_n, KG_r, KL_n, KL_x, KL_r, CP_true, CP_false, evOp, evX, X.ev, optX, put_some, put_none, get_set2, sel_t, sel_f, Nat.reduceBEq, Nat.reduceAdd, Nat.reduceLT, Nat.reduceLeDiff, Nat.reduceEqDiff, reduceIte, if_true, if_false, bi_add, bi_sub, bi_mul, bi_eql, bi_neq, bi_lss, bi_leq, bi_gtr, bi_geq, bs_eql, bs_neq, bs_lss, Am.unOp, ret1, pubL, pub, pubA, initT, wkZ, wk, wants, resOf, tupOf, quiet, AOp.cls, Nat.beq_eq, Bool.or_eq_true, decide_true, decide_false, beq_self_eq_true, Bool.true_or, Bool.or_true, true_and, and_true, lenA, eqv, eqB, eqP, scal, new_box_self, List.getElem?_cons_zero, List.getElem?_cons_succ, key_ii, key_ss, findM, updM, esc_i, esc_s, esc_b, Int.reduceEq, ret1, new_nb, new_set, reduceCtorEq, Bool.xor_true, Bool.xor_false, Bool.false_eq_true, List.all_cons, List.all_nil, noTok, Bool.and_self, Bool.and_true, Bool.true_and, Nat.zero_add, ld1, hok, ofNat_len, hud, hus]
      have hE : Eff t0 id s.enter (s.enter.setTok k ⟨t.front, t.ver, t.front, t.ty⟩) :=
        ⟨rfl, Nat.le_refl _, fun _ _ => rfl, hw.enter.setTok _ _, fun s0 h0 _ h => h.setTok (by omega) q2 _, .inl ⟨rfl, rfl⟩⟩
      obtain ⟨m, k1, k2⟩ := hE.leave' (v := .s (b :: buf)) rfl hid
      refine ⟨_, _, rfl, rfl, ?_⟩
      show Eff t0 id s (leave s (s.enter.setTok k ⟨t.front, t.ver, t.front, t.ty⟩) (.s (b :: buf))) ∧ WB t0 (leave s (s.enter.setTok k ⟨t.front, t.ver, t.front, t.ty⟩) (.s (b :: buf))) id _
      rw [k1]
      refine ⟨k2, sf, .sl 1 (by8 (b :: buf)) (.tok k v), hb, hs, .inr ⟨k, v, ⟨t.front, t.ver, t.front, t.ty⟩, rfl, q1, q2, ?_, q4, q5, q6, hl⟩⟩
      show (s.enter.setTok k ⟨t.front, t.ver, t.front, t.ty⟩).tok? k = _
      rw [setTok_tok? hw.enter.t q2, if_pos rfl]
end Go.Proofs.YtfpoihibfajhlaaDoor

/-
  Parts as one text; the law's small functions.
-/
set_option maxRecDepth 100000
set_option linter.unusedSimpArgs false
namespace Go.Proofs.YtfpoihibfajhlaaDoor
open Go.Proofs.YtfpoihibfajhlaaDoor.Am

theorem itoa_ok : ItoaOk itoaN := by
  intro n s h0 h1
  rw [lim_call]
  unfold callF
  have : primItoa [.i .i64 n] = some (.s (itoaN n)) := by
    unfold primItoa
    exact if_pos ⟨h0, h1⟩
  simp only [p_strconv_Itoa, c_strconv_Itoa, pureP, this]
  rfl

section
variable (it : Int → List Nat)
theorem textL_append (v : VV) (a b : List PP) : textL it v (a ++ b) = textL it v a ++ textL it v b := by simp [textL]
theorem textL_len (v : VV) : ∀ ps : List PP, (textL it v ps).length ≤ szF it v ps
  | [] => by simp [textL, szF]
  | p :: ps => by
    have := textL_len v ps
    simp only [textL, List.map_cons, List.flatten_cons, List.length_append] at this ⊢
    rw [szF_cons]
    omega
theorem textL_txt (v : VV) (ps : List PP) (ht : ∀ p ∈ ps, Txt (partL it v p)) (n : Nat) (hn : n ∈ textL it v ps) : n < 256 := by
  simp only [textL, List.mem_flatten, List.mem_map] at hn
  obtain ⟨l, ⟨p, hp, rfl⟩, hn⟩ := hn
  exact (ht p hp).lt n hn

theorem text_ok (hI : ItoaOk it) (v : VV) (hv : v.Ok) (ps : List PP) (hp : ∀ p ∈ ps, Txt p.text) (ht : ∀ p ∈ ps, Txt (partL it v p)) (hlen : ps.length < 2 ^ 63) (hsz : szF it v ps < 2 ^ 37) (s : St) (hw : Wf s) :
    (lim prog).call f_expand_Text [v.av, partsA ps] s = some (.s (textL it v ps), s) := by
  refine fn_W p_expand_Text rfl rfl ?_
  obtain ⟨s1, hs1⟩ : ∃ s1, ({ (s.enter.new (.cells 28 v.cells)).enter.new (.cells 28 v.cells) with lo := min (s.enter.new (.cells 28 v.cells)).lo (s.enter.new (.cells 28 v.cells)).nb } : St) = s1 := ⟨_, rfl⟩
  have hval := values_ok v (s.enter.new (.cells 28 v.cells))
  rw [hs1] at hval
  have hb0 : (s.enter.new (.cells 28 v.cells)).box? s.enter.nb = some (.cells 28 v.cells) := new_box_self _ _
  have n1 : s1.nb = s.nb + 2 ∧ s1.nt = s.nt := by rw [← hs1]; exact ⟨rfl, rfl⟩
  have w1 : Wf s1 := by rw [← hs1]; exact (((hw.enter.new _).enter).new _).lo _
  have ov1 : Over s s1 := by
    rw [← hs1]
    refine Over.setLo (((Over.enter s).new _).toEnter.new _) ?_
    show s.nb ≤ min s.nb (s.nb + 1)
    omega
  have bv1 : s1.box? (s.nb + 1) = some (.cells 28 v.cells) := by
    rw [← hs1]
    exact new_box_self ((s.enter.new (.cells 28 v.cells)).enter) _
  obtain ⟨idb, hidb⟩ : ∃ k, s1.nb = k := ⟨_, rfl⟩
  have hpl : (ps.map fun p => AV.agg p.cells).length = ps.length := by simp
  simp only [c_expand_Text, W_seq, W_reg, W_cond, W_blk, W_skip, W_exit, W_ret, W_regD, WO_nil, WO_cons, WO_guard2, wantV_b, bq_tt, bq_ft, bq_tf, bq_ff, Bool.not_true, Bool.not_false, WD_nil, WD_cons, WD_guard2, WS_some, WS_none, KS_n, KS_x, KS_r, KB_n, KB_x, KB_r, KN_ap, KO_ap, KD_ap, KC_nil, KF_n, KF_r, KG_n, KG_r, KL_n, KL_x, KL_r, CP_true, CP_false, evOp, evX, X.ev, optX, put_some, put_none, get_set2, sel_t, sel_f, Nat.reduceBEq, Nat.reduceAdd, Nat.reduceLT, Nat.reduceLeDiff, Nat.reduceEqDiff, reduceIte, if_true, if_false, bi_add, bi_sub, bi_mul, bi_eql, bi_neq, bi_lss, bi_leq, bi_gtr, bi_geq, bs_eql, bs_neq, bs_lss, Am.unOp, ret1, pubL, pub, pubA, initT, wkZ, wk, wants, resOf, tupOf, quiet, AOp.cls, Nat.beq_eq, Bool.or_eq_true, decide_true, decide_false, beq_self_eq_true, Bool.true_or, Bool.or_true, true_and, and_true, lenA, eqv, eqB, eqP, scal, new_box_self, List.getElem?_cons_zero, List.getElem?_cons_succ, key_ii, key_ss, findM, updM, esc_i, esc_s, esc_b, Int.reduceEq, ret1, new_nb, new_set, reduceCtorEq, Bool.xor_true, Bool.xor_false, Bool.false_eq_true, List.all_cons, List.all_nil, noTok, Bool.and_self, Bool.and_true, Bool.true_and, cells_agg, len4, len3, ld_all4 hb0, hval, hidb, List.length_map, ofNat_len]
  refine W_loop (fun n e q => ∃ i : Nat, i + n = ps.length ∧ e.get 5 = .fn f_expand_values_1 [.p (s.nb + 1) 0] ∧ e.get 6 = .p idb 0 ∧ e.get 11 = partsA ps ∧ e.get 12 = .i .i64 ps.length ∧ e.get 13 = .i .i64 i ∧
    Over s q ∧ Wf q ∧ idb < q.nb ∧ q.box? (s.nb + 1) = some (.cells 28 v.cells) ∧ WB s.nt q idb (textL it v (ps.take i))) ?_ ps.length _ _ ?_
  · rintro n e q ⟨i, hi, h5, h6, h14, h15, h16, hov, hwq, hq, hbv, hBB⟩
    simp only [W_seq, W_reg, W_cond, W_blk, W_skip, W_exit, W_ret, W_regD, WO_nil, WO_cons, WO_guard2, wantV_b, bq_tt, bq_ft, bq_tf, bq_ff, Bool.not_true, Bool.not_false, WD_nil, WD_cons, WD_guard2, WS_some, WS_none, KS_n, KS_x, KS_r, KB_n, KB_x, KB_r, KN_ap, KO_ap, KD_ap, KC_nil, KF_n, KF_r, KG_n, KG_r, KL_n, KL_x, KL_r, CP_true, CP_false, evOp, evX, X.ev, optX, put_some, put_none, get_set2, sel_t, sel_f, Nat.reduceBEq, Nat.reduceAdd, Nat.reduceLT, Nat.reduceLeDiff, Nat.reduceEqDiff, reduceIte, if_true, if_false, bi_add, bi_sub, bi_mul, bi_eql, bi_neq, bi_lss, bi_leq, bi_gtr, bi_geq, bs_eql, bs_neq, bs_lss, Am.unOp, ret1, pubL, pub, pubA, initT, wkZ, wk, wants, resOf, tupOf, quiet, AOp.cls, Nat.beq_eq, Bool.or_eq_true, decide_true, decide_false, beq_self_eq_true, Bool.true_or, Bool.or_true, true_and, and_true, lenA, eqv, eqB, eqP, scal, new_box_self, List.getElem?_cons_zero, List.getElem?_cons_succ, key_ii, key_ss, findM, updM, esc_i, esc_s, esc_b, Int.reduceEq, ret1, new_nb, new_set, reduceCtorEq, Bool.xor_true, Bool.xor_false, Bool.false_eq_true, List.all_cons, List.all_nil, noTok, Bool.and_self, Bool.and_true, Bool.true_and, h5, h6, h14, h15, h16, ofNat_len]
    refine CP_dec (fun hlt => ?_) (fun hge => ?_)
    · have hlt : i < ps.length := by omega
      have hget : (ps.map fun p => AV.agg p.cells)[i]? = some (.agg ps[i].cells) := by simp [hlt]
      have hst : textL it v (ps.take (i + 1)) = textL it v (ps.take i) ++ partL it v ps[i] := by
        rw [List.take_succ_eq_append_getElem hlt, textL_append]
        simp [textL]
      obtain ⟨q2, hq2⟩ : ∃ q2, q.new (.cells 31 ps[i].cells) = q2 := ⟨_, rfl⟩
      have w2 : Wf q2 := by rw [← hq2]; exact hwq.new _
      have ov2 : Over s q2 := by rw [← hq2]; exact hov.new _
      have nb2 : q2.nb = q.nb + 1 ∧ q2.nt = q.nt := by rw [← hq2]; exact ⟨rfl, rfl⟩
      have lt2 : ∀ j, j < q.nb → q2.box? j = q.box? j := fun j hj => by rw [← hq2]; exact new_box_lt hj
      have est : stA (q.new (.cells 31 [.b false, .s [], .b false])) 3 (.p q.nb 0) (.agg ps[i].cells) = some q2 := by
        rw [← hq2]
        simp [stA, new_box_self, AV.cells, ones, over, esc, AV.refs, AV.refs.go, new_set]
      have bq2 : q2.box? q.nb = some (.cells 31 ps[i].cells) := by rw [← hq2]; exact new_box_self _ _
      have hofc := of_ok it hI v hv ps[i] (hp _ (List.getElem_mem hlt)) (s := q2) (idv := s.nb + 1) (by omega) (by rw [lt2 _ (by omega)]; exact hbv)
      have hBB2 : WB s.nt q2 idb (textL it v (ps.take i)) := by
        obtain ⟨sf, ab, k1, k2, k3⟩ := hBB
        exact ⟨sf, ab, by rw [lt2 _ hq]; exact k1, k2, k3.mono (by omega) fun k _ => by rw [← hq2]; rfl⟩
      have la := ld_all3 (s := q2) bq2
      have z1 := textL_len it v (ps.take i)
      have z4 : szF it v (ps.take i) + (partL it v ps[i]).length + 1 ≤ szF it v ps := by
        have e1 : ps.take i ++ (ps[i] :: ps.drop (i + 1)) = ps := by rw [← List.drop_eq_getElem_cons hlt, List.take_append_drop]
        have e2 := congrArg (szF it v) e1
        rw [szF_append, szF_cons] at e2
        omega
      obtain ⟨r, q3, c1, rfl, c3, c4⟩ := write_ok (partL it v ps[i]) w2 ov2.nt (by omega) hBB2 (by omega)
      have hw64 := wrap_succ (show i + 1 < 2 ^ 63 by omega)
      simp only [W_seq, W_reg, W_cond, W_blk, W_skip, W_exit, W_ret, W_regD, WO_nil, WO_cons, WO_guard2, wantV_b, bq_tt, bq_ft, bq_tf, bq_ff, Bool.not_true, Bool.not_false, WD_nil, WD_cons, WD_guard2, WS_some, WS_none, KS_n, KS_x, KS_r, KB_n, KB_x, KB_r, KN_ap, KO_ap, KD_ap, KC_nil, KF_n, KF_r, KG_n, KG_r, KL_n, KL_x, KL_r, CP_true, CP_false, evOp, evX, X.ev, optX, put_some, put_none, get_set2, sel_t, sel_f, Nat.reduceBEq, Nat.reduceAdd, Nat.reduceLT, Nat.reduceLeDiff, Nat.reduceEqDiff, reduceIte, if_true, if_false, bi_add, bi_sub, bi_mul, bi_eql, bi_neq, bi_lss, bi_leq, bi_gtr, bi_geq, bs_eql, bs_neq, bs_lss, Am.unOp, ret1, pubL, pub, pubA, initT, wkZ, wk, wants, resOf, tupOf, quiet, AOp.cls, Nat.beq_eq, Bool.or_eq_true, decide_true, decide_false, beq_self_eq_true, Bool.true_or, Bool.or_true, true_and, and_true, lenA, eqv, eqB, eqP, scal, new_box_self, List.getElem?_cons_zero, List.getElem?_cons_succ, key_ii, key_ss, findM, updM, esc_i, esc_s, esc_b, Int.reduceEq, ret1, new_nb, new_set, reduceCtorEq, Bool.xor_true, Bool.xor_false, Bool.false_eq_true, List.all_cons, List.all_nil, noTok, Bool.and_self, Bool.and_true, Bool.true_and, h5, h6, h14, h15, h16, natOf_nat, hget, cells_agg, len3, ofNat_len, ldE3, est, la, callV_fn, List.cons_append, List.nil_append, Nat.zero_add, hofc, c1, hw64]
      refine ⟨n - 1, by omega, i + 1, by omega, rfl, c3.over s (Nat.le_refl _) (by omega) ov2, c3.wf, by rw [c3.nb]; omega, by rw [c3.box _ (by omega), lt2 _ (by omega)]; exact hbv, ?_⟩
      rw [hst]
      exact c4
    · have hil : i = ps.length := by omega
      subst hil
      rw [List.take_length] at hBB
      have z1 := textL_len it v ps
      obtain ⟨r, q3, c1, rfl, c3, c4⟩ := string_ok hwq hq hBB (fun n hn => textL_txt it v ps ht n hn) (by omega)
      simp only [W_seq, W_reg, W_cond, W_blk, W_skip, W_exit, W_ret, W_regD, WO_nil, WO_cons, WO_guard2, wantV_b, bq_tt, bq_ft, bq_tf, bq_ff, Bool.not_true, Bool.not_false, WD_nil, WD_cons, WD_guard2, WS_some, WS_none, KS_n, KS_x, KS_r, KB_n, KB_x, KB_r, KN_ap, KO_ap, KD_ap, KC_nil, KF_n, KF_r, KG_n, KG_r, KL_n, KL_x, KL_r, CP_true, CP_false, evOp, evX, X.ev, optX, put_some, put_none, get_set2, sel_t, sel_f, Nat.reduceBEq, Nat.reduceAdd, Nat.reduceLT, Nat.reduceLeDiff, Nat.reduceEqDiff, reduceIte, if_true, if_false, bi_add, bi_sub, bi_mul, bi_eql, bi_neq, bi_lss, bi_leq, bi_gtr, bi_geq, bs_eql, bs_neq, bs_lss, Am.unOp, ret1, pubL, pub, pubA, initT, wkZ, wk, wants, resOf, tupOf, quiet, AOp.cls, Nat.beq_eq, Bool.or_eq_true, decide_true, decide_false, beq_self_eq_true, Bool.true_or, Bool.or_true, true_and, and_true, lenA, eqv, eqB, eqP, scal, new_box_self, List.getElem?_cons_zero, List.getElem?_cons_succ, key_ii, key_ss, findM, updM, esc_i, esc_s, esc_b, Int.reduceEq, ret1, new_nb, new_set, reduceCtorEq, Bool.xor_true, Bool.xor_false, Bool.false_eq_true, List.all_cons, List.all_nil, noTok, Bool.and_self, Bool.and_true, Bool.true_and, h5, h6, c1]
      exact KR_some (c3.over s (Nat.le_refl _) (by omega) hov) rfl rfl
  · simp only [W_seq, W_reg, W_cond, W_blk, W_skip, W_exit, W_ret, W_regD, WO_nil, WO_cons, WO_guard2, wantV_b, bq_tt, bq_ft, bq_tf, bq_ff, Bool.not_true, Bool.not_false, WD_nil, WD_cons, WD_guard2, WS_some, WS_none, KS_n, KS_x, KS_r, KB_n, KB_x, KB_r, KN_ap, KO_ap, KD_ap, KC_nil, KF_n, KF_r, KG_n, KG_r, KL_n, KL_x, KL_r, CP_true, CP_false, evOp, evX, X.ev, optX, put_some, put_none, get_set2, sel_t, sel_f, Nat.reduceBEq, Nat.reduceAdd, Nat.reduceLT, Nat.reduceLeDiff, Nat.reduceEqDiff, reduceIte, if_true, if_false, bi_add, bi_sub, bi_mul, bi_eql, bi_neq, bi_lss, bi_leq, bi_gtr, bi_geq, bs_eql, bs_neq, bs_lss, Am.unOp, ret1, pubL, pub, pubA, initT, wkZ, wk, wants, resOf, tupOf, quiet, AOp.cls, Nat.beq_eq, Bool.or_eq_true, decide_true, decide_false, beq_self_eq_true, Bool.true_or, Bool.or_true, true_and, and_true, lenA, eqv, eqB, eqP, scal, new_box_self, List.getElem?_cons_zero, List.getElem?_cons_succ, key_ii, key_ss, findM, updM, esc_i, esc_s, esc_b, Int.reduceEq, ret1, new_nb, new_set, reduceCtorEq, Bool.xor_true, Bool.xor_false, Bool.false_eq_true, List.all_cons, List.all_nil, noTok, Bool.and_self, Bool.and_true, Bool.true_and]
    refine ⟨0, by omega, rfl, rfl, ov1.new _, w1.new _, by omega, by rw [new_box_lt (by omega)]; exact bv1, ?_⟩
    refine ⟨.np, .nsl, by rw [← hidb]; exact new_box_self _ _, .inl rfl, .inl ⟨rfl, rfl⟩⟩
end

theorem blank_ok (c : Nat) (hc : c < 256) (s : St) : (lim prog).call f_touchstonelaw05_blank [.i .u8 (c : Int)] s = some (.b (blankN c), s) := by
  refine fn_W p_touchstonelaw05_blank rfl rfl ?_
  simp only [c_touchstonelaw05_blank, W_seq, W_reg, W_cond, W_blk, W_skip, W_exit, W_ret, W_regD, WO_nil, WO_cons, WO_guard2, wantV_b, bq_tt, bq_ft, bq_tf, bq_ff, Bool.not_true, Bool.not_false, WD_nil, WD_cons, WD_guard2, WS_some, WS_none, KS_n, KS_x, KS_r, KB_n, KB_x, KB_r, KN_ap, KO_ap, KD_ap, KC_nil, KF_n, KF_r, KG_n, KG_r, KL_n, KL_x, KL_r, CP_true, CP_false, evOp, evX, X.ev, optX, put_some, put_none, get_set2, sel_t, sel_f, Nat.reduceBEq, Nat.reduceAdd, Nat.reduceLT, Nat.reduceLeDiff, Nat.reduceEqDiff, reduceIte, if_true, if_false, bi_add, bi_sub, bi_mul, bi_eql, bi_neq, bi_lss, bi_leq, bi_gtr, bi_geq, bs_eql, bs_neq, bs_lss, Am.unOp, ret1, pubL, pub, pubA, initT, wkZ, wk, wants, resOf, tupOf, quiet, AOp.cls, Nat.beq_eq, Bool.or_eq_true, decide_true, decide_false, beq_self_eq_true, Bool.true_or, Bool.or_true, true_and, and_true, lenA, eqv, eqB, eqP, scal, new_box_self, List.getElem?_cons_zero, List.getElem?_cons_succ, key_ii, key_ss, findM, updM, esc_i, esc_s, esc_b, Int.reduceEq, ret1, new_nb, new_set, reduceCtorEq, Bool.xor_true, Bool.xor_false, Bool.false_eq_true, List.all_cons, List.all_nil, noTok, Bool.and_self, Bool.and_true, Bool.true_and]
  by_cases h1 : c = 32
  · subst h1
    simp only [W_seq, W_reg, W_cond, W_blk, W_skip, W_exit, W_ret, W_regD, WO_nil, WO_cons, WO_guard2, wantV_b, bq_tt, bq_ft, bq_tf, bq_ff, Bool.not_true, Bool.not_false, WD_nil, WD_cons, WD_guard2, WS_some, WS_none, KS_n, KS_x, KS_r, KB_n, KB_x, KB_r, KN_ap, KO_ap, KD_ap, KC_nil, KF_n, KF_r, KG_n, KG_r, KL_n, KL_x, KL_r, CP_true, CP_false, evOp, evX, X.ev, optX, put_some, put_none, get_set2, sel_t, sel_f, Nat.reduceBEq, Nat.reduceAdd, Nat.reduceLT, Nat.reduceLeDiff, Nat.reduceEqDiff, reduceIte, if_true, if_false, bi_add, bi_sub, bi_mul, bi_eql, bi_neq, bi_lss, bi_leq, bi_gtr, bi_geq, bs_eql, bs_neq, bs_lss, Am.unOp, ret1, pubL, pub, pubA, initT, wkZ, wk, wants, resOf, tupOf, quiet, AOp.cls, Nat.beq_eq, Bool.or_eq_true, decide_true, decide_false, beq_self_eq_true, Bool.true_or, Bool.or_true, true_and, and_true, lenA, eqv, eqB, eqP, scal, new_box_self, List.getElem?_cons_zero, List.getElem?_cons_succ, key_ii, key_ss, findM, updM, esc_i, esc_s, esc_b, Int.reduceEq, ret1, new_nb, new_set, reduceCtorEq, Bool.xor_true, Bool.xor_false, Bool.false_eq_true, List.all_cons, List.all_nil, noTok, Bool.and_self, Bool.and_true, Bool.true_and, Int.cast_ofNat_Int]
    exact KR_some (Over.enter s) rfl rfl
  · by_cases h2 : c = 9
    · subst h2
      simp only [W_seq, W_reg, W_cond, W_blk, W_skip, W_exit, W_ret, W_regD, WO_nil, WO_cons, WO_guard2, wantV_b, bq_tt, bq_ft, bq_tf, bq_ff, Bool.not_true, Bool.not_false, WD_nil, WD_cons, WD_guard2, WS_some, WS_none, KS_n, KS_x, KS_r, KB_n, KB_x, KB_r, KN_ap, KO_ap, KD_ap, KC_nil, KF_n, KF_r, KG_n, KG_r, KL_n, KL_x, KL_r, CP_true, CP_false, evOp, evX, X.ev, optX, put_some, put_none, get_set2, sel_t, sel_f, Nat.reduceBEq, Nat.reduceAdd, Nat.reduceLT, Nat.reduceLeDiff, Nat.reduceEqDiff, reduceIte, if_true, if_false, bi_add, bi_sub, bi_mul, bi_eql, bi_neq, bi_lss, bi_leq, bi_gtr, bi_geq, bs_eql, bs_neq, bs_lss, Am.unOp, ret1, pubL, pub, pubA, initT, wkZ, wk, wants, resOf, tupOf, quiet, AOp.cls, Nat.beq_eq, Bool.or_eq_true, decide_true, decide_false, beq_self_eq_true, Bool.true_or, Bool.or_true, true_and, and_true, lenA, eqv, eqB, eqP, scal, new_box_self, List.getElem?_cons_zero, List.getElem?_cons_succ, key_ii, key_ss, findM, updM, esc_i, esc_s, esc_b, Int.reduceEq, ret1, new_nb, new_set, reduceCtorEq, Bool.xor_true, Bool.xor_false, Bool.false_eq_true, List.all_cons, List.all_nil, noTok, Bool.and_self, Bool.and_true, Bool.true_and, Int.cast_ofNat_Int]
      exact KR_some (Over.enter s) rfl rfl
    · have e1 : ((c : Int) = 32) = False := by simp; omega
      have e2 : ((c : Int) = 9) = False := by simp; omega
      simp only [W_seq, W_reg, W_cond, W_blk, W_skip, W_exit, W_ret, W_regD, WO_nil, WO_cons, WO_guard2, wantV_b, bq_tt, bq_ft, bq_tf, bq_ff, Bool.not_true, Bool.not_false, WD_nil, WD_cons, WD_guard2, WS_some, WS_none, KS_n, KS_x, KS_r, KB_n, KB_x, KB_r, KN_ap, KO_ap, KD_ap, KC_nil, KF_n, KF_r, KG_n, KG_r, KL_n, KL_x, KL_r, CP_true, CP_false, evOp, evX, X.ev, optX, put_some, put_none, get_set2, sel_t, sel_f, Nat.reduceBEq, Nat.reduceAdd, Nat.reduceLT, Nat.reduceLeDiff, Nat.reduceEqDiff, reduceIte, if_true, if_false, bi_add, bi_sub, bi_mul, bi_eql, bi_neq, bi_lss, bi_leq, bi_gtr, bi_geq, bs_eql, bs_neq, bs_lss, Am.unOp, ret1, pubL, pub, pubA, initT, wkZ, wk, wants, resOf, tupOf, quiet, AOp.cls, Nat.beq_eq, Bool.or_eq_true, decide_true, decide_false, beq_self_eq_true, Bool.true_or, Bool.or_true, true_and, and_true, lenA, eqv, eqB, eqP, scal, new_box_self, List.getElem?_cons_zero, List.getElem?_cons_succ, key_ii, key_ss, findM, updM, esc_i, esc_s, esc_b, Int.reduceEq, ret1, new_nb, new_set, reduceCtorEq, Bool.xor_true, Bool.xor_false, Bool.false_eq_true, List.all_cons, List.all_nil, noTok, Bool.and_self, Bool.and_true, Bool.true_and, e1, e2]
      refine KR_some (Over.enter s) rfl ?_
      have : ((c : Int) = 10) = (c = 10) := by simp; omega
      simp [tupOf, wkZ, wk, blankN, h1, h2, this]

theorem same_ok (A B : List (List Nat)) (hA : A.length < 2 ^ 63) (s : St) : (lim prog).call f_touchstonelaw05_same [tx A, tx B] s = some (.b (decide (A = B)), s) := by
  refine fn_W p_touchstonelaw05_same rfl rfl ?_
  simp only [c_touchstonelaw05_same, W_seq, W_reg, W_cond, W_blk, W_skip, W_exit, W_ret, W_regD, WO_nil, WO_cons, WO_guard2, wantV_b, bq_tt, bq_ft, bq_tf, bq_ff, Bool.not_true, Bool.not_false, WD_nil, WD_cons, WD_guard2, WS_some, WS_none, KS_n, KS_x, KS_r, KB_n, KB_x, KB_r, KN_ap, KO_ap, KD_ap, KC_nil, KF_n, KF_r, KG_n, KG_r, KL_n, KL_x, KL_r, CP_true, CP_false, evOp, evX, X.ev, optX, put_some, put_none, get_set2, sel_t, sel_f, Nat.reduceBEq, Nat.reduceAdd, Nat.reduceLT, Nat.reduceLeDiff, Nat.reduceEqDiff, reduceIte, if_true, if_false, bi_add, bi_sub, bi_mul, bi_eql, bi_neq, bi_lss, bi_leq, bi_gtr, bi_geq, bs_eql, bs_neq, bs_lss, Am.unOp, ret1, pubL, pub, pubA, initT, wkZ, wk, wants, resOf, tupOf, quiet, AOp.cls, Nat.beq_eq, Bool.or_eq_true, decide_true, decide_false, beq_self_eq_true, Bool.true_or, Bool.or_true, true_and, and_true, lenA, eqv, eqB, eqP, scal, new_box_self, List.getElem?_cons_zero, List.getElem?_cons_succ, key_ii, key_ss, findM, updM, esc_i, esc_s, esc_b, Int.reduceEq, ret1, new_nb, new_set, reduceCtorEq, Bool.xor_true, Bool.xor_false, Bool.false_eq_true, List.all_cons, List.all_nil, noTok, Bool.and_self, Bool.and_true, Bool.true_and, List.length_map, ofNat_len]
  by_cases hl : A.length = B.length
  · have hl' : ((A.length : Int) ≠ (B.length : Int)) = False := by simp [hl]
    simp only [W_seq, W_reg, W_cond, W_blk, W_skip, W_exit, W_ret, W_regD, WO_nil, WO_cons, WO_guard2, wantV_b, bq_tt, bq_ft, bq_tf, bq_ff, Bool.not_true, Bool.not_false, WD_nil, WD_cons, WD_guard2, WS_some, WS_none, KS_n, KS_x, KS_r, KB_n, KB_x, KB_r, KN_ap, KO_ap, KD_ap, KC_nil, KF_n, KF_r, KG_n, KG_r, KL_n, KL_x, KL_r, CP_true, CP_false, evOp, evX, X.ev, optX, put_some, put_none, get_set2, sel_t, sel_f, Nat.reduceBEq, Nat.reduceAdd, Nat.reduceLT, Nat.reduceLeDiff, Nat.reduceEqDiff, reduceIte, if_true, if_false, bi_add, bi_sub, bi_mul, bi_eql, bi_neq, bi_lss, bi_leq, bi_gtr, bi_geq, bs_eql, bs_neq, bs_lss, Am.unOp, ret1, pubL, pub, pubA, initT, wkZ, wk, wants, resOf, tupOf, quiet, AOp.cls, Nat.beq_eq, Bool.or_eq_true, decide_true, decide_false, beq_self_eq_true, Bool.true_or, Bool.or_true, true_and, and_true, lenA, eqv, eqB, eqP, scal, new_box_self, List.getElem?_cons_zero, List.getElem?_cons_succ, key_ii, key_ss, findM, updM, esc_i, esc_s, esc_b, Int.reduceEq, ret1, new_nb, new_set, reduceCtorEq, Bool.xor_true, Bool.xor_false, Bool.false_eq_true, List.all_cons, List.all_nil, noTok, Bool.and_self, Bool.and_true, Bool.true_and, hl', ne_eq, not_true_eq_false]
    refine W_loop (fun n e q => q = s.enter ∧ e.get 0 = tx A ∧ e.get 1 = tx B ∧ ∃ i : Nat, i + n = A.length ∧ e.get 5 = .i .i64 i ∧ ∀ (j : Nat) (hj : j < i) (hL : j < A.length), A[j] = B[j]'(by omega)) ?_ A.length _ _ ?_
    · rintro n e q ⟨rfl, h0, h1, i, hi, h5, hn⟩
      simp only [W_seq, W_reg, W_cond, W_blk, W_skip, W_exit, W_ret, W_regD, WO_nil, WO_cons, WO_guard2, wantV_b, bq_tt, bq_ft, bq_tf, bq_ff, Bool.not_true, Bool.not_false, WD_nil, WD_cons, WD_guard2, WS_some, WS_none, KS_n, KS_x, KS_r, KB_n, KB_x, KB_r, KN_ap, KO_ap, KD_ap, KC_nil, KF_n, KF_r, KG_n, KG_r, KL_n, KL_x, KL_r, CP_true, CP_false, evOp, evX, X.ev, optX, put_some, put_none, get_set2, sel_t, sel_f, Nat.reduceBEq, Nat.reduceAdd, Nat.reduceLT, Nat.reduceLeDiff, Nat.reduceEqDiff, reduceIte, if_true, if_false, bi_add, bi_sub, bi_mul, bi_eql, bi_neq, bi_lss, bi_leq, bi_gtr, bi_geq, bs_eql, bs_neq, bs_lss, Am.unOp, ret1, pubL, pub, pubA, initT, wkZ, wk, wants, resOf, tupOf, quiet, AOp.cls, Nat.beq_eq, Bool.or_eq_true, decide_true, decide_false, beq_self_eq_true, Bool.true_or, Bool.or_true, true_and, and_true, lenA, eqv, eqB, eqP, scal, new_box_self, List.getElem?_cons_zero, List.getElem?_cons_succ, key_ii, key_ss, findM, updM, esc_i, esc_s, esc_b, Int.reduceEq, ret1, new_nb, new_set, reduceCtorEq, Bool.xor_true, Bool.xor_false, Bool.false_eq_true, List.all_cons, List.all_nil, noTok, Bool.and_self, Bool.and_true, Bool.true_and, h0, h1, h5, List.length_map, ofNat_len]
      refine CP_dec (fun hlt => ?_) (fun hge => ?_)
      · have hlt : i < A.length := by omega
        simp only [W_seq, W_reg, W_cond, W_blk, W_skip, W_exit, W_ret, W_regD, WO_nil, WO_cons, WO_guard2, wantV_b, bq_tt, bq_ft, bq_tf, bq_ff, Bool.not_true, Bool.not_false, WD_nil, WD_cons, WD_guard2, WS_some, WS_none, KS_n, KS_x, KS_r, KB_n, KB_x, KB_r, KN_ap, KO_ap, KD_ap, KC_nil, KF_n, KF_r, KG_n, KG_r, KL_n, KL_x, KL_r, CP_true, CP_false, evOp, evX, X.ev, optX, put_some, put_none, get_set2, sel_t, sel_f, Nat.reduceBEq, Nat.reduceAdd, Nat.reduceLT, Nat.reduceLeDiff, Nat.reduceEqDiff, reduceIte, if_true, if_false, bi_add, bi_sub, bi_mul, bi_eql, bi_neq, bi_lss, bi_leq, bi_gtr, bi_geq, bs_eql, bs_neq, bs_lss, Am.unOp, ret1, pubL, pub, pubA, initT, wkZ, wk, wants, resOf, tupOf, quiet, AOp.cls, Nat.beq_eq, Bool.or_eq_true, decide_true, decide_false, beq_self_eq_true, Bool.true_or, Bool.or_true, true_and, and_true, lenA, eqv, eqB, eqP, scal, new_box_self, List.getElem?_cons_zero, List.getElem?_cons_succ, key_ii, key_ss, findM, updM, esc_i, esc_s, esc_b, Int.reduceEq, ret1, new_nb, new_set, reduceCtorEq, Bool.xor_true, Bool.xor_false, Bool.false_eq_true, List.all_cons, List.all_nil, noTok, Bool.and_self, Bool.and_true, Bool.true_and, h0, h1, h5, natOf_nat, tx_get hlt, tx_get (show i < B.length by omega), cells_s, ldA_1, wrap_succ (show i + 1 < 2 ^ 63 by omega)]
        refine CP_dec (fun hne => ?_) (fun heq => ?_)
        · exact KR_some (Over.enter s) rfl (by
            have : A ≠ B := fun h => hne (by subst h; rfl)
            simp [tupOf, wkZ, wk, this])
        · have heq : A[i] = B[i]'(by omega) := by simpa using heq
          refine ⟨n - 1, by omega, i + 1, by omega, rfl, fun j hj hL => ?_⟩
          by_cases hji : j = i
          · subst hji; exact heq
          · exact hn j (by omega) hL
      · exact KR_some (Over.enter s) rfl (by
          have : A = B := List.ext_getElem hl fun j h1 h2 => hn j (by omega) h1
          simp [tupOf, wkZ, wk, this])
    · simp only [W_seq, W_reg, W_cond, W_blk, W_skip, W_exit, W_ret, W_regD, WO_nil, WO_cons, WO_guard2, wantV_b, bq_tt, bq_ft, bq_tf, bq_ff, Bool.not_true, Bool.not_false, WD_nil, WD_cons, WD_guard2, WS_some, WS_none, KS_n, KS_x, KS_r, KB_n, KB_x, KB_r, KN_ap, KO_ap, KD_ap, KC_nil, KF_n, KF_r, KG_n, KG_r, KL_n, KL_x, KL_r, CP_true, CP_false, evOp, evX, X.ev, optX, put_some, put_none, get_set2, sel_t, sel_f, Nat.reduceBEq, Nat.reduceAdd, Nat.reduceLT, Nat.reduceLeDiff, Nat.reduceEqDiff, reduceIte, if_true, if_false, bi_add, bi_sub, bi_mul, bi_eql, bi_neq, bi_lss, bi_leq, bi_gtr, bi_geq, bs_eql, bs_neq, bs_lss, Am.unOp, ret1, pubL, pub, pubA, initT, wkZ, wk, wants, resOf, tupOf, quiet, AOp.cls, Nat.beq_eq, Bool.or_eq_true, decide_true, decide_false, beq_self_eq_true, Bool.true_or, Bool.or_true, true_and, and_true, lenA, eqv, eqB, eqP, scal, new_box_self, List.getElem?_cons_zero, List.getElem?_cons_succ, key_ii, key_ss, findM, updM, esc_i, esc_s, esc_b, Int.reduceEq, ret1, new_nb, new_set, reduceCtorEq, Bool.xor_true, Bool.xor_false, Bool.false_eq_true, List.all_cons, List.all_nil, noTok, Bool.and_self, Bool.and_true, Bool.true_and]
      exact ⟨0, by omega, rfl, fun j hj => by omega⟩
  · have hl' : ((A.length : Int) ≠ (B.length : Int)) = True := by simp; omega
    simp only [W_seq, W_reg, W_cond, W_blk, W_skip, W_exit, W_ret, W_regD, WO_nil, WO_cons, WO_guard2, wantV_b, bq_tt, bq_ft, bq_tf, bq_ff, Bool.not_true, Bool.not_false, WD_nil, WD_cons, WD_guard2, WS_some, WS_none, KS_n, KS_x, KS_r, KB_n, KB_x, KB_r, KN_ap, KO_ap, KD_ap, KC_nil, KF_n, KF_r, KG_n, KG_r, KL_n, KL_x, KL_r, CP_true, CP_false, evOp, evX, X.ev, optX, put_some, put_none, get_set2, sel_t, sel_f, Nat.reduceBEq, Nat.reduceAdd, Nat.reduceLT, Nat.reduceLeDiff, Nat.reduceEqDiff, reduceIte, if_true, if_false, bi_add, bi_sub, bi_mul, bi_eql, bi_neq, bi_lss, bi_leq, bi_gtr, bi_geq, bs_eql, bs_neq, bs_lss, Am.unOp, ret1, pubL, pub, pubA, initT, wkZ, wk, wants, resOf, tupOf, quiet, AOp.cls, Nat.beq_eq, Bool.or_eq_true, decide_true, decide_false, beq_self_eq_true, Bool.true_or, Bool.or_true, true_and, and_true, lenA, eqv, eqB, eqP, scal, new_box_self, List.getElem?_cons_zero, List.getElem?_cons_succ, key_ii, key_ss, findM, updM, esc_i, esc_s, esc_b, Int.reduceEq, ret1, new_nb, new_set, reduceCtorEq, Bool.xor_true, Bool.xor_false, Bool.false_eq_true, List.all_cons, List.all_nil, noTok, Bool.and_self, Bool.and_true, Bool.true_and, hl']
    exact KR_some (Over.enter s) rfl (by
      have : A ≠ B := fun h => hl (by rw [h])
      simp [tupOf, wkZ, wk, this])

theorem cells_b (b : Bool) : (AV.b b).cells = [.b b] := rfl
theorem cells_i (k : IntKind) (n : Int) : (AV.i k n).cells = [.i k n] := rfl
theorem over3_0 (a b c x : AV) : over [a, b, c] 0 [x] = some [x, b, c] := rfl
theorem over3_1 (a b c x : AV) : over [a, b, c] 1 [x] = some [a, x, c] := rfl
theorem over3_2 (a b c x : AV) : over [a, b, c] 2 [x] = some [a, b, x] := rfl
theorem st3_new (s : St) (T : Nat) (a b c x y z : AV) (h1 : ones [x, y, z] = true) (h2 : AV.refs.go [x, y, z] = false) : stA (s.new (.cells T [a, b, c])) 3 (.p s.nb 0) (.agg [x, y, z]) = some (s.new (.cells T [x, y, z])) := by
  simp [stA, new_box_self, AV.cells, over, h1, esc, AV.refs, h2, new_set]
theorem par_ok (l : List Nat) (s : St) : (lim prog).call f_touchstonelaw05_par [.s l] s = some (.agg (PP.cells ⟨true, l, false⟩), s) := by
  refine fn_W p_touchstonelaw05_par rfl rfl ?_
  have hst := st3_new s.enter 31 (.b false) (.s []) (.b false) (.b true) (.s l) (.b false) rfl rfl
  have hl1 : ∀ a : AV, [a].length = 1 := fun _ => rfl
  have hb : ((s.enter.new (.cells 31 [.b true, .s l, .b false]))).box? s.enter.nb = some (.cells 31 [.b true, .s l, .b false]) := new_box_self _ _
  have hla := ld_all3 hb
  simp only [c_touchstonelaw05_par, W_seq, W_reg, W_cond, W_blk, W_skip, W_exit, W_ret, W_regD, WO_nil, WO_cons, WO_guard2, wantV_b, bq_tt, bq_ft, bq_tf, bq_ff, Bool.not_true, Bool.not_false, WD_nil, WD_cons, WD_guard2, WS_some, WS_none, KS_n, KS_x, KS_r, KB_n, KB_x, KB_r, KN_ap, KO_ap, KD_ap, KC_nil, KF_n, KF_r, KG_n, KG_r, KL_n, KL_x, KL_r, CP_true, CP_false, evOp, evX, X.ev, optX, put_some, put_none, get_set2, sel_t, sel_f, Nat.reduceBEq, Nat.reduceAdd, Nat.reduceLT, Nat.reduceLeDiff, Nat.reduceEqDiff, reduceIte, if_true, if_false, bi_add, bi_sub, bi_mul, bi_eql, bi_neq, bi_lss, bi_leq, bi_gtr, bi_geq, bs_eql, bs_neq, bs_lss, Am.unOp, ret1, pubL, pub, pubA, initT, wkZ, wk, wants, resOf, tupOf, quiet, AOp.cls, Nat.beq_eq, Bool.or_eq_true, decide_true, decide_false, beq_self_eq_true, Bool.true_or, Bool.or_true, true_and, and_true, lenA, eqv, eqB, eqP, scal, new_box_self, List.getElem?_cons_zero, List.getElem?_cons_succ, key_ii, key_ss, findM, updM, esc_i, esc_s, esc_b, Int.reduceEq, ret1, new_nb, new_set, reduceCtorEq, Bool.xor_true, Bool.xor_false, Bool.false_eq_true, List.all_cons, List.all_nil, noTok, Bool.and_self, Bool.and_true, Bool.true_and, evParts, cells_b, cells_s, over3_0, over3_1, hl1, hst, hla, frzL, frz]
  exact KR_some ((Over.enter s).new _) rfl rfl

/-- What 'texts' counts. -/
def textsF : Nat → List (List Nat) → Nat
  | n, [] => n
  | n, l :: L => if n < 20000 then textsF (n + 1 + min l.length 20000) L else n
theorem textsF_ge : ∀ (L : List (List Nat)) (n : Nat), n ≤ textsF n L
  | [], n => Nat.le_refl _
  | l :: L, n => by
    unfold textsF
    split
    · have := textsF_ge L (n + 1 + min l.length 20000)
      omega
    · exact Nat.le_refl _
theorem textsF_le : ∀ (L : List (List Nat)) (n : Nat), n ≤ 40000 → textsF n L ≤ 40000
  | [], n, h => h
  | l :: L, n, h => by
    unfold textsF
    split
    · exact textsF_le L _ (by omega)
    · exact h
theorem textsF_small : ∀ (L : List (List Nat)) (n : Nat), textsF n L < 20000 → n + (L.map fun l => l.length + 1).sum ≤ textsF n L
  | [], n, _ => by simp [textsF]
  | l :: L, n, h => by
    unfold textsF at h ⊢
    split at h
    · rename_i hn
      rw [if_pos hn]
      have h1 := textsF_small L _ h
      have h2 := textsF_ge L (n + 1 + min l.length 20000)
      simp only [List.map_cons, List.sum_cons]
      omega
    · omega

theorem min_20000 (n : Nat) : (if (20000 : Int) < (n : Int) then (20000 : Int) else (n : Int)) = ((min n 20000 : Nat) : Int) := by
  split <;> omega

theorem texts_ok (L : List (List Nat)) (hL : L.length < 2 ^ 63) (s : St) : (lim prog).call f_touchstonelaw05_texts [tx L] s = some (.i .i64 (textsF 0 L : Nat), s) := by
  refine fn_W p_touchstonelaw05_texts rfl rfl ?_
  simp only [c_touchstonelaw05_texts, W_seq, W_reg, W_cond, W_blk, W_skip, W_exit, W_ret, W_regD, WO_nil, WO_cons, WO_guard2, wantV_b, bq_tt, bq_ft, bq_tf, bq_ff, Bool.not_true, Bool.not_false, WD_nil, WD_cons, WD_guard2, WS_some, WS_none, KS_n, KS_x, KS_r, KB_n, KB_x, KB_r, KN_ap, KO_ap, KD_ap, KC_nil, KF_n, KF_r, KG_n, KG_r, KL_n, KL_x, KL_r, CP_true, CP_false, evOp, evX, X.ev, optX, put_some, put_none, get_set2, sel_t, sel_f, Nat.reduceBEq, Nat.reduceAdd, Nat.reduceLT, Nat.reduceLeDiff, Nat.reduceEqDiff, reduceIte, if_true, if_false, bi_add, bi_sub, bi_mul, bi_eql, bi_neq, bi_lss, bi_leq, bi_gtr, bi_geq, bs_eql, bs_neq, bs_lss, Am.unOp, ret1, pubL, pub, pubA, initT, wkZ, wk, wants, resOf, tupOf, quiet, AOp.cls, Nat.beq_eq, Bool.or_eq_true, decide_true, decide_false, beq_self_eq_true, Bool.true_or, Bool.or_true, true_and, and_true, lenA, eqv, eqB, eqP, scal, new_box_self, List.getElem?_cons_zero, List.getElem?_cons_succ, key_ii, key_ss, findM, updM, esc_i, esc_s, esc_b, Int.reduceEq, ret1, new_nb, new_set, reduceCtorEq, Bool.xor_true, Bool.xor_false, Bool.false_eq_true, List.all_cons, List.all_nil, noTok, Bool.and_self, Bool.and_true, Bool.true_and, List.length_map, ofNat_len]
  refine W_loop (fun n e q => q = s.enter ∧ e.get 0 = tx L ∧ ∃ i k : Nat, i + n = L.length ∧ e.get 3 = .i .i64 k ∧ e.get 4 = .i .i64 i ∧ k ≤ 40000 ∧ textsF k (L.drop i) = textsF 0 L) ?_ L.length _ _ ?_
  · rintro n e q ⟨rfl, h0, i, k, hi, h3, h4, hk, hn⟩
    simp only [W_seq, W_reg, W_cond, W_blk, W_skip, W_exit, W_ret, W_regD, WO_nil, WO_cons, WO_guard2, wantV_b, bq_tt, bq_ft, bq_tf, bq_ff, Bool.not_true, Bool.not_false, WD_nil, WD_cons, WD_guard2, WS_some, WS_none, KS_n, KS_x, KS_r, KB_n, KB_x, KB_r, KN_ap, KO_ap, KD_ap, KC_nil, KF_n, KF_r, KG_n, KG_r, KL_n, KL_x, KL_r, CP_true, CP_false, evOp, evX, X.ev, optX, put_some, put_none, get_set2, sel_t, sel_f, Nat.reduceBEq, Nat.reduceAdd, Nat.reduceLT, Nat.reduceLeDiff, Nat.reduceEqDiff, reduceIte, if_true, if_false, bi_add, bi_sub, bi_mul, bi_eql, bi_neq, bi_lss, bi_leq, bi_gtr, bi_geq, bs_eql, bs_neq, bs_lss, Am.unOp, ret1, pubL, pub, pubA, initT, wkZ, wk, wants, resOf, tupOf, quiet, AOp.cls, Nat.beq_eq, Bool.or_eq_true, decide_true, decide_false, beq_self_eq_true, Bool.true_or, Bool.or_true, true_and, and_true, lenA, eqv, eqB, eqP, scal, new_box_self, List.getElem?_cons_zero, List.getElem?_cons_succ, key_ii, key_ss, findM, updM, esc_i, esc_s, esc_b, Int.reduceEq, ret1, new_nb, new_set, reduceCtorEq, Bool.xor_true, Bool.xor_false, Bool.false_eq_true, List.all_cons, List.all_nil, noTok, Bool.and_self, Bool.and_true, Bool.true_and, h0, h3, h4, List.length_map, ofNat_len]
    by_cases hlt : i < L.length
    · have hd : L.drop i = L[i] :: L.drop (i + 1) := List.drop_eq_getElem_cons hlt
      have hlt' : ((i : Int) < (L.length : Int)) = True := by simp; omega
      by_cases hk2 : k < 20000
      · have hk' : ((k : Int) < 20000) = True := by simp; omega
        have hk1 : IntKind.i64.wrap ((k : Int) + 1) = ((k + 1 : Nat) : Int) := wrap_succ (by omega)
        have hmm := min_20000 L[i].length
        have hadd : IntKind.i64.wrap (((k + 1 : Nat) : Int) + ((min L[i].length 20000 : Nat) : Int)) = ((k + 1 + min L[i].length 20000 : Nat) : Int) := by
          rw [← wrap_nat (show k + 1 + min L[i].length 20000 < 2 ^ 63 by omega)]; simp
        simp only [W_seq, W_reg, W_cond, W_blk, W_skip, W_exit, W_ret, W_regD, WO_nil, WO_cons, WO_guard2, wantV_b, bq_tt, bq_ft, bq_tf, bq_ff, Bool.not_true, Bool.not_false, WD_nil, WD_cons, WD_guard2, WS_some, WS_none, KS_n, KS_x, KS_r, KB_n, KB_x, KB_r, KN_ap, KO_ap, KD_ap, KC_nil, KF_n, KF_r, KG_n, KG_r, KL_n, KL_x, KL_r, CP_true, CP_false, evOp, evX, X.ev, optX, put_some, put_none, get_set2, sel_t, sel_f, Nat.reduceBEq, Nat.reduceAdd, Nat.reduceLT, Nat.reduceLeDiff, Nat.reduceEqDiff, reduceIte, if_true, if_false, bi_add, bi_sub, bi_mul, bi_eql, bi_neq, bi_lss, bi_leq, bi_gtr, bi_geq, bs_eql, bs_neq, bs_lss, Am.unOp, ret1, pubL, pub, pubA, initT, wkZ, wk, wants, resOf, tupOf, quiet, AOp.cls, Nat.beq_eq, Bool.or_eq_true, decide_true, decide_false, beq_self_eq_true, Bool.true_or, Bool.or_true, true_and, and_true, lenA, eqv, eqB, eqP, scal, new_box_self, List.getElem?_cons_zero, List.getElem?_cons_succ, key_ii, key_ss, findM, updM, esc_i, esc_s, esc_b, Int.reduceEq, ret1, new_nb, new_set, reduceCtorEq, Bool.xor_true, Bool.xor_false, Bool.false_eq_true, List.all_cons, List.all_nil, noTok, Bool.and_self, Bool.and_true, Bool.true_and, h0, h3, h4, hlt', hk', hk1, natOf_nat, tx_get hlt, cells_s, ldA_1, ofNat_len, hmm, hadd, wrap_succ (show i + 1 < 2 ^ 63 by omega)]
        refine ⟨n - 1, by omega, i + 1, k + 1 + min L[i].length 20000, by omega, rfl, rfl, by omega, ?_⟩
        rw [← hn, hd]
        simp only [textsF, if_pos hk2]
      · have hk' : ((k : Int) < 20000) = False := by simp; omega
        simp only [W_seq, W_reg, W_cond, W_blk, W_skip, W_exit, W_ret, W_regD, WO_nil, WO_cons, WO_guard2, wantV_b, bq_tt, bq_ft, bq_tf, bq_ff, Bool.not_true, Bool.not_false, WD_nil, WD_cons, WD_guard2, WS_some, WS_none, KS_n, KS_x, KS_r, KB_n, KB_x, KB_r, KN_ap, KO_ap, KD_ap, KC_nil, KF_n, KF_r, KG_n, KG_r, KL_n, KL_x, KL_r, CP_true, CP_false, evOp, evX, X.ev, optX, put_some, put_none, get_set2, sel_t, sel_f, Nat.reduceBEq, Nat.reduceAdd, Nat.reduceLT, Nat.reduceLeDiff, Nat.reduceEqDiff, reduceIte, if_true, if_false, bi_add, bi_sub, bi_mul, bi_eql, bi_neq, bi_lss, bi_leq, bi_gtr, bi_geq, bs_eql, bs_neq, bs_lss, Am.unOp, ret1, pubL, pub, pubA, initT, wkZ, wk, wants, resOf, tupOf, quiet, AOp.cls, Nat.beq_eq, Bool.or_eq_true, decide_true, decide_false, beq_self_eq_true, Bool.true_or, Bool.or_true, true_and, and_true, lenA, eqv, eqB, eqP, scal, new_box_self, List.getElem?_cons_zero, List.getElem?_cons_succ, key_ii, key_ss, findM, updM, esc_i, esc_s, esc_b, Int.reduceEq, ret1, new_nb, new_set, reduceCtorEq, Bool.xor_true, Bool.xor_false, Bool.false_eq_true, List.all_cons, List.all_nil, noTok, Bool.and_self, Bool.and_true, Bool.true_and, h0, h3, h4, hlt', hk']
        exact KR_some (Over.enter s) rfl (by
          rw [hd] at hn
          simp only [textsF, if_neg hk2] at hn
          simp [tupOf, wkZ, wk, hn])
    · have hlt' : ((i : Int) < (L.length : Int)) = False := by simp; omega
      simp only [W_seq, W_reg, W_cond, W_blk, W_skip, W_exit, W_ret, W_regD, WO_nil, WO_cons, WO_guard2, wantV_b, bq_tt, bq_ft, bq_tf, bq_ff, Bool.not_true, Bool.not_false, WD_nil, WD_cons, WD_guard2, WS_some, WS_none, KS_n, KS_x, KS_r, KB_n, KB_x, KB_r, KN_ap, KO_ap, KD_ap, KC_nil, KF_n, KF_r, KG_n, KG_r, KL_n, KL_x, KL_r, CP_true, CP_false, evOp, evX, X.ev, optX, put_some, put_none, get_set2, sel_t, sel_f, Nat.reduceBEq, Nat.reduceAdd, Nat.reduceLT, Nat.reduceLeDiff, Nat.reduceEqDiff, reduceIte, if_true, if_false, bi_add, bi_sub, bi_mul, bi_eql, bi_neq, bi_lss, bi_leq, bi_gtr, bi_geq, bs_eql, bs_neq, bs_lss, Am.unOp, ret1, pubL, pub, pubA, initT, wkZ, wk, wants, resOf, tupOf, quiet, AOp.cls, Nat.beq_eq, Bool.or_eq_true, decide_true, decide_false, beq_self_eq_true, Bool.true_or, Bool.or_true, true_and, and_true, lenA, eqv, eqB, eqP, scal, new_box_self, List.getElem?_cons_zero, List.getElem?_cons_succ, key_ii, key_ss, findM, updM, esc_i, esc_s, esc_b, Int.reduceEq, ret1, new_nb, new_set, reduceCtorEq, Bool.xor_true, Bool.xor_false, Bool.false_eq_true, List.all_cons, List.all_nil, noTok, Bool.and_self, Bool.and_true, Bool.true_and, h0, h3, h4, hlt']
      exact KR_some (Over.enter s) rfl (by
          rw [List.drop_eq_nil_of_le (by omega)] at hn
          simp only [textsF] at hn
          simp [tupOf, wkZ, wk, hn])
  · simp only [W_seq, W_reg, W_cond, W_blk, W_skip, W_exit, W_ret, W_regD, WO_nil, WO_cons, WO_guard2, wantV_b, bq_tt, bq_ft, bq_tf, bq_ff, Bool.not_true, Bool.not_false, WD_nil, WD_cons, WD_guard2, WS_some, WS_none, KS_n, KS_x, KS_r, KB_n, KB_x, KB_r, KN_ap, KO_ap, KD_ap, KC_nil, KF_n, KF_r, KG_n, KG_r, KL_n, KL_x, KL_r, CP_true, CP_false, evOp, evX, X.ev, optX, put_some, put_none, get_set2, sel_t, sel_f, Nat.reduceBEq, Nat.reduceAdd, Nat.reduceLT, Nat.reduceLeDiff, Nat.reduceEqDiff, reduceIte, if_true, if_false, bi_add, bi_sub, bi_mul, bi_eql, bi_neq, bi_lss, bi_leq, bi_gtr, bi_geq, bs_eql, bs_neq, bs_lss, Am.unOp, ret1, pubL, pub, pubA, initT, wkZ, wk, wants, resOf, tupOf, quiet, AOp.cls, Nat.beq_eq, Bool.or_eq_true, decide_true, decide_false, beq_self_eq_true, Bool.true_or, Bool.or_true, true_and, and_true, lenA, eqv, eqB, eqP, scal, new_box_self, List.getElem?_cons_zero, List.getElem?_cons_succ, key_ii, key_ss, findM, updM, esc_i, esc_s, esc_b, Int.reduceEq, ret1, new_nb, new_set, reduceCtorEq, Bool.xor_true, Bool.xor_false, Bool.false_eq_true, List.all_cons, List.all_nil, noTok, Bool.and_self, Bool.and_true, Bool.true_and]
    exact ⟨0, 0, by omega, rfl, rfl, by omega, rfl⟩

/-- What 'large' counts of parts. -/
def partsF : Nat → List PP → Nat
  | n, [] => n
  | n, p :: L => if n < 20000 then partsF (n + 1 + min p.text.length 20000) L else n
theorem partsF_ge : ∀ (L : List PP) (n : Nat), n ≤ partsF n L
  | [], n => Nat.le_refl _
  | l :: L, n => by
    unfold partsF
    split
    · have := partsF_ge L (n + 1 + min l.text.length 20000)
      omega
    · exact Nat.le_refl _
theorem partsF_small : ∀ (L : List PP) (n : Nat), partsF n L < 20000 → n + (L.map fun p => p.text.length + 1).sum ≤ partsF n L
  | [], n, _ => by simp [partsF]
  | l :: L, n, h => by
    unfold partsF at h ⊢
    split at h
    · rename_i hn
      rw [if_pos hn]
      have h1 := partsF_small L _ h
      have h2 := partsF_ge L (n + 1 + min l.text.length 20000)
      simp only [List.map_cons, List.sum_cons]
      omega
    · omega
def largeF (v : VV) (ps : List PP) : Nat := partsF (textsF 0 v.names + textsF 0 v.values + textsF 0 v.args) ps
def largeP (v : VV) (ps : List PP) : Bool := decide (20000 ≤ largeF v ps) || decide (200 < ps.length)

theorem large_ok (v : VV) (hv : v.Ok) (ps : List PP) (hlen : ps.length < 2 ^ 63) (s : St) : (lim prog).call f_touchstonelaw05_large [v.av, partsA ps] s = some (.b (largeP v ps), s) := by
  refine fn_W p_touchstonelaw05_large rfl rfl ?_
  have b1 := textsF_le v.names 0 (by omega)
  have b2 := textsF_le v.values 0 (by omega)
  have b3 := textsF_le v.args 0 (by omega)
  have hadd1 : IntKind.i64.wrap (((textsF 0 v.names : Nat) : Int) + ((textsF 0 v.values : Nat) : Int)) = ((textsF 0 v.names + textsF 0 v.values : Nat) : Int) := by
    rw [← wrap_nat (show textsF 0 v.names + textsF 0 v.values < 2 ^ 63 by omega)]; simp
  have hadd2 : IntKind.i64.wrap (((textsF 0 v.names + textsF 0 v.values : Nat) : Int) + ((textsF 0 v.args : Nat) : Int)) = ((textsF 0 v.names + textsF 0 v.values + textsF 0 v.args : Nat) : Int) := by
    rw [← wrap_nat (show textsF 0 v.names + textsF 0 v.values + textsF 0 v.args < 2 ^ 63 by omega)]; simp
  simp only [c_touchstonelaw05_large, W_seq, W_reg, W_cond, W_blk, W_skip, W_exit, W_ret, W_regD, WO_nil, WO_cons, WO_guard2, wantV_b, bq_tt, bq_ft, bq_tf, bq_ff, Bool.not_true, Bool.not_false, WD_nil, WD_cons, WD_guard2, WS_some, WS_none, KS_n, KS_x, KS_r, KB_n, KB_x, KB_r, KN_ap, KO_ap, KD_ap, KC_nil, KF_n, KF_r, KG_n, KG_r, KL_n, KL_x, KL_r, CP_true, CP_false, evOp, evX, X.ev, optX, put_some, put_none, get_set2, sel_t, sel_f, Nat.reduceBEq, Nat.reduceAdd, Nat.reduceLT, Nat.reduceLeDiff, Nat.reduceEqDiff, reduceIte, if_true, if_false, bi_add, bi_sub, bi_mul, bi_eql, bi_neq, bi_lss, bi_leq, bi_gtr, bi_geq, bs_eql, bs_neq, bs_lss, Am.unOp, ret1, pubL, pub, pubA, initT, wkZ, wk, wants, resOf, tupOf, quiet, AOp.cls, Nat.beq_eq, Bool.or_eq_true, decide_true, decide_false, beq_self_eq_true, Bool.true_or, Bool.or_true, true_and, and_true, lenA, eqv, eqB, eqP, scal, new_box_self, List.getElem?_cons_zero, List.getElem?_cons_succ, key_ii, key_ss, findM, updM, esc_i, esc_s, esc_b, Int.reduceEq, ret1, new_nb, new_set, reduceCtorEq, Bool.xor_true, Bool.xor_false, Bool.false_eq_true, List.all_cons, List.all_nil, noTok, Bool.and_self, Bool.and_true, Bool.true_and, cells_agg, len4, ld4_0, ld4_1, ld4_2, Nat.zero_add, texts_ok _ hv.n, texts_ok _ hv.w, texts_ok _ hv.a, hadd1, hadd2]
  obtain ⟨s1, hs1⟩ : ∃ s1, s.enter.new (.cells 24 v.cells) = s1 := ⟨_, rfl⟩
  have ov1 : Over s s1 := by rw [← hs1]; exact (Over.enter s).new _
  simp only [hs1]
  refine W_loop (fun n e q => q = s1 ∧ e.get 1 = partsA ps ∧ ∃ i k : Nat, i + n = ps.length ∧ e.get 5 = .i .i64 k ∧ e.get 6 = .i .i64 i ∧ k ≤ 120000 ∧ partsF k (ps.drop i) = largeF v ps) ?_ ps.length _ _ ?_
  · rintro n e q ⟨rfl, h1, i, k, hi, h5, h6, hk, hn⟩
    simp only [W_seq, W_reg, W_cond, W_blk, W_skip, W_exit, W_ret, W_regD, WO_nil, WO_cons, WO_guard2, wantV_b, bq_tt, bq_ft, bq_tf, bq_ff, Bool.not_true, Bool.not_false, WD_nil, WD_cons, WD_guard2, WS_some, WS_none, KS_n, KS_x, KS_r, KB_n, KB_x, KB_r, KN_ap, KO_ap, KD_ap, KC_nil, KF_n, KF_r, KG_n, KG_r, KL_n, KL_x, KL_r, CP_true, CP_false, evOp, evX, X.ev, optX, put_some, put_none, get_set2, sel_t, sel_f, Nat.reduceBEq, Nat.reduceAdd, Nat.reduceLT, Nat.reduceLeDiff, Nat.reduceEqDiff, reduceIte, if_true, if_false, bi_add, bi_sub, bi_mul, bi_eql, bi_neq, bi_lss, bi_leq, bi_gtr, bi_geq, bs_eql, bs_neq, bs_lss, Am.unOp, ret1, pubL, pub, pubA, initT, wkZ, wk, wants, resOf, tupOf, quiet, AOp.cls, Nat.beq_eq, Bool.or_eq_true, decide_true, decide_false, beq_self_eq_true, Bool.true_or, Bool.or_true, true_and, and_true, lenA, eqv, eqB, eqP, scal, new_box_self, List.getElem?_cons_zero, List.getElem?_cons_succ, key_ii, key_ss, findM, updM, esc_i, esc_s, esc_b, Int.reduceEq, ret1, new_nb, new_set, reduceCtorEq, Bool.xor_true, Bool.xor_false, Bool.false_eq_true, List.all_cons, List.all_nil, noTok, Bool.and_self, Bool.and_true, Bool.true_and, h1, h5, h6, List.length_map, ofNat_len]
    by_cases hlt : i < ps.length
    · have hd : ps.drop i = ps[i] :: ps.drop (i + 1) := List.drop_eq_getElem_cons hlt
      have hlt' : ((i : Int) < (ps.length : Int)) = True := by simp; omega
      have hget : (ps.map fun p => AV.agg p.cells)[i]? = some (.agg ps[i].cells) := by simp [hlt]
      by_cases hk2 : k < 20000
      · have hk' : ((k : Int) < 20000) = True := by simp; omega
        have hk1 : IntKind.i64.wrap ((k : Int) + 1) = ((k + 1 : Nat) : Int) := wrap_succ (by omega)
        have hmm := min_20000 ps[i].text.length
        have hadd : IntKind.i64.wrap (((k + 1 : Nat) : Int) + ((min ps[i].text.length 20000 : Nat) : Int)) = ((k + 1 + min ps[i].text.length 20000 : Nat) : Int) := by
          rw [← wrap_nat (show k + 1 + min ps[i].text.length 20000 < 2 ^ 63 by omega)]; simp
        have hthw : thawA q (partsA ps) = some (partsA ps, q) := rfl
        have hld : ldA q false 1 (.ep ps[i].cells 1 .shut) = some (.s ps[i].text) := rfl
        simp only [W_seq, W_reg, W_cond, W_blk, W_skip, W_exit, W_ret, W_regD, WO_nil, WO_cons, WO_guard2, wantV_b, bq_tt, bq_ft, bq_tf, bq_ff, Bool.not_true, Bool.not_false, WD_nil, WD_cons, WD_guard2, WS_some, WS_none, KS_n, KS_x, KS_r, KB_n, KB_x, KB_r, KN_ap, KO_ap, KD_ap, KC_nil, KF_n, KF_r, KG_n, KG_r, KL_n, KL_x, KL_r, CP_true, CP_false, evOp, evX, X.ev, optX, put_some, put_none, get_set2, sel_t, sel_f, Nat.reduceBEq, Nat.reduceAdd, Nat.reduceLT, Nat.reduceLeDiff, Nat.reduceEqDiff, reduceIte, if_true, if_false, bi_add, bi_sub, bi_mul, bi_eql, bi_neq, bi_lss, bi_leq, bi_gtr, bi_geq, bs_eql, bs_neq, bs_lss, Am.unOp, ret1, pubL, pub, pubA, initT, wkZ, wk, wants, resOf, tupOf, quiet, AOp.cls, Nat.beq_eq, Bool.or_eq_true, decide_true, decide_false, beq_self_eq_true, Bool.true_or, Bool.or_true, true_and, and_true, lenA, eqv, eqB, eqP, scal, new_box_self, List.getElem?_cons_zero, List.getElem?_cons_succ, key_ii, key_ss, findM, updM, esc_i, esc_s, esc_b, Int.reduceEq, ret1, new_nb, new_set, reduceCtorEq, Bool.xor_true, Bool.xor_false, Bool.false_eq_true, List.all_cons, List.all_nil, noTok, Bool.and_self, Bool.and_true, Bool.true_and, W_thw, hthw, h1, h5, h6, hlt', hk', hk1, natOf_nat, hget, cells_agg, Nat.zero_add, hld, ofNat_len, hmm, hadd, wrap_succ (show i + 1 < 2 ^ 63 by omega)]
        refine ⟨n - 1, by omega, i + 1, k + 1 + min ps[i].text.length 20000, by omega, rfl, rfl, by omega, ?_⟩
        rw [← hn, hd]
        simp only [partsF, if_pos hk2]
      · have hk' : ((k : Int) < 20000) = False := by simp; omega
        have hk'' : ((k : Int) ≥ 20000) = True := by simp; omega
        simp only [W_seq, W_reg, W_cond, W_blk, W_skip, W_exit, W_ret, W_regD, WO_nil, WO_cons, WO_guard2, wantV_b, bq_tt, bq_ft, bq_tf, bq_ff, Bool.not_true, Bool.not_false, WD_nil, WD_cons, WD_guard2, WS_some, WS_none, KS_n, KS_x, KS_r, KB_n, KB_x, KB_r, KN_ap, KO_ap, KD_ap, KC_nil, KF_n, KF_r, KG_n, KG_r, KL_n, KL_x, KL_r, CP_true, CP_false, evOp, evX, X.ev, optX, put_some, put_none, get_set2, sel_t, sel_f, Nat.reduceBEq, Nat.reduceAdd, Nat.reduceLT, Nat.reduceLeDiff, Nat.reduceEqDiff, reduceIte, if_true, if_false, bi_add, bi_sub, bi_mul, bi_eql, bi_neq, bi_lss, bi_leq, bi_gtr, bi_geq, bs_eql, bs_neq, bs_lss, Am.unOp, ret1, pubL, pub, pubA, initT, wkZ, wk, wants, resOf, tupOf, quiet, AOp.cls, Nat.beq_eq, Bool.or_eq_true, decide_true, decide_false, beq_self_eq_true, Bool.true_or, Bool.or_true, true_and, and_true, lenA, eqv, eqB, eqP, scal, new_box_self, List.getElem?_cons_zero, List.getElem?_cons_succ, key_ii, key_ss, findM, updM, esc_i, esc_s, esc_b, Int.reduceEq, ret1, new_nb, new_set, reduceCtorEq, Bool.xor_true, Bool.xor_false, Bool.false_eq_true, List.all_cons, List.all_nil, noTok, Bool.and_self, Bool.and_true, Bool.true_and, h1, h5, h6, hlt', hk', hk'']
        exact KR_some ov1 rfl (by
          rw [hd] at hn
          simp only [partsF, if_neg hk2] at hn
          have : 20000 ≤ largeF v ps := by omega
          simp [tupOf, wkZ, wk, largeP, this])
    · have hlt' : ((i : Int) < (ps.length : Int)) = False := by simp; omega
      rw [List.drop_eq_nil_of_le (by omega)] at hn
      simp only [partsF] at hn
      by_cases hk2 : k < 20000
      · have hk' : ((k : Int) ≥ 20000) = False := by simp; omega
        simp only [W_seq, W_reg, W_cond, W_blk, W_skip, W_exit, W_ret, W_regD, WO_nil, WO_cons, WO_guard2, wantV_b, bq_tt, bq_ft, bq_tf, bq_ff, Bool.not_true, Bool.not_false, WD_nil, WD_cons, WD_guard2, WS_some, WS_none, KS_n, KS_x, KS_r, KB_n, KB_x, KB_r, KN_ap, KO_ap, KD_ap, KC_nil, KF_n, KF_r, KG_n, KG_r, KL_n, KL_x, KL_r, CP_true, CP_false, evOp, evX, X.ev, optX, put_some, put_none, get_set2, sel_t, sel_f, Nat.reduceBEq, Nat.reduceAdd, Nat.reduceLT, Nat.reduceLeDiff, Nat.reduceEqDiff, reduceIte, if_true, if_false, bi_add, bi_sub, bi_mul, bi_eql, bi_neq, bi_lss, bi_leq, bi_gtr, bi_geq, bs_eql, bs_neq, bs_lss, Am.unOp, ret1, pubL, pub, pubA, initT, wkZ, wk, wants, resOf, tupOf, quiet, AOp.cls, Nat.beq_eq, Bool.or_eq_true, decide_true, decide_false, beq_self_eq_true, Bool.true_or, Bool.or_true, true_and, and_true, lenA, eqv, eqB, eqP, scal, new_box_self, List.getElem?_cons_zero, List.getElem?_cons_succ, key_ii, key_ss, findM, updM, esc_i, esc_s, esc_b, Int.reduceEq, ret1, new_nb, new_set, reduceCtorEq, Bool.xor_true, Bool.xor_false, Bool.false_eq_true, List.all_cons, List.all_nil, noTok, Bool.and_self, Bool.and_true, Bool.true_and, h1, h5, h6, hlt', hk', List.length_map, ofNat_len]
        exact KR_some ov1 rfl (by
          have e1 : ¬ 20000 ≤ largeF v ps := by omega
          have e2 : ((ps.length : Int) > 200) = (200 < ps.length) := by simp; omega
          simp [tupOf, wkZ, wk, largeP, e1, e2])
      · have hk'' : ((k : Int) ≥ 20000) = True := by simp; omega
        simp only [W_seq, W_reg, W_cond, W_blk, W_skip, W_exit, W_ret, W_regD, WO_nil, WO_cons, WO_guard2, wantV_b, bq_tt, bq_ft, bq_tf, bq_ff, Bool.not_true, Bool.not_false, WD_nil, WD_cons, WD_guard2, WS_some, WS_none, KS_n, KS_x, KS_r, KB_n, KB_x, KB_r, KN_ap, KO_ap, KD_ap, KC_nil, KF_n, KF_r, KG_n, KG_r, KL_n, KL_x, KL_r, CP_true, CP_false, evOp, evX, X.ev, optX, put_some, put_none, get_set2, sel_t, sel_f, Nat.reduceBEq, Nat.reduceAdd, Nat.reduceLT, Nat.reduceLeDiff, Nat.reduceEqDiff, reduceIte, if_true, if_false, bi_add, bi_sub, bi_mul, bi_eql, bi_neq, bi_lss, bi_leq, bi_gtr, bi_geq, bs_eql, bs_neq, bs_lss, Am.unOp, ret1, pubL, pub, pubA, initT, wkZ, wk, wants, resOf, tupOf, quiet, AOp.cls, Nat.beq_eq, Bool.or_eq_true, decide_true, decide_false, beq_self_eq_true, Bool.true_or, Bool.or_true, true_and, and_true, lenA, eqv, eqB, eqP, scal, new_box_self, List.getElem?_cons_zero, List.getElem?_cons_succ, key_ii, key_ss, findM, updM, esc_i, esc_s, esc_b, Int.reduceEq, ret1, new_nb, new_set, reduceCtorEq, Bool.xor_true, Bool.xor_false, Bool.false_eq_true, List.all_cons, List.all_nil, noTok, Bool.and_self, Bool.and_true, Bool.true_and, h1, h5, h6, hlt', hk'']
        exact KR_some ov1 rfl (by
          have : 20000 ≤ largeF v ps := by omega
          simp [tupOf, wkZ, wk, largeP, this])
  · simp only [W_seq, W_reg, W_cond, W_blk, W_skip, W_exit, W_ret, W_regD, WO_nil, WO_cons, WO_guard2, wantV_b, bq_tt, bq_ft, bq_tf, bq_ff, Bool.not_true, Bool.not_false, WD_nil, WD_cons, WD_guard2, WS_some, WS_none, KS_n, KS_x, KS_r, KB_n, KB_x, KB_r, KN_ap, KO_ap, KD_ap, KC_nil, KF_n, KF_r, KG_n, KG_r, KL_n, KL_x, KL_r, CP_true, CP_false, evOp, evX, X.ev, optX, put_some, put_none, get_set2, sel_t, sel_f, Nat.reduceBEq, Nat.reduceAdd, Nat.reduceLT, Nat.reduceLeDiff, Nat.reduceEqDiff, reduceIte, if_true, if_false, bi_add, bi_sub, bi_mul, bi_eql, bi_neq, bi_lss, bi_leq, bi_gtr, bi_geq, bs_eql, bs_neq, bs_lss, Am.unOp, ret1, pubL, pub, pubA, initT, wkZ, wk, wants, resOf, tupOf, quiet, AOp.cls, Nat.beq_eq, Bool.or_eq_true, decide_true, decide_false, beq_self_eq_true, Bool.true_or, Bool.or_true, true_and, and_true, lenA, eqv, eqB, eqP, scal, new_box_self, List.getElem?_cons_zero, List.getElem?_cons_succ, key_ii, key_ss, findM, updM, esc_i, esc_s, esc_b, Int.reduceEq, ret1, new_nb, new_set, reduceCtorEq, Bool.xor_true, Bool.xor_false, Bool.false_eq_true, List.all_cons, List.all_nil, noTok, Bool.and_self, Bool.and_true, Bool.true_and]
    refine ⟨0, _, by omega, rfl, rfl, by omega, rfl⟩

theorem beqN_refl : ∀ l : List Nat, beqN l l = true
  | [] => rfl
  | a :: l => by simp [beqN, beqN_refl l]
theorem beqAL_s : ∀ L : List (List Nat), beqAL (L.map .s) (L.map .s) = true
  | [] => rfl
  | l :: L => by simp [beqAL, beqA, beqN_refl, beqAL_s L]
theorem beq_tx (L : List (List Nat)) : beqA (tx L) (tx L) = true := by
  simp only [beqA, beqAL_s]; rfl
theorem beq_i (k : IntKind) (n : Int) : beqA (.i k n) (.i k n) = true := by simp [beqA]

/-- What an append that is told at once leaves. -/
structure Told (s s' : St) : Prop where
  nb : s'.nb = s.nb
  boxes : s'.boxes = s.boxes
  over : ∀ s0 : St, Over s0 s → Over s0 s'
  wf : Wf s → Wf s'
theorem Told.box {s s' : St} (h : Told s s') (id : Nat) : s'.box? id = s.box? id := by simp [St.box?, h.nb, h.boxes]

theorem appQ_ok (L : List (List Nat)) (hL : L.length < 2 ^ 38) (T : Nat) (s : St) (hw : Wf s) :
    ∃ m s', appQA s 1 T (.sl 1 [] .full) (tx L) = some (.sl 1 (L.map .s) m, s') ∧ (m = .full ∨ m = .shut) ∧ Told s s' := by
  cases L with
  | nil => exact ⟨.full, s, rfl, .inl rfl, rfl, rfl, fun _ h => h, fun h => h⟩
  | cons l L =>
    refine ⟨.shut, (s.newTok (0 + (AV.s l :: L.map AV.s).length) (some T)).setTok s.nt ⟨0 + (AV.s l :: L.map AV.s).length, 0, max 0 (AV.s l :: L.map AV.s).length, some T⟩, ?_, .inr rfl, rfl, rfl, fun s0 h => ?_, fun h => (h.newTok _ _).setTok _ _⟩
    · have e1 : appA s 1 T (.sl 1 [] .full) (tx (l :: L)) = some (.sl 1 (AV.s l :: L.map AV.s) (.tok s.nt 0), s.newTok (0 + (AV.s l :: L.map AV.s).length) (some T)) := by
        unfold appA
        simp only [elems, List.map_cons, List.length_nil, List.nil_append, Nat.mul_one]
        rw [if_pos trivial]
        simp only
        rw [if_pos ⟨trivial, by simpa using hL⟩]
      unfold appQA
      rw [e1]
      simp only [pub, newTok_tok?, if_true, List.map_cons]
    · exact Over.setTok (s1 := s.newTok (0 + (AV.s l :: L.map AV.s).length) (some T)) (h.withTok _) h.nt (by show s.nt < s.nt + 1; omega) _

theorem st4_new {s : St} {T : Nat} {a b c d : AV} {id : Nat} (h : s.box? id = some (.cells T [a, b, c, d])) (x y z u : AV) (h1 : ones [x, y, z, u] = true) (h2 : AV.refs.go [x, y, z, u] = false) : stA s 4 (.p id 0) (.agg [x, y, z, u]) = some (s.setBox id (.cells T [x, y, z, u])) := by
  simp [stA, h, AV.cells, over, h1, esc, AV.refs, h2]
theorem over4_0 (a b c d x : AV) : over [a, b, c, d] 0 [x] = some [x, b, c, d] := rfl
theorem over4_1 (a b c d x : AV) : over [a, b, c, d] 1 [x] = some [a, x, c, d] := rfl
theorem over4_2 (a b c d x : AV) : over [a, b, c, d] 2 [x] = some [a, b, x, d] := rfl
theorem over4_3 (a b c d x : AV) : over [a, b, c, d] 3 [x] = some [a, b, c, x] := rfl
theorem refs_sl {L : List (List Nat)} {m : Cap} (hm : m = .full ∨ m = .shut) : (AV.sl 1 (L.map .s) m).refs = false := by
  rcases hm with rfl | rfl <;> simp [AV.refs, refs_s]
theorem wk_sl {L : List (List Nat)} {m : Cap} (hm : m = .full ∨ m = .shut) : wk (.sl 1 .id) (.sl 1 (L.map .s) m) = tx L := by
  rcases hm with rfl | rfl <;> simp [wk, wkM_id]

theorem given_ok (v : VV) (h1 : v.names.length < 2 ^ 38) (h2 : v.values.length < 2 ^ 38) (h3 : v.args.length < 2 ^ 38) (s : St) (hw : Wf s) : (lim prog).call f_touchstonelaw05_given [v.av] s = some (v.av, s) := by
  refine fn_W p_touchstonelaw05_given rfl rfl ?_
  obtain ⟨s1, hs1⟩ : ∃ s1, (s.enter.new (.cells 24 v.cells)).new (.cells 28 [.nsl, .nsl, .nsl, .i .i64 0]) = s1 := ⟨_, rfl⟩
  have w1 : Wf s1 := by rw [← hs1]; exact (hw.enter.new _).new _
  have ov1 : Over s s1 := by rw [← hs1]; exact ((Over.enter s).new _).new _
  have nb1 : s1.nb = s.enter.nb + 1 + 1 := by rw [← hs1]; rfl
  have b1 : s1.box? s.enter.nb = some (.cells 24 v.cells) := by
    rw [← hs1, new_box_lt (by show s.nb < s.nb + 1; omega)]; exact new_box_self _ _
  have b2 : s1.box? (s.enter.nb + 1) = some (.cells 28 [.nsl, .nsl, .nsl, .i .i64 0]) := by
    rw [← hs1]; exact new_box_self (s.enter.new _) _
  obtain ⟨m1, s2, e1, k1, t1⟩ := appQ_ok v.names h1 9 s1 w1
  obtain ⟨m2, s3, e2, k2, t2⟩ := appQ_ok v.values h2 9 s2 (t1.wf w1)
  obtain ⟨m3, s4, e3, k3, t3⟩ := appQ_ok v.args h3 9 s3 (t2.wf (t1.wf w1))
  have b1_2 : s2.box? s.enter.nb = some (.cells 24 v.cells) := by rw [t1.box]; exact b1
  have b1_3 : s3.box? s.enter.nb = some (.cells 24 v.cells) := by rw [t2.box]; exact b1_2
  have b1_4 : s4.box? s.enter.nb = some (.cells 24 v.cells) := by rw [t3.box]; exact b1_3
  have b2_4 : s4.box? (s.enter.nb + 1) = some (.cells 28 [.nsl, .nsl, .nsl, .i .i64 0]) := by rw [t3.box, t2.box, t1.box]; exact b2
  have l0_1 := ld_box (off := 0) (v := tx v.names) b1 rfl
  have l1_1 := ld_box (off := 1) (v := tx v.values) b1 rfl
  have l2_1 := ld_box (off := 2) (v := tx v.args) b1 rfl
  have l3_1 := ld_box (off := 3) (v := .i .i64 v.status) b1 rfl
  have l0_2 := ld_box (off := 0) (v := tx v.names) b1_2 rfl
  have l1_2 := ld_box (off := 1) (v := tx v.values) b1_2 rfl
  have l2_2 := ld_box (off := 2) (v := tx v.args) b1_2 rfl
  have l3_2 := ld_box (off := 3) (v := .i .i64 v.status) b1_2 rfl
  have l0_3 := ld_box (off := 0) (v := tx v.names) b1_3 rfl
  have l1_3 := ld_box (off := 1) (v := tx v.values) b1_3 rfl
  have l2_3 := ld_box (off := 2) (v := tx v.args) b1_3 rfl
  have l3_3 := ld_box (off := 3) (v := .i .i64 v.status) b1_3 rfl
  have l2_4 := ld_box (off := 2) (v := tx v.args) b1_4 rfl
  have l3_4 := ld_box (off := 3) (v := .i .i64 v.status) b1_4 rfl
  have hal : allLen 1 [] = true := rfl
  have hl1 : ∀ a : AV, [a].length = 1 := fun _ => rfl
  have hp : ∀ (L : List (List Nat)) m (q : St), (m = .full ∨ m = .shut) → pub q (.sl 1 (L.map .s) m) = some (.sl 1 (L.map .s) m, q) := fun L m q h => by rcases h with rfl | rfl <;> rfl
  have hn : ∀ (L : List (List Nat)) m, (m = .full ∨ m = .shut) → noTok (.sl 1 (L.map .s) m) = true := fun L m h => by rcases h with rfl | rfl <;> rfl
  have hcl : ∀ (L : List (List Nat)) m, (AV.sl 1 (L.map .s) m).cells = [.sl 1 (L.map .s) m] := fun _ _ => rfl
  have est := st4_new b2_4 (.sl 1 (v.names.map .s) m1) (.sl 1 (v.values.map .s) m2) (.sl 1 (v.args.map .s) m3) (.i .i64 v.status) rfl (by
    have e1 := refs_sl (L := v.names) k1
    have e2 := refs_sl (L := v.values) k2
    have e3 := refs_sl (L := v.args) k3
    simp [AV.refs.go, e1, e2, e3, AV.refs])
  have b2_5 : (s4.setBox (s.enter.nb + 1) (.cells 28 [.sl 1 (v.names.map .s) m1, .sl 1 (v.values.map .s) m2, .sl 1 (v.args.map .s) m3, .i .i64 v.status])).box? (s.enter.nb + 1) = some (.cells 28 [.sl 1 (v.names.map .s) m1, .sl 1 (v.values.map .s) m2, .sl 1 (v.args.map .s) m3, .i .i64 v.status]) := by
    rw [setBox_box? (t3.wf (t2.wf (t1.wf w1))).b (by rw [t3.nb, t2.nb, t1.nb, nb1]; omega), if_pos rfl]
  have la := ld_all4 b2_5
  have ov5 : Over s (s4.setBox (s.enter.nb + 1) (.cells 28 [.sl 1 (v.names.map .s) m1, .sl 1 (v.values.map .s) m2, .sl 1 (v.args.map .s) m3, .i .i64 v.status])) :=
    Over.setBox (t3.over _ (t2.over _ (t1.over _ ov1))) (by show s.nb ≤ s.nb + 1; omega) (by rw [t3.nb, t2.nb, t1.nb, nb1]; omega) _
  have hlast : tupOf (wkZ [CT.agg [.sl 1 .id, .sl 1 .id, .sl 1 .id, .id]] [AV.agg [.sl 1 (v.names.map .s) m1, .sl 1 (v.values.map .s) m2, .sl 1 (v.args.map .s) m3, .i .i64 v.status]]) = v.av := by
    have e1 := wk_sl (L := v.names) k1
    have e2 := wk_sl (L := v.values) k2
    have e3 := wk_sl (L := v.args) k3
    have h : tupOf (wkZ [CT.agg [.sl 1 .id, .sl 1 .id, .sl 1 .id, .id]] [AV.agg [.sl 1 (v.names.map .s) m1, .sl 1 (v.values.map .s) m2, .sl 1 (v.args.map .s) m3, .i .i64 v.status]]) =
      AV.agg [wk (.sl 1 .id) (.sl 1 (v.names.map .s) m1), wk (.sl 1 .id) (.sl 1 (v.values.map .s) m2), wk (.sl 1 .id) (.sl 1 (v.args.map .s) m3), .i .i64 v.status] := by
      simp only [wkZ, tupOf]
      rw [wk]
      simp only [wkZ]
      rw [show wk .id (.i .i64 v.status) = .i .i64 v.status by rw [wk]]
    rw [h, e1, e2, e3]
  have href : (tupOf [AV.agg [.sl 1 (v.names.map .s) m1, .sl 1 (v.values.map .s) m2, .sl 1 (v.args.map .s) m3, .i .i64 v.status]]).refs = false := by
    have e1 := refs_sl (L := v.names) k1
    have e2 := refs_sl (L := v.values) k2
    have e3 := refs_sl (L := v.args) k3
    simp [tupOf, AV.refs, AV.refs.go, e1, e2, e3]
  rcases k1 with rfl | rfl <;> rcases k2 with rfl | rfl <;> rcases k3 with rfl | rfl
  all_goals
    simp only [c_touchstonelaw05_given, W_seq, W_reg, W_cond, W_blk, W_skip, W_exit, W_ret, W_regD, WO_nil, WO_cons, WO_guard2, wantV_b, bq_tt, bq_ft, bq_tf, bq_ff, Bool.not_true, Bool.not_false, WD_nil, WD_cons, WD_guard2, WS_some, WS_none, KS_n, KS_x, KS_r, KB_n, KB_x, KB_r, KN_ap, KO_ap, KD_ap, KC_nil, KF_n, KF_r, KG_n, KG_r, KL_n, KL_x, KL_r, CP_true, CP_false, evOp, evX, X.ev, optX, put_some, put_none, get_set2, sel_t, sel_f, Nat.reduceBEq, Nat.reduceAdd, Nat.reduceLT, Nat.reduceLeDiff, Nat.reduceEqDiff, reduceIte, if_true, if_false, bi_add, bi_sub, bi_mul, bi_eql, bi_neq, bi_lss, bi_leq, bi_gtr, bi_geq, bs_eql, bs_neq, bs_lss, Am.unOp, ret1, pubL, pub, pubA, initT, wkZ, wk, wants, resOf, tupOf, quiet, AOp.cls, Nat.beq_eq, Bool.or_eq_true, decide_true, decide_false, beq_self_eq_true, Bool.true_or, Bool.or_true, true_and, and_true, lenA, eqv, eqB, eqP, scal, new_box_self, List.getElem?_cons_zero, List.getElem?_cons_succ, key_ii, key_ss, findM, updM, esc_i, esc_s, esc_b, Int.reduceEq, ret1, new_nb, new_set, reduceCtorEq, Bool.xor_true, Bool.xor_false, Bool.false_eq_true, List.all_cons, List.all_nil, noTok, Bool.and_self, Bool.and_true, Bool.true_and, cells_agg, len4, Nat.zero_add, hs1, hal, l0_1, l1_1, l2_1, l3_1, l0_2, l1_2, l2_2, l3_2, l0_3, l1_3, l2_3, l3_3, l2_4, l3_4, e1, e2, e3, evParts, hcl, hl1, cells_i, over4_0, over4_1, over4_2, over4_3, est, KC_ap, frzL, frz, la]
    refine ⟨?_, KR_some ov5 href hlast⟩
    simp only [chkD, sameAt, List.range', List.nil_append, List.cons_append, Nat.reduceSub, Nat.reduceAdd, List.all_cons, List.all_nil, List.getElem?_cons_zero, List.getElem?_cons_succ, W_seq, W_reg, W_cond, W_blk, W_skip, W_exit, W_ret, W_regD, WO_nil, WO_cons, WO_guard2, wantV_b, bq_tt, bq_ft, bq_tf, bq_ff, Bool.not_true, Bool.not_false, WD_nil, WD_cons, WD_guard2, WS_some, WS_none, KS_n, KS_x, KS_r, KB_n, KB_x, KB_r, KN_ap, KO_ap, KD_ap, KC_nil, KF_n, KF_r, KG_n, KG_r, KL_n, KL_x, KL_r, CP_true, CP_false, evOp, evX, X.ev, optX, put_some, put_none, get_set2, sel_t, sel_f, Nat.reduceBEq, Nat.reduceAdd, Nat.reduceLT, Nat.reduceLeDiff, Nat.reduceEqDiff, reduceIte, if_true, if_false, bi_add, bi_sub, bi_mul, bi_eql, bi_neq, bi_lss, bi_leq, bi_gtr, bi_geq, bs_eql, bs_neq, bs_lss, Am.unOp, ret1, pubL, pub, pubA, initT, wkZ, wk, wants, resOf, tupOf, quiet, AOp.cls, Nat.beq_eq, Bool.or_eq_true, decide_true, decide_false, beq_self_eq_true, Bool.true_or, Bool.or_true, true_and, and_true, lenA, eqv, eqB, eqP, scal, new_box_self, List.getElem?_cons_zero, List.getElem?_cons_succ, key_ii, key_ss, findM, updM, esc_i, esc_s, esc_b, Int.reduceEq, ret1, new_nb, new_set, reduceCtorEq, Bool.xor_true, Bool.xor_false, Bool.false_eq_true, List.all_cons, List.all_nil, noTok, Bool.and_self, Bool.and_true, Bool.true_and, l0_1, l1_1, l2_1, l3_1, l0_2, l1_2, l2_2, l3_2, l0_3, l1_3, l2_3, l3_3, l2_4, l3_4, beq_tx, beq_i]
end Go.Proofs.YtfpoihibfajhlaaDoor
