/-
  Variables, parts and fields as plain lists.
-/
import Derived.Test.YtfpoihibfajhlaaDoorAmRows
import Derived.Test.YtfpoihibfajhlaaDoorAmRead
import Derived.Test.YtfpoihibfajhlaaDoorFns
import Derived.Test.YtfpoihibfajhlaaDoorAmWp
import Derived.Test.YtfpoihibfajhlaaDoorAmItoa
set_option linter.all false
set_option linter.unusedVariables false
set_option linter.unusedSimpArgs false
set_option linter.unusedSectionVars false
set_option maxRecDepth 100000
set_option linter.unusedSimpArgs false
namespace Go.Proofs.YtfpoihibfajhlaaDoor
open Go.Proofs.YtfpoihibfajhlaaDoor.Am

/-- A row of texts, as it is told at a call's border. -/
abbrev tx (L : List (List Nat)) : AV := .ws false 1 (L.map .s)

/-- Where a text stands first. -/
def idxL (l : List Nat) (L : List (List Nat)) : Int := match L.findIdx? (· == l) with
  | some i => (i : Int)
  | none => -1

section value
variable (it : Int → List Nat)
/-- Variables. -/
structure VV where
  names : List (List Nat)
  values : List (List Nat)
  args : List (List Nat)
  status : Int
structure VV.Ok (v : VV) : Prop where
  n : v.names.length < 2 ^ 63
  w : v.values.length < 2 ^ 63
  a : v.args.length < 2 ^ 63
  s0 : -9223372036854775808 ≤ v.status
  s1 : v.status ≤ 9223372036854775807
abbrev VV.cells (v : VV) : List AV := [tx v.names, tx v.values, tx v.args, .i .i64 v.status]
abbrev VV.av (v : VV) : AV := .agg v.cells

def valueL (v : VV) (name : List Nat) : List Nat :=
  if name = [35] then it v.args.length else
  if name = [63] then it v.status else
  match name with
  | [c] => if 49 ≤ c ∧ c ≤ 57 then v.args.getD (c - 49) [] else (if 0 ≤ idxL name v.names ∧ idxL name v.names < v.values.length then v.values.getD (idxL name v.names).toNat [] else [])
  | _ => if 0 ≤ idxL name v.names ∧ idxL name v.names < v.values.length then v.values.getD (idxL name v.names).toNat [] else []

def blankN (c : Nat) : Bool := decide (c = 32) || (decide (c = 9) || decide (c = 10))
/-- One byte of a value that is split. -/
def spl (x : List (List Nat) × List Nat × Bool) (c : Nat) : List (List Nat) × List Nat × Bool :=
  if blankN c then (if x.2.2 then x.1 ++ [x.2.1] else x.1, [], false) else (x.1, x.2.1 ++ [c], true)

structure PP where
  var : Bool
  text : List Nat
  quoted : Bool
abbrev PP.cells (p : PP) : List AV := [.b p.var, .s p.text, .b p.quoted]
def partL (v : VV) (p : PP) : List Nat := if p.var then valueL it v p.text else p.text

/-- One part. -/
def stepF (v : VV) (x : List (List Nat) × List Nat × Bool) (p : PP) : List (List Nat) × List Nat × Bool :=
  if (p.var && !p.quoted) = true then (partL it v p).foldl spl x else if (p.quoted || decide (partL it v p ≠ [])) = true then (x.1, x.2.1 ++ partL it v p, true) else x
def fieldsL (v : VV) (ps : List PP) : List (List Nat) :=
  let x := ps.foldl (stepF it v) ([], [], false)
  if x.2.2 then x.1 ++ [x.2.1] else x.1
def szF (v : VV) (ps : List PP) : Nat := (ps.map fun p => (partL it v p).length + 1).sum

end value
end Go.Proofs.YtfpoihibfajhlaaDoor

/-
  What the functions of expand come to on the abstract machine.
-/
set_option maxRecDepth 100000
set_option linter.unusedSimpArgs false
namespace Go.Proofs.YtfpoihibfajhlaaDoor
open Go.Proofs.YtfpoihibfajhlaaDoor.Am

theorem natOf_nat (k : IntKind) (i : Nat) : natOf (.i k (i : Int)) = some i := by simp [natOf]
theorem tx_get {L : List (List Nat)} {i : Nat} (h : i < L.length) : (L.map AV.s)[i]? = some (.s L[i]) := by simp [h]
theorem ldA_1 (s : St) (v : AV) : ldA s false 1 (.ep [v] 0 .shut) = some v := rfl
theorem cells_s (l : List Nat) : (AV.s l).cells = [.s l] := rfl
theorem wrap_nat {i : Nat} (h : i < 2 ^ 63) : IntKind.i64.wrap (i : Int) = i := by
  have e1 : ((i : Int) % 2 ^ 64) = i := by omega
  simp only [IntKind.wrap, IntKind.signed, IntKind.bits, e1]
  rw [if_neg]
  simp; omega
theorem wrap_succ {i : Nat} (h : i + 1 < 2 ^ 63) : IntKind.i64.wrap ((i : Int) + 1) = ((i + 1 : Nat) : Int) := by
  rw [← wrap_nat h]; simp
theorem ofNat_len (n : Nat) : Int.ofNat n = (n : Int) := rfl

theorem idxL_hit {l : List Nat} {L : List (List Nat)} {i : Nat} (h : i < L.length) (he : L[i] = l) (hn : ∀ (j : Nat) (hj : j < i), L[j]'(by omega) ≠ l) : idxL l L = i := by
  have : L.findIdx? (· == l) = some i := by
    rw [List.findIdx?_eq_some_iff_getElem]
    exact ⟨h, by simpa using he, fun j hj => by simpa using hn j hj⟩
  simp [idxL, this]
theorem idxL_miss {l : List Nat} {L : List (List Nat)} (hn : ∀ (j : Nat) (hj : j < L.length), L[j] ≠ l) : idxL l L = -1 := by
  have : L.findIdx? (· == l) = none := by
    rw [List.findIdx?_eq_none_iff]
    intro x hx
    obtain ⟨j, hj, rfl⟩ := List.mem_iff_getElem.1 hx
    simpa using hn j hj
  simp [idxL, this]

theorem index_ok (L : List (List Nat)) (l : List Nat) (hL : L.length < 2 ^ 63) (s : St) : (lim prog).call f_slices_Index_string_string [tx L, .s l] s = some (.i .i64 (idxL l L), s) := by
  refine fn_W p_slices_Index_string_string rfl rfl ?_
  simp only [c_slices_Index_string_string, W_seq, W_reg, W_cond, W_blk, W_skip, W_exit, W_ret, W_regD, WO_nil, WO_cons, WO_guard2, wantV_b, bq_tt, bq_ft, bq_tf, bq_ff, Bool.not_true, Bool.not_false, WD_nil, WD_cons, WD_guard2, WS_some, WS_none, KS_n, KS_x, KS_r, KB_n, KB_x, KB_r, KN_ap, KO_ap, KD_ap, KC_nil, KF_n, KF_r, KG_n, KG_r, KL_n, KL_x, KL_r, CP_true, CP_false, evOp, evX, X.ev, optX, put_some, put_none, get_set2, sel_t, sel_f, Nat.reduceBEq, Nat.reduceAdd, Nat.reduceLT, Nat.reduceLeDiff, Nat.reduceEqDiff, reduceIte, if_true, if_false, bi_add, bi_sub, bi_mul, bi_eql, bi_neq, bi_lss, bi_leq, bi_gtr, bi_geq, bs_eql, bs_neq, bs_lss, Am.unOp, ret1, pubL, pub, pubA, initT, wkZ, wk, wants, resOf, tupOf, quiet, AOp.cls, Nat.beq_eq, Bool.or_eq_true, decide_true, decide_false, beq_self_eq_true, Bool.true_or, Bool.or_true, true_and, and_true, lenA, eqv, eqB, eqP, scal, new_box_self, List.getElem?_cons_zero, List.getElem?_cons_succ, key_ii, key_ss, findM, updM, esc_i, esc_s, esc_b, Int.reduceEq, ret1, new_nb, new_set, reduceCtorEq, Bool.xor_true, Bool.xor_false, Bool.false_eq_true, List.all_cons, List.all_nil, noTok, Bool.and_self, Bool.and_true, Bool.true_and, List.length_map, ofNat_len]
  refine W_loop (fun n e s1 => s1 = s.enter ∧ e.get 0 = tx L ∧ e.get 1 = .s l ∧ e.get 7 = .i .i64 L.length ∧ ∃ i : Nat, i + n = L.length ∧ e.get 8 = .i .i64 i ∧ ∀ (j : Nat) (hj : j < i) (hL : j < L.length), L[j] ≠ l) ?_ L.length _ _ ?_
  · rintro n e s1 ⟨rfl, h0, h1, h7, i, hi, h8, hn⟩
    simp only [W_seq, W_reg, W_cond, W_blk, W_skip, W_exit, W_ret, W_regD, WO_nil, WO_cons, WO_guard2, wantV_b, bq_tt, bq_ft, bq_tf, bq_ff, Bool.not_true, Bool.not_false, WD_nil, WD_cons, WD_guard2, WS_some, WS_none, KS_n, KS_x, KS_r, KB_n, KB_x, KB_r, KN_ap, KO_ap, KD_ap, KC_nil, KF_n, KF_r, KG_n, KG_r, KL_n, KL_x, KL_r, CP_true, CP_false, evOp, evX, X.ev, optX, put_some, put_none, get_set2, sel_t, sel_f, Nat.reduceBEq, Nat.reduceAdd, Nat.reduceLT, Nat.reduceLeDiff, Nat.reduceEqDiff, reduceIte, if_true, if_false, bi_add, bi_sub, bi_mul, bi_eql, bi_neq, bi_lss, bi_leq, bi_gtr, bi_geq, bs_eql, bs_neq, bs_lss, Am.unOp, ret1, pubL, pub, pubA, initT, wkZ, wk, wants, resOf, tupOf, quiet, AOp.cls, Nat.beq_eq, Bool.or_eq_true, decide_true, decide_false, beq_self_eq_true, Bool.true_or, Bool.or_true, true_and, and_true, lenA, eqv, eqB, eqP, scal, new_box_self, List.getElem?_cons_zero, List.getElem?_cons_succ, key_ii, key_ss, findM, updM, esc_i, esc_s, esc_b, Int.reduceEq, ret1, new_nb, new_set, reduceCtorEq, Bool.xor_true, Bool.xor_false, Bool.false_eq_true, List.all_cons, List.all_nil, noTok, Bool.and_self, Bool.and_true, Bool.true_and, h0, h1, h7, h8, List.length_map, ofNat_len]
    refine CP_dec (fun hlt => ?_) (fun hge => ?_)
    · have hlt : i < L.length := by omega
      simp only [W_seq, W_reg, W_cond, W_blk, W_skip, W_exit, W_ret, W_regD, WO_nil, WO_cons, WO_guard2, wantV_b, bq_tt, bq_ft, bq_tf, bq_ff, Bool.not_true, Bool.not_false, WD_nil, WD_cons, WD_guard2, WS_some, WS_none, KS_n, KS_x, KS_r, KB_n, KB_x, KB_r, KN_ap, KO_ap, KD_ap, KC_nil, KF_n, KF_r, KG_n, KG_r, KL_n, KL_x, KL_r, CP_true, CP_false, evOp, evX, X.ev, optX, put_some, put_none, get_set2, sel_t, sel_f, Nat.reduceBEq, Nat.reduceAdd, Nat.reduceLT, Nat.reduceLeDiff, Nat.reduceEqDiff, reduceIte, if_true, if_false, bi_add, bi_sub, bi_mul, bi_eql, bi_neq, bi_lss, bi_leq, bi_gtr, bi_geq, bs_eql, bs_neq, bs_lss, Am.unOp, ret1, pubL, pub, pubA, initT, wkZ, wk, wants, resOf, tupOf, quiet, AOp.cls, Nat.beq_eq, Bool.or_eq_true, decide_true, decide_false, beq_self_eq_true, Bool.true_or, Bool.or_true, true_and, and_true, lenA, eqv, eqB, eqP, scal, new_box_self, List.getElem?_cons_zero, List.getElem?_cons_succ, key_ii, key_ss, findM, updM, esc_i, esc_s, esc_b, Int.reduceEq, ret1, new_nb, new_set, reduceCtorEq, Bool.xor_true, Bool.xor_false, Bool.false_eq_true, List.all_cons, List.all_nil, noTok, Bool.and_self, Bool.and_true, Bool.true_and, h0, h1, h7, h8, natOf_nat, tx_get hlt, cells_s, ldA_1, wrap_succ (show i + 1 < 2 ^ 63 by omega)]
      refine CP_dec (fun h5 => ?_) (fun h5 => ?_)
      · exact KR_some (Over.enter s) rfl (by simp only [tupOf, wkZ, wk, idxL_hit hlt h5.symm (fun j hj => hn j hj (by omega))])
      · refine ⟨n - 1, by omega, i + 1, by omega, rfl, fun j hj hjL => ?_⟩
        by_cases hji : j = i
        · subst hji; exact fun hh => h5 hh.symm
        · exact hn j (by omega) hjL
    · exact KR_some (Over.enter s) rfl (by simp only [tupOf, wkZ, wk, idxL_miss (fun j hj => hn j (by omega) hj)])
  · simp only [W_seq, W_reg, W_cond, W_blk, W_skip, W_exit, W_ret, W_regD, WO_nil, WO_cons, WO_guard2, wantV_b, bq_tt, bq_ft, bq_tf, bq_ff, Bool.not_true, Bool.not_false, WD_nil, WD_cons, WD_guard2, WS_some, WS_none, KS_n, KS_x, KS_r, KB_n, KB_x, KB_r, KN_ap, KO_ap, KD_ap, KC_nil, KF_n, KF_r, KG_n, KG_r, KL_n, KL_x, KL_r, CP_true, CP_false, evOp, evX, X.ev, optX, put_some, put_none, get_set2, sel_t, sel_f, Nat.reduceBEq, Nat.reduceAdd, Nat.reduceLT, Nat.reduceLeDiff, Nat.reduceEqDiff, reduceIte, if_true, if_false, bi_add, bi_sub, bi_mul, bi_eql, bi_neq, bi_lss, bi_leq, bi_gtr, bi_geq, bs_eql, bs_neq, bs_lss, Am.unOp, ret1, pubL, pub, pubA, initT, wkZ, wk, wants, resOf, tupOf, quiet, AOp.cls, Nat.beq_eq, Bool.or_eq_true, decide_true, decide_false, beq_self_eq_true, Bool.true_or, Bool.or_true, true_and, and_true, lenA, eqv, eqB, eqP, scal, new_box_self, List.getElem?_cons_zero, List.getElem?_cons_succ, key_ii, key_ss, findM, updM, esc_i, esc_s, esc_b, Int.reduceEq, ret1, new_nb, new_set, reduceCtorEq, Bool.xor_true, Bool.xor_false, Bool.false_eq_true, List.all_cons, List.all_nil, noTok, Bool.and_self, Bool.and_true, Bool.true_and]
    exact ⟨0, by omega, rfl, fun j hj => by omega⟩

section value
variable (it : Int → List Nat)

/-- What Itoa tells. -/
def ItoaOk : Prop := ∀ (n : Int) (s : St), -9223372036854775808 ≤ n → n ≤ 9223372036854775807 → (lim prog).call f_strconv_Itoa [.i .i64 n] s = some (.s (it n), s)

theorem cells_agg (l : List AV) : (AV.agg l).cells = l := rfl
theorem len4 (a b c d : AV) : [a, b, c, d].length = 4 := rfl
theorem ld4 {s : St} {T : Nat} {a b c d : AV} : ldA (s.new (.cells T [a, b, c, d])) false 1 (.p s.nb 0) = some a ∧ ldA (s.new (.cells T [a, b, c, d])) false 1 (.p s.nb 1) = some b ∧
    ldA (s.new (.cells T [a, b, c, d])) false 1 (.p s.nb 2) = some c ∧ ldA (s.new (.cells T [a, b, c, d])) false 1 (.p s.nb 3) = some d := by
  simp [ldA, St.cells?, new_box_self, cut, scal]
theorem ld4_0 (s : St) (T : Nat) (a b c d : AV) : ldA (s.new (.cells T [a, b, c, d])) false 1 (.p s.nb 0) = some a := ld4.1
theorem ld4_1 (s : St) (T : Nat) (a b c d : AV) : ldA (s.new (.cells T [a, b, c, d])) false 1 (.p s.nb 1) = some b := ld4.2.1
theorem ld4_2 (s : St) (T : Nat) (a b c d : AV) : ldA (s.new (.cells T [a, b, c, d])) false 1 (.p s.nb 2) = some c := ld4.2.2.1
theorem ld4_3 (s : St) (T : Nat) (a b c d : AV) : ldA (s.new (.cells T [a, b, c, d])) false 1 (.p s.nb 3) = some d := ld4.2.2.2

theorem natOf_int {k : IntKind} {n : Int} (h : 0 ≤ n) : natOf (.i k n) = some n.toNat := by simp [natOf, h]

theorem value_ok (hI : ItoaOk it) (v : VV) (hv : v.Ok) (name : List Nat) (hn : Txt name) (s : St) : (lim prog).call f_expand_Value [v.av, .s name] s = some (.s (valueL it v name), s) := by
  refine fn_W p_expand_Value rfl rfl ?_
  simp only [c_expand_Value, W_seq, W_reg, W_cond, W_blk, W_skip, W_exit, W_ret, W_regD, WO_nil, WO_cons, WO_guard2, wantV_b, bq_tt, bq_ft, bq_tf, bq_ff, Bool.not_true, Bool.not_false, WD_nil, WD_cons, WD_guard2, WS_some, WS_none, KS_n, KS_x, KS_r, KB_n, KB_x, KB_r, KN_ap, KO_ap, KD_ap, KC_nil, KF_n, KF_r, KG_n, KG_r, KL_n, KL_x, KL_r, CP_true, CP_false, evOp, evX, X.ev, optX, put_some, put_none, get_set2, sel_t, sel_f, Nat.reduceBEq, Nat.reduceAdd, Nat.reduceLT, Nat.reduceLeDiff, Nat.reduceEqDiff, reduceIte, if_true, if_false, bi_add, bi_sub, bi_mul, bi_eql, bi_neq, bi_lss, bi_leq, bi_gtr, bi_geq, bs_eql, bs_neq, bs_lss, Am.unOp, ret1, pubL, pub, pubA, initT, wkZ, wk, wants, resOf, tupOf, quiet, AOp.cls, Nat.beq_eq, Bool.or_eq_true, decide_true, decide_false, beq_self_eq_true, Bool.true_or, Bool.or_true, true_and, and_true, lenA, eqv, eqB, eqP, scal, new_box_self, List.getElem?_cons_zero, List.getElem?_cons_succ, key_ii, key_ss, findM, updM, esc_i, esc_s, esc_b, Int.reduceEq, ret1, new_nb, new_set, reduceCtorEq, Bool.xor_true, Bool.xor_false, Bool.false_eq_true, List.all_cons, List.all_nil, noTok, Bool.and_self, Bool.and_true, Bool.true_and, cells_agg, len4, ld4_0, ld4_1, ld4_2, ld4_3, List.length_map, ofNat_len]
  refine CP_dec (fun h => ?_) (fun h1 => ?_)
  · subst h
    rw [hI _ _ (by omega) (by have := hv.a; omega)]
    simp only [W_seq, W_reg, W_cond, W_blk, W_skip, W_exit, W_ret, W_regD, WO_nil, WO_cons, WO_guard2, wantV_b, bq_tt, bq_ft, bq_tf, bq_ff, Bool.not_true, Bool.not_false, WD_nil, WD_cons, WD_guard2, WS_some, WS_none, KS_n, KS_x, KS_r, KB_n, KB_x, KB_r, KN_ap, KO_ap, KD_ap, KC_nil, KF_n, KF_r, KG_n, KG_r, KL_n, KL_x, KL_r, CP_true, CP_false, evOp, evX, X.ev, optX, put_some, put_none, get_set2, sel_t, sel_f, Nat.reduceBEq, Nat.reduceAdd, Nat.reduceLT, Nat.reduceLeDiff, Nat.reduceEqDiff, reduceIte, if_true, if_false, bi_add, bi_sub, bi_mul, bi_eql, bi_neq, bi_lss, bi_leq, bi_gtr, bi_geq, bs_eql, bs_neq, bs_lss, Am.unOp, ret1, pubL, pub, pubA, initT, wkZ, wk, wants, resOf, tupOf, quiet, AOp.cls, Nat.beq_eq, Bool.or_eq_true, decide_true, decide_false, beq_self_eq_true, Bool.true_or, Bool.or_true, true_and, and_true, lenA, eqv, eqB, eqP, scal, new_box_self, List.getElem?_cons_zero, List.getElem?_cons_succ, key_ii, key_ss, findM, updM, esc_i, esc_s, esc_b, Int.reduceEq, ret1, new_nb, new_set, reduceCtorEq, Bool.xor_true, Bool.xor_false, Bool.false_eq_true, List.all_cons, List.all_nil, noTok, Bool.and_self, Bool.and_true, Bool.true_and]
    exact KR_some ((Over.enter s).new _) rfl (by simp [tupOf, wkZ, wk, valueL])
  refine CP_dec (fun h => ?_) (fun h2 => ?_)
  · subst h
    rw [hI _ _ hv.s0 hv.s1]
    simp only [W_seq, W_reg, W_cond, W_blk, W_skip, W_exit, W_ret, W_regD, WO_nil, WO_cons, WO_guard2, wantV_b, bq_tt, bq_ft, bq_tf, bq_ff, Bool.not_true, Bool.not_false, WD_nil, WD_cons, WD_guard2, WS_some, WS_none, KS_n, KS_x, KS_r, KB_n, KB_x, KB_r, KN_ap, KO_ap, KD_ap, KC_nil, KF_n, KF_r, KG_n, KG_r, KL_n, KL_x, KL_r, CP_true, CP_false, evOp, evX, X.ev, optX, put_some, put_none, get_set2, sel_t, sel_f, Nat.reduceBEq, Nat.reduceAdd, Nat.reduceLT, Nat.reduceLeDiff, Nat.reduceEqDiff, reduceIte, if_true, if_false, bi_add, bi_sub, bi_mul, bi_eql, bi_neq, bi_lss, bi_leq, bi_gtr, bi_geq, bs_eql, bs_neq, bs_lss, Am.unOp, ret1, pubL, pub, pubA, initT, wkZ, wk, wants, resOf, tupOf, quiet, AOp.cls, Nat.beq_eq, Bool.or_eq_true, decide_true, decide_false, beq_self_eq_true, Bool.true_or, Bool.or_true, true_and, and_true, lenA, eqv, eqB, eqP, scal, new_box_self, List.getElem?_cons_zero, List.getElem?_cons_succ, key_ii, key_ss, findM, updM, esc_i, esc_s, esc_b, Int.reduceEq, ret1, new_nb, new_set, reduceCtorEq, Bool.xor_true, Bool.xor_false, Bool.false_eq_true, List.all_cons, List.all_nil, noTok, Bool.and_self, Bool.and_true, Bool.true_and]
    exact KR_some ((Over.enter s).new _) rfl (by simp [tupOf, wkZ, wk, valueL])
  by_cases hl : name.length = 1
  · obtain ⟨c, hnc⟩ : ∃ c, name = [c] := List.length_eq_one_iff.1 hl
    have hn0 : natOf (.i .i64 0) = some 0 := rfl
    have h11 : (((1 : Nat) : Int) = 1) = True := by simp
    by_cases hd : 49 ≤ c ∧ c ≤ 57
    · subst hnc
      obtain ⟨ha, hb⟩ := hd
      have ha' : ((49 : Int) ≤ c) = True := by simp; omega
      have hb' : ((c : Int) ≤ 57) = True := by simp; omega
      have hsub : IntKind.u8.wrap ((c : Int) - 49) = ((c - 49 : Nat) : Int) := by
        have e1 : (((c : Int) - 49) % 2 ^ 8) = ((c - 49 : Nat) : Int) := by omega
        simp only [IntKind.wrap, IntKind.signed, IntKind.bits, e1]
        rfl
      have hval : valueL it v [c] = v.args.getD (c - 49) [] := by
        unfold valueL
        rw [if_neg h1, if_neg h2]
        simp only [if_pos (⟨ha, hb⟩ : 49 ≤ c ∧ c ≤ 57)]
      simp only [W_seq, W_reg, W_cond, W_blk, W_skip, W_exit, W_ret, W_regD, WO_nil, WO_cons, WO_guard2, wantV_b, bq_tt, bq_ft, bq_tf, bq_ff, Bool.not_true, Bool.not_false, WD_nil, WD_cons, WD_guard2, WS_some, WS_none, KS_n, KS_x, KS_r, KB_n, KB_x, KB_r, KN_ap, KO_ap, KD_ap, KC_nil, KF_n, KF_r, KG_n, KG_r, KL_n, KL_x, KL_r, CP_true, CP_false, evOp, evX, X.ev, optX, put_some, put_none, get_set2, sel_t, sel_f, Nat.reduceBEq, Nat.reduceAdd, Nat.reduceLT, Nat.reduceLeDiff, Nat.reduceEqDiff, reduceIte, if_true, if_false, bi_add, bi_sub, bi_mul, bi_eql, bi_neq, bi_lss, bi_leq, bi_gtr, bi_geq, bs_eql, bs_neq, bs_lss, Am.unOp, ret1, pubL, pub, pubA, initT, wkZ, wk, wants, resOf, tupOf, quiet, AOp.cls, Nat.beq_eq, Bool.or_eq_true, decide_true, decide_false, beq_self_eq_true, Bool.true_or, Bool.or_true, true_and, and_true, lenA, eqv, eqB, eqP, scal, new_box_self, List.getElem?_cons_zero, List.getElem?_cons_succ, key_ii, key_ss, findM, updM, esc_i, esc_s, esc_b, Int.reduceEq, ret1, new_nb, new_set, reduceCtorEq, Bool.xor_true, Bool.xor_false, Bool.false_eq_true, List.all_cons, List.all_nil, noTok, Bool.and_self, Bool.and_true, Bool.true_and, List.length_cons, List.length_nil, hn0, h11, ha', hb', hsub, cells_agg, len4, ld4_0, ld4_1, ld4_2, ld4_3, List.length_map, ofNat_len, wrap_nat (show c - 49 < 2 ^ 63 by omega), natOf_nat]
      refine CP_dec (fun h => ?_) (fun h => ?_)
      · have hi : c - 49 < v.args.length := by omega
        simp only [W_seq, W_reg, W_cond, W_blk, W_skip, W_exit, W_ret, W_regD, WO_nil, WO_cons, WO_guard2, wantV_b, bq_tt, bq_ft, bq_tf, bq_ff, Bool.not_true, Bool.not_false, WD_nil, WD_cons, WD_guard2, WS_some, WS_none, KS_n, KS_x, KS_r, KB_n, KB_x, KB_r, KN_ap, KO_ap, KD_ap, KC_nil, KF_n, KF_r, KG_n, KG_r, KL_n, KL_x, KL_r, CP_true, CP_false, evOp, evX, X.ev, optX, put_some, put_none, get_set2, sel_t, sel_f, Nat.reduceBEq, Nat.reduceAdd, Nat.reduceLT, Nat.reduceLeDiff, Nat.reduceEqDiff, reduceIte, if_true, if_false, bi_add, bi_sub, bi_mul, bi_eql, bi_neq, bi_lss, bi_leq, bi_gtr, bi_geq, bs_eql, bs_neq, bs_lss, Am.unOp, ret1, pubL, pub, pubA, initT, wkZ, wk, wants, resOf, tupOf, quiet, AOp.cls, Nat.beq_eq, Bool.or_eq_true, decide_true, decide_false, beq_self_eq_true, Bool.true_or, Bool.or_true, true_and, and_true, lenA, eqv, eqB, eqP, scal, new_box_self, List.getElem?_cons_zero, List.getElem?_cons_succ, key_ii, key_ss, findM, updM, esc_i, esc_s, esc_b, Int.reduceEq, ret1, new_nb, new_set, reduceCtorEq, Bool.xor_true, Bool.xor_false, Bool.false_eq_true, List.all_cons, List.all_nil, noTok, Bool.and_self, Bool.and_true, Bool.true_and, tx_get hi, cells_s, ldA_1]
        exact KR_some ((Over.enter s).new _) rfl (by rw [hval]; simp [tupOf, wkZ, wk, hi])
      · exact KR_some ((Over.enter s).new _) rfl (by
          have : v.args.length ≤ c - 49 := by omega
          rw [hval]; simp [tupOf, wkZ, wk, this])
    · have hval : valueL it v name = if 0 ≤ idxL name v.names ∧ idxL name v.names < v.values.length then v.values.getD (idxL name v.names).toNat [] else [] := by
        unfold valueL
        rw [if_neg h1, if_neg h2]
        subst hnc
        simp only [if_neg hd]
      have hlen : (name.length : Int) = 1 := by omega
      have hget : name[0]? = some c := by rw [hnc]; rfl
      by_cases ha : 49 ≤ c
      · have ha' : ((49 : Int) ≤ c) = True := by simp; omega
        have hb' : ((c : Int) ≤ 57) = False := by simp; omega
        simp only [W_seq, W_reg, W_cond, W_blk, W_skip, W_exit, W_ret, W_regD, WO_nil, WO_cons, WO_guard2, wantV_b, bq_tt, bq_ft, bq_tf, bq_ff, Bool.not_true, Bool.not_false, WD_nil, WD_cons, WD_guard2, WS_some, WS_none, KS_n, KS_x, KS_r, KB_n, KB_x, KB_r, KN_ap, KO_ap, KD_ap, KC_nil, KF_n, KF_r, KG_n, KG_r, KL_n, KL_x, KL_r, CP_true, CP_false, evOp, evX, X.ev, optX, put_some, put_none, get_set2, sel_t, sel_f, Nat.reduceBEq, Nat.reduceAdd, Nat.reduceLT, Nat.reduceLeDiff, Nat.reduceEqDiff, reduceIte, if_true, if_false, bi_add, bi_sub, bi_mul, bi_eql, bi_neq, bi_lss, bi_leq, bi_gtr, bi_geq, bs_eql, bs_neq, bs_lss, Am.unOp, ret1, pubL, pub, pubA, initT, wkZ, wk, wants, resOf, tupOf, quiet, AOp.cls, Nat.beq_eq, Bool.or_eq_true, decide_true, decide_false, beq_self_eq_true, Bool.true_or, Bool.or_true, true_and, and_true, lenA, eqv, eqB, eqP, scal, new_box_self, List.getElem?_cons_zero, List.getElem?_cons_succ, key_ii, key_ss, findM, updM, esc_i, esc_s, esc_b, Int.reduceEq, ret1, new_nb, new_set, reduceCtorEq, Bool.xor_true, Bool.xor_false, Bool.false_eq_true, List.all_cons, List.all_nil, noTok, Bool.and_self, Bool.and_true, Bool.true_and, hlen, hn0, hget, ha', hb', cells_agg, len4, ld4_0, ld4_1, ld4_2, ld4_3, List.length_map, ofNat_len, index_ok _ _ hv.n]
        by_cases h0 : 0 ≤ idxL name v.names
        · by_cases hlt : idxL name v.names < v.values.length
          · have hi : (idxL name v.names).toNat < v.values.length := by omega
            simp only [W_seq, W_reg, W_cond, W_blk, W_skip, W_exit, W_ret, W_regD, WO_nil, WO_cons, WO_guard2, wantV_b, bq_tt, bq_ft, bq_tf, bq_ff, Bool.not_true, Bool.not_false, WD_nil, WD_cons, WD_guard2, WS_some, WS_none, KS_n, KS_x, KS_r, KB_n, KB_x, KB_r, KN_ap, KO_ap, KD_ap, KC_nil, KF_n, KF_r, KG_n, KG_r, KL_n, KL_x, KL_r, CP_true, CP_false, evOp, evX, X.ev, optX, put_some, put_none, get_set2, sel_t, sel_f, Nat.reduceBEq, Nat.reduceAdd, Nat.reduceLT, Nat.reduceLeDiff, Nat.reduceEqDiff, reduceIte, if_true, if_false, bi_add, bi_sub, bi_mul, bi_eql, bi_neq, bi_lss, bi_leq, bi_gtr, bi_geq, bs_eql, bs_neq, bs_lss, Am.unOp, ret1, pubL, pub, pubA, initT, wkZ, wk, wants, resOf, tupOf, quiet, AOp.cls, Nat.beq_eq, Bool.or_eq_true, decide_true, decide_false, beq_self_eq_true, Bool.true_or, Bool.or_true, true_and, and_true, lenA, eqv, eqB, eqP, scal, new_box_self, List.getElem?_cons_zero, List.getElem?_cons_succ, key_ii, key_ss, findM, updM, esc_i, esc_s, esc_b, Int.reduceEq, ret1, new_nb, new_set, reduceCtorEq, Bool.xor_true, Bool.xor_false, Bool.false_eq_true, List.all_cons, List.all_nil, noTok, Bool.and_self, Bool.and_true, Bool.true_and, h0, hlt, cells_agg, len4, ld4_0, ld4_1, ld4_2, ld4_3, natOf_int h0, tx_get hi, cells_s, ldA_1]
            exact KR_some ((Over.enter s).new _) rfl (by rw [hval, if_pos ⟨h0, hlt⟩]; simp [tupOf, wkZ, wk, hi])
          · simp only [W_seq, W_reg, W_cond, W_blk, W_skip, W_exit, W_ret, W_regD, WO_nil, WO_cons, WO_guard2, wantV_b, bq_tt, bq_ft, bq_tf, bq_ff, Bool.not_true, Bool.not_false, WD_nil, WD_cons, WD_guard2, WS_some, WS_none, KS_n, KS_x, KS_r, KB_n, KB_x, KB_r, KN_ap, KO_ap, KD_ap, KC_nil, KF_n, KF_r, KG_n, KG_r, KL_n, KL_x, KL_r, CP_true, CP_false, evOp, evX, X.ev, optX, put_some, put_none, get_set2, sel_t, sel_f, Nat.reduceBEq, Nat.reduceAdd, Nat.reduceLT, Nat.reduceLeDiff, Nat.reduceEqDiff, reduceIte, if_true, if_false, bi_add, bi_sub, bi_mul, bi_eql, bi_neq, bi_lss, bi_leq, bi_gtr, bi_geq, bs_eql, bs_neq, bs_lss, Am.unOp, ret1, pubL, pub, pubA, initT, wkZ, wk, wants, resOf, tupOf, quiet, AOp.cls, Nat.beq_eq, Bool.or_eq_true, decide_true, decide_false, beq_self_eq_true, Bool.true_or, Bool.or_true, true_and, and_true, lenA, eqv, eqB, eqP, scal, new_box_self, List.getElem?_cons_zero, List.getElem?_cons_succ, key_ii, key_ss, findM, updM, esc_i, esc_s, esc_b, Int.reduceEq, ret1, new_nb, new_set, reduceCtorEq, Bool.xor_true, Bool.xor_false, Bool.false_eq_true, List.all_cons, List.all_nil, noTok, Bool.and_self, Bool.and_true, Bool.true_and, h0, hlt]
            exact KR_some ((Over.enter s).new _) rfl (by rw [hval, if_neg (fun hh => hlt hh.2)]; rfl)
        · simp only [W_seq, W_reg, W_cond, W_blk, W_skip, W_exit, W_ret, W_regD, WO_nil, WO_cons, WO_guard2, wantV_b, bq_tt, bq_ft, bq_tf, bq_ff, Bool.not_true, Bool.not_false, WD_nil, WD_cons, WD_guard2, WS_some, WS_none, KS_n, KS_x, KS_r, KB_n, KB_x, KB_r, KN_ap, KO_ap, KD_ap, KC_nil, KF_n, KF_r, KG_n, KG_r, KL_n, KL_x, KL_r, CP_true, CP_false, evOp, evX, X.ev, optX, put_some, put_none, get_set2, sel_t, sel_f, Nat.reduceBEq, Nat.reduceAdd, Nat.reduceLT, Nat.reduceLeDiff, Nat.reduceEqDiff, reduceIte, if_true, if_false, bi_add, bi_sub, bi_mul, bi_eql, bi_neq, bi_lss, bi_leq, bi_gtr, bi_geq, bs_eql, bs_neq, bs_lss, Am.unOp, ret1, pubL, pub, pubA, initT, wkZ, wk, wants, resOf, tupOf, quiet, AOp.cls, Nat.beq_eq, Bool.or_eq_true, decide_true, decide_false, beq_self_eq_true, Bool.true_or, Bool.or_true, true_and, and_true, lenA, eqv, eqB, eqP, scal, new_box_self, List.getElem?_cons_zero, List.getElem?_cons_succ, key_ii, key_ss, findM, updM, esc_i, esc_s, esc_b, Int.reduceEq, ret1, new_nb, new_set, reduceCtorEq, Bool.xor_true, Bool.xor_false, Bool.false_eq_true, List.all_cons, List.all_nil, noTok, Bool.and_self, Bool.and_true, Bool.true_and, h0]
          exact KR_some ((Over.enter s).new _) rfl (by rw [hval, if_neg (fun hh => h0 hh.1)]; rfl)
      · have ha' : ((49 : Int) ≤ c) = False := by simp; omega
        simp only [W_seq, W_reg, W_cond, W_blk, W_skip, W_exit, W_ret, W_regD, WO_nil, WO_cons, WO_guard2, wantV_b, bq_tt, bq_ft, bq_tf, bq_ff, Bool.not_true, Bool.not_false, WD_nil, WD_cons, WD_guard2, WS_some, WS_none, KS_n, KS_x, KS_r, KB_n, KB_x, KB_r, KN_ap, KO_ap, KD_ap, KC_nil, KF_n, KF_r, KG_n, KG_r, KL_n, KL_x, KL_r, CP_true, CP_false, evOp, evX, X.ev, optX, put_some, put_none, get_set2, sel_t, sel_f, Nat.reduceBEq, Nat.reduceAdd, Nat.reduceLT, Nat.reduceLeDiff, Nat.reduceEqDiff, reduceIte, if_true, if_false, bi_add, bi_sub, bi_mul, bi_eql, bi_neq, bi_lss, bi_leq, bi_gtr, bi_geq, bs_eql, bs_neq, bs_lss, Am.unOp, ret1, pubL, pub, pubA, initT, wkZ, wk, wants, resOf, tupOf, quiet, AOp.cls, Nat.beq_eq, Bool.or_eq_true, decide_true, decide_false, beq_self_eq_true, Bool.true_or, Bool.or_true, true_and, and_true, lenA, eqv, eqB, eqP, scal, new_box_self, List.getElem?_cons_zero, List.getElem?_cons_succ, key_ii, key_ss, findM, updM, esc_i, esc_s, esc_b, Int.reduceEq, ret1, new_nb, new_set, reduceCtorEq, Bool.xor_true, Bool.xor_false, Bool.false_eq_true, List.all_cons, List.all_nil, noTok, Bool.and_self, Bool.and_true, Bool.true_and, hlen, hn0, hget, ha', cells_agg, len4, ld4_0, ld4_1, ld4_2, ld4_3, List.length_map, ofNat_len, index_ok _ _ hv.n]
        by_cases h0 : 0 ≤ idxL name v.names
        · by_cases hlt : idxL name v.names < v.values.length
          · have hi : (idxL name v.names).toNat < v.values.length := by omega
            simp only [W_seq, W_reg, W_cond, W_blk, W_skip, W_exit, W_ret, W_regD, WO_nil, WO_cons, WO_guard2, wantV_b, bq_tt, bq_ft, bq_tf, bq_ff, Bool.not_true, Bool.not_false, WD_nil, WD_cons, WD_guard2, WS_some, WS_none, KS_n, KS_x, KS_r, KB_n, KB_x, KB_r, KN_ap, KO_ap, KD_ap, KC_nil, KF_n, KF_r, KG_n, KG_r, KL_n, KL_x, KL_r, CP_true, CP_false, evOp, evX, X.ev, optX, put_some, put_none, get_set2, sel_t, sel_f, Nat.reduceBEq, Nat.reduceAdd, Nat.reduceLT, Nat.reduceLeDiff, Nat.reduceEqDiff, reduceIte, if_true, if_false, bi_add, bi_sub, bi_mul, bi_eql, bi_neq, bi_lss, bi_leq, bi_gtr, bi_geq, bs_eql, bs_neq, bs_lss, Am.unOp, ret1, pubL, pub, pubA, initT, wkZ, wk, wants, resOf, tupOf, quiet, AOp.cls, Nat.beq_eq, Bool.or_eq_true, decide_true, decide_false, beq_self_eq_true, Bool.true_or, Bool.or_true, true_and, and_true, lenA, eqv, eqB, eqP, scal, new_box_self, List.getElem?_cons_zero, List.getElem?_cons_succ, key_ii, key_ss, findM, updM, esc_i, esc_s, esc_b, Int.reduceEq, ret1, new_nb, new_set, reduceCtorEq, Bool.xor_true, Bool.xor_false, Bool.false_eq_true, List.all_cons, List.all_nil, noTok, Bool.and_self, Bool.and_true, Bool.true_and, h0, hlt, cells_agg, len4, ld4_0, ld4_1, ld4_2, ld4_3, natOf_int h0, tx_get hi, cells_s, ldA_1]
            exact KR_some ((Over.enter s).new _) rfl (by rw [hval, if_pos ⟨h0, hlt⟩]; simp [tupOf, wkZ, wk, hi])
          · simp only [W_seq, W_reg, W_cond, W_blk, W_skip, W_exit, W_ret, W_regD, WO_nil, WO_cons, WO_guard2, wantV_b, bq_tt, bq_ft, bq_tf, bq_ff, Bool.not_true, Bool.not_false, WD_nil, WD_cons, WD_guard2, WS_some, WS_none, KS_n, KS_x, KS_r, KB_n, KB_x, KB_r, KN_ap, KO_ap, KD_ap, KC_nil, KF_n, KF_r, KG_n, KG_r, KL_n, KL_x, KL_r, CP_true, CP_false, evOp, evX, X.ev, optX, put_some, put_none, get_set2, sel_t, sel_f, Nat.reduceBEq, Nat.reduceAdd, Nat.reduceLT, Nat.reduceLeDiff, Nat.reduceEqDiff, reduceIte, if_true, if_false, bi_add, bi_sub, bi_mul, bi_eql, bi_neq, bi_lss, bi_leq, bi_gtr, bi_geq, bs_eql, bs_neq, bs_lss, Am.unOp, ret1, pubL, pub, pubA, initT, wkZ, wk, wants, resOf, tupOf, quiet, AOp.cls, Nat.beq_eq, Bool.or_eq_true, decide_true, decide_false, beq_self_eq_true, Bool.true_or, Bool.or_true, true_and, and_true, lenA, eqv, eqB, eqP, scal, new_box_self, List.getElem?_cons_zero, List.getElem?_cons_succ, key_ii, key_ss, findM, updM, esc_i, esc_s, esc_b, Int.reduceEq, ret1, new_nb, new_set, reduceCtorEq, Bool.xor_true, Bool.xor_false, Bool.false_eq_true, List.all_cons, List.all_nil, noTok, Bool.and_self, Bool.and_true, Bool.true_and, h0, hlt]
            exact KR_some ((Over.enter s).new _) rfl (by rw [hval, if_neg (fun hh => hlt hh.2)]; rfl)
        · simp only [W_seq, W_reg, W_cond, W_blk, W_skip, W_exit, W_ret, W_regD, WO_nil, WO_cons, WO_guard2, wantV_b, bq_tt, bq_ft, bq_tf, bq_ff, Bool.not_true, Bool.not_false, WD_nil, WD_cons, WD_guard2, WS_some, WS_none, KS_n, KS_x, KS_r, KB_n, KB_x, KB_r, KN_ap, KO_ap, KD_ap, KC_nil, KF_n, KF_r, KG_n, KG_r, KL_n, KL_x, KL_r, CP_true, CP_false, evOp, evX, X.ev, optX, put_some, put_none, get_set2, sel_t, sel_f, Nat.reduceBEq, Nat.reduceAdd, Nat.reduceLT, Nat.reduceLeDiff, Nat.reduceEqDiff, reduceIte, if_true, if_false, bi_add, bi_sub, bi_mul, bi_eql, bi_neq, bi_lss, bi_leq, bi_gtr, bi_geq, bs_eql, bs_neq, bs_lss, Am.unOp, ret1, pubL, pub, pubA, initT, wkZ, wk, wants, resOf, tupOf, quiet, AOp.cls, Nat.beq_eq, Bool.or_eq_true, decide_true, decide_false, beq_self_eq_true, Bool.true_or, Bool.or_true, true_and, and_true, lenA, eqv, eqB, eqP, scal, new_box_self, List.getElem?_cons_zero, List.getElem?_cons_succ, key_ii, key_ss, findM, updM, esc_i, esc_s, esc_b, Int.reduceEq, ret1, new_nb, new_set, reduceCtorEq, Bool.xor_true, Bool.xor_false, Bool.false_eq_true, List.all_cons, List.all_nil, noTok, Bool.and_self, Bool.and_true, Bool.true_and, h0]
          exact KR_some ((Over.enter s).new _) rfl (by rw [hval, if_neg (fun hh => h0 hh.1)]; rfl)
  · have hval : valueL it v name = if 0 ≤ idxL name v.names ∧ idxL name v.names < v.values.length then v.values.getD (idxL name v.names).toNat [] else [] := by
      unfold valueL
      rw [if_neg h1, if_neg h2]
      split
      · simp at hl
      · rfl
    have : ¬ ((name.length : Int) = 1) := by omega
    simp only [W_seq, W_reg, W_cond, W_blk, W_skip, W_exit, W_ret, W_regD, WO_nil, WO_cons, WO_guard2, wantV_b, bq_tt, bq_ft, bq_tf, bq_ff, Bool.not_true, Bool.not_false, WD_nil, WD_cons, WD_guard2, WS_some, WS_none, KS_n, KS_x, KS_r, KB_n, KB_x, KB_r, KN_ap, KO_ap, KD_ap, KC_nil, KF_n, KF_r, KG_n, KG_r, KL_n, KL_x, KL_r, CP_true, CP_false, evOp, evX, X.ev, optX, put_some, put_none, get_set2, sel_t, sel_f, Nat.reduceBEq, Nat.reduceAdd, Nat.reduceLT, Nat.reduceLeDiff, Nat.reduceEqDiff, reduceIte, if_true, if_false, bi_add, bi_sub, bi_mul, bi_eql, bi_neq, bi_lss, bi_leq, bi_gtr, bi_geq, bs_eql, bs_neq, bs_lss, Am.unOp, ret1, pubL, pub, pubA, initT, wkZ, wk, wants, resOf, tupOf, quiet, AOp.cls, Nat.beq_eq, Bool.or_eq_true, decide_true, decide_false, beq_self_eq_true, Bool.true_or, Bool.or_true, true_and, and_true, lenA, eqv, eqB, eqP, scal, new_box_self, List.getElem?_cons_zero, List.getElem?_cons_succ, key_ii, key_ss, findM, updM, esc_i, esc_s, esc_b, Int.reduceEq, ret1, new_nb, new_set, reduceCtorEq, Bool.xor_true, Bool.xor_false, Bool.false_eq_true, List.all_cons, List.all_nil, noTok, Bool.and_self, Bool.and_true, Bool.true_and, this, cells_agg, len4, ld4_0, ld4_1, ld4_2, ld4_3, List.length_map, ofNat_len, index_ok _ _ hv.n]
    by_cases h0 : 0 ≤ idxL name v.names
    · by_cases hlt : idxL name v.names < v.values.length
      · have hi : (idxL name v.names).toNat < v.values.length := by omega
        simp only [W_seq, W_reg, W_cond, W_blk, W_skip, W_exit, W_ret, W_regD, WO_nil, WO_cons, WO_guard2, wantV_b, bq_tt, bq_ft, bq_tf, bq_ff, Bool.not_true, Bool.not_false, WD_nil, WD_cons, WD_guard2, WS_some, WS_none, KS_n, KS_x, KS_r, KB_n, KB_x, KB_r, KN_ap, KO_ap, KD_ap, KC_nil, KF_n, KF_r, KG_n, KG_r, KL_n, KL_x, KL_r, CP_true, CP_false, evOp, evX, X.ev, optX, put_some, put_none, get_set2, sel_t, sel_f, Nat.reduceBEq, Nat.reduceAdd, Nat.reduceLT, Nat.reduceLeDiff, Nat.reduceEqDiff, reduceIte, if_true, if_false, bi_add, bi_sub, bi_mul, bi_eql, bi_neq, bi_lss, bi_leq, bi_gtr, bi_geq, bs_eql, bs_neq, bs_lss, Am.unOp, ret1, pubL, pub, pubA, initT, wkZ, wk, wants, resOf, tupOf, quiet, AOp.cls, Nat.beq_eq, Bool.or_eq_true, decide_true, decide_false, beq_self_eq_true, Bool.true_or, Bool.or_true, true_and, and_true, lenA, eqv, eqB, eqP, scal, new_box_self, List.getElem?_cons_zero, List.getElem?_cons_succ, key_ii, key_ss, findM, updM, esc_i, esc_s, esc_b, Int.reduceEq, ret1, new_nb, new_set, reduceCtorEq, Bool.xor_true, Bool.xor_false, Bool.false_eq_true, List.all_cons, List.all_nil, noTok, Bool.and_self, Bool.and_true, Bool.true_and, h0, hlt, cells_agg, len4, ld4_0, ld4_1, ld4_2, ld4_3, natOf_int h0, tx_get hi, cells_s, ldA_1]
        exact KR_some ((Over.enter s).new _) rfl (by rw [hval, if_pos ⟨h0, hlt⟩]; simp [tupOf, wkZ, wk, hi])
      · simp only [W_seq, W_reg, W_cond, W_blk, W_skip, W_exit, W_ret, W_regD, WO_nil, WO_cons, WO_guard2, wantV_b, bq_tt, bq_ft, bq_tf, bq_ff, Bool.not_true, Bool.not_false, WD_nil, WD_cons, WD_guard2, WS_some, WS_none, KS_n, KS_x, KS_r, KB_n, KB_x, KB_r, KN_ap, KO_ap, KD_ap, KC_nil, KF_n, KF_r, KG_n, KG_r, KL_n, KL_x, KL_r, CP_true, CP_false, evOp, evX, X.ev, optX, put_some, put_none, get_set2, sel_t, sel_f, Nat.reduceBEq, Nat.reduceAdd, Nat.reduceLT, Nat.reduceLeDiff, Nat.reduceEqDiff, reduceIte, if_true, if_false, bi_add, bi_sub, bi_mul, bi_eql, bi_neq, bi_lss, bi_leq, bi_gtr, bi_geq, bs_eql, bs_neq, bs_lss, Am.unOp, ret1, pubL, pub, pubA, initT, wkZ, wk, wants, resOf, tupOf, quiet, AOp.cls, Nat.beq_eq, Bool.or_eq_true, decide_true, decide_false, beq_self_eq_true, Bool.true_or, Bool.or_true, true_and, and_true, lenA, eqv, eqB, eqP, scal, new_box_self, List.getElem?_cons_zero, List.getElem?_cons_succ, key_ii, key_ss, findM, updM, esc_i, esc_s, esc_b, Int.reduceEq, ret1, new_nb, new_set, reduceCtorEq, Bool.xor_true, Bool.xor_false, Bool.false_eq_true, List.all_cons, List.all_nil, noTok, Bool.and_self, Bool.and_true, Bool.true_and, h0, hlt]
        exact KR_some ((Over.enter s).new _) rfl (by rw [hval, if_neg (fun hh => hlt hh.2)]; rfl)
    · simp only [W_seq, W_reg, W_cond, W_blk, W_skip, W_exit, W_ret, W_regD, WO_nil, WO_cons, WO_guard2, wantV_b, bq_tt, bq_ft, bq_tf, bq_ff, Bool.not_true, Bool.not_false, WD_nil, WD_cons, WD_guard2, WS_some, WS_none, KS_n, KS_x, KS_r, KB_n, KB_x, KB_r, KN_ap, KO_ap, KD_ap, KC_nil, KF_n, KF_r, KG_n, KG_r, KL_n, KL_x, KL_r, CP_true, CP_false, evOp, evX, X.ev, optX, put_some, put_none, get_set2, sel_t, sel_f, Nat.reduceBEq, Nat.reduceAdd, Nat.reduceLT, Nat.reduceLeDiff, Nat.reduceEqDiff, reduceIte, if_true, if_false, bi_add, bi_sub, bi_mul, bi_eql, bi_neq, bi_lss, bi_leq, bi_gtr, bi_geq, bs_eql, bs_neq, bs_lss, Am.unOp, ret1, pubL, pub, pubA, initT, wkZ, wk, wants, resOf, tupOf, quiet, AOp.cls, Nat.beq_eq, Bool.or_eq_true, decide_true, decide_false, beq_self_eq_true, Bool.true_or, Bool.or_true, true_and, and_true, lenA, eqv, eqB, eqP, scal, new_box_self, List.getElem?_cons_zero, List.getElem?_cons_succ, key_ii, key_ss, findM, updM, esc_i, esc_s, esc_b, Int.reduceEq, ret1, new_nb, new_set, reduceCtorEq, Bool.xor_true, Bool.xor_false, Bool.false_eq_true, List.all_cons, List.all_nil, noTok, Bool.and_self, Bool.and_true, Bool.true_and, h0]
      exact KR_some ((Over.enter s).new _) rfl (by rw [hval, if_neg (fun hh => h0 hh.1)]; rfl)
end value
end Go.Proofs.YtfpoihibfajhlaaDoor

/-
  The builder of fields.
-/
set_option maxRecDepth 100000
set_option linter.unusedSimpArgs false
namespace Go.Proofs.YtfpoihibfajhlaaDoor
open Go.Proofs.YtfpoihibfajhlaaDoor.Am

abbrev by8 (l : List Nat) : List AV := l.map fun n => AV.i .u8 (Int.ofNat n)
/-- The builder at a box: its fields, the one that is open, and whether one is. -/
def BB (t0 : Nat) (s : St) (id : Nat) (out : List (List Nat)) (cur : List Nat) (op : Bool) : Prop :=
  ∃ ao ac, s.box? id = some (.cells 61 [ao, ac, .b op]) ∧ RowIs t0 s 9 ao (out.map .s) ∧ RowIs t0 s 5 ac (by8 cur) ∧ ∀ k, rowTok ao = some k → rowTok ac ≠ some k

theorem row_cells {t0 T : Nat} {s : St} {a : AV} {xs : List AV} (h : RowIs t0 s T a xs) : a.cells = [a] ∧ ones [a] = true := by
  rcases h with ⟨rfl, _⟩ | ⟨k, v, t, rfl, _⟩ <;> exact ⟨rfl, rfl⟩
theorem row_refs {t0 T : Nat} {s : St} {a : AV} {xs : List AV} (h : RowIs t0 s T a xs) (hx : xs ≠ []) : a.refs = true := by
  rcases h with ⟨_, rfl⟩ | ⟨k, v, t, rfl, _⟩
  · exact absurd rfl hx
  · rfl

theorem add_ok {t0 id : Nat} {s : St} {out : List (List Nat)} {cur : List Nat} {op : Bool} (l : List Nat) (hw : Wf s) (ht0 : t0 ≤ s.nt) (hid : id < s.nb) (hB : BB t0 s id out cur op) (hsz : cur.length + l.length < 2 ^ 38) :
    ∃ r s', (lim prog).call f_expand_builder_add [.p id 0, .s l] s = some (r, s') ∧ r = .tup [] ∧ Eff t0 id s s' ∧ BB t0 s' id out (cur ++ l) true := by
  obtain ⟨ao, ac, hb, ho, hc, hd⟩ := hB
  refine fn_G (Post := fun r s' => r = .tup [] ∧ Eff t0 id s s' ∧ BB t0 s' id out (cur ++ l) true) p_expand_builder_add rfl rfl ?_
  have hwe := hw.enter
  have e1 : stA s.enter 1 (.p id 2) (.b true) = some (s.enter.setBox id (.cells 61 [ao, ac, .b true])) := st_box (s := s.enter) (v := .b true) hb rfl rfl (by simp)
  obtain ⟨s1, hs1⟩ : ∃ s1, s.enter.setBox id (.cells 61 [ao, ac, .b true]) = s1 := ⟨_, rfl⟩
  rw [hs1] at e1
  have b1 : s1.box? id = some (.cells 61 [ao, ac, .b true]) := by rw [← hs1, setBox_box? hwe.b hid, if_pos rfl]
  have o1 : ∀ j, j ≠ id → s1.box? j = s.box? j := fun j hj => by rw [← hs1, setBox_box? hwe.b hid, if_neg hj]; rfl
  have w1 : Wf s1 := by rw [← hs1]; exact hwe.setBox _ _
  have n1 : s1.nb = s.nb ∧ s1.nt = s.nt ∧ s1.lo = s.nb ∧ s1.toks = s.toks := by rw [← hs1]; exact ⟨rfl, rfl, rfl, rfl⟩
  have t1 : ∀ k, s1.tok? k = s.tok? k := fun k => by rw [← hs1]; rfl
  have ld1 := ld_box (v := ac) (off := 1) b1 rfl
  have hc1 : RowIs t0 s1 5 ac (by8 cur) := hc.mono (by omega) fun k _ => t1 k
  have ho1 : RowIs t0 s1 9 ao (out.map .s) := ho.mono (by omega) fun k _ => t1 k
  have ov1 : ∀ s0 : St, s0.nb ≤ id → Over s0 s → Over s0 s1 := fun s0 h0 hov => by
    rw [← hs1]
    refine Over.setBox ?_ h0 (by simpa [St.enter] using hid) _
    exact ⟨hov.nb, hov.boxes, hov.nt, hov.toks, hov.nb⟩
  have hel : elems s1 1 (.s l) = some (by8 l) := by simp [elems]
  cases l with
  | nil =>
    have happ : appA s1 1 5 ac (.s []) = some (ac, s1) := by
      unfold appA
      rw [hel]
      rcases hc with ⟨rfl, _⟩ | ⟨k, v, t, rfl, _⟩ <;> rfl
    have e2 := st_box (s := s1) (off := 1) (v := ac) b1 (row_cells hc).1 (row_cells hc).2 (by simp)
    obtain ⟨s3, hs3⟩ : ∃ s3, esc (s1.setBox id (.cells 61 ([ao, ac, .b true].set 1 ac))) id ac = s3 := ⟨_, rfl⟩
    rw [hs3] at e2
    have key : KH s [] (fun r s' => r = .tup [] ∧ Eff t0 id s s' ∧ BB t0 s' id out (cur ++ []) true) (some ([], s3)) := by
      obtain ⟨n, k1, k2, k3⟩ := end_box (s := s) (sx := s1) (B := .cells 61 ([ao, ac, .b true].set 1 ac)) (a := ac) hid n1.1 (by omega) (.inr n1.2.1)
      rw [hs3] at k1
      refine ⟨_, _, rfl, rfl, ?_⟩
      show Eff t0 id s (leave s s3 (.tup [])) ∧ BB t0 (leave s s3 (.tup [])) id out (cur ++ []) true
      rw [k1]
      have hbx : ∀ j, ({ s1.setBox id (.cells 61 ([ao, ac, .b true].set 1 ac)) with lo := n } : St).box? j = if j = id then some (.cells 61 ([ao, ac, .b true].set 1 ac)) else s1.box? j := fun j => setBox_box? w1.b (by omega) j
      have htk : ∀ k, ({ s1.setBox id (.cells 61 ([ao, ac, .b true].set 1 ac)) with lo := n } : St).tok? k = s.tok? k := fun k => t1 k
      refine ⟨⟨n1.1, by show s.nt ≤ s1.nt; omega, fun j hj => by rw [hbx, if_neg hj]; exact o1 j hj, (w1.setBox _ _).lo n, fun s0 h0 h1 hov => Over.setLo (Over.setBox (ov1 s0 h1 hov) h1 (by omega) _) (k2 s0 hov h1), k3⟩, ?_⟩
      refine ⟨ao, ac, by rw [hbx, if_pos rfl]; rfl, ho.mono (by show s.nt ≤ s1.nt; omega) fun k _ => htk k, ?_, hd⟩
      rw [List.append_nil]
      exact hc.mono (by show s.nt ≤ s1.nt; omega) fun k _ => htk k
    rcases hc with ⟨rfl, _⟩ | ⟨k, v, t, rfl, _⟩ <;> (simp only [c_expand_builder_add, W_seq, W_reg, W_cond, W_blk, W_skip, W_exit, W_ret, W_regD, WO_nil, WO_cons, WO_guard2, wantV_b, bq_tt, bq_ft, bq_tf, bq_ff, Bool.not_true, Bool.not_false, WD_nil, WD_cons, WD_guard2, WS_some, WS_none, KS_n, KS_x, KS_r, KB_n, KB_x, KB_r, KN_ap, KO_ap, KD_ap, KC_nil, KF_n, KF_r, KG_n, KG_r, KL_n, KL_x, KL_r, CP_true, CP_false, evOp, evX, X.ev, optX, put_some, put_none, get_set2, sel_t, sel_f, Nat.reduceBEq, Nat.reduceAdd, Nat.reduceLT, Nat.reduceLeDiff, Nat.reduceEqDiff, reduceIte, if_true, if_false, bi_add, bi_sub, bi_mul, bi_eql, bi_neq, bi_lss, bi_leq, bi_gtr, bi_geq, bs_eql, bs_neq, bs_lss, Am.unOp, ret1, pubL, pub, pubA, initT, wkZ, wk, wants, resOf, tupOf, quiet, AOp.cls, Nat.beq_eq, Bool.or_eq_true, decide_true, decide_false, beq_self_eq_true, Bool.true_or, Bool.or_true, true_and, and_true, lenA, eqv, eqB, eqP, scal, new_box_self, List.getElem?_cons_zero, List.getElem?_cons_succ, key_ii, key_ss, findM, updM, esc_i, esc_s, esc_b, Int.reduceEq, ret1, new_nb, new_set, reduceCtorEq, Bool.xor_true, Bool.xor_false, Bool.false_eq_true, List.all_cons, List.all_nil, noTok, Bool.and_self, Bool.and_true, Bool.true_and, Nat.zero_add, e1, ld1, happ, e2]; exact key)
  | cons l0 l =>
    obtain ⟨a', s2, happ, hr2, hg⟩ := app_row (y := .s (l0 :: l)) w1 (by omega) hc1 hel (by simp) (by simpa using hsz)
    have b2 : s2.box? id = some (.cells 61 [ao, ac, .b true]) := by
      rw [← b1]; simp [St.box?, hg.nb, hg.boxes]
    have e2 := st_box (s := s2) (off := 1) (v := a') b2 (row_cells hr2).1 (row_cells hr2).2 (by simp)
    obtain ⟨s3, hs3⟩ : ∃ s3, esc (s2.setBox id (.cells 61 ([ao, ac, .b true].set 1 a'))) id a' = s3 := ⟨_, rfl⟩
    rw [hs3] at e2
    have key : KH s [] (fun r s' => r = .tup [] ∧ Eff t0 id s s' ∧ BB t0 s' id out (cur ++ l0 :: l) true) (some ([], s3)) := by
      obtain ⟨n, k1, k2, k3⟩ := end_box (s := s) (sx := s2) (B := .cells 61 ([ao, ac, .b true].set 1 a')) (a := a') hid (by rw [hg.nb]; exact n1.1) (by rw [hg.lo]; omega) (.inl (row_refs hr2 (by simp)))
      rw [hs3] at k1
      refine ⟨_, _, rfl, rfl, ?_⟩
      show Eff t0 id s (leave s s3 (.tup [])) ∧ BB t0 (leave s s3 (.tup [])) id out (cur ++ l0 :: l) true
      rw [k1]
      have w2 := hg.wf w1
      have hnb2 : s2.nb = s.nb := by rw [hg.nb]; exact n1.1
      have hnt2 := hg.nt
      have hbx : ∀ j, ({ s2.setBox id (.cells 61 ([ao, ac, .b true].set 1 a')) with lo := n } : St).box? j = if j = id then some (.cells 61 ([ao, ac, .b true].set 1 a')) else s2.box? j := fun j => setBox_box? w2.b (by omega) j
      have hb2 : ∀ j, s2.box? j = s1.box? j := fun j => by simp [St.box?, hg.nb, hg.boxes]
      refine ⟨⟨hnb2, by show s.nt ≤ s2.nt; omega, fun j hj => by rw [hbx, if_neg hj, hb2]; exact o1 j hj, (w2.setBox _ _).lo n, fun s0 h0 h1 hov => Over.setLo (Over.setBox (hg.over s0 h0 (by have := hov.nt; omega) (ov1 s0 h1 hov)) h1 (by omega) _) (k2 s0 hov h1), k3⟩, ?_⟩
      have hdis : ∀ k, rowTok ao = some k → rowTok ac ≠ some k ∧ k < s1.nt := fun k hk => ⟨hd k hk, by
        rcases ho1 with ⟨rfl, _⟩ | ⟨k', v, t, rfl, _, h2, _⟩
        · simp [rowTok] at hk
        · simp only [rowTok, Option.some.injEq] at hk; omega⟩
      refine ⟨ao, a', by rw [hbx, if_pos rfl]; rfl, ho1.mono (by show s1.nt ≤ s2.nt; omega) fun k hk => (hg.toks k (hdis k hk).2 (hdis k hk).1).1, ?_, fun k hk => (hg.toks k (hdis k hk).2 (hdis k hk).1).2⟩
      have := hr2.mono (s' := { s2.setBox id (.cells 61 ([ao, ac, .b true].set 1 a')) with lo := n }) (Nat.le_refl _) fun k _ => rfl
      simpa [by8] using this
    rcases hc with ⟨rfl, _⟩ | ⟨k, v, t, rfl, _⟩ <;> (simp only [c_expand_builder_add, W_seq, W_reg, W_cond, W_blk, W_skip, W_exit, W_ret, W_regD, WO_nil, WO_cons, WO_guard2, wantV_b, bq_tt, bq_ft, bq_tf, bq_ff, Bool.not_true, Bool.not_false, WD_nil, WD_cons, WD_guard2, WS_some, WS_none, KS_n, KS_x, KS_r, KB_n, KB_x, KB_r, KN_ap, KO_ap, KD_ap, KC_nil, KF_n, KF_r, KG_n, KG_r, KL_n, KL_x, KL_r, CP_true, CP_false, evOp, evX, X.ev, optX, put_some, put_none, get_set2, sel_t, sel_f, Nat.reduceBEq, Nat.reduceAdd, Nat.reduceLT, Nat.reduceLeDiff, Nat.reduceEqDiff, reduceIte, if_true, if_false, bi_add, bi_sub, bi_mul, bi_eql, bi_neq, bi_lss, bi_leq, bi_gtr, bi_geq, bs_eql, bs_neq, bs_lss, Am.unOp, ret1, pubL, pub, pubA, initT, wkZ, wk, wants, resOf, tupOf, quiet, AOp.cls, Nat.beq_eq, Bool.or_eq_true, decide_true, decide_false, beq_self_eq_true, Bool.true_or, Bool.or_true, true_and, and_true, lenA, eqv, eqB, eqP, scal, new_box_self, List.getElem?_cons_zero, List.getElem?_cons_succ, key_ii, key_ss, findM, updM, esc_i, esc_s, esc_b, Int.reduceEq, ret1, new_nb, new_set, reduceCtorEq, Bool.xor_true, Bool.xor_false, Bool.false_eq_true, List.all_cons, List.all_nil, noTok, Bool.and_self, Bool.and_true, Bool.true_and, Nat.zero_add, e1, ld1, happ, e2]; exact key)

theorem byteOf_nat {a : Nat} (h : a < 256) : Am.byteOf (.i .u8 (Int.ofNat a)) = some a := by
  have h1 : (0 : Int) ≤ Int.ofNat a ∧ Int.ofNat a < 256 := ⟨Int.natCast_nonneg _, by
    show (a : Int) < 256
    omega⟩
  simp only [Am.byteOf, if_pos h1]
  rfl
theorem bytesL_by8 : ∀ {l : List Nat}, (∀ n ∈ l, n < 256) → bytesL (by8 l) = some l
  | [], _ => rfl
  | a :: l, h => by
    have ih := bytesL_by8 (l := l) fun n hn => h n (by simp [hn])
    simp only [by8, List.map_cons] at ih ⊢
    simp only [bytesL, ih, byteOf_nat (h a (by simp))]
theorem allLen_s (l : List Nat) : allLen 1 [AV.s l] = true := rfl

theorem row_ok {t0 T : Nat} {s : St} {a : AV} {xs : List AV} (h : RowIs t0 s T a xs) : (a = .nsl ∧ xs = []) ∨ ∃ k v, a = .sl 1 xs (.tok k v) ∧ s.ok (.tok k v) = true := by
  rcases h with h | ⟨k, v, t, rfl, _, _, h3, h4, _⟩
  · exact .inl h
  · refine .inr ⟨k, v, rfl, ?_⟩
    simp only [St.ok, h3, h4]
    exact Nat.beq_refl _

/-- The end of 'end': the field that was open is gone. -/
theorem end_tail {t0 id : Nat} {s sx : St} {out : List (List Nat)} {ao ac : AV} {op : Bool} (hid : id < s.nb) (hw : Wf sx) (hnb : sx.nb = s.nb) (hnt : s.nt ≤ sx.nt)
    (hb : sx.box? id = some (.cells 61 [ao, ac, .b op])) (ho : RowIs t0 sx 9 ao (out.map .s)) (hob : ∀ j, j ≠ id → sx.box? j = s.box? j)
    (hov : ∀ s0 : St, s0.nt ≤ t0 → s0.nb ≤ id → Over s0 s → Over s0 sx) (hlv : (s.nb ≤ sx.lo ∧ sx.nt = s.nt) ∨ sx.lo ≤ id) (hlo0 : ∀ s0 : St, Over s0 s → s0.nb ≤ id → s0.nb ≤ sx.lo) :
    ∃ s1 s2, stA sx 1 (.p id 1) .nsl = some s1 ∧ stA s1 1 (.p id 2) (.b false) = some s2 ∧ Eff t0 id s (leave s s2 (.tup [])) ∧ BB t0 (leave s s2 (.tup [])) id out [] false := by
  have e1 := st_box (s := sx) (off := 1) (v := .nsl) hb rfl rfl (by simp)
  have hidx : id < sx.nb := by omega
  obtain ⟨s1, hs1⟩ : ∃ s1, esc (sx.setBox id (.cells 61 ([ao, ac, .b op].set 1 .nsl))) id .nsl = s1 := ⟨_, rfl⟩
  have hs1' : sx.setBox id (.cells 61 [ao, .nsl, .b op]) = s1 := by rw [← hs1]; rfl
  rw [hs1] at e1
  have b1 : s1.box? id = some (.cells 61 [ao, .nsl, .b op]) := by rw [← hs1', setBox_box? hw.b hidx, if_pos rfl]
  have w1 : Wf s1 := by rw [← hs1']; exact hw.setBox _ _
  have e2 := st_box (s := s1) (off := 2) (v := .b false) b1 rfl rfl (by simp)
  obtain ⟨s2, hs2⟩ : ∃ s2, esc (s1.setBox id (.cells 61 ([ao, .nsl, .b op].set 2 (.b false)))) id (.b false) = s2 := ⟨_, rfl⟩
  have hs2' : s1.setBox id (.cells 61 [ao, .nsl, .b false]) = s2 := by rw [← hs2]; rfl
  rw [hs2] at e2
  refine ⟨s1, s2, e1, e2, ?_⟩
  have n2 : s2.nb = s.nb ∧ s2.nt = sx.nt ∧ s2.lo = sx.lo := by rw [← hs2', ← hs1']; exact ⟨hnb, rfl, rfl⟩
  have w2 : Wf s2 := by rw [← hs2']; exact w1.setBox _ _
  have hbx : ∀ j, s2.box? j = if j = id then some (.cells 61 [ao, .nsl, .b false]) else sx.box? j := fun j => by
    rw [← hs2', setBox_box? w1.b (by rw [← hs1']; exact hidx)]
    by_cases hj : j = id
    · rw [if_pos hj, if_pos hj]
    · rw [if_neg hj, if_neg hj, ← hs1', setBox_box? hw.b hidx, if_neg hj]
  have htk : ∀ k, s2.tok? k = sx.tok? k := fun k => by rw [← hs2', ← hs1']; rfl
  have hlv2 : ∃ n, leave s s2 (.tup []) = { s2 with lo := n } ∧ (∀ s0 : St, Over s0 s → s0.nb ≤ id → s0.nb ≤ n) ∧ ((n = s.lo ∧ s2.nt = s.nt) ∨ n ≤ id) := by
    rcases hlv with ⟨h1, h2⟩ | h1
    · exact ⟨s.lo, leave_same n2.1 (by omega) (by omega) rfl, fun s0 h _ => h.lo, .inl ⟨rfl, by omega⟩⟩
    · exact ⟨_, leave_esc n2.1 (by omega), fun s0 h h2 => by have := h.lo; have := hlo0 s0 h h2; omega, .inr (by omega)⟩
  obtain ⟨n, k1, k2, k3⟩ := hlv2
  rw [k1]
  refine ⟨⟨n2.1, by show s.nt ≤ s2.nt; omega, fun j hj => by show s2.box? j = _; rw [hbx, if_neg hj]; exact hob j hj, w2.lo n, fun s0 h0 h1 h => Over.setLo ?_ (k2 s0 h h1), k3⟩, ?_⟩
  · rw [← hs2', ← hs1']
    exact Over.setBox (Over.setBox (hov s0 h0 h1 h) h1 hidx _) h1 (by simpa [St.setBox] using hidx) _
  · refine ⟨ao, .nsl, by show s2.box? id = _; rw [hbx, if_pos rfl], ho.mono (by show sx.nt ≤ s2.nt; omega) fun k _ => htk k, .inl ⟨rfl, rfl⟩, fun k _ => by simp [rowTok]⟩

theorem end_ok {t0 id : Nat} {s : St} {out : List (List Nat)} {cur : List Nat} {op : Bool} (hw : Wf s) (ht0 : t0 ≤ s.nt) (hid : id < s.nb) (hB : BB t0 s id out cur op) (hc256 : ∀ n ∈ cur, n < 256) (hsz : out.length + 1 < 2 ^ 38) :
    ∃ r s', (lim prog).call f_expand_builder_end [.p id 0] s = some (r, s') ∧ r = .tup [] ∧ Eff t0 id s s' ∧ BB t0 s' id (if op then out ++ [cur] else out) [] false := by
  obtain ⟨ao, ac, hb, ho, hc, hd⟩ := hB
  refine fn_G (Post := fun r s' => r = .tup [] ∧ Eff t0 id s s' ∧ BB t0 s' id (if op then out ++ [cur] else out) [] false) p_expand_builder_end rfl rfl ?_
  have hwe := hw.enter
  have ld2 := ld_box (s := s.enter) (v := .b op) (off := 2) hb rfl
  cases op with
  | false =>
    obtain ⟨s1, s2, e1, e2, hE, hBB⟩ := end_tail (t0 := t0) (s := s) (sx := s.enter) hid hwe rfl (Nat.le_refl _) hb ho (fun _ _ => rfl) (fun s0 _ _ h => ⟨h.nb, h.boxes, h.nt, h.toks, h.nb⟩) (.inl ⟨Nat.le_refl _, rfl⟩) (fun s0 h _ => h.nb)
    simp only [c_expand_builder_end, W_seq, W_reg, W_cond, W_blk, W_skip, W_exit, W_ret, W_regD, WO_nil, WO_cons, WO_guard2, wantV_b, bq_tt, bq_ft, bq_tf, bq_ff, Bool.not_true, Bool.not_false, WD_nil, WD_cons, WD_guard2, WS_some, WS_none, KS_n, KS_x, KS_r, KB_n, KB_x, KB_r, KN_ap, KO_ap, KD_ap, KC_nil, KF_n, KF_r, KG_n, KG_r, KL_n, KL_x, KL_r, CP_true, CP_false, evOp, evX, X.ev, optX, put_some, put_none, get_set2, sel_t, sel_f, Nat.reduceBEq, Nat.reduceAdd, Nat.reduceLT, Nat.reduceLeDiff, Nat.reduceEqDiff, reduceIte, if_true, if_false, bi_add, bi_sub, bi_mul, bi_eql, bi_neq, bi_lss, bi_leq, bi_gtr, bi_geq, bs_eql, bs_neq, bs_lss, Am.unOp, ret1, pubL, pub, pubA, initT, wkZ, wk, wants, resOf, tupOf, quiet, AOp.cls, Nat.beq_eq, Bool.or_eq_true, decide_true, decide_false, beq_self_eq_true, Bool.true_or, Bool.or_true, true_and, and_true, lenA, eqv, eqB, eqP, scal, new_box_self, List.getElem?_cons_zero, List.getElem?_cons_succ, key_ii, key_ss, findM, updM, esc_i, esc_s, esc_b, Int.reduceEq, ret1, new_nb, new_set, reduceCtorEq, Bool.xor_true, Bool.xor_false, Bool.false_eq_true, List.all_cons, List.all_nil, noTok, Bool.and_self, Bool.and_true, Bool.true_and, Nat.zero_add, ld2, e1, e2]
    exact ⟨_, _, rfl, rfl, hE, hBB⟩
  | true =>
    have ld0 := ld_box (s := s.enter) (v := ao) (off := 0) hb rfl
    have ld1 := ld_box (s := s.enter) (v := ac) (off := 1) hb rfl
    have hel : elems s.enter 1 (.sl 1 [.s cur] .full) = some [.s cur] := by simp [elems, St.ok]
    obtain ⟨a', s2, happ, hr2, hg⟩ := app_row (t0 := t0) (T := 9) (a := ao) (y := .sl 1 [.s cur] .full) hwe ht0 ho hel (by simp) (by simpa using hsz)
    have b2 : s2.box? id = some (.cells 61 [ao, ac, .b true]) := by rw [← hb]; simp [St.box?, hg.nb, hg.boxes, St.enter]
    have e0 := st_box (s := s2) (off := 0) (v := a') b2 (row_cells hr2).1 (row_cells hr2).2 (by simp)
    obtain ⟨s3, hs3⟩ : ∃ s3, esc (s2.setBox id (.cells 61 ([ao, ac, .b true].set 0 a'))) id a' = s3 := ⟨_, rfl⟩
    rw [hs3] at e0
    have w2 := hg.wf hwe
    have hidx : id < s2.nb := by rw [hg.nb]; exact hid
    obtain ⟨m, hm1, hm2, hm3⟩ := esc_eq (s2.setBox id (.cells 61 ([ao, ac, .b true].set 0 a'))) id a'
    rw [hs3] at hm1
    have hbx : ∀ j, s3.box? j = if j = id then some (.cells 61 [a', ac, .b true]) else s.box? j := fun j => by
      rw [hm1]
      show (s2.setBox id (.cells 61 ([ao, ac, .b true].set 0 a'))).box? j = _
      rw [setBox_box? w2.b hidx]
      by_cases hj : j = id
      · rw [if_pos hj, if_pos hj]; rfl
      · rw [if_neg hj, if_neg hj]; simp [St.box?, hg.nb, hg.boxes, St.enter]
    have hlo3 : s3.lo ≤ id := by rw [hm1]; exact hm3 (row_refs hr2 (by simp))
    have hlom : ∀ s0 : St, Over s0 s → s0.nb ≤ id → s0.nb ≤ s3.lo := fun s0 h h1 => by
      have e : s3 = esc (s2.setBox id (.cells 61 ([ao, ac, .b true].set 0 a'))) id a' := hs3.symm
      rw [e]
      unfold Am.esc
      have h2 : s2.lo = s.nb := hg.lo
      have h3 := h.nb
      split
      · show s0.nb ≤ min s2.lo id; omega
      · show s0.nb ≤ s2.lo; omega
    obtain ⟨s4, s5, e4, e5, hE, hBB⟩ := end_tail (t0 := t0) (s := s) (sx := s3) (out := out ++ [cur]) (op := true) hid (by rw [hm1]; exact (w2.setBox _ _).lo m) (by rw [hm1]; exact hg.nb) (by rw [hm1]; exact hg.nt) (by rw [hbx, if_pos rfl])
      (by
        have := hr2.mono (s' := s3) (by rw [hm1]; exact Nat.le_refl _) fun k _ => by rw [hm1]; rfl
        simpa using this)
      (fun j hj => by rw [hbx, if_neg hj])
      (fun s0 h0 h1 h => by
        rw [hm1]
        refine Over.setLo (Over.setBox (hg.over s0 h0 h.nt ⟨h.nb, h.boxes, h.nt, h.toks, h.nb⟩) h1 hidx _) ?_
        have := hlom s0 h h1
        rw [hm1] at this
        exact this)
      (.inr hlo3) hlom
    have h8 := bytesL_by8 hc256
    rcases row_ok ho with ⟨rfl, hx⟩ | ⟨k, v, rfl, hok⟩ <;> rcases row_ok hc with ⟨rfl, hx2⟩ | ⟨k2, v2, rfl, hok2⟩ <;>
      (first
        | (have : cur = [] := by simpa [by8] using hx2
           subst this
           simp only [c_expand_builder_end, W_seq, W_reg, W_cond, W_blk, W_skip, W_exit, W_ret, W_regD, WO_nil, WO_cons, WO_guard2, wantV_b, bq_tt, bq_ft, bq_tf, bq_ff, Bool.not_true, Bool.not_false, WD_nil, WD_cons, WD_guard2, WS_some, WS_none, KS_n, KS_x, KS_r, KB_n, KB_x, KB_r, KN_ap, KO_ap, KD_ap, KC_nil, KF_n, KF_r, KG_n, KG_r, KL_n, KL_x, KL_r, CP_true, CP_false, evOp, evX, X.ev, optX, put_some, put_none, get_set2, sel_t, sel_f, Nat.reduceBEq, Nat.reduceAdd, Nat.reduceLT, Nat.reduceLeDiff, Nat.reduceEqDiff, reduceIte, if_true, if_false, bi_add, bi_sub, bi_mul, bi_eql, bi_neq, bi_lss, bi_leq, bi_gtr, bi_geq, bs_eql, bs_neq, bs_lss, Am.unOp, ret1, pubL, pub, pubA, initT, wkZ, wk, wants, resOf, tupOf, quiet, AOp.cls, Nat.beq_eq, Bool.or_eq_true, decide_true, decide_false, beq_self_eq_true, Bool.true_or, Bool.or_true, true_and, and_true, lenA, eqv, eqB, eqP, scal, new_box_self, List.getElem?_cons_zero, List.getElem?_cons_succ, key_ii, key_ss, findM, updM, esc_i, esc_s, esc_b, Int.reduceEq, ret1, new_nb, new_set, reduceCtorEq, Bool.xor_true, Bool.xor_false, Bool.false_eq_true, List.all_cons, List.all_nil, noTok, Bool.and_self, Bool.and_true, Bool.true_and, Nat.zero_add, ld0, ld1, ld2, allLen_s, happ, e0, e4, e5]
           exact ⟨_, _, rfl, rfl, hE, hBB⟩)
        | (have hok3 : s.enter.ok (.tok k2 v2) = true := hok2
           simp only [c_expand_builder_end, W_seq, W_reg, W_cond, W_blk, W_skip, W_exit, W_ret, W_regD, WO_nil, WO_cons, WO_guard2, wantV_b, bq_tt, bq_ft, bq_tf, bq_ff, Bool.not_true, Bool.not_false, WD_nil, WD_cons, WD_guard2, WS_some, WS_none, KS_n, KS_x, KS_r, KB_n, KB_x, KB_r, KN_ap, KO_ap, KD_ap, KC_nil, KF_n, KF_r, KG_n, KG_r, KL_n, KL_x, KL_r, CP_true, CP_false, evOp, evX, X.ev, optX, put_some, put_none, get_set2, sel_t, sel_f, Nat.reduceBEq, Nat.reduceAdd, Nat.reduceLT, Nat.reduceLeDiff, Nat.reduceEqDiff, reduceIte, if_true, if_false, bi_add, bi_sub, bi_mul, bi_eql, bi_neq, bi_lss, bi_leq, bi_gtr, bi_geq, bs_eql, bs_neq, bs_lss, Am.unOp, ret1, pubL, pub, pubA, initT, wkZ, wk, wants, resOf, tupOf, quiet, AOp.cls, Nat.beq_eq, Bool.or_eq_true, decide_true, decide_false, beq_self_eq_true, Bool.true_or, Bool.or_true, true_and, and_true, lenA, eqv, eqB, eqP, scal, new_box_self, List.getElem?_cons_zero, List.getElem?_cons_succ, key_ii, key_ss, findM, updM, esc_i, esc_s, esc_b, Int.reduceEq, ret1, new_nb, new_set, reduceCtorEq, Bool.xor_true, Bool.xor_false, Bool.false_eq_true, List.all_cons, List.all_nil, noTok, Bool.and_self, Bool.and_true, Bool.true_and, Nat.zero_add, ld0, ld1, ld2, allLen_s, hok3, h8, happ, e0, e4, e5]
           exact ⟨_, _, rfl, rfl, hE, hBB⟩))

theorem spl_len : ∀ (l : List Nat) (x : List (List Nat) × List Nat × Bool), (l.foldl spl x).1.length ≤ x.1.length + l.length ∧ (l.foldl spl x).2.1.length ≤ x.2.1.length + l.length
  | [], x => ⟨Nat.le_refl _, Nat.le_refl _⟩
  | c :: l, x => by
    obtain ⟨h1, h2⟩ := spl_len l (spl x c)
    have : (spl x c).1.length ≤ x.1.length + 1 ∧ (spl x c).2.1.length ≤ x.2.1.length + 1 := by
      unfold spl
      split
      · refine ⟨?_, by simp⟩
        simp only
        split <;> simp
      · exact ⟨by simp, by simp⟩
    simp only [List.foldl_cons, List.length_cons]
    omega
theorem spl_lt : ∀ (l : List Nat) (x : List (List Nat) × List Nat × Bool), (∀ n ∈ l, n < 256) → (∀ n ∈ x.2.1, n < 256) → ∀ n ∈ (l.foldl spl x).2.1, n < 256
  | [], _, _, h => h
  | c :: l, x, hl, h => by
    rw [List.foldl_cons]
    refine spl_lt l _ (fun n hn => hl n (by simp [hn])) ?_
    unfold spl
    split
    · simp
    · intro n hn
      simp only [List.mem_append, List.mem_singleton] at hn
      rcases hn with hn | rfl
      · exact h n hn
      · exact hl n (by simp)

theorem bounds_ii {len a b : Nat} (h1 : a ≤ b) (h2 : b ≤ len) : bounds len (some (.i .i64 (a : Int))) (some (.i .i64 (b : Int))) = some (a, b) := by
  simp [bounds, natOf, h1, h2]

theorem split_ok {t0 id : Nat} {s : St} {out : List (List Nat)} {cur : List Nat} {op : Bool} (l : List Nat) (hl : Txt l) (hw : Wf s) (ht0 : t0 ≤ s.nt) (hid : id < s.nb) (hB : BB t0 s id out cur op) (hc256 : ∀ n ∈ cur, n < 256)
    (hsz : out.length + l.length + 1 < 2 ^ 38) (hsz2 : cur.length + l.length + 1 < 2 ^ 38) :
    ∃ r s', (lim prog).call f_expand_builder_split [.p id 0, .s l] s = some (r, s') ∧ r = .tup [] ∧ Eff t0 id s s' ∧ BB t0 s' id (l.foldl spl (out, cur, op)).1 (l.foldl spl (out, cur, op)).2.1 (l.foldl spl (out, cur, op)).2.2 := by
  refine fn_G (Post := fun r s' => r = .tup [] ∧ Eff t0 id s s' ∧ BB t0 s' id (l.foldl spl (out, cur, op)).1 (l.foldl spl (out, cur, op)).2.1 (l.foldl spl (out, cur, op)).2.2) p_expand_builder_split rfl rfl ?_
  simp only [c_expand_builder_split, W_seq, W_reg, W_cond, W_blk, W_skip, W_exit, W_ret, W_regD, WO_nil, WO_cons, WO_guard2, wantV_b, bq_tt, bq_ft, bq_tf, bq_ff, Bool.not_true, Bool.not_false, WD_nil, WD_cons, WD_guard2, WS_some, WS_none, KS_n, KS_x, KS_r, KB_n, KB_x, KB_r, KN_ap, KO_ap, KD_ap, KC_nil, KF_n, KF_r, KG_n, KG_r, KL_n, KL_x, KL_r, CP_true, CP_false, evOp, evX, X.ev, optX, put_some, put_none, get_set2, sel_t, sel_f, Nat.reduceBEq, Nat.reduceAdd, Nat.reduceLT, Nat.reduceLeDiff, Nat.reduceEqDiff, reduceIte, if_true, if_false, bi_add, bi_sub, bi_mul, bi_eql, bi_neq, bi_lss, bi_leq, bi_gtr, bi_geq, bs_eql, bs_neq, bs_lss, Am.unOp, ret1, pubL, pub, pubA, initT, wkZ, wk, wants, resOf, tupOf, quiet, AOp.cls, Nat.beq_eq, Bool.or_eq_true, decide_true, decide_false, beq_self_eq_true, Bool.true_or, Bool.or_true, true_and, and_true, lenA, eqv, eqB, eqP, scal, new_box_self, List.getElem?_cons_zero, List.getElem?_cons_succ, key_ii, key_ss, findM, updM, esc_i, esc_s, esc_b, Int.reduceEq, ret1, new_nb, new_set, reduceCtorEq, Bool.xor_true, Bool.xor_false, Bool.false_eq_true, List.all_cons, List.all_nil, noTok, Bool.and_self, Bool.and_true, Bool.true_and, ofNat_len]
  refine W_loop (fun n e s1 => ∃ i : Nat, i + n = l.length ∧ e.get 0 = .p id 0 ∧ e.get 1 = .s l ∧ e.get 7 = .i .i64 l.length ∧ e.get 8 = .i .i64 i ∧ Eff t0 id s.enter s1 ∧
    BB t0 s1 id ((l.take i).foldl spl (out, cur, op)).1 ((l.take i).foldl spl (out, cur, op)).2.1 ((l.take i).foldl spl (out, cur, op)).2.2) ?_ l.length _ _ ?_
  · rintro n e s1 ⟨i, hi, h0, h1, h7, h8, hE, hBB⟩
    simp only [W_seq, W_reg, W_cond, W_blk, W_skip, W_exit, W_ret, W_regD, WO_nil, WO_cons, WO_guard2, wantV_b, bq_tt, bq_ft, bq_tf, bq_ff, Bool.not_true, Bool.not_false, WD_nil, WD_cons, WD_guard2, WS_some, WS_none, KS_n, KS_x, KS_r, KB_n, KB_x, KB_r, KN_ap, KO_ap, KD_ap, KC_nil, KF_n, KF_r, KG_n, KG_r, KL_n, KL_x, KL_r, CP_true, CP_false, evOp, evX, X.ev, optX, put_some, put_none, get_set2, sel_t, sel_f, Nat.reduceBEq, Nat.reduceAdd, Nat.reduceLT, Nat.reduceLeDiff, Nat.reduceEqDiff, reduceIte, if_true, if_false, bi_add, bi_sub, bi_mul, bi_eql, bi_neq, bi_lss, bi_leq, bi_gtr, bi_geq, bs_eql, bs_neq, bs_lss, Am.unOp, ret1, pubL, pub, pubA, initT, wkZ, wk, wants, resOf, tupOf, quiet, AOp.cls, Nat.beq_eq, Bool.or_eq_true, decide_true, decide_false, beq_self_eq_true, Bool.true_or, Bool.or_true, true_and, and_true, lenA, eqv, eqB, eqP, scal, new_box_self, List.getElem?_cons_zero, List.getElem?_cons_succ, key_ii, key_ss, findM, updM, esc_i, esc_s, esc_b, Int.reduceEq, ret1, new_nb, new_set, reduceCtorEq, Bool.xor_true, Bool.xor_false, Bool.false_eq_true, List.all_cons, List.all_nil, noTok, Bool.and_self, Bool.and_true, Bool.true_and, h0, h1, h7, h8, ofNat_len]
    refine CP_dec (fun hlt => ?_) (fun hge => ?_)
    · have hlt : i < l.length := by omega
      have hget : l[i]? = some l[i] := List.getElem?_eq_getElem hlt
      have hst : (l.take (i + 1)).foldl spl (out, cur, op) = spl ((l.take i).foldl spl (out, cur, op)) l[i] := by
        rw [List.take_succ_eq_append_getElem hlt, List.foldl_append]; rfl
      obtain ⟨q1, q2⟩ := spl_len (l.take i) (out, cur, op)
      have q3 := spl_lt (l.take i) (out, cur, op) (fun n hn => hl.lt n (List.mem_of_mem_take hn)) hc256
      have q4 : (l.take i).length = i := by simp; omega
      have hid1 : id < s1.nb := by have : s1.nb = s.nb := hE.nb; omega
      have hnt1 : t0 ≤ s1.nt := by have : s.nt ≤ s1.nt := hE.nt; omega
      have hsub : (l.drop i).take (i + 1 - i) = [l[i]] := by
        rw [show i + 1 - i = 1 by omega, List.take_one, List.head?_drop, hget]; rfl
      cases hb : blankN l[i] with
      | true =>
        obtain ⟨r, s2, c1, rfl, c3, c4⟩ := end_ok hE.wf hnt1 hid1 hBB q3 (by simp only at q1; omega)
        have hfin : ∃ m, m < n ∧ ∃ i', i' + m = l.length ∧ AV.i .i64 ((i + 1 : Nat) : Int) = .i .i64 i' ∧ Eff t0 id s.enter s2 ∧
            BB t0 s2 id ((l.take i').foldl spl (out, cur, op)).1 ((l.take i').foldl spl (out, cur, op)).2.1 ((l.take i').foldl spl (out, cur, op)).2.2 := by
          refine ⟨n - 1, by omega, i + 1, by omega, rfl, hE.trans c3, ?_⟩
          rw [hst]
          unfold spl
          rw [if_pos hb]
          exact c4
        simp only [blankN, Bool.or_eq_true, decide_eq_true_eq] at hb
        by_cases h32 : l[i] = 32
        · have h32' : ((l[i] : Int) = 32) = True := by simp; omega
          simp only [W_seq, W_reg, W_cond, W_blk, W_skip, W_exit, W_ret, W_regD, WO_nil, WO_cons, WO_guard2, wantV_b, bq_tt, bq_ft, bq_tf, bq_ff, Bool.not_true, Bool.not_false, WD_nil, WD_cons, WD_guard2, WS_some, WS_none, KS_n, KS_x, KS_r, KB_n, KB_x, KB_r, KN_ap, KO_ap, KD_ap, KC_nil, KF_n, KF_r, KG_n, KG_r, KL_n, KL_x, KL_r, CP_true, CP_false, evOp, evX, X.ev, optX, put_some, put_none, get_set2, sel_t, sel_f, Nat.reduceBEq, Nat.reduceAdd, Nat.reduceLT, Nat.reduceLeDiff, Nat.reduceEqDiff, reduceIte, if_true, if_false, bi_add, bi_sub, bi_mul, bi_eql, bi_neq, bi_lss, bi_leq, bi_gtr, bi_geq, bs_eql, bs_neq, bs_lss, Am.unOp, ret1, pubL, pub, pubA, initT, wkZ, wk, wants, resOf, tupOf, quiet, AOp.cls, Nat.beq_eq, Bool.or_eq_true, decide_true, decide_false, beq_self_eq_true, Bool.true_or, Bool.or_true, true_and, and_true, lenA, eqv, eqB, eqP, scal, new_box_self, List.getElem?_cons_zero, List.getElem?_cons_succ, key_ii, key_ss, findM, updM, esc_i, esc_s, esc_b, Int.reduceEq, ret1, new_nb, new_set, reduceCtorEq, Bool.xor_true, Bool.xor_false, Bool.false_eq_true, List.all_cons, List.all_nil, noTok, Bool.and_self, Bool.and_true, Bool.true_and, h0, h1, h7, h8, natOf_nat, hget, ofNat_len, h32', c1, wrap_succ (show i + 1 < 2 ^ 63 by have := hl.len; omega)]
          exact hfin
        · have h32' : ((l[i] : Int) = 32) = False := by simp; omega
          by_cases h9 : l[i] = 9
          · have h9' : ((l[i] : Int) = 9) = True := by simp; omega
            simp only [W_seq, W_reg, W_cond, W_blk, W_skip, W_exit, W_ret, W_regD, WO_nil, WO_cons, WO_guard2, wantV_b, bq_tt, bq_ft, bq_tf, bq_ff, Bool.not_true, Bool.not_false, WD_nil, WD_cons, WD_guard2, WS_some, WS_none, KS_n, KS_x, KS_r, KB_n, KB_x, KB_r, KN_ap, KO_ap, KD_ap, KC_nil, KF_n, KF_r, KG_n, KG_r, KL_n, KL_x, KL_r, CP_true, CP_false, evOp, evX, X.ev, optX, put_some, put_none, get_set2, sel_t, sel_f, Nat.reduceBEq, Nat.reduceAdd, Nat.reduceLT, Nat.reduceLeDiff, Nat.reduceEqDiff, reduceIte, if_true, if_false, bi_add, bi_sub, bi_mul, bi_eql, bi_neq, bi_lss, bi_leq, bi_gtr, bi_geq, bs_eql, bs_neq, bs_lss, Am.unOp, ret1, pubL, pub, pubA, initT, wkZ, wk, wants, resOf, tupOf, quiet, AOp.cls, Nat.beq_eq, Bool.or_eq_true, decide_true, decide_false, beq_self_eq_true, Bool.true_or, Bool.or_true, true_and, and_true, lenA, eqv, eqB, eqP, scal, new_box_self, List.getElem?_cons_zero, List.getElem?_cons_succ, key_ii, key_ss, findM, updM, esc_i, esc_s, esc_b, Int.reduceEq, ret1, new_nb, new_set, reduceCtorEq, Bool.xor_true, Bool.xor_false, Bool.false_eq_true, List.all_cons, List.all_nil, noTok, Bool.and_self, Bool.and_true, Bool.true_and, h0, h1, h7, h8, natOf_nat, hget, ofNat_len, h32', h9', c1, wrap_succ (show i + 1 < 2 ^ 63 by have := hl.len; omega)]
            exact hfin
          · have h9' : ((l[i] : Int) = 9) = False := by simp; omega
            have h10' : ((l[i] : Int) = 10) = True := by simp; omega
            simp only [W_seq, W_reg, W_cond, W_blk, W_skip, W_exit, W_ret, W_regD, WO_nil, WO_cons, WO_guard2, wantV_b, bq_tt, bq_ft, bq_tf, bq_ff, Bool.not_true, Bool.not_false, WD_nil, WD_cons, WD_guard2, WS_some, WS_none, KS_n, KS_x, KS_r, KB_n, KB_x, KB_r, KN_ap, KO_ap, KD_ap, KC_nil, KF_n, KF_r, KG_n, KG_r, KL_n, KL_x, KL_r, CP_true, CP_false, evOp, evX, X.ev, optX, put_some, put_none, get_set2, sel_t, sel_f, Nat.reduceBEq, Nat.reduceAdd, Nat.reduceLT, Nat.reduceLeDiff, Nat.reduceEqDiff, reduceIte, if_true, if_false, bi_add, bi_sub, bi_mul, bi_eql, bi_neq, bi_lss, bi_leq, bi_gtr, bi_geq, bs_eql, bs_neq, bs_lss, Am.unOp, ret1, pubL, pub, pubA, initT, wkZ, wk, wants, resOf, tupOf, quiet, AOp.cls, Nat.beq_eq, Bool.or_eq_true, decide_true, decide_false, beq_self_eq_true, Bool.true_or, Bool.or_true, true_and, and_true, lenA, eqv, eqB, eqP, scal, new_box_self, List.getElem?_cons_zero, List.getElem?_cons_succ, key_ii, key_ss, findM, updM, esc_i, esc_s, esc_b, Int.reduceEq, ret1, new_nb, new_set, reduceCtorEq, Bool.xor_true, Bool.xor_false, Bool.false_eq_true, List.all_cons, List.all_nil, noTok, Bool.and_self, Bool.and_true, Bool.true_and, h0, h1, h7, h8, natOf_nat, hget, ofNat_len, h32', h9', h10', c1, wrap_succ (show i + 1 < 2 ^ 63 by have := hl.len; omega)]
            exact hfin
      | false =>
        obtain ⟨r, s2, c1, rfl, c3, c4⟩ := add_ok [l[i]] hE.wf hnt1 hid1 hBB (by simp only at q2; simp; omega)
        have hfin : ∃ m, m < n ∧ ∃ i', i' + m = l.length ∧ AV.i .i64 ((i + 1 : Nat) : Int) = .i .i64 i' ∧ Eff t0 id s.enter s2 ∧
            BB t0 s2 id ((l.take i').foldl spl (out, cur, op)).1 ((l.take i').foldl spl (out, cur, op)).2.1 ((l.take i').foldl spl (out, cur, op)).2.2 := by
          refine ⟨n - 1, by omega, i + 1, by omega, rfl, hE.trans c3, ?_⟩
          rw [hst]
          unfold spl
          rw [hb]
          exact c4
        simp only [blankN, Bool.or_eq_false_iff, decide_eq_false_iff_not] at hb
        have h32' : ((l[i] : Int) = 32) = False := by simp; omega
        have h9' : ((l[i] : Int) = 9) = False := by simp; omega
        have h10' : ((l[i] : Int) = 10) = False := by simp; omega
        simp only [W_seq, W_reg, W_cond, W_blk, W_skip, W_exit, W_ret, W_regD, WO_nil, WO_cons, WO_guard2, wantV_b, bq_tt, bq_ft, bq_tf, bq_ff, Bool.not_true, Bool.not_false, WD_nil, WD_cons, WD_guard2, WS_some, WS_none, KS_n, KS_x, KS_r, KB_n, KB_x, KB_r, KN_ap, KO_ap, KD_ap, KC_nil, KF_n, KF_r, KG_n, KG_r, KL_n, KL_x, KL_r, CP_true, CP_false, evOp, evX, X.ev, optX, put_some, put_none, get_set2, sel_t, sel_f, Nat.reduceBEq, Nat.reduceAdd, Nat.reduceLT, Nat.reduceLeDiff, Nat.reduceEqDiff, reduceIte, if_true, if_false, bi_add, bi_sub, bi_mul, bi_eql, bi_neq, bi_lss, bi_leq, bi_gtr, bi_geq, bs_eql, bs_neq, bs_lss, Am.unOp, ret1, pubL, pub, pubA, initT, wkZ, wk, wants, resOf, tupOf, quiet, AOp.cls, Nat.beq_eq, Bool.or_eq_true, decide_true, decide_false, beq_self_eq_true, Bool.true_or, Bool.or_true, true_and, and_true, lenA, eqv, eqB, eqP, scal, new_box_self, List.getElem?_cons_zero, List.getElem?_cons_succ, key_ii, key_ss, findM, updM, esc_i, esc_s, esc_b, Int.reduceEq, ret1, new_nb, new_set, reduceCtorEq, Bool.xor_true, Bool.xor_false, Bool.false_eq_true, List.all_cons, List.all_nil, noTok, Bool.and_self, Bool.and_true, Bool.true_and, h0, h1, h7, h8, natOf_nat, hget, ofNat_len, h32', h9', h10', bounds_ii (show i ≤ i + 1 by omega) (show i + 1 ≤ l.length by omega), hsub, c1, wrap_succ (show i + 1 < 2 ^ 63 by have := hl.len; omega)]
        exact hfin
    · have hil : i = l.length := by omega
      subst hil
      rw [List.take_length] at hBB
      obtain ⟨m, k1, k2⟩ := hE.leave hid
      refine ⟨_, _, rfl, rfl, ?_⟩
      show Eff t0 id s (leave s s1 (.tup [])) ∧ BB t0 (leave s s1 (.tup [])) id _ _ _
      rw [k1]
      exact ⟨k2, hBB⟩
  · simp only [W_seq, W_reg, W_cond, W_blk, W_skip, W_exit, W_ret, W_regD, WO_nil, WO_cons, WO_guard2, wantV_b, bq_tt, bq_ft, bq_tf, bq_ff, Bool.not_true, Bool.not_false, WD_nil, WD_cons, WD_guard2, WS_some, WS_none, KS_n, KS_x, KS_r, KB_n, KB_x, KB_r, KN_ap, KO_ap, KD_ap, KC_nil, KF_n, KF_r, KG_n, KG_r, KL_n, KL_x, KL_r, CP_true, CP_false, evOp, evX, X.ev, optX, put_some, put_none, get_set2, sel_t, sel_f, Nat.reduceBEq, Nat.reduceAdd, Nat.reduceLT, Nat.reduceLeDiff, Nat.reduceEqDiff, reduceIte, if_true, if_false, bi_add, bi_sub, bi_mul, bi_eql, bi_neq, bi_lss, bi_leq, bi_gtr, bi_geq, bs_eql, bs_neq, bs_lss, Am.unOp, ret1, pubL, pub, pubA, initT, wkZ, wk, wants, resOf, tupOf, quiet, AOp.cls, Nat.beq_eq, Bool.or_eq_true, decide_true, decide_false, beq_self_eq_true, Bool.true_or, Bool.or_true, true_and, and_true, lenA, eqv, eqB, eqP, scal, new_box_self, List.getElem?_cons_zero, List.getElem?_cons_succ, key_ii, key_ss, findM, updM, esc_i, esc_s, esc_b, Int.reduceEq, ret1, new_nb, new_set, reduceCtorEq, Bool.xor_true, Bool.xor_false, Bool.false_eq_true, List.all_cons, List.all_nil, noTok, Bool.and_self, Bool.and_true, Bool.true_and]
    exact ⟨0, by omega, rfl, Eff.refl hw.enter, hB⟩
end Go.Proofs.YtfpoihibfajhlaaDoor

/-
  Items as plain lists.
-/
namespace Go.Proofs.YtfpoihibfajhlaaDoor
open Go.Proofs.YtfpoihibfajhlaaDoor.Am
abbrev partsA (ps : List PP) : AV := .ws false 3 (ps.map fun p => AV.agg p.cells)
structure II where
  parts : List PP
  split : Bool
abbrev II.cells (x : II) : List AV := [partsA x.parts, .b x.split]
abbrev itemsA (l : List II) : AV := .ws false 2 (l.map fun x => AV.agg x.cells)
end Go.Proofs.YtfpoihibfajhlaaDoor

/-
  Values, parts, fields.
-/
set_option maxRecDepth 100000
set_option linter.unusedSimpArgs false
namespace Go.Proofs.YtfpoihibfajhlaaDoor
open Go.Proofs.YtfpoihibfajhlaaDoor.Am
variable (it : Int → List Nat)

theorem values_ok (v : VV) (s : St) : (lim prog).call f_expand_values [v.av] s = some (.fn f_expand_values_1 [.p s.nb 0], { s.enter.new (.cells 28 v.cells) with lo := min s.lo s.nb }) := by
  obtain ⟨r, s', h, rfl, rfl⟩ := fn_G (f := f_expand_values) (args := [v.av]) (s := s) (Post := fun r s' => r = .fn f_expand_values_1 [.p s.nb 0] ∧ s' = { s.enter.new (.cells 28 v.cells) with lo := min s.lo s.nb }) p_expand_values rfl rfl (by
    simp only [c_expand_values, W_seq, W_reg, W_cond, W_blk, W_skip, W_exit, W_ret, W_regD, WO_nil, WO_cons, WO_guard2, wantV_b, bq_tt, bq_ft, bq_tf, bq_ff, Bool.not_true, Bool.not_false, WD_nil, WD_cons, WD_guard2, WS_some, WS_none, KS_n, KS_x, KS_r, KB_n, KB_x, KB_r, KN_ap, KO_ap, KD_ap, KC_nil, KF_n, KF_r, KG_n, KG_r, KL_n, KL_x, KL_r, CP_true, CP_false, evOp, evX, X.ev, optX, put_some, put_none, get_set2, sel_t, sel_f, Nat.reduceBEq, Nat.reduceAdd, Nat.reduceLT, Nat.reduceLeDiff, Nat.reduceEqDiff, reduceIte, if_true, if_false, bi_add, bi_sub, bi_mul, bi_eql, bi_neq, bi_lss, bi_leq, bi_gtr, bi_geq, bs_eql, bs_neq, bs_lss, Am.unOp, ret1, pubL, pub, pubA, initT, wkZ, wk, wants, resOf, tupOf, quiet, AOp.cls, Nat.beq_eq, Bool.or_eq_true, decide_true, decide_false, beq_self_eq_true, Bool.true_or, Bool.or_true, true_and, and_true, lenA, eqv, eqB, eqP, scal, new_box_self, List.getElem?_cons_zero, List.getElem?_cons_succ, key_ii, key_ss, findM, updM, esc_i, esc_s, esc_b, Int.reduceEq, ret1, new_nb, new_set, reduceCtorEq, Bool.xor_true, Bool.xor_false, Bool.false_eq_true, List.all_cons, List.all_nil, noTok, Bool.and_self, Bool.and_true, Bool.true_and, cells_agg, len4]
    refine ⟨_, _, rfl, rfl, ?_⟩
    have : Am.leave s (s.enter.new (.cells 28 v.cells)) (.fn f_expand_values_1 [.p s.nb 0]) = { s.enter.new (.cells 28 v.cells) with lo := min s.lo s.nb } := by
      unfold Am.leave
      rw [show (AV.fn f_expand_values_1 [AV.p s.nb 0]).refs = true from rfl, Bool.not_true, Bool.and_false, if_neg (by simp)]
      rfl
    exact this)
  exact h

theorem len3 (a b c : AV) : [a, b, c].length = 3 := rfl
theorem ld3_0 (s : St) (T : Nat) (a b c : AV) : ldA (s.new (.cells T [a, b, c])) false 1 (.p s.nb 0) = some a := ld_box (new_box_self s _) rfl
theorem ld3_1 (s : St) (T : Nat) (a b c : AV) : ldA (s.new (.cells T [a, b, c])) false 1 (.p s.nb 1) = some b := ld_box (new_box_self s _) rfl
theorem ld3_2 (s : St) (T : Nat) (a b c : AV) : ldA (s.new (.cells T [a, b, c])) false 1 (.p s.nb 2) = some c := ld_box (new_box_self s _) rfl
theorem ld_all4 {s : St} {T id : Nat} {a b c d : AV} (h : s.box? id = some (.cells T [a, b, c, d])) : ldA s true 4 (.p id 0) = some (.agg [a, b, c, d]) := by
  simp [ldA, St.cells?, h, cut, scal]
theorem ld_all3 {s : St} {T id : Nat} {a b c : AV} (h : s.box? id = some (.cells T [a, b, c])) : ldA s true 3 (.p id 0) = some (.agg [a, b, c]) := by
  simp [ldA, St.cells?, h, cut, scal]

theorem of_ok (hI : ItoaOk it) (v : VV) (hv : v.Ok) (p : PP) (hp : Txt p.text) {s : St} {idv : Nat} (hid : idv < s.nb) (hb : s.box? idv = some (.cells 28 v.cells)) :
    (lim prog).call f_expand_values_1 [.agg p.cells, .p idv 0] s = some (.s (partL it v p), s) := by
  refine fn_W p_expand_values_1 rfl rfl ?_
  have hb2 : (s.enter.new (.cells 31 p.cells)).box? idv = some (.cells 28 v.cells) := by rw [new_box_lt (s := s.enter) hid]; exact hb
  cases hpv : p.var with
  | true =>
    have hb3 : (s.enter.new (.cells 31 [.b true, .s p.text, .b p.quoted])).box? idv = some (.cells 28 v.cells) := by rw [new_box_lt (s := s.enter) hid]; exact hb
    simp only [c_expand_values_1, W_seq, W_reg, W_cond, W_blk, W_skip, W_exit, W_ret, W_regD, WO_nil, WO_cons, WO_guard2, wantV_b, bq_tt, bq_ft, bq_tf, bq_ff, Bool.not_true, Bool.not_false, WD_nil, WD_cons, WD_guard2, WS_some, WS_none, KS_n, KS_x, KS_r, KB_n, KB_x, KB_r, KN_ap, KO_ap, KD_ap, KC_nil, KF_n, KF_r, KG_n, KG_r, KL_n, KL_x, KL_r, CP_true, CP_false, evOp, evX, X.ev, optX, put_some, put_none, get_set2, sel_t, sel_f, Nat.reduceBEq, Nat.reduceAdd, Nat.reduceLT, Nat.reduceLeDiff, Nat.reduceEqDiff, reduceIte, if_true, if_false, bi_add, bi_sub, bi_mul, bi_eql, bi_neq, bi_lss, bi_leq, bi_gtr, bi_geq, bs_eql, bs_neq, bs_lss, Am.unOp, ret1, pubL, pub, pubA, initT, wkZ, wk, wants, resOf, tupOf, quiet, AOp.cls, Nat.beq_eq, Bool.or_eq_true, decide_true, decide_false, beq_self_eq_true, Bool.true_or, Bool.or_true, true_and, and_true, lenA, eqv, eqB, eqP, scal, new_box_self, List.getElem?_cons_zero, List.getElem?_cons_succ, key_ii, key_ss, findM, updM, esc_i, esc_s, esc_b, Int.reduceEq, ret1, new_nb, new_set, reduceCtorEq, Bool.xor_true, Bool.xor_false, Bool.false_eq_true, List.all_cons, List.all_nil, noTok, Bool.and_self, Bool.and_true, Bool.true_and, cells_agg, len3, hpv, ld3_0, ld3_1, ld3_2, Nat.zero_add, ld_all4 hb3, value_ok it hI v hv p.text hp]
    exact KR_some ((Over.enter s).new _) rfl (by simp [tupOf, wkZ, wk, partL, hpv])
  | false =>
    simp only [c_expand_values_1, W_seq, W_reg, W_cond, W_blk, W_skip, W_exit, W_ret, W_regD, WO_nil, WO_cons, WO_guard2, wantV_b, bq_tt, bq_ft, bq_tf, bq_ff, Bool.not_true, Bool.not_false, WD_nil, WD_cons, WD_guard2, WS_some, WS_none, KS_n, KS_x, KS_r, KB_n, KB_x, KB_r, KN_ap, KO_ap, KD_ap, KC_nil, KF_n, KF_r, KG_n, KG_r, KL_n, KL_x, KL_r, CP_true, CP_false, evOp, evX, X.ev, optX, put_some, put_none, get_set2, sel_t, sel_f, Nat.reduceBEq, Nat.reduceAdd, Nat.reduceLT, Nat.reduceLeDiff, Nat.reduceEqDiff, reduceIte, if_true, if_false, bi_add, bi_sub, bi_mul, bi_eql, bi_neq, bi_lss, bi_leq, bi_gtr, bi_geq, bs_eql, bs_neq, bs_lss, Am.unOp, ret1, pubL, pub, pubA, initT, wkZ, wk, wants, resOf, tupOf, quiet, AOp.cls, Nat.beq_eq, Bool.or_eq_true, decide_true, decide_false, beq_self_eq_true, Bool.true_or, Bool.or_true, true_and, and_true, lenA, eqv, eqB, eqP, scal, new_box_self, List.getElem?_cons_zero, List.getElem?_cons_succ, key_ii, key_ss, findM, updM, esc_i, esc_s, esc_b, Int.reduceEq, ret1, new_nb, new_set, reduceCtorEq, Bool.xor_true, Bool.xor_false, Bool.false_eq_true, List.all_cons, List.all_nil, noTok, Bool.and_self, Bool.and_true, Bool.true_and, cells_agg, len3, hpv, ld3_0, ld3_1, ld3_2, Nat.zero_add]
    exact KR_some ((Over.enter s).new _) rfl (by simp [tupOf, wkZ, wk, partL, hpv])

theorem szF_append (v : VV) (a b : List PP) : szF it v (a ++ b) = szF it v a + szF it v b := by simp [szF]
theorem szF_cons (v : VV) (p : PP) (b : List PP) : szF it v (p :: b) = (partL it v p).length + 1 + szF it v b := by simp [szF]
theorem stepF_len (v : VV) : ∀ (ps : List PP) (x : List (List Nat) × List Nat × Bool), (ps.foldl (stepF it v) x).1.length ≤ x.1.length + szF it v ps ∧ (ps.foldl (stepF it v) x).2.1.length ≤ x.2.1.length + szF it v ps
  | [], x => ⟨Nat.le_refl _, Nat.le_refl _⟩
  | p :: ps, x => by
    obtain ⟨h1, h2⟩ := stepF_len v ps (stepF it v x p)
    have h3 : (stepF it v x p).1.length ≤ x.1.length + (partL it v p).length + 1 ∧ (stepF it v x p).2.1.length ≤ x.2.1.length + (partL it v p).length + 1 := by
      unfold stepF
      split
      · obtain ⟨q1, q2⟩ := spl_len (partL it v p) x
        omega
      · split
        · simp; omega
        · omega
    simp only [List.foldl_cons, szF, List.map_cons, List.sum_cons] at h1 h2 ⊢
    omega
theorem stepF_lt (v : VV) : ∀ (ps : List PP) (x : List (List Nat) × List Nat × Bool), (∀ p ∈ ps, ∀ n ∈ partL it v p, n < 256) → (∀ n ∈ x.2.1, n < 256) → ∀ n ∈ (ps.foldl (stepF it v) x).2.1, n < 256
  | [], _, _, h => h
  | p :: ps, x, hp, h => by
    rw [List.foldl_cons]
    refine stepF_lt v ps _ (fun q hq => hp q (by simp [hq])) ?_
    have hp0 := hp p (by simp)
    unfold stepF
    split
    · exact spl_lt _ _ hp0 h
    · split
      · intro n hn
        simp only [List.mem_append] at hn
        rcases hn with hn | hn
        · exact h n hn
        · exact hp0 n hn
      · exact h

theorem wkM_id : ∀ l : List AV, wkM .id l = l
  | [] => rfl
  | a :: l => by simp [wkM, wk, wkM_id l]
theorem refs_s : ∀ L : List (List Nat), AV.refs.go (L.map AV.s) = false
  | [] => rfl
  | _ :: L => by simp [AV.refs.go, AV.refs, refs_s L]


theorem ldE3 (s : St) (a b c : AV) : ldA s true 3 (.ep [a, b, c] 0 .shut) = some (.agg [a, b, c]) := rfl
theorem callV_fn (σ : Self) (g : Nat) (caps args : List AV) (s : St) : callV σ (.fn g caps) args s = σ.call g (args ++ caps) s := rfl

theorem fields_ok (hI : ItoaOk it) (v : VV) (hv : v.Ok) (ps : List PP) (hp : ∀ p ∈ ps, Txt p.text) (ht : ∀ p ∈ ps, Txt (partL it v p)) (hlen : ps.length < 2 ^ 63) (hsz : szF it v ps < 2 ^ 37) (s : St) (hw : Wf s) :
    (lim prog).call f_expand_Fields [v.av, partsA ps] s = some (tx (fieldsL it v ps), s) := by
  refine fn_W p_expand_Fields rfl rfl ?_
  obtain ⟨s1, hs1⟩ : ∃ s1, ({ (s.enter.new (.cells 28 v.cells)).enter.new (.cells 28 v.cells) with lo := min (s.enter.new (.cells 28 v.cells)).lo (s.enter.new (.cells 28 v.cells)).nb } : St) = s1 := ⟨_, rfl⟩
  have hval := values_ok v (s.enter.new (.cells 28 v.cells))
  rw [hs1] at hval
  have hb0 : (s.enter.new (.cells 28 v.cells)).box? s.enter.nb = some (.cells 28 v.cells) := new_box_self _ _
  have n1 : s1.nb = s.nb + 2 ∧ s1.nt = s.nt := by rw [← hs1]; exact ⟨rfl, rfl⟩
  have w1 : Wf s1 := by rw [← hs1]; exact (((hw.enter.new _).enter).new _).lo _
  have ov1 : Over s s1 := by
    rw [← hs1]
    refine Over.setLo (((Over.enter s).new _).toEnter.new _) ?_
    show s.nb ≤ min s.nb (s.nb + 1)
    omega
  have bv1 : s1.box? (s.nb + 1) = some (.cells 28 v.cells) := by
    rw [← hs1]
    exact new_box_self ((s.enter.new (.cells 28 v.cells)).enter) _
  obtain ⟨idb, hidb⟩ : ∃ k, s1.nb = k := ⟨_, rfl⟩
  have hpl : (ps.map fun p => AV.agg p.cells).length = ps.length := by simp
  simp only [c_expand_Fields, W_seq, W_reg, W_cond, W_blk, W_skip, W_exit, W_ret, W_regD, WO_nil, WO_cons, WO_guard2, wantV_b, bq_tt, bq_ft, bq_tf, bq_ff, Bool.not_true, Bool.not_false, WD_nil, WD_cons, WD_guard2, WS_some, WS_none, KS_n, KS_x, KS_r, KB_n, KB_x, KB_r, KN_ap, KO_ap, KD_ap, KC_nil, KF_n, KF_r, KG_n, KG_r, KL_n, KL_x, KL_r, CP_true, CP_false, evOp, evX, X.ev, optX, put_some, put_none, get_set2, sel_t, sel_f, Nat.reduceBEq, Nat.reduceAdd, Nat.reduceLT, Nat.reduceLeDiff, Nat.reduceEqDiff, reduceIte, if_true, if_false, bi_add, bi_sub, bi_mul, bi_eql, bi_neq, bi_lss, bi_leq, bi_gtr, bi_geq, bs_eql, bs_neq, bs_lss, Am.unOp, ret1, pubL, pub, pubA, initT, wkZ, wk, wants, resOf, tupOf, quiet, AOp.cls, Nat.beq_eq, Bool.or_eq_true, decide_true, decide_false, beq_self_eq_true, Bool.true_or, Bool.or_true, true_and, and_true, lenA, eqv, eqB, eqP, scal, new_box_self, List.getElem?_cons_zero, List.getElem?_cons_succ, key_ii, key_ss, findM, updM, esc_i, esc_s, esc_b, Int.reduceEq, ret1, new_nb, new_set, reduceCtorEq, Bool.xor_true, Bool.xor_false, Bool.false_eq_true, List.all_cons, List.all_nil, noTok, Bool.and_self, Bool.and_true, Bool.true_and, cells_agg, len4, len3, ld_all4 hb0, hval, evParts, hidb, List.length_map, ofNat_len]
  refine W_loop (fun n e q => ∃ i : Nat, i + n = ps.length ∧ e.get 5 = .fn f_expand_values_1 [.p (s.nb + 1) 0] ∧ e.get 6 = .p idb 0 ∧ e.get 14 = partsA ps ∧ e.get 15 = .i .i64 ps.length ∧ e.get 16 = .i .i64 i ∧
    Over s q ∧ Wf q ∧ idb < q.nb ∧ q.box? (s.nb + 1) = some (.cells 28 v.cells) ∧ BB s.nt q idb ((ps.take i).foldl (stepF it v) ([], [], false)).1 ((ps.take i).foldl (stepF it v) ([], [], false)).2.1 ((ps.take i).foldl (stepF it v) ([], [], false)).2.2) ?_ ps.length _ _ ?_
  · rintro n e q ⟨i, hi, h5, h6, h14, h15, h16, hov, hwq, hq, hbv, hBB⟩
    simp only [W_seq, W_reg, W_cond, W_blk, W_skip, W_exit, W_ret, W_regD, WO_nil, WO_cons, WO_guard2, wantV_b, bq_tt, bq_ft, bq_tf, bq_ff, Bool.not_true, Bool.not_false, WD_nil, WD_cons, WD_guard2, WS_some, WS_none, KS_n, KS_x, KS_r, KB_n, KB_x, KB_r, KN_ap, KO_ap, KD_ap, KC_nil, KF_n, KF_r, KG_n, KG_r, KL_n, KL_x, KL_r, CP_true, CP_false, evOp, evX, X.ev, optX, put_some, put_none, get_set2, sel_t, sel_f, Nat.reduceBEq, Nat.reduceAdd, Nat.reduceLT, Nat.reduceLeDiff, Nat.reduceEqDiff, reduceIte, if_true, if_false, bi_add, bi_sub, bi_mul, bi_eql, bi_neq, bi_lss, bi_leq, bi_gtr, bi_geq, bs_eql, bs_neq, bs_lss, Am.unOp, ret1, pubL, pub, pubA, initT, wkZ, wk, wants, resOf, tupOf, quiet, AOp.cls, Nat.beq_eq, Bool.or_eq_true, decide_true, decide_false, beq_self_eq_true, Bool.true_or, Bool.or_true, true_and, and_true, lenA, eqv, eqB, eqP, scal, new_box_self, List.getElem?_cons_zero, List.getElem?_cons_succ, key_ii, key_ss, findM, updM, esc_i, esc_s, esc_b, Int.reduceEq, ret1, new_nb, new_set, reduceCtorEq, Bool.xor_true, Bool.xor_false, Bool.false_eq_true, List.all_cons, List.all_nil, noTok, Bool.and_self, Bool.and_true, Bool.true_and, h5, h6, h14, h15, h16, ofNat_len]
    refine CP_dec (fun hlt => ?_) (fun hge => ?_)
    · have hlt : i < ps.length := by omega
      have hget : (ps.map fun p => AV.agg p.cells)[i]? = some (.agg ps[i].cells) := by simp [hlt]
      have hst : (ps.take (i + 1)).foldl (stepF it v) ([], [], false) = stepF it v ((ps.take i).foldl (stepF it v) ([], [], false)) ps[i] := by
        rw [List.take_succ_eq_append_getElem hlt, List.foldl_append]; rfl
      -- the part in a box of its own
      obtain ⟨q2, hq2⟩ : ∃ q2, q.new (.cells 31 ps[i].cells) = q2 := ⟨_, rfl⟩
      have w2 : Wf q2 := by rw [← hq2]; exact hwq.new _
      have ov2 : Over s q2 := by rw [← hq2]; exact hov.new _
      have nb2 : q2.nb = q.nb + 1 ∧ q2.nt = q.nt := by rw [← hq2]; exact ⟨rfl, rfl⟩
      have lt2 : ∀ j, j < q.nb → q2.box? j = q.box? j := fun j hj => by rw [← hq2]; exact new_box_lt hj
      have est : stA (q.new (.cells 31 [.b false, .s [], .b false])) 3 (.p q.nb 0) (.agg ps[i].cells) = some q2 := by
        rw [← hq2]
        simp [stA, new_box_self, AV.cells, ones, over, esc, AV.refs, AV.refs.go, new_set]
      have bq2 : q2.box? q.nb = some (.cells 31 ps[i].cells) := by rw [← hq2]; exact new_box_self _ _
      have hofc := of_ok it hI v hv ps[i] (hp _ (List.getElem_mem hlt)) (s := q2) (idv := s.nb + 1) (by omega) (by rw [lt2 _ (by omega)]; exact hbv)
      have hBB2 : BB s.nt q2 idb ((ps.take i).foldl (stepF it v) ([], [], false)).1 ((ps.take i).foldl (stepF it v) ([], [], false)).2.1 ((ps.take i).foldl (stepF it v) ([], [], false)).2.2 := by
        obtain ⟨ao, ac, k1, k2, k3, k4⟩ := hBB
        refine ⟨ao, ac, by rw [lt2 _ hq]; exact k1, k2.mono (by omega) fun k _ => by rw [← hq2]; rfl, k3.mono (by omega) fun k _ => by rw [← hq2]; rfl, k4⟩
      have l0 := ld_box (s := q2) (off := 0) (v := .b ps[i].var) bq2 rfl
      have l2 := ld_box (s := q2) (off := 2) (v := .b ps[i].quoted) bq2 rfl
      have la := ld_all3 (s := q2) bq2
      have hfin : ∀ q3, Eff s.nt idb q2 q3 → BB s.nt q3 idb (stepF it v ((ps.take i).foldl (stepF it v) ([], [], false)) ps[i]).1 (stepF it v ((ps.take i).foldl (stepF it v) ([], [], false)) ps[i]).2.1 (stepF it v ((ps.take i).foldl (stepF it v) ([], [], false)) ps[i]).2.2 →
          ∃ m, m < n ∧ ∃ i' : Nat, i' + m = ps.length ∧ AV.i .i64 ((i + 1 : Nat) : Int) = .i .i64 i' ∧ Over s q3 ∧ Wf q3 ∧ idb < q3.nb ∧ q3.box? (s.nb + 1) = some (.cells 28 v.cells) ∧
            BB s.nt q3 idb ((ps.take i').foldl (stepF it v) ([], [], false)).1 ((ps.take i').foldl (stepF it v) ([], [], false)).2.1 ((ps.take i').foldl (stepF it v) ([], [], false)).2.2 := by
        intro q3 hE h
        refine ⟨n - 1, by omega, i + 1, by omega, rfl, hE.over s (Nat.le_refl _) (by omega) ov2, hE.wf, by rw [hE.nb]; omega, by rw [hE.box _ (by omega), lt2 _ (by omega)]; exact hbv, ?_⟩
        rw [hst]
        exact h
      have htp := ht ps[i] (List.getElem_mem hlt)
      obtain ⟨z1, z2⟩ := stepF_len it v (ps.take i) ([], [], false)
      have z3 := stepF_lt it v (ps.take i) ([], [], false) (fun p hp' n hn => (ht p (List.mem_of_mem_take hp')).lt n hn) (by simp)
      have z4 : szF it v (ps.take i) + (partL it v ps[i]).length + 1 ≤ szF it v ps := by
        have e1 : ps.take i ++ (ps[i] :: ps.drop (i + 1)) = ps := by rw [← List.drop_eq_getElem_cons hlt, List.take_append_drop]
        have e2 := congrArg (szF it v) e1
        rw [szF_append, szF_cons] at e2
        omega
      simp only [List.length_nil, Nat.zero_add] at z1 z2
      have hnt2 : s.nt ≤ q2.nt := ov2.nt
      have hib2 : idb < q2.nb := by omega
      have hw64 := wrap_succ (show i + 1 < 2 ^ 63 by omega)
      cases hvar : ps[i].var with
      | true =>
        cases hqu : ps[i].quoted with
        | false =>
          obtain ⟨r, q3, c1, rfl, c3, c4⟩ := split_ok (partL it v ps[i]) htp w2 hnt2 hib2 hBB2 z3 (by omega) (by omega)
          simp only [PP.cells, hvar, hqu] at est l0 l2 la hofc
          simp only [W_seq, W_reg, W_cond, W_blk, W_skip, W_exit, W_ret, W_regD, WO_nil, WO_cons, WO_guard2, wantV_b, bq_tt, bq_ft, bq_tf, bq_ff, Bool.not_true, Bool.not_false, WD_nil, WD_cons, WD_guard2, WS_some, WS_none, KS_n, KS_x, KS_r, KB_n, KB_x, KB_r, KN_ap, KO_ap, KD_ap, KC_nil, KF_n, KF_r, KG_n, KG_r, KL_n, KL_x, KL_r, CP_true, CP_false, evOp, evX, X.ev, optX, put_some, put_none, get_set2, sel_t, sel_f, Nat.reduceBEq, Nat.reduceAdd, Nat.reduceLT, Nat.reduceLeDiff, Nat.reduceEqDiff, reduceIte, if_true, if_false, bi_add, bi_sub, bi_mul, bi_eql, bi_neq, bi_lss, bi_leq, bi_gtr, bi_geq, bs_eql, bs_neq, bs_lss, Am.unOp, ret1, pubL, pub, pubA, initT, wkZ, wk, wants, resOf, tupOf, quiet, AOp.cls, Nat.beq_eq, Bool.or_eq_true, decide_true, decide_false, beq_self_eq_true, Bool.true_or, Bool.or_true, true_and, and_true, lenA, eqv, eqB, eqP, scal, new_box_self, List.getElem?_cons_zero, List.getElem?_cons_succ, key_ii, key_ss, findM, updM, esc_i, esc_s, esc_b, Int.reduceEq, ret1, new_nb, new_set, reduceCtorEq, Bool.xor_true, Bool.xor_false, Bool.false_eq_true, List.all_cons, List.all_nil, noTok, Bool.and_self, Bool.and_true, Bool.true_and, h5, h6, h14, h15, h16, natOf_nat, hget, cells_agg, len3, ofNat_len, ldE3, est, la, l0, l2, callV_fn, List.cons_append, List.nil_append, Nat.zero_add, hofc, hvar, hqu, c1, hw64]
          refine hfin q3 c3 ?_
          unfold stepF
          rw [hvar, hqu]
          exact c4
        | true =>
          obtain ⟨r, q3, c1, rfl, c3, c4⟩ := add_ok (partL it v ps[i]) w2 hnt2 hib2 hBB2 (by omega)
          simp only [PP.cells, hvar, hqu] at est l0 l2 la hofc
          simp only [W_seq, W_reg, W_cond, W_blk, W_skip, W_exit, W_ret, W_regD, WO_nil, WO_cons, WO_guard2, wantV_b, bq_tt, bq_ft, bq_tf, bq_ff, Bool.not_true, Bool.not_false, WD_nil, WD_cons, WD_guard2, WS_some, WS_none, KS_n, KS_x, KS_r, KB_n, KB_x, KB_r, KN_ap, KO_ap, KD_ap, KC_nil, KF_n, KF_r, KG_n, KG_r, KL_n, KL_x, KL_r, CP_true, CP_false, evOp, evX, X.ev, optX, put_some, put_none, get_set2, sel_t, sel_f, Nat.reduceBEq, Nat.reduceAdd, Nat.reduceLT, Nat.reduceLeDiff, Nat.reduceEqDiff, reduceIte, if_true, if_false, bi_add, bi_sub, bi_mul, bi_eql, bi_neq, bi_lss, bi_leq, bi_gtr, bi_geq, bs_eql, bs_neq, bs_lss, Am.unOp, ret1, pubL, pub, pubA, initT, wkZ, wk, wants, resOf, tupOf, quiet, AOp.cls, Nat.beq_eq, Bool.or_eq_true, decide_true, decide_false, beq_self_eq_true, Bool.true_or, Bool.or_true, true_and, and_true, lenA, eqv, eqB, eqP, scal, new_box_self, List.getElem?_cons_zero, List.getElem?_cons_succ, key_ii, key_ss, findM, updM, esc_i, esc_s, esc_b, Int.reduceEq, ret1, new_nb, new_set, reduceCtorEq, Bool.xor_true, Bool.xor_false, Bool.false_eq_true, List.all_cons, List.all_nil, noTok, Bool.and_self, Bool.and_true, Bool.true_and, h5, h6, h14, h15, h16, natOf_nat, hget, cells_agg, len3, ofNat_len, ldE3, est, la, l0, l2, callV_fn, List.cons_append, List.nil_append, Nat.zero_add, hofc, hvar, hqu, c1, hw64]
          refine hfin q3 c3 ?_
          unfold stepF
          rw [hvar, hqu]
          exact c4
      | false =>
        cases hqu : ps[i].quoted with
        | true =>
          obtain ⟨r, q3, c1, rfl, c3, c4⟩ := add_ok (partL it v ps[i]) w2 hnt2 hib2 hBB2 (by omega)
          simp only [PP.cells, hvar, hqu] at est l0 l2 la hofc
          simp only [W_seq, W_reg, W_cond, W_blk, W_skip, W_exit, W_ret, W_regD, WO_nil, WO_cons, WO_guard2, wantV_b, bq_tt, bq_ft, bq_tf, bq_ff, Bool.not_true, Bool.not_false, WD_nil, WD_cons, WD_guard2, WS_some, WS_none, KS_n, KS_x, KS_r, KB_n, KB_x, KB_r, KN_ap, KO_ap, KD_ap, KC_nil, KF_n, KF_r, KG_n, KG_r, KL_n, KL_x, KL_r, CP_true, CP_false, evOp, evX, X.ev, optX, put_some, put_none, get_set2, sel_t, sel_f, Nat.reduceBEq, Nat.reduceAdd, Nat.reduceLT, Nat.reduceLeDiff, Nat.reduceEqDiff, reduceIte, if_true, if_false, bi_add, bi_sub, bi_mul, bi_eql, bi_neq, bi_lss, bi_leq, bi_gtr, bi_geq, bs_eql, bs_neq, bs_lss, Am.unOp, ret1, pubL, pub, pubA, initT, wkZ, wk, wants, resOf, tupOf, quiet, AOp.cls, Nat.beq_eq, Bool.or_eq_true, decide_true, decide_false, beq_self_eq_true, Bool.true_or, Bool.or_true, true_and, and_true, lenA, eqv, eqB, eqP, scal, new_box_self, List.getElem?_cons_zero, List.getElem?_cons_succ, key_ii, key_ss, findM, updM, esc_i, esc_s, esc_b, Int.reduceEq, ret1, new_nb, new_set, reduceCtorEq, Bool.xor_true, Bool.xor_false, Bool.false_eq_true, List.all_cons, List.all_nil, noTok, Bool.and_self, Bool.and_true, Bool.true_and, h5, h6, h14, h15, h16, natOf_nat, hget, cells_agg, len3, ofNat_len, ldE3, est, la, l0, l2, callV_fn, List.cons_append, List.nil_append, Nat.zero_add, hofc, hvar, hqu, c1, hw64]
          refine hfin q3 c3 ?_
          unfold stepF
          rw [hvar, hqu]
          exact c4
        | false =>
          simp only [PP.cells, hvar, hqu] at est l0 l2 la hofc
          by_cases hne : partL it v ps[i] = []
          · have hne' : (partL it v ps[i] ≠ []) = False := by simp [hne]
            simp only [W_seq, W_reg, W_cond, W_blk, W_skip, W_exit, W_ret, W_regD, WO_nil, WO_cons, WO_guard2, wantV_b, bq_tt, bq_ft, bq_tf, bq_ff, Bool.not_true, Bool.not_false, WD_nil, WD_cons, WD_guard2, WS_some, WS_none, KS_n, KS_x, KS_r, KB_n, KB_x, KB_r, KN_ap, KO_ap, KD_ap, KC_nil, KF_n, KF_r, KG_n, KG_r, KL_n, KL_x, KL_r, CP_true, CP_false, evOp, evX, X.ev, optX, put_some, put_none, get_set2, sel_t, sel_f, Nat.reduceBEq, Nat.reduceAdd, Nat.reduceLT, Nat.reduceLeDiff, Nat.reduceEqDiff, reduceIte, if_true, if_false, bi_add, bi_sub, bi_mul, bi_eql, bi_neq, bi_lss, bi_leq, bi_gtr, bi_geq, bs_eql, bs_neq, bs_lss, Am.unOp, ret1, pubL, pub, pubA, initT, wkZ, wk, wants, resOf, tupOf, quiet, AOp.cls, Nat.beq_eq, Bool.or_eq_true, decide_true, decide_false, beq_self_eq_true, Bool.true_or, Bool.or_true, true_and, and_true, lenA, eqv, eqB, eqP, scal, new_box_self, List.getElem?_cons_zero, List.getElem?_cons_succ, key_ii, key_ss, findM, updM, esc_i, esc_s, esc_b, Int.reduceEq, ret1, new_nb, new_set, reduceCtorEq, Bool.xor_true, Bool.xor_false, Bool.false_eq_true, List.all_cons, List.all_nil, noTok, Bool.and_self, Bool.and_true, Bool.true_and, h5, h6, h14, h15, h16, natOf_nat, hget, cells_agg, len3, ofNat_len, ldE3, est, la, l0, l2, callV_fn, List.cons_append, List.nil_append, Nat.zero_add, hofc, hvar, hqu, hne', hw64]
            refine hfin q2 (Eff.refl w2) ?_
            unfold stepF
            rw [hvar, hqu, hne]
            exact hBB2
          · obtain ⟨r, q3, c1, rfl, c3, c4⟩ := add_ok (partL it v ps[i]) w2 hnt2 hib2 hBB2 (by omega)
            have hne' : (partL it v ps[i] ≠ []) = True := by simp [hne]
            simp only [W_seq, W_reg, W_cond, W_blk, W_skip, W_exit, W_ret, W_regD, WO_nil, WO_cons, WO_guard2, wantV_b, bq_tt, bq_ft, bq_tf, bq_ff, Bool.not_true, Bool.not_false, WD_nil, WD_cons, WD_guard2, WS_some, WS_none, KS_n, KS_x, KS_r, KB_n, KB_x, KB_r, KN_ap, KO_ap, KD_ap, KC_nil, KF_n, KF_r, KG_n, KG_r, KL_n, KL_x, KL_r, CP_true, CP_false, evOp, evX, X.ev, optX, put_some, put_none, get_set2, sel_t, sel_f, Nat.reduceBEq, Nat.reduceAdd, Nat.reduceLT, Nat.reduceLeDiff, Nat.reduceEqDiff, reduceIte, if_true, if_false, bi_add, bi_sub, bi_mul, bi_eql, bi_neq, bi_lss, bi_leq, bi_gtr, bi_geq, bs_eql, bs_neq, bs_lss, Am.unOp, ret1, pubL, pub, pubA, initT, wkZ, wk, wants, resOf, tupOf, quiet, AOp.cls, Nat.beq_eq, Bool.or_eq_true, decide_true, decide_false, beq_self_eq_true, Bool.true_or, Bool.or_true, true_and, and_true, lenA, eqv, eqB, eqP, scal, new_box_self, List.getElem?_cons_zero, List.getElem?_cons_succ, key_ii, key_ss, findM, updM, esc_i, esc_s, esc_b, Int.reduceEq, ret1, new_nb, new_set, reduceCtorEq, Bool.xor_true, Bool.xor_false, Bool.false_eq_true, List.all_cons, List.all_nil, noTok, Bool.and_self, Bool.and_true, Bool.true_and, h5, h6, h14, h15, h16, natOf_nat, hget, cells_agg, len3, ofNat_len, ldE3, est, la, l0, l2, callV_fn, List.cons_append, List.nil_append, Nat.zero_add, hofc, hvar, hqu, hne', c1, hw64]
            refine hfin q3 c3 ?_
            unfold stepF
            rw [hvar, hqu, if_neg (by simp), if_pos (by simp [hne])]
            exact c4
    · have hil : i = ps.length := by omega
      subst hil
      rw [List.take_length] at hBB
      obtain ⟨z1, z2⟩ := stepF_len it v ps ([], [], false)
      have z3 := stepF_lt it v ps ([], [], false) (fun p hp' n hn => (ht p hp').lt n hn) (by simp)
      simp only [List.length_nil, Nat.zero_add] at z1 z2
      obtain ⟨r, q3, c1, rfl, c3, c4⟩ := end_ok hwq hov.nt hq hBB z3 (by omega)
      obtain ⟨ao, ac, k1, k2, k3, k4⟩ := c4
      have l0 := ld_box (s := q3) (off := 0) k1 rfl
      have ov3 := c3.over s (Nat.le_refl _) (by omega) hov
      have hval2 : (if (ps.foldl (stepF it v) ([], [], false)).2.2 = true then (ps.foldl (stepF it v) ([], [], false)).1 ++ [(ps.foldl (stepF it v) ([], [], false)).2.1] else (ps.foldl (stepF it v) ([], [], false)).1) = fieldsL it v ps := rfl
      rw [hval2] at k2
      rcases k2 with ⟨rfl, hx⟩ | ⟨k, vv, t, rfl, m1, m2, m3, m4, _⟩
      · have hx : fieldsL it v ps = [] := by simpa using hx
        simp only [W_seq, W_reg, W_cond, W_blk, W_skip, W_exit, W_ret, W_regD, WO_nil, WO_cons, WO_guard2, wantV_b, bq_tt, bq_ft, bq_tf, bq_ff, Bool.not_true, Bool.not_false, WD_nil, WD_cons, WD_guard2, WS_some, WS_none, KS_n, KS_x, KS_r, KB_n, KB_x, KB_r, KN_ap, KO_ap, KD_ap, KC_nil, KF_n, KF_r, KG_n, KG_r, KL_n, KL_x, KL_r, CP_true, CP_false, evOp, evX, X.ev, optX, put_some, put_none, get_set2, sel_t, sel_f, Nat.reduceBEq, Nat.reduceAdd, Nat.reduceLT, Nat.reduceLeDiff, Nat.reduceEqDiff, reduceIte, if_true, if_false, bi_add, bi_sub, bi_mul, bi_eql, bi_neq, bi_lss, bi_leq, bi_gtr, bi_geq, bs_eql, bs_neq, bs_lss, Am.unOp, ret1, pubL, pub, pubA, initT, wkZ, wk, wants, resOf, tupOf, quiet, AOp.cls, Nat.beq_eq, Bool.or_eq_true, decide_true, decide_false, beq_self_eq_true, Bool.true_or, Bool.or_true, true_and, and_true, lenA, eqv, eqB, eqP, scal, new_box_self, List.getElem?_cons_zero, List.getElem?_cons_succ, key_ii, key_ss, findM, updM, esc_i, esc_s, esc_b, Int.reduceEq, ret1, new_nb, new_set, reduceCtorEq, Bool.xor_true, Bool.xor_false, Bool.false_eq_true, List.all_cons, List.all_nil, noTok, Bool.and_self, Bool.and_true, Bool.true_and, h5, h6, c1, l0]
        refine KR_some ov3 rfl ?_
        rw [hx]; rfl
      · simp only [W_seq, W_reg, W_cond, W_blk, W_skip, W_exit, W_ret, W_regD, WO_nil, WO_cons, WO_guard2, wantV_b, bq_tt, bq_ft, bq_tf, bq_ff, Bool.not_true, Bool.not_false, WD_nil, WD_cons, WD_guard2, WS_some, WS_none, KS_n, KS_x, KS_r, KB_n, KB_x, KB_r, KN_ap, KO_ap, KD_ap, KC_nil, KF_n, KF_r, KG_n, KG_r, KL_n, KL_x, KL_r, CP_true, CP_false, evOp, evX, X.ev, optX, put_some, put_none, get_set2, sel_t, sel_f, Nat.reduceBEq, Nat.reduceAdd, Nat.reduceLT, Nat.reduceLeDiff, Nat.reduceEqDiff, reduceIte, if_true, if_false, bi_add, bi_sub, bi_mul, bi_eql, bi_neq, bi_lss, bi_leq, bi_gtr, bi_geq, bs_eql, bs_neq, bs_lss, Am.unOp, ret1, pubL, pub, pubA, initT, wkZ, wk, wants, resOf, tupOf, quiet, AOp.cls, Nat.beq_eq, Bool.or_eq_true, decide_true, decide_false, beq_self_eq_true, Bool.true_or, Bool.or_true, true_and, and_true, lenA, eqv, eqB, eqP, scal, new_box_self, List.getElem?_cons_zero, List.getElem?_cons_succ, key_ii, key_ss, findM, updM, esc_i, esc_s, esc_b, Int.reduceEq, ret1, new_nb, new_set, reduceCtorEq, Bool.xor_true, Bool.xor_false, Bool.false_eq_true, List.all_cons, List.all_nil, noTok, Bool.and_self, Bool.and_true, Bool.true_and, h5, h6, c1, l0, frz, pub, m3, m4]
        refine KR_some (Over.setTok ov3 m1 m2 _) (refs_s _) ?_
        simp [tupOf, wkZ, wk, wkM_id]
  · simp only [W_seq, W_reg, W_cond, W_blk, W_skip, W_exit, W_ret, W_regD, WO_nil, WO_cons, WO_guard2, wantV_b, bq_tt, bq_ft, bq_tf, bq_ff, Bool.not_true, Bool.not_false, WD_nil, WD_cons, WD_guard2, WS_some, WS_none, KS_n, KS_x, KS_r, KB_n, KB_x, KB_r, KN_ap, KO_ap, KD_ap, KC_nil, KF_n, KF_r, KG_n, KG_r, KL_n, KL_x, KL_r, CP_true, CP_false, evOp, evX, X.ev, optX, put_some, put_none, get_set2, sel_t, sel_f, Nat.reduceBEq, Nat.reduceAdd, Nat.reduceLT, Nat.reduceLeDiff, Nat.reduceEqDiff, reduceIte, if_true, if_false, bi_add, bi_sub, bi_mul, bi_eql, bi_neq, bi_lss, bi_leq, bi_gtr, bi_geq, bs_eql, bs_neq, bs_lss, Am.unOp, ret1, pubL, pub, pubA, initT, wkZ, wk, wants, resOf, tupOf, quiet, AOp.cls, Nat.beq_eq, Bool.or_eq_true, decide_true, decide_false, beq_self_eq_true, Bool.true_or, Bool.or_true, true_and, and_true, lenA, eqv, eqB, eqP, scal, new_box_self, List.getElem?_cons_zero, List.getElem?_cons_succ, key_ii, key_ss, findM, updM, esc_i, esc_s, esc_b, Int.reduceEq, ret1, new_nb, new_set, reduceCtorEq, Bool.xor_true, Bool.xor_false, Bool.false_eq_true, List.all_cons, List.all_nil, noTok, Bool.and_self, Bool.and_true, Bool.true_and]
    refine ⟨0, by omega, rfl, rfl, ov1.new _, w1.new _, by omega, by rw [new_box_lt (by omega)]; exact bv1, ?_⟩
    refine ⟨.nsl, .nsl, by rw [← hidb]; exact new_box_self _ _, .inl ⟨rfl, rfl⟩, .inl ⟨rfl, rfl⟩, fun k _ => by simp [rowTok]⟩
end Go.Proofs.YtfpoihibfajhlaaDoor

/-
  Laws of the fields, in plain Lean.
-/
set_option maxRecDepth 100000
namespace Go.Proofs.YtfpoihibfajhlaaDoor
open Go.Proofs.YtfpoihibfajhlaaDoor.Am
section
variable (it : Int → List Nat)

abbrev ST := List (List Nat) × List Nat × Bool
def textL (v : VV) (ps : List PP) : List Nat := (ps.map (partL it v)).flatten
def nb (l : List Nat) : List Nat := l.filter fun c => !blankN c
def quo (p : PP) : PP := ⟨p.var, p.text, true⟩
def bare (p : PP) : PP := ⟨p.var, if p.var then p.text else nb p.text, false⟩

/-- Fields without blanks, none empty. -/
def okF (l : List Nat) : Prop := l ≠ [] ∧ ∀ c ∈ l, blankN c = false
structure Good (x : ST) : Prop where
  out : ∀ l ∈ x.1, okF l
  cur : ∀ c ∈ x.2.1, blankN c = false
  op : x.2.2 = true ↔ x.2.1 ≠ []

def flat (x : ST) : List Nat := x.1.flatten ++ x.2.1

theorem spl_good {x : ST} (h : Good x) (c : Nat) : Good (spl x c) ∧ flat (spl x c) = flat x ++ nb [c] := by
  obtain ⟨o, u, b⟩ := x
  unfold spl
  cases hb : blankN c with
  | true =>
    refine ⟨⟨?_, by simp, by simp⟩, ?_⟩
    · intro l hl
      simp only [if_true] at hl
      cases b with
      | false => exact h.out l (by simpa using hl)
      | true =>
        simp only [if_true, List.mem_append, List.mem_singleton] at hl
        rcases hl with hl | rfl
        · exact h.out l hl
        · exact ⟨h.op.1 rfl, h.cur⟩
    · cases b with
      | true => simp [flat, nb, hb]
      | false =>
        have : u = [] := by
          have := h.op
          simp only [Bool.false_eq_true, false_iff, ne_eq, Decidable.not_not] at this
          exact this
        subst this
        simp [flat, nb, hb]
  | false =>
    refine ⟨⟨h.out, ?_, ?_⟩, ?_⟩
    · intro d hd
      simp only [if_false, Bool.false_eq_true, List.mem_append, List.mem_singleton] at hd
      rcases hd with hd | rfl
      · exact h.cur d hd
      · exact hb
    · simp
    · simp [flat, nb, hb]

theorem nb_append (a b : List Nat) : nb (a ++ b) = nb a ++ nb b := by simp [nb]
theorem spls_good : ∀ (l : List Nat) {x : ST}, Good x → Good (l.foldl spl x) ∧ flat (l.foldl spl x) = flat x ++ nb l
  | [], x, h => ⟨h, by simp [nb]⟩
  | c :: l, x, h => by
    obtain ⟨h1, h2⟩ := spl_good h c
    obtain ⟨k1, k2⟩ := spls_good l h1
    refine ⟨k1, ?_⟩
    rw [List.foldl_cons, k2, h2, List.append_assoc, ← nb_append]
    rfl

theorem nb_nb (l : List Nat) : nb (nb l) = nb l := by simp [nb, List.filter_filter]
theorem nb_blank {l : List Nat} {c : Nat} (h : c ∈ nb l) : blankN c = false := by
  simp only [nb, List.mem_filter, Bool.not_eq_true'] at h; exact h.2

theorem step_good (v : VV) {x : ST} (h : Good x) (p : PP) : Good (stepF it v x (bare p)) ∧ flat (stepF it v x (bare p)) = flat x ++ nb (partL it v (bare p)) := by
  obtain ⟨pv, pt, pq⟩ := p
  cases pv with
  | true =>
    have : stepF it v x (bare ⟨true, pt, pq⟩) = (partL it v (bare ⟨true, pt, pq⟩)).foldl spl x := by
      unfold stepF bare; simp
    rw [this]
    exact spls_good _ h
  | false =>
    have hp : partL it v (bare ⟨false, pt, pq⟩) = nb pt := by simp [partL, bare]
    have : stepF it v x (bare ⟨false, pt, pq⟩) = if nb pt ≠ [] then (x.1, x.2.1 ++ nb pt, true) else x := by
      unfold stepF
      rw [hp]
      simp only [bare, Bool.false_and, Bool.false_or, decide_eq_true_eq]
      rfl
    rw [this, hp, nb_nb]
    by_cases hn : nb pt = []
    · rw [if_neg (by simp [hn]), hn, List.append_nil]
      exact ⟨h, rfl⟩
    · rw [if_pos hn]
      refine ⟨⟨h.out, ?_, ?_⟩, ?_⟩
      · intro c hc
        simp only [List.mem_append] at hc
        rcases hc with hc | hc
        · exact h.cur c hc
        · exact nb_blank hc
      · simp [hn]
      · simp [flat]

theorem steps_good (v : VV) : ∀ (ps : List PP) {x : ST}, Good x → Good ((ps.map bare).foldl (stepF it v) x) ∧ flat ((ps.map bare).foldl (stepF it v) x) = flat x ++ nb (textL it v (ps.map bare))
  | [], x, h => ⟨h, by simp [textL, nb]⟩
  | p :: ps, x, h => by
    obtain ⟨h1, h2⟩ := step_good it v h p
    obtain ⟨k1, k2⟩ := steps_good v ps h1
    refine ⟨k1, ?_⟩
    rw [List.map_cons, List.foldl_cons, k2, h2, List.append_assoc, ← nb_append]
    rfl

theorem good0 : Good ([], [], false) := ⟨by simp, by simp, by simp⟩

/-- The fields of bare parts. -/
theorem bare_fields (v : VV) (ps : List PP) : (∀ l ∈ fieldsL it v (ps.map bare), okF l) ∧ (fieldsL it v (ps.map bare)).flatten = nb (textL it v (ps.map bare)) := by
  obtain ⟨h1, h2⟩ := steps_good it v ps good0
  unfold fieldsL
  simp only
  cases hb : ((ps.map bare).foldl (stepF it v) ([], [], false)).2.2 with
  | true =>
    rw [if_pos rfl]
    refine ⟨?_, ?_⟩
    · intro l hl
      simp only [List.mem_append, List.mem_singleton] at hl
      rcases hl with hl | rfl
      · exact h1.out l hl
      · exact ⟨h1.op.1 hb, h1.cur⟩
    · rw [List.flatten_append]
      simpa [flat] using h2
  | false =>
    have hc : ((ps.map bare).foldl (stepF it v) ([], [], false)).2.1 = [] := by
      have := h1.op
      rw [hb] at this
      simpa using this
    rw [if_neg (by simp)]
    refine ⟨h1.out, ?_⟩
    simpa [flat, hc] using h2

/-- The fields of quoted parts. -/
theorem quo_step (v : VV) (x : ST) (p : PP) : stepF it v x (quo p) = (x.1, x.2.1 ++ partL it v p, true) := by
  unfold stepF quo
  simp [partL]
theorem quo_steps (v : VV) : ∀ (ps : List PP) (x : ST), (ps.map quo).foldl (stepF it v) x = if ps = [] then x else (x.1, x.2.1 ++ textL it v ps, true)
  | [], x => rfl
  | p :: ps, x => by
    rw [List.map_cons, List.foldl_cons, quo_step, quo_steps v ps]
    by_cases h : ps = []
    · subst h; simp [textL]
    · simp [h, textL]
theorem quo_fields (v : VV) (ps : List PP) : fieldsL it v (ps.map quo) = if ps = [] then [] else [textL it v ps] := by
  unfold fieldsL
  simp only [quo_steps]
  by_cases h : ps = []
  · simp [h]
  · simp [h]

/-- Put together with a blank ahead of each. -/
def putL (L : List (List Nat)) : List Nat := (L.map fun l => 32 :: l).flatten
theorem run_field : ∀ (l : List Nat) (x : ST), (∀ c ∈ l, blankN c = false) → l.foldl spl x = if l = [] then x else (x.1, x.2.1 ++ l, true)
  | [], x, _ => rfl
  | c :: l, x, h => by
    have hc : spl x c = (x.1, x.2.1 ++ [c], true) := by
      unfold spl; rw [h c (by simp)]; rfl
    rw [List.foldl_cons, hc, run_field l _ fun d hd => h d (by simp [hd])]
    by_cases hl : l = []
    · subst hl; simp
    · simp [hl]
def close (x : ST) : List (List Nat) := if x.2.2 then x.1 ++ [x.2.1] else x.1
theorem run_put : ∀ (L : List (List Nat)) (x : ST), (∀ l ∈ L, okF l) → close ((putL L).foldl spl x) = close x ++ L
  | [], x, _ => by simp [putL]
  | l :: L, x, h => by
    have hl := h l (by simp)
    have e : putL (l :: L) = 32 :: (l ++ putL L) := by simp [putL]
    have e1 : spl x 32 = (close x, [], false) := by
      unfold spl; rw [show blankN 32 = true from rfl]; rfl
    rw [e, List.foldl_cons, List.foldl_append, run_put L _ fun k hk => h k (by simp [hk]), e1, run_field _ _ hl.2, if_neg hl.1]
    simp [close]

theorem again (v : VV) (L : List (List Nat)) (h : ∀ l ∈ L, okF l) (p : PP) (hp : partL it v p = putL L) (hv : p.var = true) (hq : p.quoted = false) : fieldsL it v [p] = L := by
  have : fieldsL it v [p] = close ((partL it v p).foldl spl ([], [], false)) := by
    unfold fieldsL close stepF
    simp [hv, hq]
  rw [this, hp, run_put L _ h]
  simp [close]
end
end Go.Proofs.YtfpoihibfajhlaaDoor

/-
  The builder of texts; what parts come to as one text.
-/
set_option maxRecDepth 100000
set_option linter.unusedSimpArgs false
namespace Go.Proofs.YtfpoihibfajhlaaDoor
open Go.Proofs.YtfpoihibfajhlaaDoor.Am
variable (it : Int → List Nat)

/-- A builder of texts at a box. -/
def WB (t0 : Nat) (s : St) (id : Nat) (buf : List Nat) : Prop :=
  ∃ sf ab, s.box? id = some (.cells 65 [sf, ab]) ∧ (sf = .np ∨ sf = .p id 0) ∧ RowIs t0 s 5 ab (by8 buf)

theorem check_ok {t0 id : Nat} {s : St} {buf : List Nat} (hw : Wf s) (hid : id < s.nb) (hB : WB t0 s id buf) :
    ∃ r s', (lim prog).call f_strings_Builder_copyCheck [.p id 0] s = some (r, s') ∧ r = .tup [] ∧ Eff t0 id s s' ∧ WB t0 s' id buf := by
  obtain ⟨sf, ab, hb, hs, hr⟩ := hB
  refine fn_G (Post := fun r s' => r = .tup [] ∧ Eff t0 id s s' ∧ WB t0 s' id buf) p_strings_Builder_copyCheck rfl rfl ?_
  have ld0 := ld_box (s := s.enter) (v := sf) (off := 0) hb rfl
  rcases hs with rfl | rfl
  · obtain ⟨s1, e1, hE, hb1, hn1, ht1⟩ := st_cell (t0 := t0) (s := s.enter) (off := 0) (v := .p id 0) hw.enter hid hb (by simp) rfl rfl
    have hb' : s.enter.box? id = some (.cells 65 [.np, ab]) := hb
    have hx : extA s.enter 1 [.p id 0] = some (.p id 0, s.enter) := rfl
    have hl2 : [AV.np, ab].length = 2 := rfl
    simp only [c_strings_Builder_copyCheck, W_seq, W_reg, W_cond, W_blk, W_skip, W_exit, W_ret, W_regD, WO_nil, WO_cons, WO_guard2, wantV_b, bq_tt, bq_ft, bq_tf, bq_ff, Bool.not_true, Bool.not_false, WD_nil, WD_cons, WD_guard2, WS_some, WS_none, KS_n, KS_x, KS_r, KB_n, KB_x, KB_r, KN_ap, KO_ap, KD_ap, KC_nil, KF_n, KF_r, KG_n, KG_r, KL_n, KL_x, KL_r, CP_true, CP_false, evOp, evX, X.ev, optX, put_some, put_none, get_set2, sel_t, sel_f, Nat.reduceBEq, Nat.reduceAdd, Nat.reduceLT, Nat.reduceLeDiff, Nat.reduceEqDiff, reduceIte, if_true, if_false, bi_add, bi_sub, bi_mul, bi_eql, bi_neq, bi_lss, bi_leq, bi_gtr, bi_geq, bs_eql, bs_neq, bs_lss, Am.unOp, ret1, pubL, pub, pubA, initT, wkZ, wk, wants, resOf, tupOf, quiet, AOp.cls, Nat.beq_eq, Bool.or_eq_true, decide_true, decide_false, beq_self_eq_true, Bool.true_or, Bool.or_true, true_and, and_true, lenA, eqv, eqB, eqP, scal, new_box_self, List.getElem?_cons_zero, List.getElem?_cons_succ, key_ii, key_ss, findM, updM, esc_i, esc_s, esc_b, Int.reduceEq, ret1, new_nb, new_set, reduceCtorEq, Bool.xor_true, Bool.xor_false, Bool.false_eq_true, List.all_cons, List.all_nil, noTok, Bool.and_self, Bool.and_true, Bool.true_and, Nat.zero_add, ld0, hb', hl2, hx, e1]
    obtain ⟨m, k1, k2⟩ := hE.leave hid
    refine ⟨_, _, rfl, rfl, ?_⟩
    show Eff t0 id s (leave s s1 (.tup [])) ∧ WB t0 (leave s s1 (.tup [])) id _
    rw [k1]
    refine ⟨k2, .p id 0, ab, hb1, .inr rfl, hr.mono ?_ fun k _ => ht1 k⟩
    show s.nt ≤ s1.nt
    rw [hn1]; exact Nat.le_refl _
  · simp only [c_strings_Builder_copyCheck, W_seq, W_reg, W_cond, W_blk, W_skip, W_exit, W_ret, W_regD, WO_nil, WO_cons, WO_guard2, wantV_b, bq_tt, bq_ft, bq_tf, bq_ff, Bool.not_true, Bool.not_false, WD_nil, WD_cons, WD_guard2, WS_some, WS_none, KS_n, KS_x, KS_r, KB_n, KB_x, KB_r, KN_ap, KO_ap, KD_ap, KC_nil, KF_n, KF_r, KG_n, KG_r, KL_n, KL_x, KL_r, CP_true, CP_false, evOp, evX, X.ev, optX, put_some, put_none, get_set2, sel_t, sel_f, Nat.reduceBEq, Nat.reduceAdd, Nat.reduceLT, Nat.reduceLeDiff, Nat.reduceEqDiff, reduceIte, if_true, if_false, bi_add, bi_sub, bi_mul, bi_eql, bi_neq, bi_lss, bi_leq, bi_gtr, bi_geq, bs_eql, bs_neq, bs_lss, Am.unOp, ret1, pubL, pub, pubA, initT, wkZ, wk, wants, resOf, tupOf, quiet, AOp.cls, Nat.beq_eq, Bool.or_eq_true, decide_true, decide_false, beq_self_eq_true, Bool.true_or, Bool.or_true, true_and, and_true, lenA, eqv, eqB, eqP, scal, new_box_self, List.getElem?_cons_zero, List.getElem?_cons_succ, key_ii, key_ss, findM, updM, esc_i, esc_s, esc_b, Int.reduceEq, ret1, new_nb, new_set, reduceCtorEq, Bool.xor_true, Bool.xor_false, Bool.false_eq_true, List.all_cons, List.all_nil, noTok, Bool.and_self, Bool.and_true, Bool.true_and, Nat.zero_add, ld0]
    obtain ⟨m, k1, k2⟩ := (Eff.refl (t0 := t0) (id := id) hw.enter).leave hid
    refine ⟨_, _, rfl, rfl, ?_⟩
    show Eff t0 id s (leave s s.enter (.tup [])) ∧ WB t0 (leave s s.enter (.tup [])) id _
    rw [k1]
    exact ⟨k2, .p id 0, ab, hb, .inr rfl, hr.mono (Nat.le_refl _) fun k _ => rfl⟩

theorem write_ok {t0 id : Nat} {s : St} {buf : List Nat} (l : List Nat) (hw : Wf s) (ht0 : t0 ≤ s.nt) (hid : id < s.nb) (hB : WB t0 s id buf) (hsz : buf.length + l.length < 2 ^ 38) :
    ∃ r s', (lim prog).call f_strings_Builder_WriteString [.p id 0, .s l] s = some (r, s') ∧ r = .tup [.i .i64 l.length, .ni] ∧ Eff t0 id s s' ∧ WB t0 s' id (buf ++ l) := by
  refine fn_G (Post := fun r s' => r = .tup [.i .i64 l.length, .ni] ∧ Eff t0 id s s' ∧ WB t0 s' id (buf ++ l)) p_strings_Builder_WriteString rfl rfl ?_
  have hB' : WB t0 s.enter id buf := by
    obtain ⟨sf, ab, hb, hs, hr⟩ := hB
    exact ⟨sf, ab, hb, hs, hr.mono (Nat.le_refl _) fun k _ => rfl⟩
  obtain ⟨r1, s1, c1, rfl, hE1, sf, ab, hb, hs, hr⟩ := check_ok hw.enter hid hB'
  have ld1 := ld_box (s := s1) (v := ab) (off := 1) hb rfl
  have hid1 : id < s1.nb := by rw [hE1.nb]; exact hid
  have ht1 : t0 ≤ s1.nt := Nat.le_trans ht0 hE1.nt
  have hel : elems s1 1 (.s l) = some (by8 l) := by simp [elems]
  obtain ⟨a', s2, s3, e1, e2, hE2, hb3, hr3, ht3⟩ := app_st hE1.wf ht1 hid1 hb (off := 1) (by simp) hr hel (by simpa using hsz)
  have key : KH s [.id, .id] (fun r s' => r = .tup [.i .i64 l.length, .ni] ∧ Eff t0 id s s' ∧ WB t0 s' id (buf ++ l)) (some ([.i .i64 l.length, .ni], s3)) := by
    obtain ⟨m, k1, k2⟩ := (hE1.trans hE2).leave' (v := .tup [.i .i64 l.length, .ni]) rfl hid
    refine ⟨_, _, rfl, rfl, ?_⟩
    show Eff t0 id s (leave s s3 (.tup [.i .i64 l.length, .ni])) ∧ WB t0 (leave s s3 (.tup [.i .i64 l.length, .ni])) id _
    rw [k1]
    refine ⟨k2, sf, a', hb3, hs, ?_⟩
    have := hr3.mono (s' := { s3 with lo := m }) (Nat.le_refl _) fun k _ => rfl
    simpa [by8] using this
  have hr' := row_cells hr
  rcases hr with ⟨rfl, _⟩ | ⟨k, v, t, rfl, _⟩ <;> (simp only [c_strings_Builder_WriteString, W_seq, W_reg, W_cond, W_blk, W_skip, W_exit, W_ret, W_regD, WO_nil, WO_cons, WO_guard2, wantV_b, bq_tt, bq_ft, bq_tf, bq_ff, Bool.not_true, Bool.not_false, WD_nil, WD_cons, WD_guard2, WS_some, WS_none, KS_n, KS_x, KS_r, KB_n, KB_x, KB_r, KN_ap, KO_ap, KD_ap, KC_nil, KF_n, KF_r, KG_n, KG_r, KL_n, KL_x, KL_r, CP_true, CP_false, evOp, evX, X.ev, optX, put_some, put_none, get_set2, sel_t, sel_f, Nat.reduceBEq, Nat.reduceAdd, Nat.reduceLT, Nat.reduceLeDiff, Nat.reduceEqDiff, reduceIte, if_true, if_false, bi_add, bi_sub, bi_mul, bi_eql, bi_neq, bi_lss, bi_leq, bi_gtr, bi_geq, bs_eql, bs_neq, bs_lss, Am.unOp, ret1, pubL, pub, pubA, initT, wkZ, wk, wants, resOf, tupOf, quiet, AOp.cls, Nat.beq_eq, Bool.or_eq_true, decide_true, decide_false, beq_self_eq_true, Bool.true_or, Bool.or_true, true_and, and_true, lenA, eqv, eqB, eqP, scal, new_box_self, List.getElem?_cons_zero, List.getElem?_cons_succ, key_ii, key_ss, findM, updM, esc_i, esc_s, esc_b, Int.reduceEq, ret1, new_nb, new_set, reduceCtorEq, Bool.xor_true, Bool.xor_false, Bool.false_eq_true, List.all_cons, List.all_nil, noTok, Bool.and_self, Bool.and_true, Bool.true_and, Nat.zero_add, ofNat_len, c1, ld1, e1, e2]; exact key)

theorem string_ok {t0 id : Nat} {s : St} {buf : List Nat} (hw : Wf s) (hid : id < s.nb) (hB : WB t0 s id buf) (hlt : ∀ n ∈ buf, n < 256) (hsz : buf.length < 2 ^ 38) :
    ∃ r s', (lim prog).call f_strings_Builder_String [.p id 0] s = some (r, s') ∧ r = .s buf ∧ Eff t0 id s s' ∧ WB t0 s' id buf := by
  obtain ⟨sf, ab, hb, hs, hr⟩ := hB
  refine fn_G (Post := fun r s' => r = .s buf ∧ Eff t0 id s s' ∧ WB t0 s' id buf) p_strings_Builder_String rfl rfl ?_
  have ld1 := ld_box (s := s.enter) (v := ab) (off := 1) hb rfl
  have h8 := bytesL_by8 hlt
  cases buf with
  | nil =>
    rcases hr with ⟨rfl, _⟩ | ⟨k, v, t, rfl, _, _, _, _, _, _, hl⟩
    · simp only [c_strings_Builder_String, W_seq, W_reg, W_cond, W_blk, W_skip, W_exit, W_ret, W_regD, WO_nil, WO_cons, WO_guard2, wantV_b, bq_tt, bq_ft, bq_tf, bq_ff, Bool.not_true, Bool.not_false, WD_nil, WD_cons, WD_guard2, WS_some, WS_none, KS_n, KS_x, KS_r, KB_n, KB_x, KB_r, KN_ap, KO_ap, KD_ap, KC_nil, KF_n, KF_r, KG_n, KG_r, KL_n, KL_x, KL_r, CP_true, CP_false, evOp, evX, X.ev, optX, put_some, put_none, get_set2, sel_t, sel_f, Nat.reduceBEq, Nat.reduceAdd, Nat.reduceLT, Nat.reduceLeDiff, Nat.reduceEqDiff, reduceIte, if_true, if_false, bi_add, bi_sub, bi_mul, bi_eql, bi_neq, bi_lss, bi_leq, bi_gtr, bi_geq, bs_eql, bs_neq, bs_lss, Am.unOp, ret1, pubL, pub, pubA, initT, wkZ, wk, wants, resOf, tupOf, quiet, AOp.cls, Nat.beq_eq, Bool.or_eq_true, decide_true, decide_false, beq_self_eq_true, Bool.true_or, Bool.or_true, true_and, and_true, lenA, eqv, eqB, eqP, scal, new_box_self, List.getElem?_cons_zero, List.getElem?_cons_succ, key_ii, key_ss, findM, updM, esc_i, esc_s, esc_b, Int.reduceEq, ret1, new_nb, new_set, reduceCtorEq, Bool.xor_true, Bool.xor_false, Bool.false_eq_true, List.all_cons, List.all_nil, noTok, Bool.and_self, Bool.and_true, Bool.true_and, Nat.zero_add, ld1, udA, usA]
      obtain ⟨m, k1, k2⟩ := (Eff.refl (t0 := t0) (id := id) hw.enter).leave' (v := .s []) rfl hid
      refine ⟨_, _, rfl, rfl, ?_⟩
      show Eff t0 id s (leave s s.enter (.s [])) ∧ WB t0 (leave s s.enter (.s [])) id _
      rw [k1]
      exact ⟨k2, sf, .nsl, hb, hs, .inl ⟨rfl, rfl⟩⟩
    · simp at hl
  | cons b buf =>
    rcases hr with ⟨rfl, hx⟩ | ⟨k, v, t, rfl, q1, q2, q3, q4, q5, q6, hl⟩
    · simp at hx
    · have hlen : (by8 (b :: buf)).length = (b :: buf).length := by simp
      have hus : usA s.enter 5 (.sd (by8 (b :: buf)) k v) (.i .i64 ((by8 (b :: buf)).length : Nat)) = some (.s (b :: buf), s.enter.setTok k ⟨t.front, t.ver, t.front, t.ty⟩) := by
        have q3' : s.enter.tok? k = some t := q3
        unfold usA
        simp only [q3', h8]
        rw [if_pos ⟨q4, q6, q5, rfl, hl, by rw [hlen]; omega⟩]
      have hok : s.enter.ok (.tok k v) = true := by
        have q3' : s.enter.tok? k = some t := q3
        simp only [St.ok, q3', q4]
        exact Nat.beq_refl _
      have hud : udA s.enter (.sl 1 (by8 (b :: buf)) (.tok k v)) = some (.sd (by8 (b :: buf)) k v, s.enter) := rfl
      simp only [c_strings_Builder_String, W_seq, W_reg, W_cond, W_blk, W_skip, W_exit, W_ret, W_regD, WO_nil, WO_cons, WO_guard2, wantV_b, bq_tt, bq_ft, bq_tf, bq_ff, Bool.not_true, Bool.not_false, WD_nil, WD_cons, WD_guard2, WS_some, WS_none, KS_n, KS_x, KS_r, KB_n, KB_x, KB_r, KN_ap, KO_ap, KD_ap, KC_nil, KF_n, KF_r, KG_n, KG_r, KL_n, KL_x, KL_r, CP_true, CP_false, evOp, evX, X.ev, optX, put_some, put_none, get_set2, sel_t, sel_f, Nat.reduceBEq, Nat.reduceAdd, Nat.reduceLT, Nat.reduceLeDiff, Nat.reduceEqDiff, reduceIte, if_true, if_false, bi_add, bi_sub, bi_mul, bi_eql, bi_neq, bi_lss, bi_leq, bi_gtr, bi_geq, bs_eql, bs_neq, bs_lss, Am.unOp, ret1, pubL, pub, pubA, initT, wkZ, wk, wants, resOf, tupOf, quiet, AOp.cls, Nat.beq_eq, Bool.or_eq_true, decide_true, decide_false, beq_self_eq_true, Bool.true_or, Bool.or_true, true_and, and_true, lenA, eqv, eqB, eqP, scal, new_box_self, List.getElem?_cons_zero, List.getElem?_cons_succ, key_ii, key_ss, findM, updM, esc_i, esc_s, esc_b, Int.reduceEq, ret1, new_nb, new_set, reduceCtorEq, Bool.xor_true, Bool.xor_false, Bool.false_eq_true, List.all_cons, List.all_nil, noTok, Bool.and_self, Bool.and_true, Bool.true_and, Nat.zero_add, ld1, hok, ofNat_len, hud, hus]
      have hE : Eff t0 id s.enter (s.enter.setTok k ⟨t.front, t.ver, t.front, t.ty⟩) :=
        ⟨rfl, Nat.le_refl _, fun _ _ => rfl, hw.enter.setTok _ _, fun s0 h0 _ h => h.setTok (by omega) q2 _, .inl ⟨rfl, rfl⟩⟩
      obtain ⟨m, k1, k2⟩ := hE.leave' (v := .s (b :: buf)) rfl hid
      refine ⟨_, _, rfl, rfl, ?_⟩
      show Eff t0 id s (leave s (s.enter.setTok k ⟨t.front, t.ver, t.front, t.ty⟩) (.s (b :: buf))) ∧ WB t0 (leave s (s.enter.setTok k ⟨t.front, t.ver, t.front, t.ty⟩) (.s (b :: buf))) id _
      rw [k1]
      refine ⟨k2, sf, .sl 1 (by8 (b :: buf)) (.tok k v), hb, hs, .inr ⟨k, v, ⟨t.front, t.ver, t.front, t.ty⟩, rfl, q1, q2, ?_, q4, q5, q6, hl⟩⟩
      show (s.enter.setTok k ⟨t.front, t.ver, t.front, t.ty⟩).tok? k = _
      rw [setTok_tok? hw.enter.t q2, if_pos rfl]
end Go.Proofs.YtfpoihibfajhlaaDoor

/-
  Parts as one text; the law's small functions.
-/
set_option maxRecDepth 100000
set_option linter.unusedSimpArgs false
namespace Go.Proofs.YtfpoihibfajhlaaDoor
open Go.Proofs.YtfpoihibfajhlaaDoor.Am

theorem itoa_ok : ItoaOk itoaN := by
  intro n s h0 h1
  rw [lim_call]
  unfold callF
  have : primItoa [.i .i64 n] = some (.s (itoaN n)) := by
    unfold primItoa
    exact if_pos ⟨h0, h1⟩
  simp only [p_strconv_Itoa, c_strconv_Itoa, this]
  rfl

section
variable (it : Int → List Nat)
theorem textL_append (v : VV) (a b : List PP) : textL it v (a ++ b) = textL it v a ++ textL it v b := by simp [textL]
theorem textL_len (v : VV) : ∀ ps : List PP, (textL it v ps).length ≤ szF it v ps
  | [] => by simp [textL, szF]
  | p :: ps => by
    have := textL_len v ps
    simp only [textL, List.map_cons, List.flatten_cons, List.length_append] at this ⊢
    rw [szF_cons]
    omega
theorem textL_txt (v : VV) (ps : List PP) (ht : ∀ p ∈ ps, Txt (partL it v p)) (n : Nat) (hn : n ∈ textL it v ps) : n < 256 := by
  simp only [textL, List.mem_flatten, List.mem_map] at hn
  obtain ⟨l, ⟨p, hp, rfl⟩, hn⟩ := hn
  exact (ht p hp).lt n hn

theorem text_ok (hI : ItoaOk it) (v : VV) (hv : v.Ok) (ps : List PP) (hp : ∀ p ∈ ps, Txt p.text) (ht : ∀ p ∈ ps, Txt (partL it v p)) (hlen : ps.length < 2 ^ 63) (hsz : szF it v ps < 2 ^ 37) (s : St) (hw : Wf s) :
    (lim prog).call f_expand_Text [v.av, partsA ps] s = some (.s (textL it v ps), s) := by
  refine fn_W p_expand_Text rfl rfl ?_
  obtain ⟨s1, hs1⟩ : ∃ s1, ({ (s.enter.new (.cells 28 v.cells)).enter.new (.cells 28 v.cells) with lo := min (s.enter.new (.cells 28 v.cells)).lo (s.enter.new (.cells 28 v.cells)).nb } : St) = s1 := ⟨_, rfl⟩
  have hval := values_ok v (s.enter.new (.cells 28 v.cells))
  rw [hs1] at hval
  have hb0 : (s.enter.new (.cells 28 v.cells)).box? s.enter.nb = some (.cells 28 v.cells) := new_box_self _ _
  have n1 : s1.nb = s.nb + 2 ∧ s1.nt = s.nt := by rw [← hs1]; exact ⟨rfl, rfl⟩
  have w1 : Wf s1 := by rw [← hs1]; exact (((hw.enter.new _).enter).new _).lo _
  have ov1 : Over s s1 := by
    rw [← hs1]
    refine Over.setLo (((Over.enter s).new _).toEnter.new _) ?_
    show s.nb ≤ min s.nb (s.nb + 1)
    omega
  have bv1 : s1.box? (s.nb + 1) = some (.cells 28 v.cells) := by
    rw [← hs1]
    exact new_box_self ((s.enter.new (.cells 28 v.cells)).enter) _
  obtain ⟨idb, hidb⟩ : ∃ k, s1.nb = k := ⟨_, rfl⟩
  have hpl : (ps.map fun p => AV.agg p.cells).length = ps.length := by simp
  simp only [c_expand_Text, W_seq, W_reg, W_cond, W_blk, W_skip, W_exit, W_ret, W_regD, WO_nil, WO_cons, WO_guard2, wantV_b, bq_tt, bq_ft, bq_tf, bq_ff, Bool.not_true, Bool.not_false, WD_nil, WD_cons, WD_guard2, WS_some, WS_none, KS_n, KS_x, KS_r, KB_n, KB_x, KB_r, KN_ap, KO_ap, KD_ap, KC_nil, KF_n, KF_r, KG_n, KG_r, KL_n, KL_x, KL_r, CP_true, CP_false, evOp, evX, X.ev, optX, put_some, put_none, get_set2, sel_t, sel_f, Nat.reduceBEq, Nat.reduceAdd, Nat.reduceLT, Nat.reduceLeDiff, Nat.reduceEqDiff, reduceIte, if_true, if_false, bi_add, bi_sub, bi_mul, bi_eql, bi_neq, bi_lss, bi_leq, bi_gtr, bi_geq, bs_eql, bs_neq, bs_lss, Am.unOp, ret1, pubL, pub, pubA, initT, wkZ, wk, wants, resOf, tupOf, quiet, AOp.cls, Nat.beq_eq, Bool.or_eq_true, decide_true, decide_false, beq_self_eq_true, Bool.true_or, Bool.or_true, true_and, and_true, lenA, eqv, eqB, eqP, scal, new_box_self, List.getElem?_cons_zero, List.getElem?_cons_succ, key_ii, key_ss, findM, updM, esc_i, esc_s, esc_b, Int.reduceEq, ret1, new_nb, new_set, reduceCtorEq, Bool.xor_true, Bool.xor_false, Bool.false_eq_true, List.all_cons, List.all_nil, noTok, Bool.and_self, Bool.and_true, Bool.true_and, cells_agg, len4, len3, ld_all4 hb0, hval, hidb, List.length_map, ofNat_len]
  refine W_loop (fun n e q => ∃ i : Nat, i + n = ps.length ∧ e.get 5 = .fn f_expand_values_1 [.p (s.nb + 1) 0] ∧ e.get 6 = .p idb 0 ∧ e.get 11 = partsA ps ∧ e.get 12 = .i .i64 ps.length ∧ e.get 13 = .i .i64 i ∧
    Over s q ∧ Wf q ∧ idb < q.nb ∧ q.box? (s.nb + 1) = some (.cells 28 v.cells) ∧ WB s.nt q idb (textL it v (ps.take i))) ?_ ps.length _ _ ?_
  · rintro n e q ⟨i, hi, h5, h6, h14, h15, h16, hov, hwq, hq, hbv, hBB⟩
    simp only [W_seq, W_reg, W_cond, W_blk, W_skip, W_exit, W_ret, W_regD, WO_nil, WO_cons, WO_guard2, wantV_b, bq_tt, bq_ft, bq_tf, bq_ff, Bool.not_true, Bool.not_false, WD_nil, WD_cons, WD_guard2, WS_some, WS_none, KS_n, KS_x, KS_r, KB_n, KB_x, KB_r, KN_ap, KO_ap, KD_ap, KC_nil, KF_n, KF_r, KG_n, KG_r, KL_n, KL_x, KL_r, CP_true, CP_false, evOp, evX, X.ev, optX, put_some, put_none, get_set2, sel_t, sel_f, Nat.reduceBEq, Nat.reduceAdd, Nat.reduceLT, Nat.reduceLeDiff, Nat.reduceEqDiff, reduceIte, if_true, if_false, bi_add, bi_sub, bi_mul, bi_eql, bi_neq, bi_lss, bi_leq, bi_gtr, bi_geq, bs_eql, bs_neq, bs_lss, Am.unOp, ret1, pubL, pub, pubA, initT, wkZ, wk, wants, resOf, tupOf, quiet, AOp.cls, Nat.beq_eq, Bool.or_eq_true, decide_true, decide_false, beq_self_eq_true, Bool.true_or, Bool.or_true, true_and, and_true, lenA, eqv, eqB, eqP, scal, new_box_self, List.getElem?_cons_zero, List.getElem?_cons_succ, key_ii, key_ss, findM, updM, esc_i, esc_s, esc_b, Int.reduceEq, ret1, new_nb, new_set, reduceCtorEq, Bool.xor_true, Bool.xor_false, Bool.false_eq_true, List.all_cons, List.all_nil, noTok, Bool.and_self, Bool.and_true, Bool.true_and, h5, h6, h14, h15, h16, ofNat_len]
    refine CP_dec (fun hlt => ?_) (fun hge => ?_)
    · have hlt : i < ps.length := by omega
      have hget : (ps.map fun p => AV.agg p.cells)[i]? = some (.agg ps[i].cells) := by simp [hlt]
      have hst : textL it v (ps.take (i + 1)) = textL it v (ps.take i) ++ partL it v ps[i] := by
        rw [List.take_succ_eq_append_getElem hlt, textL_append]
        simp [textL]
      obtain ⟨q2, hq2⟩ : ∃ q2, q.new (.cells 31 ps[i].cells) = q2 := ⟨_, rfl⟩
      have w2 : Wf q2 := by rw [← hq2]; exact hwq.new _
      have ov2 : Over s q2 := by rw [← hq2]; exact hov.new _
      have nb2 : q2.nb = q.nb + 1 ∧ q2.nt = q.nt := by rw [← hq2]; exact ⟨rfl, rfl⟩
      have lt2 : ∀ j, j < q.nb → q2.box? j = q.box? j := fun j hj => by rw [← hq2]; exact new_box_lt hj
      have est : stA (q.new (.cells 31 [.b false, .s [], .b false])) 3 (.p q.nb 0) (.agg ps[i].cells) = some q2 := by
        rw [← hq2]
        simp [stA, new_box_self, AV.cells, ones, over, esc, AV.refs, AV.refs.go, new_set]
      have bq2 : q2.box? q.nb = some (.cells 31 ps[i].cells) := by rw [← hq2]; exact new_box_self _ _
      have hofc := of_ok it hI v hv ps[i] (hp _ (List.getElem_mem hlt)) (s := q2) (idv := s.nb + 1) (by omega) (by rw [lt2 _ (by omega)]; exact hbv)
      have hBB2 : WB s.nt q2 idb (textL it v (ps.take i)) := by
        obtain ⟨sf, ab, k1, k2, k3⟩ := hBB
        exact ⟨sf, ab, by rw [lt2 _ hq]; exact k1, k2, k3.mono (by omega) fun k _ => by rw [← hq2]; rfl⟩
      have la := ld_all3 (s := q2) bq2
      have z1 := textL_len it v (ps.take i)
      have z4 : szF it v (ps.take i) + (partL it v ps[i]).length + 1 ≤ szF it v ps := by
        have e1 : ps.take i ++ (ps[i] :: ps.drop (i + 1)) = ps := by rw [← List.drop_eq_getElem_cons hlt, List.take_append_drop]
        have e2 := congrArg (szF it v) e1
        rw [szF_append, szF_cons] at e2
        omega
      obtain ⟨r, q3, c1, rfl, c3, c4⟩ := write_ok (partL it v ps[i]) w2 ov2.nt (by omega) hBB2 (by omega)
      have hw64 := wrap_succ (show i + 1 < 2 ^ 63 by omega)
      simp only [W_seq, W_reg, W_cond, W_blk, W_skip, W_exit, W_ret, W_regD, WO_nil, WO_cons, WO_guard2, wantV_b, bq_tt, bq_ft, bq_tf, bq_ff, Bool.not_true, Bool.not_false, WD_nil, WD_cons, WD_guard2, WS_some, WS_none, KS_n, KS_x, KS_r, KB_n, KB_x, KB_r, KN_ap, KO_ap, KD_ap, KC_nil, KF_n, KF_r, KG_n, KG_r, KL_n, KL_x, KL_r, CP_true, CP_false, evOp, evX, X.ev, optX, put_some, put_none, get_set2, sel_t, sel_f, Nat.reduceBEq, Nat.reduceAdd, Nat.reduceLT, Nat.reduceLeDiff, Nat.reduceEqDiff, reduceIte, if_true, if_false, bi_add, bi_sub, bi_mul, bi_eql, bi_neq, bi_lss, bi_leq, bi_gtr, bi_geq, bs_eql, bs_neq, bs_lss, Am.unOp, ret1, pubL, pub, pubA, initT, wkZ, wk, wants, resOf, tupOf, quiet, AOp.cls, Nat.beq_eq, Bool.or_eq_true, decide_true, decide_false, beq_self_eq_true, Bool.true_or, Bool.or_true, true_and, and_true, lenA, eqv, eqB, eqP, scal, new_box_self, List.getElem?_cons_zero, List.getElem?_cons_succ, key_ii, key_ss, findM, updM, esc_i, esc_s, esc_b, Int.reduceEq, ret1, new_nb, new_set, reduceCtorEq, Bool.xor_true, Bool.xor_false, Bool.false_eq_true, List.all_cons, List.all_nil, noTok, Bool.and_self, Bool.and_true, Bool.true_and, h5, h6, h14, h15, h16, natOf_nat, hget, cells_agg, len3, ofNat_len, ldE3, est, la, callV_fn, List.cons_append, List.nil_append, Nat.zero_add, hofc, c1, hw64]
      refine ⟨n - 1, by omega, i + 1, by omega, rfl, c3.over s (Nat.le_refl _) (by omega) ov2, c3.wf, by rw [c3.nb]; omega, by rw [c3.box _ (by omega), lt2 _ (by omega)]; exact hbv, ?_⟩
      rw [hst]
      exact c4
    · have hil : i = ps.length := by omega
      subst hil
      rw [List.take_length] at hBB
      have z1 := textL_len it v ps
      obtain ⟨r, q3, c1, rfl, c3, c4⟩ := string_ok hwq hq hBB (fun n hn => textL_txt it v ps ht n hn) (by omega)
      simp only [W_seq, W_reg, W_cond, W_blk, W_skip, W_exit, W_ret, W_regD, WO_nil, WO_cons, WO_guard2, wantV_b, bq_tt, bq_ft, bq_tf, bq_ff, Bool.not_true, Bool.not_false, WD_nil, WD_cons, WD_guard2, WS_some, WS_none, KS_n, KS_x, KS_r, KB_n, KB_x, KB_r, KN_ap, KO_ap, KD_ap, KC_nil, KF_n, KF_r, KG_n, KG_r, KL_n, KL_x, KL_r, CP_true, CP_false, evOp, evX, X.ev, optX, put_some, put_none, get_set2, sel_t, sel_f, Nat.reduceBEq, Nat.reduceAdd, Nat.reduceLT, Nat.reduceLeDiff, Nat.reduceEqDiff, reduceIte, if_true, if_false, bi_add, bi_sub, bi_mul, bi_eql, bi_neq, bi_lss, bi_leq, bi_gtr, bi_geq, bs_eql, bs_neq, bs_lss, Am.unOp, ret1, pubL, pub, pubA, initT, wkZ, wk, wants, resOf, tupOf, quiet, AOp.cls, Nat.beq_eq, Bool.or_eq_true, decide_true, decide_false, beq_self_eq_true, Bool.true_or, Bool.or_true, true_and, and_true, lenA, eqv, eqB, eqP, scal, new_box_self, List.getElem?_cons_zero, List.getElem?_cons_succ, key_ii, key_ss, findM, updM, esc_i, esc_s, esc_b, Int.reduceEq, ret1, new_nb, new_set, reduceCtorEq, Bool.xor_true, Bool.xor_false, Bool.false_eq_true, List.all_cons, List.all_nil, noTok, Bool.and_self, Bool.and_true, Bool.true_and, h5, h6, c1]
      exact KR_some (c3.over s (Nat.le_refl _) (by omega) hov) rfl rfl
  · simp only [W_seq, W_reg, W_cond, W_blk, W_skip, W_exit, W_ret, W_regD, WO_nil, WO_cons, WO_guard2, wantV_b, bq_tt, bq_ft, bq_tf, bq_ff, Bool.not_true, Bool.not_false, WD_nil, WD_cons, WD_guard2, WS_some, WS_none, KS_n, KS_x, KS_r, KB_n, KB_x, KB_r, KN_ap, KO_ap, KD_ap, KC_nil, KF_n, KF_r, KG_n, KG_r, KL_n, KL_x, KL_r, CP_true, CP_false, evOp, evX, X.ev, optX, put_some, put_none, get_set2, sel_t, sel_f, Nat.reduceBEq, Nat.reduceAdd, Nat.reduceLT, Nat.reduceLeDiff, Nat.reduceEqDiff, reduceIte, if_true, if_false, bi_add, bi_sub, bi_mul, bi_eql, bi_neq, bi_lss, bi_leq, bi_gtr, bi_geq, bs_eql, bs_neq, bs_lss, Am.unOp, ret1, pubL, pub, pubA, initT, wkZ, wk, wants, resOf, tupOf, quiet, AOp.cls, Nat.beq_eq, Bool.or_eq_true, decide_true, decide_false, beq_self_eq_true, Bool.true_or, Bool.or_true, true_and, and_true, lenA, eqv, eqB, eqP, scal, new_box_self, List.getElem?_cons_zero, List.getElem?_cons_succ, key_ii, key_ss, findM, updM, esc_i, esc_s, esc_b, Int.reduceEq, ret1, new_nb, new_set, reduceCtorEq, Bool.xor_true, Bool.xor_false, Bool.false_eq_true, List.all_cons, List.all_nil, noTok, Bool.and_self, Bool.and_true, Bool.true_and]
    refine ⟨0, by omega, rfl, rfl, ov1.new _, w1.new _, by omega, by rw [new_box_lt (by omega)]; exact bv1, ?_⟩
    refine ⟨.np, .nsl, by rw [← hidb]; exact new_box_self _ _, .inl rfl, .inl ⟨rfl, rfl⟩⟩
end

theorem blank_ok (c : Nat) (hc : c < 256) (s : St) : (lim prog).call f_touchstonelaw05_blank [.i .u8 (c : Int)] s = some (.b (blankN c), s) := by
  refine fn_W p_touchstonelaw05_blank rfl rfl ?_
  simp only [c_touchstonelaw05_blank, W_seq, W_reg, W_cond, W_blk, W_skip, W_exit, W_ret, W_regD, WO_nil, WO_cons, WO_guard2, wantV_b, bq_tt, bq_ft, bq_tf, bq_ff, Bool.not_true, Bool.not_false, WD_nil, WD_cons, WD_guard2, WS_some, WS_none, KS_n, KS_x, KS_r, KB_n, KB_x, KB_r, KN_ap, KO_ap, KD_ap, KC_nil, KF_n, KF_r, KG_n, KG_r, KL_n, KL_x, KL_r, CP_true, CP_false, evOp, evX, X.ev, optX, put_some, put_none, get_set2, sel_t, sel_f, Nat.reduceBEq, Nat.reduceAdd, Nat.reduceLT, Nat.reduceLeDiff, Nat.reduceEqDiff, reduceIte, if_true, if_false, bi_add, bi_sub, bi_mul, bi_eql, bi_neq, bi_lss, bi_leq, bi_gtr, bi_geq, bs_eql, bs_neq, bs_lss, Am.unOp, ret1, pubL, pub, pubA, initT, wkZ, wk, wants, resOf, tupOf, quiet, AOp.cls, Nat.beq_eq, Bool.or_eq_true, decide_true, decide_false, beq_self_eq_true, Bool.true_or, Bool.or_true, true_and, and_true, lenA, eqv, eqB, eqP, scal, new_box_self, List.getElem?_cons_zero, List.getElem?_cons_succ, key_ii, key_ss, findM, updM, esc_i, esc_s, esc_b, Int.reduceEq, ret1, new_nb, new_set, reduceCtorEq, Bool.xor_true, Bool.xor_false, Bool.false_eq_true, List.all_cons, List.all_nil, noTok, Bool.and_self, Bool.and_true, Bool.true_and]
  by_cases h1 : c = 32
  · subst h1
    simp only [W_seq, W_reg, W_cond, W_blk, W_skip, W_exit, W_ret, W_regD, WO_nil, WO_cons, WO_guard2, wantV_b, bq_tt, bq_ft, bq_tf, bq_ff, Bool.not_true, Bool.not_false, WD_nil, WD_cons, WD_guard2, WS_some, WS_none, KS_n, KS_x, KS_r, KB_n, KB_x, KB_r, KN_ap, KO_ap, KD_ap, KC_nil, KF_n, KF_r, KG_n, KG_r, KL_n, KL_x, KL_r, CP_true, CP_false, evOp, evX, X.ev, optX, put_some, put_none, get_set2, sel_t, sel_f, Nat.reduceBEq, Nat.reduceAdd, Nat.reduceLT, Nat.reduceLeDiff, Nat.reduceEqDiff, reduceIte, if_true, if_false, bi_add, bi_sub, bi_mul, bi_eql, bi_neq, bi_lss, bi_leq, bi_gtr, bi_geq, bs_eql, bs_neq, bs_lss, Am.unOp, ret1, pubL, pub, pubA, initT, wkZ, wk, wants, resOf, tupOf, quiet, AOp.cls, Nat.beq_eq, Bool.or_eq_true, decide_true, decide_false, beq_self_eq_true, Bool.true_or, Bool.or_true, true_and, and_true, lenA, eqv, eqB, eqP, scal, new_box_self, List.getElem?_cons_zero, List.getElem?_cons_succ, key_ii, key_ss, findM, updM, esc_i, esc_s, esc_b, Int.reduceEq, ret1, new_nb, new_set, reduceCtorEq, Bool.xor_true, Bool.xor_false, Bool.false_eq_true, List.all_cons, List.all_nil, noTok, Bool.and_self, Bool.and_true, Bool.true_and, Int.cast_ofNat_Int]
    exact KR_some (Over.enter s) rfl rfl
  · by_cases h2 : c = 9
    · subst h2
      simp only [W_seq, W_reg, W_cond, W_blk, W_skip, W_exit, W_ret, W_regD, WO_nil, WO_cons, WO_guard2, wantV_b, bq_tt, bq_ft, bq_tf, bq_ff, Bool.not_true, Bool.not_false, WD_nil, WD_cons, WD_guard2, WS_some, WS_none, KS_n, KS_x, KS_r, KB_n, KB_x, KB_r, KN_ap, KO_ap, KD_ap, KC_nil, KF_n, KF_r, KG_n, KG_r, KL_n, KL_x, KL_r, CP_true, CP_false, evOp, evX, X.ev, optX, put_some, put_none, get_set2, sel_t, sel_f, Nat.reduceBEq, Nat.reduceAdd, Nat.reduceLT, Nat.reduceLeDiff, Nat.reduceEqDiff, reduceIte, if_true, if_false, bi_add, bi_sub, bi_mul, bi_eql, bi_neq, bi_lss, bi_leq, bi_gtr, bi_geq, bs_eql, bs_neq, bs_lss, Am.unOp, ret1, pubL, pub, pubA, initT, wkZ, wk, wants, resOf, tupOf, quiet, AOp.cls, Nat.beq_eq, Bool.or_eq_true, decide_true, decide_false, beq_self_eq_true, Bool.true_or, Bool.or_true, true_and, and_true, lenA, eqv, eqB, eqP, scal, new_box_self, List.getElem?_cons_zero, List.getElem?_cons_succ, key_ii, key_ss, findM, updM, esc_i, esc_s, esc_b, Int.reduceEq, ret1, new_nb, new_set, reduceCtorEq, Bool.xor_true, Bool.xor_false, Bool.false_eq_true, List.all_cons, List.all_nil, noTok, Bool.and_self, Bool.and_true, Bool.true_and, Int.cast_ofNat_Int]
      exact KR_some (Over.enter s) rfl rfl
    · have e1 : ((c : Int) = 32) = False := by simp; omega
      have e2 : ((c : Int) = 9) = False := by simp; omega
      simp only [W_seq, W_reg, W_cond, W_blk, W_skip, W_exit, W_ret, W_regD, WO_nil, WO_cons, WO_guard2, wantV_b, bq_tt, bq_ft, bq_tf, bq_ff, Bool.not_true, Bool.not_false, WD_nil, WD_cons, WD_guard2, WS_some, WS_none, KS_n, KS_x, KS_r, KB_n, KB_x, KB_r, KN_ap, KO_ap, KD_ap, KC_nil, KF_n, KF_r, KG_n, KG_r, KL_n, KL_x, KL_r, CP_true, CP_false, evOp, evX, X.ev, optX, put_some, put_none, get_set2, sel_t, sel_f, Nat.reduceBEq, Nat.reduceAdd, Nat.reduceLT, Nat.reduceLeDiff, Nat.reduceEqDiff, reduceIte, if_true, if_false, bi_add, bi_sub, bi_mul, bi_eql, bi_neq, bi_lss, bi_leq, bi_gtr, bi_geq, bs_eql, bs_neq, bs_lss, Am.unOp, ret1, pubL, pub, pubA, initT, wkZ, wk, wants, resOf, tupOf, quiet, AOp.cls, Nat.beq_eq, Bool.or_eq_true, decide_true, decide_false, beq_self_eq_true, Bool.true_or, Bool.or_true, true_and, and_true, lenA, eqv, eqB, eqP, scal, new_box_self, List.getElem?_cons_zero, List.getElem?_cons_succ, key_ii, key_ss, findM, updM, esc_i, esc_s, esc_b, Int.reduceEq, ret1, new_nb, new_set, reduceCtorEq, Bool.xor_true, Bool.xor_false, Bool.false_eq_true, List.all_cons, List.all_nil, noTok, Bool.and_self, Bool.and_true, Bool.true_and, e1, e2]
      refine KR_some (Over.enter s) rfl ?_
      have : ((c : Int) = 10) = (c = 10) := by simp; omega
      simp [tupOf, wkZ, wk, blankN, h1, h2, this]

theorem same_ok (A B : List (List Nat)) (hA : A.length < 2 ^ 63) (s : St) : (lim prog).call f_touchstonelaw05_same [tx A, tx B] s = some (.b (decide (A = B)), s) := by
  refine fn_W p_touchstonelaw05_same rfl rfl ?_
  simp only [c_touchstonelaw05_same, W_seq, W_reg, W_cond, W_blk, W_skip, W_exit, W_ret, W_regD, WO_nil, WO_cons, WO_guard2, wantV_b, bq_tt, bq_ft, bq_tf, bq_ff, Bool.not_true, Bool.not_false, WD_nil, WD_cons, WD_guard2, WS_some, WS_none, KS_n, KS_x, KS_r, KB_n, KB_x, KB_r, KN_ap, KO_ap, KD_ap, KC_nil, KF_n, KF_r, KG_n, KG_r, KL_n, KL_x, KL_r, CP_true, CP_false, evOp, evX, X.ev, optX, put_some, put_none, get_set2, sel_t, sel_f, Nat.reduceBEq, Nat.reduceAdd, Nat.reduceLT, Nat.reduceLeDiff, Nat.reduceEqDiff, reduceIte, if_true, if_false, bi_add, bi_sub, bi_mul, bi_eql, bi_neq, bi_lss, bi_leq, bi_gtr, bi_geq, bs_eql, bs_neq, bs_lss, Am.unOp, ret1, pubL, pub, pubA, initT, wkZ, wk, wants, resOf, tupOf, quiet, AOp.cls, Nat.beq_eq, Bool.or_eq_true, decide_true, decide_false, beq_self_eq_true, Bool.true_or, Bool.or_true, true_and, and_true, lenA, eqv, eqB, eqP, scal, new_box_self, List.getElem?_cons_zero, List.getElem?_cons_succ, key_ii, key_ss, findM, updM, esc_i, esc_s, esc_b, Int.reduceEq, ret1, new_nb, new_set, reduceCtorEq, Bool.xor_true, Bool.xor_false, Bool.false_eq_true, List.all_cons, List.all_nil, noTok, Bool.and_self, Bool.and_true, Bool.true_and, List.length_map, ofNat_len]
  by_cases hl : A.length = B.length
  · have hl' : ((A.length : Int) ≠ (B.length : Int)) = False := by simp [hl]
    simp only [W_seq, W_reg, W_cond, W_blk, W_skip, W_exit, W_ret, W_regD, WO_nil, WO_cons, WO_guard2, wantV_b, bq_tt, bq_ft, bq_tf, bq_ff, Bool.not_true, Bool.not_false, WD_nil, WD_cons, WD_guard2, WS_some, WS_none, KS_n, KS_x, KS_r, KB_n, KB_x, KB_r, KN_ap, KO_ap, KD_ap, KC_nil, KF_n, KF_r, KG_n, KG_r, KL_n, KL_x, KL_r, CP_true, CP_false, evOp, evX, X.ev, optX, put_some, put_none, get_set2, sel_t, sel_f, Nat.reduceBEq, Nat.reduceAdd, Nat.reduceLT, Nat.reduceLeDiff, Nat.reduceEqDiff, reduceIte, if_true, if_false, bi_add, bi_sub, bi_mul, bi_eql, bi_neq, bi_lss, bi_leq, bi_gtr, bi_geq, bs_eql, bs_neq, bs_lss, Am.unOp, ret1, pubL, pub, pubA, initT, wkZ, wk, wants, resOf, tupOf, quiet, AOp.cls, Nat.beq_eq, Bool.or_eq_true, decide_true, decide_false, beq_self_eq_true, Bool.true_or, Bool.or_true, true_and, and_true, lenA, eqv, eqB, eqP, scal, new_box_self, List.getElem?_cons_zero, List.getElem?_cons_succ, key_ii, key_ss, findM, updM, esc_i, esc_s, esc_b, Int.reduceEq, ret1, new_nb, new_set, reduceCtorEq, Bool.xor_true, Bool.xor_false, Bool.false_eq_true, List.all_cons, List.all_nil, noTok, Bool.and_self, Bool.and_true, Bool.true_and, hl', ne_eq, not_true_eq_false]
    refine W_loop (fun n e q => q = s.enter ∧ e.get 0 = tx A ∧ e.get 1 = tx B ∧ ∃ i : Nat, i + n = A.length ∧ e.get 5 = .i .i64 i ∧ ∀ (j : Nat) (hj : j < i) (hL : j < A.length), A[j] = B[j]'(by omega)) ?_ A.length _ _ ?_
    · rintro n e q ⟨rfl, h0, h1, i, hi, h5, hn⟩
      simp only [W_seq, W_reg, W_cond, W_blk, W_skip, W_exit, W_ret, W_regD, WO_nil, WO_cons, WO_guard2, wantV_b, bq_tt, bq_ft, bq_tf, bq_ff, Bool.not_true, Bool.not_false, WD_nil, WD_cons, WD_guard2, WS_some, WS_none, KS_n, KS_x, KS_r, KB_n, KB_x, KB_r, KN_ap, KO_ap, KD_ap, KC_nil, KF_n, KF_r, KG_n, KG_r, KL_n, KL_x, KL_r, CP_true, CP_false, evOp, evX, X.ev, optX, put_some, put_none, get_set2, sel_t, sel_f, Nat.reduceBEq, Nat.reduceAdd, Nat.reduceLT, Nat.reduceLeDiff, Nat.reduceEqDiff, reduceIte, if_true, if_false, bi_add, bi_sub, bi_mul, bi_eql, bi_neq, bi_lss, bi_leq, bi_gtr, bi_geq, bs_eql, bs_neq, bs_lss, Am.unOp, ret1, pubL, pub, pubA, initT, wkZ, wk, wants, resOf, tupOf, quiet, AOp.cls, Nat.beq_eq, Bool.or_eq_true, decide_true, decide_false, beq_self_eq_true, Bool.true_or, Bool.or_true, true_and, and_true, lenA, eqv, eqB, eqP, scal, new_box_self, List.getElem?_cons_zero, List.getElem?_cons_succ, key_ii, key_ss, findM, updM, esc_i, esc_s, esc_b, Int.reduceEq, ret1, new_nb, new_set, reduceCtorEq, Bool.xor_true, Bool.xor_false, Bool.false_eq_true, List.all_cons, List.all_nil, noTok, Bool.and_self, Bool.and_true, Bool.true_and, h0, h1, h5, List.length_map, ofNat_len]
      refine CP_dec (fun hlt => ?_) (fun hge => ?_)
      · have hlt : i < A.length := by omega
        simp only [W_seq, W_reg, W_cond, W_blk, W_skip, W_exit, W_ret, W_regD, WO_nil, WO_cons, WO_guard2, wantV_b, bq_tt, bq_ft, bq_tf, bq_ff, Bool.not_true, Bool.not_false, WD_nil, WD_cons, WD_guard2, WS_some, WS_none, KS_n, KS_x, KS_r, KB_n, KB_x, KB_r, KN_ap, KO_ap, KD_ap, KC_nil, KF_n, KF_r, KG_n, KG_r, KL_n, KL_x, KL_r, CP_true, CP_false, evOp, evX, X.ev, optX, put_some, put_none, get_set2, sel_t, sel_f, Nat.reduceBEq, Nat.reduceAdd, Nat.reduceLT, Nat.reduceLeDiff, Nat.reduceEqDiff, reduceIte, if_true, if_false, bi_add, bi_sub, bi_mul, bi_eql, bi_neq, bi_lss, bi_leq, bi_gtr, bi_geq, bs_eql, bs_neq, bs_lss, Am.unOp, ret1, pubL, pub, pubA, initT, wkZ, wk, wants, resOf, tupOf, quiet, AOp.cls, Nat.beq_eq, Bool.or_eq_true, decide_true, decide_false, beq_self_eq_true, Bool.true_or, Bool.or_true, true_and, and_true, lenA, eqv, eqB, eqP, scal, new_box_self, List.getElem?_cons_zero, List.getElem?_cons_succ, key_ii, key_ss, findM, updM, esc_i, esc_s, esc_b, Int.reduceEq, ret1, new_nb, new_set, reduceCtorEq, Bool.xor_true, Bool.xor_false, Bool.false_eq_true, List.all_cons, List.all_nil, noTok, Bool.and_self, Bool.and_true, Bool.true_and, h0, h1, h5, natOf_nat, tx_get hlt, tx_get (show i < B.length by omega), cells_s, ldA_1, wrap_succ (show i + 1 < 2 ^ 63 by omega)]
        refine CP_dec (fun hne => ?_) (fun heq => ?_)
        · exact KR_some (Over.enter s) rfl (by
            have : A ≠ B := fun h => hne (by subst h; rfl)
            simp [tupOf, wkZ, wk, this])
        · have heq : A[i] = B[i]'(by omega) := by simpa using heq
          refine ⟨n - 1, by omega, i + 1, by omega, rfl, fun j hj hL => ?_⟩
          by_cases hji : j = i
          · subst hji; exact heq
          · exact hn j (by omega) hL
      · exact KR_some (Over.enter s) rfl (by
          have : A = B := List.ext_getElem hl fun j h1 h2 => hn j (by omega) h1
          simp [tupOf, wkZ, wk, this])
    · simp only [W_seq, W_reg, W_cond, W_blk, W_skip, W_exit, W_ret, W_regD, WO_nil, WO_cons, WO_guard2, wantV_b, bq_tt, bq_ft, bq_tf, bq_ff, Bool.not_true, Bool.not_false, WD_nil, WD_cons, WD_guard2, WS_some, WS_none, KS_n, KS_x, KS_r, KB_n, KB_x, KB_r, KN_ap, KO_ap, KD_ap, KC_nil, KF_n, KF_r, KG_n, KG_r, KL_n, KL_x, KL_r, CP_true, CP_false, evOp, evX, X.ev, optX, put_some, put_none, get_set2, sel_t, sel_f, Nat.reduceBEq, Nat.reduceAdd, Nat.reduceLT, Nat.reduceLeDiff, Nat.reduceEqDiff, reduceIte, if_true, if_false, bi_add, bi_sub, bi_mul, bi_eql, bi_neq, bi_lss, bi_leq, bi_gtr, bi_geq, bs_eql, bs_neq, bs_lss, Am.unOp, ret1, pubL, pub, pubA, initT, wkZ, wk, wants, resOf, tupOf, quiet, AOp.cls, Nat.beq_eq, Bool.or_eq_true, decide_true, decide_false, beq_self_eq_true, Bool.true_or, Bool.or_true, true_and, and_true, lenA, eqv, eqB, eqP, scal, new_box_self, List.getElem?_cons_zero, List.getElem?_cons_succ, key_ii, key_ss, findM, updM, esc_i, esc_s, esc_b, Int.reduceEq, ret1, new_nb, new_set, reduceCtorEq, Bool.xor_true, Bool.xor_false, Bool.false_eq_true, List.all_cons, List.all_nil, noTok, Bool.and_self, Bool.and_true, Bool.true_and]
      exact ⟨0, by omega, rfl, fun j hj => by omega⟩
  · have hl' : ((A.length : Int) ≠ (B.length : Int)) = True := by simp; omega
    simp only [W_seq, W_reg, W_cond, W_blk, W_skip, W_exit, W_ret, W_regD, WO_nil, WO_cons, WO_guard2, wantV_b, bq_tt, bq_ft, bq_tf, bq_ff, Bool.not_true, Bool.not_false, WD_nil, WD_cons, WD_guard2, WS_some, WS_none, KS_n, KS_x, KS_r, KB_n, KB_x, KB_r, KN_ap, KO_ap, KD_ap, KC_nil, KF_n, KF_r, KG_n, KG_r, KL_n, KL_x, KL_r, CP_true, CP_false, evOp, evX, X.ev, optX, put_some, put_none, get_set2, sel_t, sel_f, Nat.reduceBEq, Nat.reduceAdd, Nat.reduceLT, Nat.reduceLeDiff, Nat.reduceEqDiff, reduceIte, if_true, if_false, bi_add, bi_sub, bi_mul, bi_eql, bi_neq, bi_lss, bi_leq, bi_gtr, bi_geq, bs_eql, bs_neq, bs_lss, Am.unOp, ret1, pubL, pub, pubA, initT, wkZ, wk, wants, resOf, tupOf, quiet, AOp.cls, Nat.beq_eq, Bool.or_eq_true, decide_true, decide_false, beq_self_eq_true, Bool.true_or, Bool.or_true, true_and, and_true, lenA, eqv, eqB, eqP, scal, new_box_self, List.getElem?_cons_zero, List.getElem?_cons_succ, key_ii, key_ss, findM, updM, esc_i, esc_s, esc_b, Int.reduceEq, ret1, new_nb, new_set, reduceCtorEq, Bool.xor_true, Bool.xor_false, Bool.false_eq_true, List.all_cons, List.all_nil, noTok, Bool.and_self, Bool.and_true, Bool.true_and, hl']
    exact KR_some (Over.enter s) rfl (by
      have : A ≠ B := fun h => hl (by rw [h])
      simp [tupOf, wkZ, wk, this])

theorem cells_b (b : Bool) : (AV.b b).cells = [.b b] := rfl
theorem cells_i (k : IntKind) (n : Int) : (AV.i k n).cells = [.i k n] := rfl
theorem over3_0 (a b c x : AV) : over [a, b, c] 0 [x] = some [x, b, c] := rfl
theorem over3_1 (a b c x : AV) : over [a, b, c] 1 [x] = some [a, x, c] := rfl
theorem over3_2 (a b c x : AV) : over [a, b, c] 2 [x] = some [a, b, x] := rfl
theorem st3_new (s : St) (T : Nat) (a b c x y z : AV) (h1 : ones [x, y, z] = true) (h2 : AV.refs.go [x, y, z] = false) : stA (s.new (.cells T [a, b, c])) 3 (.p s.nb 0) (.agg [x, y, z]) = some (s.new (.cells T [x, y, z])) := by
  simp [stA, new_box_self, AV.cells, over, h1, esc, AV.refs, h2, new_set]
theorem par_ok (l : List Nat) (s : St) : (lim prog).call f_touchstonelaw05_par [.s l] s = some (.agg (PP.cells ⟨true, l, false⟩), s) := by
  refine fn_W p_touchstonelaw05_par rfl rfl ?_
  have hst := st3_new s.enter 31 (.b false) (.s []) (.b false) (.b true) (.s l) (.b false) rfl rfl
  have hl1 : ∀ a : AV, [a].length = 1 := fun _ => rfl
  have hb : ((s.enter.new (.cells 31 [.b true, .s l, .b false]))).box? s.enter.nb = some (.cells 31 [.b true, .s l, .b false]) := new_box_self _ _
  have hla := ld_all3 hb
  simp only [c_touchstonelaw05_par, W_seq, W_reg, W_cond, W_blk, W_skip, W_exit, W_ret, W_regD, WO_nil, WO_cons, WO_guard2, wantV_b, bq_tt, bq_ft, bq_tf, bq_ff, Bool.not_true, Bool.not_false, WD_nil, WD_cons, WD_guard2, WS_some, WS_none, KS_n, KS_x, KS_r, KB_n, KB_x, KB_r, KN_ap, KO_ap, KD_ap, KC_nil, KF_n, KF_r, KG_n, KG_r, KL_n, KL_x, KL_r, CP_true, CP_false, evOp, evX, X.ev, optX, put_some, put_none, get_set2, sel_t, sel_f, Nat.reduceBEq, Nat.reduceAdd, Nat.reduceLT, Nat.reduceLeDiff, Nat.reduceEqDiff, reduceIte, if_true, if_false, bi_add, bi_sub, bi_mul, bi_eql, bi_neq, bi_lss, bi_leq, bi_gtr, bi_geq, bs_eql, bs_neq, bs_lss, Am.unOp, ret1, pubL, pub, pubA, initT, wkZ, wk, wants, resOf, tupOf, quiet, AOp.cls, Nat.beq_eq, Bool.or_eq_true, decide_true, decide_false, beq_self_eq_true, Bool.true_or, Bool.or_true, true_and, and_true, lenA, eqv, eqB, eqP, scal, new_box_self, List.getElem?_cons_zero, List.getElem?_cons_succ, key_ii, key_ss, findM, updM, esc_i, esc_s, esc_b, Int.reduceEq, ret1, new_nb, new_set, reduceCtorEq, Bool.xor_true, Bool.xor_false, Bool.false_eq_true, List.all_cons, List.all_nil, noTok, Bool.and_self, Bool.and_true, Bool.true_and, evParts, cells_b, cells_s, over3_0, over3_1, hl1, hst, hla, frzL, frz]
  exact KR_some ((Over.enter s).new _) rfl rfl

/-- What 'texts' counts. -/
def textsF : Nat → List (List Nat) → Nat
  | n, [] => n
  | n, l :: L => if n < 20000 then textsF (n + 1 + min l.length 20000) L else n
theorem textsF_ge : ∀ (L : List (List Nat)) (n : Nat), n ≤ textsF n L
  | [], n => Nat.le_refl _
  | l :: L, n => by
    unfold textsF
    split
    · have := textsF_ge L (n + 1 + min l.length 20000)
      omega
    · exact Nat.le_refl _
theorem textsF_le : ∀ (L : List (List Nat)) (n : Nat), n ≤ 40000 → textsF n L ≤ 40000
  | [], n, h => h
  | l :: L, n, h => by
    unfold textsF
    split
    · exact textsF_le L _ (by omega)
    · exact h
theorem textsF_small : ∀ (L : List (List Nat)) (n : Nat), textsF n L < 20000 → n + (L.map fun l => l.length + 1).sum ≤ textsF n L
  | [], n, _ => by simp [textsF]
  | l :: L, n, h => by
    unfold textsF at h ⊢
    split at h
    · rename_i hn
      rw [if_pos hn]
      have h1 := textsF_small L _ h
      have h2 := textsF_ge L (n + 1 + min l.length 20000)
      simp only [List.map_cons, List.sum_cons]
      omega
    · omega

theorem min_20000 (n : Nat) : (if (20000 : Int) < (n : Int) then (20000 : Int) else (n : Int)) = ((min n 20000 : Nat) : Int) := by
  split <;> omega

theorem texts_ok (L : List (List Nat)) (hL : L.length < 2 ^ 63) (s : St) : (lim prog).call f_touchstonelaw05_texts [tx L] s = some (.i .i64 (textsF 0 L : Nat), s) := by
  refine fn_W p_touchstonelaw05_texts rfl rfl ?_
  simp only [c_touchstonelaw05_texts, W_seq, W_reg, W_cond, W_blk, W_skip, W_exit, W_ret, W_regD, WO_nil, WO_cons, WO_guard2, wantV_b, bq_tt, bq_ft, bq_tf, bq_ff, Bool.not_true, Bool.not_false, WD_nil, WD_cons, WD_guard2, WS_some, WS_none, KS_n, KS_x, KS_r, KB_n, KB_x, KB_r, KN_ap, KO_ap, KD_ap, KC_nil, KF_n, KF_r, KG_n, KG_r, KL_n, KL_x, KL_r, CP_true, CP_false, evOp, evX, X.ev, optX, put_some, put_none, get_set2, sel_t, sel_f, Nat.reduceBEq, Nat.reduceAdd, Nat.reduceLT, Nat.reduceLeDiff, Nat.reduceEqDiff, reduceIte, if_true, if_false, bi_add, bi_sub, bi_mul, bi_eql, bi_neq, bi_lss, bi_leq, bi_gtr, bi_geq, bs_eql, bs_neq, bs_lss, Am.unOp, ret1, pubL, pub, pubA, initT, wkZ, wk, wants, resOf, tupOf, quiet, AOp.cls, Nat.beq_eq, Bool.or_eq_true, decide_true, decide_false, beq_self_eq_true, Bool.true_or, Bool.or_true, true_and, and_true, lenA, eqv, eqB, eqP, scal, new_box_self, List.getElem?_cons_zero, List.getElem?_cons_succ, key_ii, key_ss, findM, updM, esc_i, esc_s, esc_b, Int.reduceEq, ret1, new_nb, new_set, reduceCtorEq, Bool.xor_true, Bool.xor_false, Bool.false_eq_true, List.all_cons, List.all_nil, noTok, Bool.and_self, Bool.and_true, Bool.true_and, List.length_map, ofNat_len]
  refine W_loop (fun n e q => q = s.enter ∧ e.get 0 = tx L ∧ ∃ i k : Nat, i + n = L.length ∧ e.get 3 = .i .i64 k ∧ e.get 4 = .i .i64 i ∧ k ≤ 40000 ∧ textsF k (L.drop i) = textsF 0 L) ?_ L.length _ _ ?_
  · rintro n e q ⟨rfl, h0, i, k, hi, h3, h4, hk, hn⟩
    simp only [W_seq, W_reg, W_cond, W_blk, W_skip, W_exit, W_ret, W_regD, WO_nil, WO_cons, WO_guard2, wantV_b, bq_tt, bq_ft, bq_tf, bq_ff, Bool.not_true, Bool.not_false, WD_nil, WD_cons, WD_guard2, WS_some, WS_none, KS_n, KS_x, KS_r, KB_n, KB_x, KB_r, KN_ap, KO_ap, KD_ap, KC_nil, KF_n, KF_r, KG_n, KG_r, KL_n, KL_x, KL_r, CP_true, CP_false, evOp, evX, X.ev, optX, put_some, put_none, get_set2, sel_t, sel_f, Nat.reduceBEq, Nat.reduceAdd, Nat.reduceLT, Nat.reduceLeDiff, Nat.reduceEqDiff, reduceIte, if_true, if_false, bi_add, bi_sub, bi_mul, bi_eql, bi_neq, bi_lss, bi_leq, bi_gtr, bi_geq, bs_eql, bs_neq, bs_lss, Am.unOp, ret1, pubL, pub, pubA, initT, wkZ, wk, wants, resOf, tupOf, quiet, AOp.cls, Nat.beq_eq, Bool.or_eq_true, decide_true, decide_false, beq_self_eq_true, Bool.true_or, Bool.or_true, true_and, and_true, lenA, eqv, eqB, eqP, scal, new_box_self, List.getElem?_cons_zero, List.getElem?_cons_succ, key_ii, key_ss, findM, updM, esc_i, esc_s, esc_b, Int.reduceEq, ret1, new_nb, new_set, reduceCtorEq, Bool.xor_true, Bool.xor_false, Bool.false_eq_true, List.all_cons, List.all_nil, noTok, Bool.and_self, Bool.and_true, Bool.true_and, h0, h3, h4, List.length_map, ofNat_len]
    by_cases hlt : i < L.length
    · have hd : L.drop i = L[i] :: L.drop (i + 1) := List.drop_eq_getElem_cons hlt
      have hlt' : ((i : Int) < (L.length : Int)) = True := by simp; omega
      by_cases hk2 : k < 20000
      · have hk' : ((k : Int) < 20000) = True := by simp; omega
        have hk1 : IntKind.i64.wrap ((k : Int) + 1) = ((k + 1 : Nat) : Int) := wrap_succ (by omega)
        have hmm := min_20000 L[i].length
        have hadd : IntKind.i64.wrap (((k + 1 : Nat) : Int) + ((min L[i].length 20000 : Nat) : Int)) = ((k + 1 + min L[i].length 20000 : Nat) : Int) := by
          rw [← wrap_nat (show k + 1 + min L[i].length 20000 < 2 ^ 63 by omega)]; simp
        simp only [W_seq, W_reg, W_cond, W_blk, W_skip, W_exit, W_ret, W_regD, WO_nil, WO_cons, WO_guard2, wantV_b, bq_tt, bq_ft, bq_tf, bq_ff, Bool.not_true, Bool.not_false, WD_nil, WD_cons, WD_guard2, WS_some, WS_none, KS_n, KS_x, KS_r, KB_n, KB_x, KB_r, KN_ap, KO_ap, KD_ap, KC_nil, KF_n, KF_r, KG_n, KG_r, KL_n, KL_x, KL_r, CP_true, CP_false, evOp, evX, X.ev, optX, put_some, put_none, get_set2, sel_t, sel_f, Nat.reduceBEq, Nat.reduceAdd, Nat.reduceLT, Nat.reduceLeDiff, Nat.reduceEqDiff, reduceIte, if_true, if_false, bi_add, bi_sub, bi_mul, bi_eql, bi_neq, bi_lss, bi_leq, bi_gtr, bi_geq, bs_eql, bs_neq, bs_lss, Am.unOp, ret1, pubL, pub, pubA, initT, wkZ, wk, wants, resOf, tupOf, quiet, AOp.cls, Nat.beq_eq, Bool.or_eq_true, decide_true, decide_false, beq_self_eq_true, Bool.true_or, Bool.or_true, true_and, and_true, lenA, eqv, eqB, eqP, scal, new_box_self, List.getElem?_cons_zero, List.getElem?_cons_succ, key_ii, key_ss, findM, updM, esc_i, esc_s, esc_b, Int.reduceEq, ret1, new_nb, new_set, reduceCtorEq, Bool.xor_true, Bool.xor_false, Bool.false_eq_true, List.all_cons, List.all_nil, noTok, Bool.and_self, Bool.and_true, Bool.true_and, h0, h3, h4, hlt', hk', hk1, natOf_nat, tx_get hlt, cells_s, ldA_1, ofNat_len, hmm, hadd, wrap_succ (show i + 1 < 2 ^ 63 by omega)]
        refine ⟨n - 1, by omega, i + 1, k + 1 + min L[i].length 20000, by omega, rfl, rfl, by omega, ?_⟩
        rw [← hn, hd]
        simp only [textsF, if_pos hk2]
      · have hk' : ((k : Int) < 20000) = False := by simp; omega
        simp only [W_seq, W_reg, W_cond, W_blk, W_skip, W_exit, W_ret, W_regD, WO_nil, WO_cons, WO_guard2, wantV_b, bq_tt, bq_ft, bq_tf, bq_ff, Bool.not_true, Bool.not_false, WD_nil, WD_cons, WD_guard2, WS_some, WS_none, KS_n, KS_x, KS_r, KB_n, KB_x, KB_r, KN_ap, KO_ap, KD_ap, KC_nil, KF_n, KF_r, KG_n, KG_r, KL_n, KL_x, KL_r, CP_true, CP_false, evOp, evX, X.ev, optX, put_some, put_none, get_set2, sel_t, sel_f, Nat.reduceBEq, Nat.reduceAdd, Nat.reduceLT, Nat.reduceLeDiff, Nat.reduceEqDiff, reduceIte, if_true, if_false, bi_add, bi_sub, bi_mul, bi_eql, bi_neq, bi_lss, bi_leq, bi_gtr, bi_geq, bs_eql, bs_neq, bs_lss, Am.unOp, ret1, pubL, pub, pubA, initT, wkZ, wk, wants, resOf, tupOf, quiet, AOp.cls, Nat.beq_eq, Bool.or_eq_true, decide_true, decide_false, beq_self_eq_true, Bool.true_or, Bool.or_true, true_and, and_true, lenA, eqv, eqB, eqP, scal, new_box_self, List.getElem?_cons_zero, List.getElem?_cons_succ, key_ii, key_ss, findM, updM, esc_i, esc_s, esc_b, Int.reduceEq, ret1, new_nb, new_set, reduceCtorEq, Bool.xor_true, Bool.xor_false, Bool.false_eq_true, List.all_cons, List.all_nil, noTok, Bool.and_self, Bool.and_true, Bool.true_and, h0, h3, h4, hlt', hk']
        exact KR_some (Over.enter s) rfl (by
          rw [hd] at hn
          simp only [textsF, if_neg hk2] at hn
          simp [tupOf, wkZ, wk, hn])
    · have hlt' : ((i : Int) < (L.length : Int)) = False := by simp; omega
      simp only [W_seq, W_reg, W_cond, W_blk, W_skip, W_exit, W_ret, W_regD, WO_nil, WO_cons, WO_guard2, wantV_b, bq_tt, bq_ft, bq_tf, bq_ff, Bool.not_true, Bool.not_false, WD_nil, WD_cons, WD_guard2, WS_some, WS_none, KS_n, KS_x, KS_r, KB_n, KB_x, KB_r, KN_ap, KO_ap, KD_ap, KC_nil, KF_n, KF_r, KG_n, KG_r, KL_n, KL_x, KL_r, CP_true, CP_false, evOp, evX, X.ev, optX, put_some, put_none, get_set2, sel_t, sel_f, Nat.reduceBEq, Nat.reduceAdd, Nat.reduceLT, Nat.reduceLeDiff, Nat.reduceEqDiff, reduceIte, if_true, if_false, bi_add, bi_sub, bi_mul, bi_eql, bi_neq, bi_lss, bi_leq, bi_gtr, bi_geq, bs_eql, bs_neq, bs_lss, Am.unOp, ret1, pubL, pub, pubA, initT, wkZ, wk, wants, resOf, tupOf, quiet, AOp.cls, Nat.beq_eq, Bool.or_eq_true, decide_true, decide_false, beq_self_eq_true, Bool.true_or, Bool.or_true, true_and, and_true, lenA, eqv, eqB, eqP, scal, new_box_self, List.getElem?_cons_zero, List.getElem?_cons_succ, key_ii, key_ss, findM, updM, esc_i, esc_s, esc_b, Int.reduceEq, ret1, new_nb, new_set, reduceCtorEq, Bool.xor_true, Bool.xor_false, Bool.false_eq_true, List.all_cons, List.all_nil, noTok, Bool.and_self, Bool.and_true, Bool.true_and, h0, h3, h4, hlt']
      exact KR_some (Over.enter s) rfl (by
          rw [List.drop_eq_nil_of_le (by omega)] at hn
          simp only [textsF] at hn
          simp [tupOf, wkZ, wk, hn])
  · simp only [W_seq, W_reg, W_cond, W_blk, W_skip, W_exit, W_ret, W_regD, WO_nil, WO_cons, WO_guard2, wantV_b, bq_tt, bq_ft, bq_tf, bq_ff, Bool.not_true, Bool.not_false, WD_nil, WD_cons, WD_guard2, WS_some, WS_none, KS_n, KS_x, KS_r, KB_n, KB_x, KB_r, KN_ap, KO_ap, KD_ap, KC_nil, KF_n, KF_r, KG_n, KG_r, KL_n, KL_x, KL_r, CP_true, CP_false, evOp, evX, X.ev, optX, put_some, put_none, get_set2, sel_t, sel_f, Nat.reduceBEq, Nat.reduceAdd, Nat.reduceLT, Nat.reduceLeDiff, Nat.reduceEqDiff, reduceIte, if_true, if_false, bi_add, bi_sub, bi_mul, bi_eql, bi_neq, bi_lss, bi_leq, bi_gtr, bi_geq, bs_eql, bs_neq, bs_lss, Am.unOp, ret1, pubL, pub, pubA, initT, wkZ, wk, wants, resOf, tupOf, quiet, AOp.cls, Nat.beq_eq, Bool.or_eq_true, decide_true, decide_false, beq_self_eq_true, Bool.true_or, Bool.or_true, true_and, and_true, lenA, eqv, eqB, eqP, scal, new_box_self, List.getElem?_cons_zero, List.getElem?_cons_succ, key_ii, key_ss, findM, updM, esc_i, esc_s, esc_b, Int.reduceEq, ret1, new_nb, new_set, reduceCtorEq, Bool.xor_true, Bool.xor_false, Bool.false_eq_true, List.all_cons, List.all_nil, noTok, Bool.and_self, Bool.and_true, Bool.true_and]
    exact ⟨0, 0, by omega, rfl, rfl, by omega, rfl⟩

/-- What 'large' counts of parts. -/
def partsF : Nat → List PP → Nat
  | n, [] => n
  | n, p :: L => if n < 20000 then partsF (n + 1 + min p.text.length 20000) L else n
theorem partsF_ge : ∀ (L : List PP) (n : Nat), n ≤ partsF n L
  | [], n => Nat.le_refl _
  | l :: L, n => by
    unfold partsF
    split
    · have := partsF_ge L (n + 1 + min l.text.length 20000)
      omega
    · exact Nat.le_refl _
theorem partsF_small : ∀ (L : List PP) (n : Nat), partsF n L < 20000 → n + (L.map fun p => p.text.length + 1).sum ≤ partsF n L
  | [], n, _ => by simp [partsF]
  | l :: L, n, h => by
    unfold partsF at h ⊢
    split at h
    · rename_i hn
      rw [if_pos hn]
      have h1 := partsF_small L _ h
      have h2 := partsF_ge L (n + 1 + min l.text.length 20000)
      simp only [List.map_cons, List.sum_cons]
      omega
    · omega
def largeF (v : VV) (ps : List PP) : Nat := partsF (textsF 0 v.names + textsF 0 v.values + textsF 0 v.args) ps
def largeP (v : VV) (ps : List PP) : Bool := decide (20000 ≤ largeF v ps) || decide (200 < ps.length)

theorem large_ok (v : VV) (hv : v.Ok) (ps : List PP) (hlen : ps.length < 2 ^ 63) (s : St) : (lim prog).call f_touchstonelaw05_large [v.av, partsA ps] s = some (.b (largeP v ps), s) := by
  refine fn_W p_touchstonelaw05_large rfl rfl ?_
  have b1 := textsF_le v.names 0 (by omega)
  have b2 := textsF_le v.values 0 (by omega)
  have b3 := textsF_le v.args 0 (by omega)
  have hadd1 : IntKind.i64.wrap (((textsF 0 v.names : Nat) : Int) + ((textsF 0 v.values : Nat) : Int)) = ((textsF 0 v.names + textsF 0 v.values : Nat) : Int) := by
    rw [← wrap_nat (show textsF 0 v.names + textsF 0 v.values < 2 ^ 63 by omega)]; simp
  have hadd2 : IntKind.i64.wrap (((textsF 0 v.names + textsF 0 v.values : Nat) : Int) + ((textsF 0 v.args : Nat) : Int)) = ((textsF 0 v.names + textsF 0 v.values + textsF 0 v.args : Nat) : Int) := by
    rw [← wrap_nat (show textsF 0 v.names + textsF 0 v.values + textsF 0 v.args < 2 ^ 63 by omega)]; simp
  simp only [c_touchstonelaw05_large, W_seq, W_reg, W_cond, W_blk, W_skip, W_exit, W_ret, W_regD, WO_nil, WO_cons, WO_guard2, wantV_b, bq_tt, bq_ft, bq_tf, bq_ff, Bool.not_true, Bool.not_false, WD_nil, WD_cons, WD_guard2, WS_some, WS_none, KS_n, KS_x, KS_r, KB_n, KB_x, KB_r, KN_ap, KO_ap, KD_ap, KC_nil, KF_n, KF_r, KG_n, KG_r, KL_n, KL_x, KL_r, CP_true, CP_false, evOp, evX, X.ev, optX, put_some, put_none, get_set2, sel_t, sel_f, Nat.reduceBEq, Nat.reduceAdd, Nat.reduceLT, Nat.reduceLeDiff, Nat.reduceEqDiff, reduceIte, if_true, if_false, bi_add, bi_sub, bi_mul, bi_eql, bi_neq, bi_lss, bi_leq, bi_gtr, bi_geq, bs_eql, bs_neq, bs_lss, Am.unOp, ret1, pubL, pub, pubA, initT, wkZ, wk, wants, resOf, tupOf, quiet, AOp.cls, Nat.beq_eq, Bool.or_eq_true, decide_true, decide_false, beq_self_eq_true, Bool.true_or, Bool.or_true, true_and, and_true, lenA, eqv, eqB, eqP, scal, new_box_self, List.getElem?_cons_zero, List.getElem?_cons_succ, key_ii, key_ss, findM, updM, esc_i, esc_s, esc_b, Int.reduceEq, ret1, new_nb, new_set, reduceCtorEq, Bool.xor_true, Bool.xor_false, Bool.false_eq_true, List.all_cons, List.all_nil, noTok, Bool.and_self, Bool.and_true, Bool.true_and, cells_agg, len4, ld4_0, ld4_1, ld4_2, Nat.zero_add, texts_ok _ hv.n, texts_ok _ hv.w, texts_ok _ hv.a, hadd1, hadd2]
  obtain ⟨s1, hs1⟩ : ∃ s1, s.enter.new (.cells 24 v.cells) = s1 := ⟨_, rfl⟩
  have ov1 : Over s s1 := by rw [← hs1]; exact (Over.enter s).new _
  simp only [hs1]
  refine W_loop (fun n e q => q = s1 ∧ e.get 1 = partsA ps ∧ ∃ i k : Nat, i + n = ps.length ∧ e.get 5 = .i .i64 k ∧ e.get 6 = .i .i64 i ∧ k ≤ 120000 ∧ partsF k (ps.drop i) = largeF v ps) ?_ ps.length _ _ ?_
  · rintro n e q ⟨rfl, h1, i, k, hi, h5, h6, hk, hn⟩
    simp only [W_seq, W_reg, W_cond, W_blk, W_skip, W_exit, W_ret, W_regD, WO_nil, WO_cons, WO_guard2, wantV_b, bq_tt, bq_ft, bq_tf, bq_ff, Bool.not_true, Bool.not_false, WD_nil, WD_cons, WD_guard2, WS_some, WS_none, KS_n, KS_x, KS_r, KB_n, KB_x, KB_r, KN_ap, KO_ap, KD_ap, KC_nil, KF_n, KF_r, KG_n, KG_r, KL_n, KL_x, KL_r, CP_true, CP_false, evOp, evX, X.ev, optX, put_some, put_none, get_set2, sel_t, sel_f, Nat.reduceBEq, Nat.reduceAdd, Nat.reduceLT, Nat.reduceLeDiff, Nat.reduceEqDiff, reduceIte, if_true, if_false, bi_add, bi_sub, bi_mul, bi_eql, bi_neq, bi_lss, bi_leq, bi_gtr, bi_geq, bs_eql, bs_neq, bs_lss, Am.unOp, ret1, pubL, pub, pubA, initT, wkZ, wk, wants, resOf, tupOf, quiet, AOp.cls, Nat.beq_eq, Bool.or_eq_true, decide_true, decide_false, beq_self_eq_true, Bool.true_or, Bool.or_true, true_and, and_true, lenA, eqv, eqB, eqP, scal, new_box_self, List.getElem?_cons_zero, List.getElem?_cons_succ, key_ii, key_ss, findM, updM, esc_i, esc_s, esc_b, Int.reduceEq, ret1, new_nb, new_set, reduceCtorEq, Bool.xor_true, Bool.xor_false, Bool.false_eq_true, List.all_cons, List.all_nil, noTok, Bool.and_self, Bool.and_true, Bool.true_and, h1, h5, h6, List.length_map, ofNat_len]
    by_cases hlt : i < ps.length
    · have hd : ps.drop i = ps[i] :: ps.drop (i + 1) := List.drop_eq_getElem_cons hlt
      have hlt' : ((i : Int) < (ps.length : Int)) = True := by simp; omega
      have hget : (ps.map fun p => AV.agg p.cells)[i]? = some (.agg ps[i].cells) := by simp [hlt]
      by_cases hk2 : k < 20000
      · have hk' : ((k : Int) < 20000) = True := by simp; omega
        have hk1 : IntKind.i64.wrap ((k : Int) + 1) = ((k + 1 : Nat) : Int) := wrap_succ (by omega)
        have hmm := min_20000 ps[i].text.length
        have hadd : IntKind.i64.wrap (((k + 1 : Nat) : Int) + ((min ps[i].text.length 20000 : Nat) : Int)) = ((k + 1 + min ps[i].text.length 20000 : Nat) : Int) := by
          rw [← wrap_nat (show k + 1 + min ps[i].text.length 20000 < 2 ^ 63 by omega)]; simp
        have hthw : thawA q (partsA ps) = some (partsA ps, q) := rfl
        have hld : ldA q false 1 (.ep ps[i].cells 1 .shut) = some (.s ps[i].text) := rfl
        simp only [W_seq, W_reg, W_cond, W_blk, W_skip, W_exit, W_ret, W_regD, WO_nil, WO_cons, WO_guard2, wantV_b, bq_tt, bq_ft, bq_tf, bq_ff, Bool.not_true, Bool.not_false, WD_nil, WD_cons, WD_guard2, WS_some, WS_none, KS_n, KS_x, KS_r, KB_n, KB_x, KB_r, KN_ap, KO_ap, KD_ap, KC_nil, KF_n, KF_r, KG_n, KG_r, KL_n, KL_x, KL_r, CP_true, CP_false, evOp, evX, X.ev, optX, put_some, put_none, get_set2, sel_t, sel_f, Nat.reduceBEq, Nat.reduceAdd, Nat.reduceLT, Nat.reduceLeDiff, Nat.reduceEqDiff, reduceIte, if_true, if_false, bi_add, bi_sub, bi_mul, bi_eql, bi_neq, bi_lss, bi_leq, bi_gtr, bi_geq, bs_eql, bs_neq, bs_lss, Am.unOp, ret1, pubL, pub, pubA, initT, wkZ, wk, wants, resOf, tupOf, quiet, AOp.cls, Nat.beq_eq, Bool.or_eq_true, decide_true, decide_false, beq_self_eq_true, Bool.true_or, Bool.or_true, true_and, and_true, lenA, eqv, eqB, eqP, scal, new_box_self, List.getElem?_cons_zero, List.getElem?_cons_succ, key_ii, key_ss, findM, updM, esc_i, esc_s, esc_b, Int.reduceEq, ret1, new_nb, new_set, reduceCtorEq, Bool.xor_true, Bool.xor_false, Bool.false_eq_true, List.all_cons, List.all_nil, noTok, Bool.and_self, Bool.and_true, Bool.true_and, W_thw, hthw, h1, h5, h6, hlt', hk', hk1, natOf_nat, hget, cells_agg, Nat.zero_add, hld, ofNat_len, hmm, hadd, wrap_succ (show i + 1 < 2 ^ 63 by omega)]
        refine ⟨n - 1, by omega, i + 1, k + 1 + min ps[i].text.length 20000, by omega, rfl, rfl, by omega, ?_⟩
        rw [← hn, hd]
        simp only [partsF, if_pos hk2]
      · have hk' : ((k : Int) < 20000) = False := by simp; omega
        have hk'' : ((k : Int) ≥ 20000) = True := by simp; omega
        simp only [W_seq, W_reg, W_cond, W_blk, W_skip, W_exit, W_ret, W_regD, WO_nil, WO_cons, WO_guard2, wantV_b, bq_tt, bq_ft, bq_tf, bq_ff, Bool.not_true, Bool.not_false, WD_nil, WD_cons, WD_guard2, WS_some, WS_none, KS_n, KS_x, KS_r, KB_n, KB_x, KB_r, KN_ap, KO_ap, KD_ap, KC_nil, KF_n, KF_r, KG_n, KG_r, KL_n, KL_x, KL_r, CP_true, CP_false, evOp, evX, X.ev, optX, put_some, put_none, get_set2, sel_t, sel_f, Nat.reduceBEq, Nat.reduceAdd, Nat.reduceLT, Nat.reduceLeDiff, Nat.reduceEqDiff, reduceIte, if_true, if_false, bi_add, bi_sub, bi_mul, bi_eql, bi_neq, bi_lss, bi_leq, bi_gtr, bi_geq, bs_eql, bs_neq, bs_lss, Am.unOp, ret1, pubL, pub, pubA, initT, wkZ, wk, wants, resOf, tupOf, quiet, AOp.cls, Nat.beq_eq, Bool.or_eq_true, decide_true, decide_false, beq_self_eq_true, Bool.true_or, Bool.or_true, true_and, and_true, lenA, eqv, eqB, eqP, scal, new_box_self, List.getElem?_cons_zero, List.getElem?_cons_succ, key_ii, key_ss, findM, updM, esc_i, esc_s, esc_b, Int.reduceEq, ret1, new_nb, new_set, reduceCtorEq, Bool.xor_true, Bool.xor_false, Bool.false_eq_true, List.all_cons, List.all_nil, noTok, Bool.and_self, Bool.and_true, Bool.true_and, h1, h5, h6, hlt', hk', hk'']
        exact KR_some ov1 rfl (by
          rw [hd] at hn
          simp only [partsF, if_neg hk2] at hn
          have : 20000 ≤ largeF v ps := by omega
          simp [tupOf, wkZ, wk, largeP, this])
    · have hlt' : ((i : Int) < (ps.length : Int)) = False := by simp; omega
      rw [List.drop_eq_nil_of_le (by omega)] at hn
      simp only [partsF] at hn
      by_cases hk2 : k < 20000
      · have hk' : ((k : Int) ≥ 20000) = False := by simp; omega
        simp only [W_seq, W_reg, W_cond, W_blk, W_skip, W_exit, W_ret, W_regD, WO_nil, WO_cons, WO_guard2, wantV_b, bq_tt, bq_ft, bq_tf, bq_ff, Bool.not_true, Bool.not_false, WD_nil, WD_cons, WD_guard2, WS_some, WS_none, KS_n, KS_x, KS_r, KB_n, KB_x, KB_r, KN_ap, KO_ap, KD_ap, KC_nil, KF_n, KF_r, KG_n, KG_r, KL_n, KL_x, KL_r, CP_true, CP_false, evOp, evX, X.ev, optX, put_some, put_none, get_set2, sel_t, sel_f, Nat.reduceBEq, Nat.reduceAdd, Nat.reduceLT, Nat.reduceLeDiff, Nat.reduceEqDiff, reduceIte, if_true, if_false, bi_add, bi_sub, bi_mul, bi_eql, bi_neq, bi_lss, bi_leq, bi_gtr, bi_geq, bs_eql, bs_neq, bs_lss, Am.unOp, ret1, pubL, pub, pubA, initT, wkZ, wk, wants, resOf, tupOf, quiet, AOp.cls, Nat.beq_eq, Bool.or_eq_true, decide_true, decide_false, beq_self_eq_true, Bool.true_or, Bool.or_true, true_and, and_true, lenA, eqv, eqB, eqP, scal, new_box_self, List.getElem?_cons_zero, List.getElem?_cons_succ, key_ii, key_ss, findM, updM, esc_i, esc_s, esc_b, Int.reduceEq, ret1, new_nb, new_set, reduceCtorEq, Bool.xor_true, Bool.xor_false, Bool.false_eq_true, List.all_cons, List.all_nil, noTok, Bool.and_self, Bool.and_true, Bool.true_and, h1, h5, h6, hlt', hk', List.length_map, ofNat_len]
        exact KR_some ov1 rfl (by
          have e1 : ¬ 20000 ≤ largeF v ps := by omega
          have e2 : ((ps.length : Int) > 200) = (200 < ps.length) := by simp; omega
          simp [tupOf, wkZ, wk, largeP, e1, e2])
      · have hk'' : ((k : Int) ≥ 20000) = True := by simp; omega
        simp only [W_seq, W_reg, W_cond, W_blk, W_skip, W_exit, W_ret, W_regD, WO_nil, WO_cons, WO_guard2, wantV_b, bq_tt, bq_ft, bq_tf, bq_ff, Bool.not_true, Bool.not_false, WD_nil, WD_cons, WD_guard2, WS_some, WS_none, KS_n, KS_x, KS_r, KB_n, KB_x, KB_r, KN_ap, KO_ap, KD_ap, KC_nil, KF_n, KF_r, KG_n, KG_r, KL_n, KL_x, KL_r, CP_true, CP_false, evOp, evX, X.ev, optX, put_some, put_none, get_set2, sel_t, sel_f, Nat.reduceBEq, Nat.reduceAdd, Nat.reduceLT, Nat.reduceLeDiff, Nat.reduceEqDiff, reduceIte, if_true, if_false, bi_add, bi_sub, bi_mul, bi_eql, bi_neq, bi_lss, bi_leq, bi_gtr, bi_geq, bs_eql, bs_neq, bs_lss, Am.unOp, ret1, pubL, pub, pubA, initT, wkZ, wk, wants, resOf, tupOf, quiet, AOp.cls, Nat.beq_eq, Bool.or_eq_true, decide_true, decide_false, beq_self_eq_true, Bool.true_or, Bool.or_true, true_and, and_true, lenA, eqv, eqB, eqP, scal, new_box_self, List.getElem?_cons_zero, List.getElem?_cons_succ, key_ii, key_ss, findM, updM, esc_i, esc_s, esc_b, Int.reduceEq, ret1, new_nb, new_set, reduceCtorEq, Bool.xor_true, Bool.xor_false, Bool.false_eq_true, List.all_cons, List.all_nil, noTok, Bool.and_self, Bool.and_true, Bool.true_and, h1, h5, h6, hlt', hk'']
        exact KR_some ov1 rfl (by
          have : 20000 ≤ largeF v ps := by omega
          simp [tupOf, wkZ, wk, largeP, this])
  · simp only [W_seq, W_reg, W_cond, W_blk, W_skip, W_exit, W_ret, W_regD, WO_nil, WO_cons, WO_guard2, wantV_b, bq_tt, bq_ft, bq_tf, bq_ff, Bool.not_true, Bool.not_false, WD_nil, WD_cons, WD_guard2, WS_some, WS_none, KS_n, KS_x, KS_r, KB_n, KB_x, KB_r, KN_ap, KO_ap, KD_ap, KC_nil, KF_n, KF_r, KG_n, KG_r, KL_n, KL_x, KL_r, CP_true, CP_false, evOp, evX, X.ev, optX, put_some, put_none, get_set2, sel_t, sel_f, Nat.reduceBEq, Nat.reduceAdd, Nat.reduceLT, Nat.reduceLeDiff, Nat.reduceEqDiff, reduceIte, if_true, if_false, bi_add, bi_sub, bi_mul, bi_eql, bi_neq, bi_lss, bi_leq, bi_gtr, bi_geq, bs_eql, bs_neq, bs_lss, Am.unOp, ret1, pubL, pub, pubA, initT, wkZ, wk, wants, resOf, tupOf, quiet, AOp.cls, Nat.beq_eq, Bool.or_eq_true, decide_true, decide_false, beq_self_eq_true, Bool.true_or, Bool.or_true, true_and, and_true, lenA, eqv, eqB, eqP, scal, new_box_self, List.getElem?_cons_zero, List.getElem?_cons_succ, key_ii, key_ss, findM, updM, esc_i, esc_s, esc_b, Int.reduceEq, ret1, new_nb, new_set, reduceCtorEq, Bool.xor_true, Bool.xor_false, Bool.false_eq_true, List.all_cons, List.all_nil, noTok, Bool.and_self, Bool.and_true, Bool.true_and]
    refine ⟨0, _, by omega, rfl, rfl, by omega, rfl⟩

theorem beqN_refl : ∀ l : List Nat, beqN l l = true
  | [] => rfl
  | a :: l => by simp [beqN, beqN_refl l]
theorem beqAL_s : ∀ L : List (List Nat), beqAL (L.map .s) (L.map .s) = true
  | [] => rfl
  | l :: L => by simp [beqAL, beqA, beqN_refl, beqAL_s L]
theorem beq_tx (L : List (List Nat)) : beqA (tx L) (tx L) = true := by
  simp only [beqA, beqAL_s]; rfl
theorem beq_i (k : IntKind) (n : Int) : beqA (.i k n) (.i k n) = true := by simp [beqA]

/-- What an append that is told at once leaves. -/
structure Told (s s' : St) : Prop where
  nb : s'.nb = s.nb
  boxes : s'.boxes = s.boxes
  over : ∀ s0 : St, Over s0 s → Over s0 s'
  wf : Wf s → Wf s'
theorem Told.box {s s' : St} (h : Told s s') (id : Nat) : s'.box? id = s.box? id := by simp [St.box?, h.nb, h.boxes]

theorem appQ_ok (L : List (List Nat)) (hL : L.length < 2 ^ 38) (T : Nat) (s : St) (hw : Wf s) :
    ∃ m s', appQA s 1 T (.sl 1 [] .full) (tx L) = some (.sl 1 (L.map .s) m, s') ∧ (m = .full ∨ m = .shut) ∧ Told s s' := by
  cases L with
  | nil => exact ⟨.full, s, rfl, .inl rfl, rfl, rfl, fun _ h => h, fun h => h⟩
  | cons l L =>
    refine ⟨.shut, (s.newTok (0 + (AV.s l :: L.map AV.s).length) (some T)).setTok s.nt ⟨0 + (AV.s l :: L.map AV.s).length, 0, max 0 (AV.s l :: L.map AV.s).length, some T⟩, ?_, .inr rfl, rfl, rfl, fun s0 h => ?_, fun h => (h.newTok _ _).setTok _ _⟩
    · have e1 : appA s 1 T (.sl 1 [] .full) (tx (l :: L)) = some (.sl 1 (AV.s l :: L.map AV.s) (.tok s.nt 0), s.newTok (0 + (AV.s l :: L.map AV.s).length) (some T)) := by
        unfold appA
        simp only [elems, List.map_cons, List.length_nil, List.nil_append, Nat.mul_one]
        rw [if_pos trivial]
        simp only
        rw [if_pos ⟨trivial, by simpa using hL⟩]
      unfold appQA
      rw [e1]
      simp only [pub, newTok_tok?, if_true, List.map_cons]
    · exact Over.setTok (s1 := s.newTok (0 + (AV.s l :: L.map AV.s).length) (some T)) (h.withTok _) h.nt (by show s.nt < s.nt + 1; omega) _

theorem st4_new {s : St} {T : Nat} {a b c d : AV} {id : Nat} (h : s.box? id = some (.cells T [a, b, c, d])) (x y z u : AV) (h1 : ones [x, y, z, u] = true) (h2 : AV.refs.go [x, y, z, u] = false) : stA s 4 (.p id 0) (.agg [x, y, z, u]) = some (s.setBox id (.cells T [x, y, z, u])) := by
  simp [stA, h, AV.cells, over, h1, esc, AV.refs, h2]
theorem over4_0 (a b c d x : AV) : over [a, b, c, d] 0 [x] = some [x, b, c, d] := rfl
theorem over4_1 (a b c d x : AV) : over [a, b, c, d] 1 [x] = some [a, x, c, d] := rfl
theorem over4_2 (a b c d x : AV) : over [a, b, c, d] 2 [x] = some [a, b, x, d] := rfl
theorem over4_3 (a b c d x : AV) : over [a, b, c, d] 3 [x] = some [a, b, c, x] := rfl
theorem refs_sl {L : List (List Nat)} {m : Cap} (hm : m = .full ∨ m = .shut) : (AV.sl 1 (L.map .s) m).refs = false := by
  rcases hm with rfl | rfl <;> simp [AV.refs, refs_s]
theorem wk_sl {L : List (List Nat)} {m : Cap} (hm : m = .full ∨ m = .shut) : wk (.sl 1 .id) (.sl 1 (L.map .s) m) = tx L := by
  rcases hm with rfl | rfl <;> simp [wk, wkM_id]

theorem given_ok (v : VV) (h1 : v.names.length < 2 ^ 38) (h2 : v.values.length < 2 ^ 38) (h3 : v.args.length < 2 ^ 38) (s : St) (hw : Wf s) : (lim prog).call f_touchstonelaw05_given [v.av] s = some (v.av, s) := by
  refine fn_W p_touchstonelaw05_given rfl rfl ?_
  obtain ⟨s1, hs1⟩ : ∃ s1, (s.enter.new (.cells 24 v.cells)).new (.cells 28 [.nsl, .nsl, .nsl, .i .i64 0]) = s1 := ⟨_, rfl⟩
  have w1 : Wf s1 := by rw [← hs1]; exact (hw.enter.new _).new _
  have ov1 : Over s s1 := by rw [← hs1]; exact ((Over.enter s).new _).new _
  have nb1 : s1.nb = s.enter.nb + 1 + 1 := by rw [← hs1]; rfl
  have b1 : s1.box? s.enter.nb = some (.cells 24 v.cells) := by
    rw [← hs1, new_box_lt (by show s.nb < s.nb + 1; omega)]; exact new_box_self _ _
  have b2 : s1.box? (s.enter.nb + 1) = some (.cells 28 [.nsl, .nsl, .nsl, .i .i64 0]) := by
    rw [← hs1]; exact new_box_self (s.enter.new _) _
  obtain ⟨m1, s2, e1, k1, t1⟩ := appQ_ok v.names h1 9 s1 w1
  obtain ⟨m2, s3, e2, k2, t2⟩ := appQ_ok v.values h2 9 s2 (t1.wf w1)
  obtain ⟨m3, s4, e3, k3, t3⟩ := appQ_ok v.args h3 9 s3 (t2.wf (t1.wf w1))
  have b1_2 : s2.box? s.enter.nb = some (.cells 24 v.cells) := by rw [t1.box]; exact b1
  have b1_3 : s3.box? s.enter.nb = some (.cells 24 v.cells) := by rw [t2.box]; exact b1_2
  have b1_4 : s4.box? s.enter.nb = some (.cells 24 v.cells) := by rw [t3.box]; exact b1_3
  have b2_4 : s4.box? (s.enter.nb + 1) = some (.cells 28 [.nsl, .nsl, .nsl, .i .i64 0]) := by rw [t3.box, t2.box, t1.box]; exact b2
  have l0_1 := ld_box (off := 0) (v := tx v.names) b1 rfl
  have l1_1 := ld_box (off := 1) (v := tx v.values) b1 rfl
  have l2_1 := ld_box (off := 2) (v := tx v.args) b1 rfl
  have l3_1 := ld_box (off := 3) (v := .i .i64 v.status) b1 rfl
  have l0_2 := ld_box (off := 0) (v := tx v.names) b1_2 rfl
  have l1_2 := ld_box (off := 1) (v := tx v.values) b1_2 rfl
  have l2_2 := ld_box (off := 2) (v := tx v.args) b1_2 rfl
  have l3_2 := ld_box (off := 3) (v := .i .i64 v.status) b1_2 rfl
  have l0_3 := ld_box (off := 0) (v := tx v.names) b1_3 rfl
  have l1_3 := ld_box (off := 1) (v := tx v.values) b1_3 rfl
  have l2_3 := ld_box (off := 2) (v := tx v.args) b1_3 rfl
  have l3_3 := ld_box (off := 3) (v := .i .i64 v.status) b1_3 rfl
  have l2_4 := ld_box (off := 2) (v := tx v.args) b1_4 rfl
  have l3_4 := ld_box (off := 3) (v := .i .i64 v.status) b1_4 rfl
  have hal : allLen 1 [] = true := rfl
  have hl1 : ∀ a : AV, [a].length = 1 := fun _ => rfl
  have hp : ∀ (L : List (List Nat)) m (q : St), (m = .full ∨ m = .shut) → pub q (.sl 1 (L.map .s) m) = some (.sl 1 (L.map .s) m, q) := fun L m q h => by rcases h with rfl | rfl <;> rfl
  have hn : ∀ (L : List (List Nat)) m, (m = .full ∨ m = .shut) → noTok (.sl 1 (L.map .s) m) = true := fun L m h => by rcases h with rfl | rfl <;> rfl
  have hcl : ∀ (L : List (List Nat)) m, (AV.sl 1 (L.map .s) m).cells = [.sl 1 (L.map .s) m] := fun _ _ => rfl
  have est := st4_new b2_4 (.sl 1 (v.names.map .s) m1) (.sl 1 (v.values.map .s) m2) (.sl 1 (v.args.map .s) m3) (.i .i64 v.status) rfl (by
    have e1 := refs_sl (L := v.names) k1
    have e2 := refs_sl (L := v.values) k2
    have e3 := refs_sl (L := v.args) k3
    simp [AV.refs.go, e1, e2, e3, AV.refs])
  have b2_5 : (s4.setBox (s.enter.nb + 1) (.cells 28 [.sl 1 (v.names.map .s) m1, .sl 1 (v.values.map .s) m2, .sl 1 (v.args.map .s) m3, .i .i64 v.status])).box? (s.enter.nb + 1) = some (.cells 28 [.sl 1 (v.names.map .s) m1, .sl 1 (v.values.map .s) m2, .sl 1 (v.args.map .s) m3, .i .i64 v.status]) := by
    rw [setBox_box? (t3.wf (t2.wf (t1.wf w1))).b (by rw [t3.nb, t2.nb, t1.nb, nb1]; omega), if_pos rfl]
  have la := ld_all4 b2_5
  have ov5 : Over s (s4.setBox (s.enter.nb + 1) (.cells 28 [.sl 1 (v.names.map .s) m1, .sl 1 (v.values.map .s) m2, .sl 1 (v.args.map .s) m3, .i .i64 v.status])) :=
    Over.setBox (t3.over _ (t2.over _ (t1.over _ ov1))) (by show s.nb ≤ s.nb + 1; omega) (by rw [t3.nb, t2.nb, t1.nb, nb1]; omega) _
  have hlast : tupOf (wkZ [CT.agg [.sl 1 .id, .sl 1 .id, .sl 1 .id, .id]] [AV.agg [.sl 1 (v.names.map .s) m1, .sl 1 (v.values.map .s) m2, .sl 1 (v.args.map .s) m3, .i .i64 v.status]]) = v.av := by
    have e1 := wk_sl (L := v.names) k1
    have e2 := wk_sl (L := v.values) k2
    have e3 := wk_sl (L := v.args) k3
    have h : tupOf (wkZ [CT.agg [.sl 1 .id, .sl 1 .id, .sl 1 .id, .id]] [AV.agg [.sl 1 (v.names.map .s) m1, .sl 1 (v.values.map .s) m2, .sl 1 (v.args.map .s) m3, .i .i64 v.status]]) =
      AV.agg [wk (.sl 1 .id) (.sl 1 (v.names.map .s) m1), wk (.sl 1 .id) (.sl 1 (v.values.map .s) m2), wk (.sl 1 .id) (.sl 1 (v.args.map .s) m3), .i .i64 v.status] := by
      simp only [wkZ, tupOf]
      rw [wk]
      simp only [wkZ]
      rw [show wk .id (.i .i64 v.status) = .i .i64 v.status by rw [wk]]
    rw [h, e1, e2, e3]
  have href : (tupOf [AV.agg [.sl 1 (v.names.map .s) m1, .sl 1 (v.values.map .s) m2, .sl 1 (v.args.map .s) m3, .i .i64 v.status]]).refs = false := by
    have e1 := refs_sl (L := v.names) k1
    have e2 := refs_sl (L := v.values) k2
    have e3 := refs_sl (L := v.args) k3
    simp [tupOf, AV.refs, AV.refs.go, e1, e2, e3]
  rcases k1 with rfl | rfl <;> rcases k2 with rfl | rfl <;> rcases k3 with rfl | rfl
  all_goals
    simp only [c_touchstonelaw05_given, W_seq, W_reg, W_cond, W_blk, W_skip, W_exit, W_ret, W_regD, WO_nil, WO_cons, WO_guard2, wantV_b, bq_tt, bq_ft, bq_tf, bq_ff, Bool.not_true, Bool.not_false, WD_nil, WD_cons, WD_guard2, WS_some, WS_none, KS_n, KS_x, KS_r, KB_n, KB_x, KB_r, KN_ap, KO_ap, KD_ap, KC_nil, KF_n, KF_r, KG_n, KG_r, KL_n, KL_x, KL_r, CP_true, CP_false, evOp, evX, X.ev, optX, put_some, put_none, get_set2, sel_t, sel_f, Nat.reduceBEq, Nat.reduceAdd, Nat.reduceLT, Nat.reduceLeDiff, Nat.reduceEqDiff, reduceIte, if_true, if_false, bi_add, bi_sub, bi_mul, bi_eql, bi_neq, bi_lss, bi_leq, bi_gtr, bi_geq, bs_eql, bs_neq, bs_lss, Am.unOp, ret1, pubL, pub, pubA, initT, wkZ, wk, wants, resOf, tupOf, quiet, AOp.cls, Nat.beq_eq, Bool.or_eq_true, decide_true, decide_false, beq_self_eq_true, Bool.true_or, Bool.or_true, true_and, and_true, lenA, eqv, eqB, eqP, scal, new_box_self, List.getElem?_cons_zero, List.getElem?_cons_succ, key_ii, key_ss, findM, updM, esc_i, esc_s, esc_b, Int.reduceEq, ret1, new_nb, new_set, reduceCtorEq, Bool.xor_true, Bool.xor_false, Bool.false_eq_true, List.all_cons, List.all_nil, noTok, Bool.and_self, Bool.and_true, Bool.true_and, cells_agg, len4, Nat.zero_add, hs1, hal, l0_1, l1_1, l2_1, l3_1, l0_2, l1_2, l2_2, l3_2, l0_3, l1_3, l2_3, l3_3, l2_4, l3_4, e1, e2, e3, evParts, hcl, hl1, cells_i, over4_0, over4_1, over4_2, over4_3, est, KC_ap, frzL, frz, la]
    refine ⟨?_, KR_some ov5 href hlast⟩
    simp only [chkD, sameAt, List.range', List.nil_append, List.cons_append, Nat.reduceSub, Nat.reduceAdd, List.all_cons, List.all_nil, List.getElem?_cons_zero, List.getElem?_cons_succ, W_seq, W_reg, W_cond, W_blk, W_skip, W_exit, W_ret, W_regD, WO_nil, WO_cons, WO_guard2, wantV_b, bq_tt, bq_ft, bq_tf, bq_ff, Bool.not_true, Bool.not_false, WD_nil, WD_cons, WD_guard2, WS_some, WS_none, KS_n, KS_x, KS_r, KB_n, KB_x, KB_r, KN_ap, KO_ap, KD_ap, KC_nil, KF_n, KF_r, KG_n, KG_r, KL_n, KL_x, KL_r, CP_true, CP_false, evOp, evX, X.ev, optX, put_some, put_none, get_set2, sel_t, sel_f, Nat.reduceBEq, Nat.reduceAdd, Nat.reduceLT, Nat.reduceLeDiff, Nat.reduceEqDiff, reduceIte, if_true, if_false, bi_add, bi_sub, bi_mul, bi_eql, bi_neq, bi_lss, bi_leq, bi_gtr, bi_geq, bs_eql, bs_neq, bs_lss, Am.unOp, ret1, pubL, pub, pubA, initT, wkZ, wk, wants, resOf, tupOf, quiet, AOp.cls, Nat.beq_eq, Bool.or_eq_true, decide_true, decide_false, beq_self_eq_true, Bool.true_or, Bool.or_true, true_and, and_true, lenA, eqv, eqB, eqP, scal, new_box_self, List.getElem?_cons_zero, List.getElem?_cons_succ, key_ii, key_ss, findM, updM, esc_i, esc_s, esc_b, Int.reduceEq, ret1, new_nb, new_set, reduceCtorEq, Bool.xor_true, Bool.xor_false, Bool.false_eq_true, List.all_cons, List.all_nil, noTok, Bool.and_self, Bool.and_true, Bool.true_and, l0_1, l1_1, l2_1, l3_1, l0_2, l1_2, l2_2, l3_2, l0_3, l1_3, l2_3, l3_3, l2_4, l3_4, beq_tx, beq_i]
end Go.Proofs.YtfpoihibfajhlaaDoor

/-
  The law's examples.
-/
set_option maxRecDepth 100000
set_option linter.unusedSimpArgs false
namespace Go.Proofs.YtfpoihibfajhlaaDoor
open Go.Proofs.YtfpoihibfajhlaaDoor.Am

theorem call_wk {f : Nat} {fn : Fun} {args args' : List AV} {s : St} (hp : prog f = some fn) (hpr : fn.prim = none) (hk : fn.keep = false) (hl : args.length = args'.length) (hw : wkZ fn.cin args = wkZ fn.cin args') :
    (lim prog).call f args s = (lim prog).call f args' s := by
  rw [lim_call, lim_call]
  unfold callF
  have hb : ∀ l, both fn l = none := fun l => by unfold both; rw [hk]
  simp only [hp, hpr, hb, hl, hw]

theorem lit_ok (l : List Nat) (s : St) : (lim prog).call f_touchstonelaw05_lit [.s l] s = some (.agg (PP.cells ⟨false, l, false⟩), s) := by
  refine fn_W p_touchstonelaw05_lit rfl rfl ?_
  have hst := st3_new s.enter 31 (.b false) (.s []) (.b false) (.b false) (.s l) (.b false) rfl rfl
  have hl1 : ∀ a : AV, [a].length = 1 := fun _ => rfl
  have hb : ((s.enter.new (.cells 31 [.b false, .s l, .b false]))).box? s.enter.nb = some (.cells 31 [.b false, .s l, .b false]) := new_box_self _ _
  have hla := ld_all3 hb
  simp only [c_touchstonelaw05_lit, W_seq, W_reg, W_cond, W_blk, W_skip, W_exit, W_ret, W_regD, WO_nil, WO_cons, WO_guard2, wantV_b, bq_tt, bq_ft, bq_tf, bq_ff, Bool.not_true, Bool.not_false, WD_nil, WD_cons, WD_guard2, WS_some, WS_none, KS_n, KS_x, KS_r, KB_n, KB_x, KB_r, KN_ap, KO_ap, KD_ap, KC_nil, KF_n, KF_r, KG_n, KG_r, KL_n, KL_x, KL_r, CP_true, CP_false, evOp, evX, X.ev, optX, put_some, put_none, get_set2, sel_t, sel_f, Nat.reduceBEq, Nat.reduceAdd, Nat.reduceLT, Nat.reduceLeDiff, Nat.reduceEqDiff, reduceIte, if_true, if_false, bi_add, bi_sub, bi_mul, bi_eql, bi_neq, bi_lss, bi_leq, bi_gtr, bi_geq, bs_eql, bs_neq, bs_lss, Am.unOp, ret1, pubL, pub, pubA, initT, wkZ, wk, wants, resOf, tupOf, quiet, AOp.cls, Nat.beq_eq, Bool.or_eq_true, decide_true, decide_false, beq_self_eq_true, Bool.true_or, Bool.or_true, true_and, and_true, lenA, eqv, eqB, eqP, scal, new_box_self, List.getElem?_cons_zero, List.getElem?_cons_succ, key_ii, key_ss, findM, updM, esc_i, esc_s, esc_b, Int.reduceEq, ret1, new_nb, new_set, reduceCtorEq, Bool.xor_true, Bool.xor_false, Bool.false_eq_true, List.all_cons, List.all_nil, noTok, Bool.and_self, Bool.and_true, Bool.true_and, evParts, cells_b, cells_s, over3_0, over3_1, over3_2, hl1, hst, hla, frzL, frz]
  exact KR_some ((Over.enter s).new _) rfl rfl
theorem quo_ok (l : List Nat) (s : St) : (lim prog).call f_touchstonelaw05_quo [.s l] s = some (.agg (PP.cells ⟨false, l, true⟩), s) := by
  refine fn_W p_touchstonelaw05_quo rfl rfl ?_
  have hst := st3_new s.enter 31 (.b false) (.s []) (.b false) (.b false) (.s l) (.b true) rfl rfl
  have hl1 : ∀ a : AV, [a].length = 1 := fun _ => rfl
  have hb : ((s.enter.new (.cells 31 [.b false, .s l, .b true]))).box? s.enter.nb = some (.cells 31 [.b false, .s l, .b true]) := new_box_self _ _
  have hla := ld_all3 hb
  simp only [c_touchstonelaw05_quo, W_seq, W_reg, W_cond, W_blk, W_skip, W_exit, W_ret, W_regD, WO_nil, WO_cons, WO_guard2, wantV_b, bq_tt, bq_ft, bq_tf, bq_ff, Bool.not_true, Bool.not_false, WD_nil, WD_cons, WD_guard2, WS_some, WS_none, KS_n, KS_x, KS_r, KB_n, KB_x, KB_r, KN_ap, KO_ap, KD_ap, KC_nil, KF_n, KF_r, KG_n, KG_r, KL_n, KL_x, KL_r, CP_true, CP_false, evOp, evX, X.ev, optX, put_some, put_none, get_set2, sel_t, sel_f, Nat.reduceBEq, Nat.reduceAdd, Nat.reduceLT, Nat.reduceLeDiff, Nat.reduceEqDiff, reduceIte, if_true, if_false, bi_add, bi_sub, bi_mul, bi_eql, bi_neq, bi_lss, bi_leq, bi_gtr, bi_geq, bs_eql, bs_neq, bs_lss, Am.unOp, ret1, pubL, pub, pubA, initT, wkZ, wk, wants, resOf, tupOf, quiet, AOp.cls, Nat.beq_eq, Bool.or_eq_true, decide_true, decide_false, beq_self_eq_true, Bool.true_or, Bool.or_true, true_and, and_true, lenA, eqv, eqB, eqP, scal, new_box_self, List.getElem?_cons_zero, List.getElem?_cons_succ, key_ii, key_ss, findM, updM, esc_i, esc_s, esc_b, Int.reduceEq, ret1, new_nb, new_set, reduceCtorEq, Bool.xor_true, Bool.xor_false, Bool.false_eq_true, List.all_cons, List.all_nil, noTok, Bool.and_self, Bool.and_true, Bool.true_and, evParts, cells_b, cells_s, over3_0, over3_1, over3_2, hl1, hst, hla, frzL, frz]
  exact KR_some ((Over.enter s).new _) rfl rfl
theorem qpar_ok (l : List Nat) (s : St) : (lim prog).call f_touchstonelaw05_qpar [.s l] s = some (.agg (PP.cells ⟨true, l, true⟩), s) := by
  refine fn_W p_touchstonelaw05_qpar rfl rfl ?_
  have hst := st3_new s.enter 31 (.b false) (.s []) (.b false) (.b true) (.s l) (.b true) rfl rfl
  have hl1 : ∀ a : AV, [a].length = 1 := fun _ => rfl
  have hb : ((s.enter.new (.cells 31 [.b true, .s l, .b true]))).box? s.enter.nb = some (.cells 31 [.b true, .s l, .b true]) := new_box_self _ _
  have hla := ld_all3 hb
  simp only [c_touchstonelaw05_qpar, W_seq, W_reg, W_cond, W_blk, W_skip, W_exit, W_ret, W_regD, WO_nil, WO_cons, WO_guard2, wantV_b, bq_tt, bq_ft, bq_tf, bq_ff, Bool.not_true, Bool.not_false, WD_nil, WD_cons, WD_guard2, WS_some, WS_none, KS_n, KS_x, KS_r, KB_n, KB_x, KB_r, KN_ap, KO_ap, KD_ap, KC_nil, KF_n, KF_r, KG_n, KG_r, KL_n, KL_x, KL_r, CP_true, CP_false, evOp, evX, X.ev, optX, put_some, put_none, get_set2, sel_t, sel_f, Nat.reduceBEq, Nat.reduceAdd, Nat.reduceLT, Nat.reduceLeDiff, Nat.reduceEqDiff, reduceIte, if_true, if_false, bi_add, bi_sub, bi_mul, bi_eql, bi_neq, bi_lss, bi_leq, bi_gtr, bi_geq, bs_eql, bs_neq, bs_lss, Am.unOp, ret1, pubL, pub, pubA, initT, wkZ, wk, wants, resOf, tupOf, quiet, AOp.cls, Nat.beq_eq, Bool.or_eq_true, decide_true, decide_false, beq_self_eq_true, Bool.true_or, Bool.or_true, true_and, and_true, lenA, eqv, eqB, eqP, scal, new_box_self, List.getElem?_cons_zero, List.getElem?_cons_succ, key_ii, key_ss, findM, updM, esc_i, esc_s, esc_b, Int.reduceEq, ret1, new_nb, new_set, reduceCtorEq, Bool.xor_true, Bool.xor_false, Bool.false_eq_true, List.all_cons, List.all_nil, noTok, Bool.and_self, Bool.and_true, Bool.true_and, evParts, cells_b, cells_s, over3_0, over3_1, over3_2, hl1, hst, hla, frzL, frz]
  exact KR_some ((Over.enter s).new _) rfl rfl

def varsV (l : List Nat) : VV := ⟨[[120]], [l], [[111, 110, 101], [116, 119, 111]], 0⟩
theorem len1 (a : AV) : [a].length = 1 := rfl
theorem al1 (a : List Nat) : allLen 1 [AV.s a] = true := rfl
theorem al2 (a b : List Nat) : allLen 1 [AV.s a, AV.s b] = true := rfl
theorem al3 (a b c : List Nat) : allLen 1 [AV.s a, AV.s b, AV.s c] = true := rfl
theorem cells_sl (L : List AV) (m : Cap) : (AV.sl 1 L m).cells = [.sl 1 L m] := rfl
theorem vars_ok (l : List Nat) (s : St) : (lim prog).call f_touchstonelaw05_vars [.s l] s = some ((varsV l).av, s) := by
  refine fn_W p_touchstonelaw05_vars rfl rfl ?_
  have hl1 : ∀ a : AV, [a].length = 1 := fun _ => rfl
  have hst := st4_new (s := s.enter.new (.cells 28 [.nsl, .nsl, .nsl, .i .i64 0])) (new_box_self s.enter _) (.sl 1 [.s [120]] .full) (.sl 1 [.s l] .full) (.sl 1 [.s [111, 110, 101], .s [116, 119, 111]] .full) (.i .i64 0) rfl rfl
  rw [new_set] at hst
  have hb : ((s.enter.new (.cells 28 [.sl 1 [.s [120]] .full, .sl 1 [.s l] .full, .sl 1 [.s [111, 110, 101], .s [116, 119, 111]] .full, .i .i64 0]))).box? s.enter.nb = some (.cells 28 [.sl 1 [.s [120]] .full, .sl 1 [.s l] .full, .sl 1 [.s [111, 110, 101], .s [116, 119, 111]] .full, .i .i64 0]) := new_box_self _ _
  have hla := ld_all4 hb
  simp only [c_touchstonelaw05_vars, W_seq, W_reg, W_cond, W_blk, W_skip, W_exit, W_ret, W_regD, WO_nil, WO_cons, WO_guard2, wantV_b, bq_tt, bq_ft, bq_tf, bq_ff, Bool.not_true, Bool.not_false, WD_nil, WD_cons, WD_guard2, WS_some, WS_none, KS_n, KS_x, KS_r, KB_n, KB_x, KB_r, KN_ap, KO_ap, KD_ap, KC_nil, KF_n, KF_r, KG_n, KG_r, KL_n, KL_x, KL_r, CP_true, CP_false, evOp, evX, X.ev, optX, put_some, put_none, get_set2, sel_t, sel_f, Nat.reduceBEq, Nat.reduceAdd, Nat.reduceLT, Nat.reduceLeDiff, Nat.reduceEqDiff, reduceIte, if_true, if_false, bi_add, bi_sub, bi_mul, bi_eql, bi_neq, bi_lss, bi_leq, bi_gtr, bi_geq, bs_eql, bs_neq, bs_lss, Am.unOp, ret1, pubL, pub, pubA, initT, wkZ, wk, wants, resOf, tupOf, quiet, AOp.cls, Nat.beq_eq, Bool.or_eq_true, decide_true, decide_false, beq_self_eq_true, Bool.true_or, Bool.or_true, true_and, and_true, lenA, eqv, eqB, eqP, scal, new_box_self, List.getElem?_cons_zero, List.getElem?_cons_succ, key_ii, key_ss, findM, updM, esc_i, esc_s, esc_b, Int.reduceEq, ret1, new_nb, new_set, reduceCtorEq, Bool.xor_true, Bool.xor_false, Bool.false_eq_true, List.all_cons, List.all_nil, noTok, Bool.and_self, Bool.and_true, Bool.true_and, evParts, cells_sl, al1, al2, cells_i, over4_0, over4_1, over4_2, over4_3, hl1, hst, hla, frzL, frz]
  exact KR_some ((Over.enter s).new _) rfl rfl

theorem fieldsL_len (it : Int → List Nat) (v : VV) (ps : List PP) : (fieldsL it v ps).length ≤ szF it v ps + 1 := by
  obtain ⟨z1, z2⟩ := stepF_len it v ps ([], [], false)
  simp only [List.length_nil, Nat.zero_add] at z1
  unfold fieldsL
  simp only
  split
  · simp only [List.length_append, List.length_cons, List.length_nil]; omega
  · omega
theorem lfields_ok (v : VV) (hv : v.Ok) (ps : List PP) (hp : ∀ p ∈ ps, Txt p.text) (ht : ∀ p ∈ ps, Txt (partL itoaN v p)) (hlen : ps.length < 2 ^ 63) (hsz : szF itoaN v ps < 2 ^ 37) (want : List (List Nat)) (s : St) (hw : Wf s) :
    (lim prog).call f_touchstonelaw05_fields [v.av, partsA ps, tx want] s = some (.b (decide (fieldsL itoaN v ps = want)), s) := by
  refine fn_W p_touchstonelaw05_fields rfl rfl ?_
  have hb : (s.enter.new (.cells 28 v.cells)).box? s.enter.nb = some (.cells 28 v.cells) := new_box_self _ _
  have hla := ld_all4 hb
  have hf := fields_ok itoaN itoa_ok v hv ps hp ht hlen hsz (s.enter.new (.cells 28 v.cells)) (hw.enter.new _)
  have hfl : (fieldsL itoaN v ps).length < 2 ^ 63 := by have := fieldsL_len itoaN v ps; omega
  simp only [c_touchstonelaw05_fields, W_seq, W_reg, W_cond, W_blk, W_skip, W_exit, W_ret, W_regD, WO_nil, WO_cons, WO_guard2, wantV_b, bq_tt, bq_ft, bq_tf, bq_ff, Bool.not_true, Bool.not_false, WD_nil, WD_cons, WD_guard2, WS_some, WS_none, KS_n, KS_x, KS_r, KB_n, KB_x, KB_r, KN_ap, KO_ap, KD_ap, KC_nil, KF_n, KF_r, KG_n, KG_r, KL_n, KL_x, KL_r, CP_true, CP_false, evOp, evX, X.ev, optX, put_some, put_none, get_set2, sel_t, sel_f, Nat.reduceBEq, Nat.reduceAdd, Nat.reduceLT, Nat.reduceLeDiff, Nat.reduceEqDiff, reduceIte, if_true, if_false, bi_add, bi_sub, bi_mul, bi_eql, bi_neq, bi_lss, bi_leq, bi_gtr, bi_geq, bs_eql, bs_neq, bs_lss, Am.unOp, ret1, pubL, pub, pubA, initT, wkZ, wk, wants, resOf, tupOf, quiet, AOp.cls, Nat.beq_eq, Bool.or_eq_true, decide_true, decide_false, beq_self_eq_true, Bool.true_or, Bool.or_true, true_and, and_true, lenA, eqv, eqB, eqP, scal, new_box_self, List.getElem?_cons_zero, List.getElem?_cons_succ, key_ii, key_ss, findM, updM, esc_i, esc_s, esc_b, Int.reduceEq, ret1, new_nb, new_set, reduceCtorEq, Bool.xor_true, Bool.xor_false, Bool.false_eq_true, List.all_cons, List.all_nil, noTok, Bool.and_self, Bool.and_true, Bool.true_and, cells_agg, len4, hla, hf, same_ok _ _ hfl]
  exact KR_some ((Over.enter s).new _) rfl rfl

def v0 : VV := varsV [97, 32, 32, 98, 32]
theorem v0_ok : v0.Ok := ⟨by decide, by decide, by decide, by decide, by decide⟩
theorem txt_of {l : List Nat} (h : (l.all fun n => decide (n < 256)) = true) (hl : l.length < 1000) : Txt l := ⟨fun n hn => by simpa using List.all_eq_true.1 h n hn, by omega⟩
/-- One example. -/
theorem ex_ok (ps : List PP) (want : List (List Nat)) (h1 : (ps.all fun p => (p.text.all fun n => decide (n < 256)) && decide (p.text.length < 1000)) = true) (h2 : (ps.all fun p => ((partL itoaN v0 p).all fun n => decide (n < 256)) && decide ((partL itoaN v0 p).length < 1000)) = true)
    (h3 : ps.length < 10) (h4 : fieldsL itoaN v0 ps = want) (h5 : szF itoaN v0 ps < 1000) (a b : AV) (ha : wk (.sl 3 (.agg [.id, .id, .id])) a = wk (.sl 3 (.agg [.id, .id, .id])) (partsA ps)) (hb : wk (.sl 1 .id) b = wk (.sl 1 .id) (tx want)) (s : St) (hw : Wf s) :
    (lim prog).call f_touchstonelaw05_fields [v0.av, a, b] s = some (.b true, s) := by
  rw [call_wk (args := [v0.av, a, b]) (args' := [v0.av, partsA ps, tx want]) p_touchstonelaw05_fields rfl rfl rfl (by
    simp only [c_touchstonelaw05_fields, wkZ, ha, hb])]
  rw [lfields_ok v0 v0_ok ps (fun p hp => ?_) (fun p hp => ?_) (by omega) (by omega) want s hw, h4]
  · simp
  · have := List.all_eq_true.1 h1 p hp
    simp only [Bool.and_eq_true, decide_eq_true_eq] at this
    exact txt_of this.1 this.2
  · have := List.all_eq_true.1 h2 p hp
    simp only [Bool.and_eq_true, decide_eq_true_eq] at this
    exact txt_of this.1 this.2

theorem itoa2 : itoaN 2 = [50] := by
  unfold itoaN Lib.itoa
  rw [if_neg (by omega), Lib.decDigits, dif_pos (by decide)]
  rfl

theorem ap1 (p : PP) : allLen 3 [AV.agg p.cells] = true := rfl
theorem ap2 (p q : PP) : allLen 3 [AV.agg p.cells, AV.agg q.cells] = true := rfl
theorem ap3 (p q r : PP) : allLen 3 [AV.agg p.cells, AV.agg q.cells, AV.agg r.cells] = true := rfl
abbrev pcs (l : List PP) : List AV := l.map fun p => AV.agg p.cells
theorem works_ok (s : St) (hw : Wf s) : (lim prog).call f_touchstonelaw05_works [] s = some (.b true, s) := by
  refine fn_W p_touchstonelaw05_works rfl rfl ?_
  have hst := st4_new (s := s.enter.new (.cells 28 [.nsl, .nsl, .nsl, .i .i64 0])) (new_box_self s.enter _) (tx v0.names) (tx v0.values) (tx v0.args) (.i .i64 v0.status) rfl rfl
  rw [new_set] at hst
  obtain ⟨s1, hs1⟩ : ∃ s1, s.enter.new (.cells 28 v0.cells) = s1 := ⟨_, rfl⟩
  rw [hs1] at hst
  have hst : stA (s.enter.new (.cells 28 [.nsl, .nsl, .nsl, .i .i64 0])) 4 (.p s.enter.nb 0) v0.av = some s1 := hst
  have hvars : ∀ s, (lim prog).call f_touchstonelaw05_vars [.s [97, 32, 32, 98, 32]] s = some (v0.av, s) := fun s => vars_ok _ s
  have w1 : Wf s1 := by rw [← hs1]; exact hw.enter.new _
  have ov1 : Over s s1 := by rw [← hs1]; exact (Over.enter s).new _
  have hb : s1.box? s.enter.nb = some (.cells 28 v0.cells) := by rw [← hs1]; exact new_box_self _ _
  have hla : ldA s1 true 4 (.p s.enter.nb 0) = some v0.av := ld_all4 hb
  have g1 := ex_ok [⟨true, [120], false⟩] [[97], [98]] rfl rfl (by decide) rfl (by decide) (.sl 3 [.agg (PP.cells ⟨true, [120], false⟩)] .full) (.sl 1 [.s [97], .s [98]] .full) rfl rfl s1 w1
  have g2 := ex_ok [⟨true, [120], true⟩] [[97, 32, 32, 98, 32]] rfl rfl (by decide) rfl (by decide) (.sl 3 [.agg (PP.cells ⟨true, [120], true⟩)] .full) (.sl 1 [.s [97, 32, 32, 98, 32]] .full) rfl rfl s1 w1
  have g3 := ex_ok [⟨false, [99], false⟩, ⟨true, [120], false⟩, ⟨false, [100], true⟩] [[99, 97], [98], [100]] rfl rfl (by decide) rfl (by decide) (.sl 3 [.agg (PP.cells ⟨false, [99], false⟩), .agg (PP.cells ⟨true, [120], false⟩), .agg (PP.cells ⟨false, [100], true⟩)] .full) (.sl 1 [.s [99, 97], .s [98], .s [100]] .full) rfl rfl s1 w1
  have g4 := ex_ok [⟨true, [121], false⟩] [] rfl rfl (by decide) rfl (by decide) (.sl 3 [.agg (PP.cells ⟨true, [121], false⟩)] .full) .nsl rfl rfl s1 w1
  have g5 := ex_ok [⟨false, [], true⟩] [[]] rfl rfl (by decide) rfl (by decide) (.sl 3 [.agg (PP.cells ⟨false, [], true⟩)] .full) (.sl 1 [.s []] .full) rfl rfl s1 w1
  have g6 := ex_ok [⟨false, [99], false⟩, ⟨true, [121], false⟩] [[99]] rfl rfl (by decide) rfl (by decide) (.sl 3 [.agg (PP.cells ⟨false, [99], false⟩), .agg (PP.cells ⟨true, [121], false⟩)] .full) (.sl 1 [.s [99]] .full) rfl rfl s1 w1
  have g7 := text_ok itoaN itoa_ok v0 v0_ok [⟨false, [99], false⟩, ⟨true, [120], false⟩] (fun p hp => by
      simp only [List.mem_cons, List.not_mem_nil, or_false] at hp
      rcases hp with rfl | rfl <;> exact txt_of rfl (by decide)) (fun p hp => by
      simp only [List.mem_cons, List.not_mem_nil, or_false] at hp
      rcases hp with rfl | rfl
      · exact txt_of (l := [99]) rfl (by decide)
      · exact txt_of (l := [97, 32, 32, 98, 32]) rfl (by decide)) (by decide) (by decide) s1 w1
  rw [show textL itoaN v0 [⟨false, [99], false⟩, ⟨true, [120], false⟩] = [99, 97, 32, 32, 98, 32] from rfl,
    call_wk (args := [v0.av, partsA [⟨false, [99], false⟩, ⟨true, [120], false⟩]]) (args' := [v0.av, .sl 3 [.agg (PP.cells ⟨false, [99], false⟩), .agg (PP.cells ⟨true, [120], false⟩)] .full]) p_expand_Text rfl rfl rfl rfl] at g7
  have g8 := value_ok itoaN itoa_ok v0 v0_ok [35] (txt_of rfl (by decide)) s1
  rw [show valueL itoaN v0 [35] = [50] from itoa2] at g8
  have g9 := value_ok itoaN itoa_ok v0 v0_ok [51] (txt_of rfl (by decide)) s1
  rw [show valueL itoaN v0 [51] = [] from rfl] at g9
  simp only [c_touchstonelaw05_works, W_seq, W_reg, W_cond, W_blk, W_skip, W_exit, W_ret, W_regD, WO_nil, WO_cons, WO_guard2, wantV_b, bq_tt, bq_ft, bq_tf, bq_ff, Bool.not_true, Bool.not_false, WD_nil, WD_cons, WD_guard2, WS_some, WS_none, KS_n, KS_x, KS_r, KB_n, KB_x, KB_r, KN_ap, KO_ap, KD_ap, KC_nil, KF_n, KF_r, KG_n, KG_r, KL_n, KL_x, KL_r, CP_true, CP_false, evOp, evX, X.ev, optX, put_some, put_none, get_set2, sel_t, sel_f, Nat.reduceBEq, Nat.reduceAdd, Nat.reduceLT, Nat.reduceLeDiff, Nat.reduceEqDiff, reduceIte, if_true, if_false, bi_add, bi_sub, bi_mul, bi_eql, bi_neq, bi_lss, bi_leq, bi_gtr, bi_geq, bs_eql, bs_neq, bs_lss, Am.unOp, ret1, pubL, pub, pubA, initT, wkZ, wk, wants, resOf, tupOf, quiet, AOp.cls, Nat.beq_eq, Bool.or_eq_true, decide_true, decide_false, beq_self_eq_true, Bool.true_or, Bool.or_true, true_and, and_true, lenA, eqv, eqB, eqP, scal, new_box_self, List.getElem?_cons_zero, List.getElem?_cons_succ, key_ii, key_ss, findM, updM, esc_i, esc_s, esc_b, Int.reduceEq, ret1, new_nb, new_set, reduceCtorEq, Bool.xor_true, Bool.xor_false, Bool.false_eq_true, List.all_cons, List.all_nil, noTok, Bool.and_self, Bool.and_true, Bool.true_and, hvars, shutA, cells_agg, len4, hst, hla, par_ok, qpar_ok, lit_ok, quo_ok, al1, al2, al3, ap1, ap2, ap3, g1, g2, g3, g4, g5, g6, g7, g8, g9]
  rw [KC_ap]
  have hbeq : beqA v0.av v0.av = true := rfl
  refine ⟨?_, ?_⟩
  · simp only [chkD, sameAt, List.range', List.nil_append, List.cons_append, Nat.reduceSub, Nat.reduceAdd, List.all_cons, List.all_nil, List.getElem?_cons_zero, List.getElem?_cons_succ, W_seq, W_reg, W_cond, W_blk, W_skip, W_exit, W_ret, W_regD, WO_nil, WO_cons, WO_guard2, wantV_b, bq_tt, bq_ft, bq_tf, bq_ff, Bool.not_true, Bool.not_false, WD_nil, WD_cons, WD_guard2, WS_some, WS_none, KS_n, KS_x, KS_r, KB_n, KB_x, KB_r, KN_ap, KO_ap, KD_ap, KC_nil, KF_n, KF_r, KG_n, KG_r, KL_n, KL_x, KL_r, CP_true, CP_false, evOp, evX, X.ev, optX, put_some, put_none, get_set2, sel_t, sel_f, Nat.reduceBEq, Nat.reduceAdd, Nat.reduceLT, Nat.reduceLeDiff, Nat.reduceEqDiff, reduceIte, if_true, if_false, bi_add, bi_sub, bi_mul, bi_eql, bi_neq, bi_lss, bi_leq, bi_gtr, bi_geq, bs_eql, bs_neq, bs_lss, Am.unOp, ret1, pubL, pub, pubA, initT, wkZ, wk, wants, resOf, tupOf, quiet, AOp.cls, Nat.beq_eq, Bool.or_eq_true, decide_true, decide_false, beq_self_eq_true, Bool.true_or, Bool.or_true, true_and, and_true, lenA, eqv, eqB, eqP, scal, new_box_self, List.getElem?_cons_zero, List.getElem?_cons_succ, key_ii, key_ss, findM, updM, esc_i, esc_s, esc_b, Int.reduceEq, ret1, new_nb, new_set, reduceCtorEq, Bool.xor_true, Bool.xor_false, Bool.false_eq_true, List.all_cons, List.all_nil, noTok, Bool.and_self, Bool.and_true, Bool.true_and, hla, hbeq]
  · simp only [W_seq, W_reg, W_cond, W_blk, W_skip, W_exit, W_ret, W_regD, WO_nil, WO_cons, WO_guard2, wantV_b, bq_tt, bq_ft, bq_tf, bq_ff, Bool.not_true, Bool.not_false, WD_nil, WD_cons, WD_guard2, WS_some, WS_none, KS_n, KS_x, KS_r, KB_n, KB_x, KB_r, KN_ap, KO_ap, KD_ap, KC_nil, KF_n, KF_r, KG_n, KG_r, KL_n, KL_x, KL_r, CP_true, CP_false, evOp, evX, X.ev, optX, put_some, put_none, get_set2, sel_t, sel_f, Nat.reduceBEq, Nat.reduceAdd, Nat.reduceLT, Nat.reduceLeDiff, Nat.reduceEqDiff, reduceIte, if_true, if_false, bi_add, bi_sub, bi_mul, bi_eql, bi_neq, bi_lss, bi_leq, bi_gtr, bi_geq, bs_eql, bs_neq, bs_lss, Am.unOp, ret1, pubL, pub, pubA, initT, wkZ, wk, wants, resOf, tupOf, quiet, AOp.cls, Nat.beq_eq, Bool.or_eq_true, decide_true, decide_false, beq_self_eq_true, Bool.true_or, Bool.or_true, true_and, and_true, lenA, eqv, eqB, eqP, scal, new_box_self, List.getElem?_cons_zero, List.getElem?_cons_succ, key_ii, key_ss, findM, updM, esc_i, esc_s, esc_b, Int.reduceEq, ret1, new_nb, new_set, reduceCtorEq, Bool.xor_true, Bool.xor_false, Bool.false_eq_true, List.all_cons, List.all_nil, noTok, Bool.and_self, Bool.and_true, Bool.true_and]
    exact KR_some ov1 rfl rfl
end Go.Proofs.YtfpoihibfajhlaaDoor

/-
  How great values and parts are.
-/
set_option maxRecDepth 100000
set_option linter.unusedSimpArgs false
set_option linter.constructorNameAsVariable false
namespace Go.Proofs.YtfpoihibfajhlaaDoor
open Go.Proofs.YtfpoihibfajhlaaDoor.Am

abbrev pcell (p : PP) : AV := .agg p.cells
theorem row_wk {a' : AV} {ps : List PP} (h : (a' = .nsl ∧ ps.map pcell = []) ∨ a' = .sl 3 (ps.map pcell) .shut) : wk (.sl 3 (.agg [.id, .id, .id])) a' = wk (.sl 3 (.agg [.id, .id, .id])) (partsA ps) := by
  rcases h with ⟨rfl, h⟩ | rfl
  · have : ps = [] := by simpa using h
    subst this
    simp [wk, wkM]
  · have e : ∀ l : List PP, wkM (.agg [.id, .id, .id]) (l.map pcell) = l.map pcell := by
      intro l
      induction l with
      | nil => simp [wkM]
      | cons p l ih => simp [wkM, ih, wk, wkZ]
    simp [wk, e]

structure Small (x : VV) (ps : List PP) : Prop where
  n : x.names.length < 20000
  w : x.values.length < 20000
  a : x.args.length < 20000
  cnt : ps.length ≤ 200
  tx : ∀ p ∈ ps, p.text.length < 20000
  vx : ∀ l ∈ x.values, l.length < 20000
  ax : ∀ l ∈ x.args, l.length < 20000

theorem sum_mem {α : Type} (f : α → Nat) : ∀ {l : List α} {a : α}, a ∈ l → f a ≤ (l.map f).sum
  | b :: l, a, h => by
    rcases List.mem_cons.1 h with rfl | h
    · simp
    · have := sum_mem f h
      simp only [List.map_cons, List.sum_cons]; omega
theorem sum_len {α : Type} (f : α → Nat) : ∀ l : List α, l.length ≤ (l.map fun a => f a + 1).sum
  | [] => by simp
  | a :: l => by
    have := sum_len f l
    simp only [List.map_cons, List.sum_cons, List.length_cons]; omega
theorem small_of {x : VV} {ps : List PP} (h : largeP x ps = false) : Small x ps := by
  simp only [largeP, Bool.or_eq_false_iff, decide_eq_false_iff_not] at h
  obtain ⟨h1, h2⟩ := h
  have h1 : largeF x ps < 20000 := by omega
  have k := partsF_small ps _ h1
  have e : partsF (textsF 0 x.names + textsF 0 x.values + textsF 0 x.args) ps = largeF x ps := rfl
  rw [e] at k
  have a1 := textsF_small x.names 0 (by omega)
  have a2 := textsF_small x.values 0 (by omega)
  have a3 := textsF_small x.args 0 (by omega)
  have b1 := sum_len List.length x.names
  have b2 := sum_len List.length x.values
  have b3 := sum_len List.length x.args
  refine ⟨by omega, by omega, by omega, by omega, fun p hp => ?_, fun l hl => ?_, fun l hl => ?_⟩
  · have := sum_mem (fun p : PP => p.text.length + 1) hp
    omega
  · have := sum_mem (fun l : List Nat => l.length + 1) hl
    omega
  · have := sum_mem (fun l : List Nat => l.length + 1) hl
    omega

theorem getD_cases (L : List (List Nat)) (i : Nat) : L.getD i [] = [] ∨ L.getD i [] ∈ L := by
  by_cases h : i < L.length
  · right
    simp [List.getD, h]
  · left
    simp [List.getD, List.getElem?_eq_none (Nat.le_of_not_lt h)]
theorem getD_c1 {L M : List (List Nat)} {i : Nat} {X Y : List Nat} : L.getD i [] = X ∨ L.getD i [] = Y ∨ L.getD i [] = [] ∨ L.getD i [] ∈ L ∨ L.getD i [] ∈ M := by
  rcases getD_cases L i with h | h
  · exact .inr (.inr (.inl h))
  · exact .inr (.inr (.inr (.inl h)))
theorem getD_c2 {L M : List (List Nat)} {i : Nat} {X Y : List Nat} : L.getD i [] = X ∨ L.getD i [] = Y ∨ L.getD i [] = [] ∨ L.getD i [] ∈ M ∨ L.getD i [] ∈ L := by
  rcases getD_cases L i with h | h
  · exact .inr (.inr (.inl h))
  · exact .inr (.inr (.inr (.inr h)))
theorem valueL_cases (it : Int → List Nat) (v : VV) (n : List Nat) : valueL it v n = it v.args.length ∨ valueL it v n = it v.status ∨ valueL it v n = [] ∨ valueL it v n ∈ v.args ∨ valueL it v n ∈ v.values := by
  unfold valueL
  split
  · exact .inl rfl
  split
  · exact .inr (.inl rfl)
  split
  · split
    · exact getD_c1
    · split
      · exact getD_c2
      · exact .inr (.inr (.inl rfl))
  · split
    · exact getD_c2
    · exact .inr (.inr (.inl rfl))
theorem value_small {v : VV} (hv : v.Ok) {ps : List PP} (hs : Small v ps) (h1 : ∀ l ∈ v.values, Txt l) (h2 : ∀ l ∈ v.args, Txt l) (n : List Nat) : (valueL itoaN v n).length < 20000 ∧ Txt (valueL itoaN v n) := by
  have hit : ∀ k : Int, -9223372036854775808 ≤ k → k ≤ 9223372036854775807 → (itoaN k).length < 20000 ∧ Txt (itoaN k) := fun k a b => by
    have := itoaN_len a b
    exact ⟨by omega, fun c hc => itoaN_lt hc, by omega⟩
  rcases valueL_cases itoaN v n with h | h | h | h | h
  · rw [h]; exact hit _ (by omega) (by have := hs.a; omega)
  · rw [h]; exact hit _ hv.s0 hv.s1
  · rw [h]; exact ⟨by simp, by simp, by simp⟩
  · exact ⟨hs.ax _ h, h2 _ h⟩
  · exact ⟨hs.vx _ h, h1 _ h⟩
theorem part_small {v : VV} (hv : v.Ok) {ps : List PP} (hs : Small v ps) (h1 : ∀ l ∈ v.values, Txt l) (h2 : ∀ l ∈ v.args, Txt l) (h3 : ∀ p ∈ ps, Txt p.text) {p : PP} (hp : p ∈ ps) : (partL itoaN v p).length < 20000 ∧ Txt (partL itoaN v p) := by
  unfold partL
  split
  · exact value_small hv hs h1 h2 _
  · exact ⟨hs.tx p hp, h3 p hp⟩
theorem quo_part (v : VV) (p : PP) : partL itoaN v (quo p) = partL itoaN v p := rfl
theorem nb_len (l : List Nat) : (nb l).length ≤ l.length := List.length_filter_le _ _
theorem bare_part {v : VV} (hv : v.Ok) {ps : List PP} (hs : Small v ps) (h1 : ∀ l ∈ v.values, Txt l) (h2 : ∀ l ∈ v.args, Txt l) (h3 : ∀ p ∈ ps, Txt p.text) {p : PP} (hp : p ∈ ps) : (partL itoaN v (bare p)).length < 20000 ∧ Txt (partL itoaN v (bare p)) := by
  obtain ⟨pv, pt, pq⟩ := p
  cases pv with
  | true => exact value_small hv hs h1 h2 _
  | false =>
    have e : partL itoaN v (bare ⟨false, pt, pq⟩) = nb pt := rfl
    rw [e]
    have k1 := hs.tx _ hp
    have k2 := h3 _ hp
    have k3 := nb_len pt
    exact ⟨by simp only at k1; omega, fun n hn => k2.lt n (List.mem_filter.1 hn).1, by have := k2.len; simp only at this; omega⟩
theorem szF_le (v : VV) (n : Nat) : ∀ ps : List PP, (∀ p ∈ ps, (partL itoaN v p).length < n) → szF itoaN v ps ≤ ps.length * n
  | [], _ => by simp [szF]
  | p :: ps, h => by
    have h1 := szF_le v n ps fun q hq => h q (by simp [hq])
    have h2 := h p (by simp)
    rw [szF_cons, List.length_cons, Nat.succ_mul]
    omega

end Go.Proofs.YtfpoihibfajhlaaDoor
