/-
  The law's examples.
-/
import Derived.Test.YtfpoihibfajhlaaDoorLExpand5
set_option linter.all false
set_option linter.unusedVariables false
set_option linter.unusedSimpArgs false
set_option linter.unusedSectionVars false
set_option maxRecDepth 100000
set_option linter.unusedSimpArgs false
namespace Go.Proofs.YtfpoihibfajhlaaDoor
open Go.Proofs.YtfpoihibfajhlaaDoor.Am

theorem call_wk {f : Nat} {fn : Fun} {args args' : List AV} {s : St} (hp : prog f = some fn) (hpr : fn.prim = none) (hk : fn.keep = false) (hl : args.length = args'.length) (hw : wkZ fn.cin args = wkZ fn.cin args') :
    (lim prog).call f args s = (lim prog).call f args' s := by
  rw [lim_call, lim_call]
  unfold callF
  have hb : ∀ l, both fn l = none := fun l => by unfold both; rw [hk]
  simp only [hp, hpr, hb, hl, hw]

theorem lit_ok (l : List Nat) (s : St) : (lim prog).call f_touchstonelaw05_lit [.s l] s = some (.agg (PP.cells ⟨false, l, false⟩), s) := by
  refine fn_W p_touchstonelaw05_lit rfl rfl ?_
  have hst := st3_new s.enter 31 (.b false) (.s []) (.b false) (.b false) (.s l) (.b false) rfl rfl
  have hl1 : ∀ a : AV, [a].length = 1 := fun _ => rfl
  have hb : ((s.enter.new (.cells 31 [.b false, .s l, .b false]))).box? s.enter.nb = some (.cells 31 [.b false, .s l, .b false]) := new_box_self _ _
  have hla := ld_all3 hb
  simp only [c_touchstonelaw05_lit, W_seq, W_reg, W_cond, W_blk, W_skip, W_exit, W_ret, W_regD, WO_nil, WO_cons, WO_guard2, wantV_b, bq_tt, bq_ft, bq_tf, bq_ff, Bool.not_true, Bool.not_false, WD_nil, WD_cons, WD_guard2, WS_some, WS_none, KS_n, KS_x, KS_r, KB_n, KB_x, KB_r, KN_ap, KO_ap, KD_ap, KC_nil, KF_n, KF_r, KG_n, KG_r, KL_n, KL_x, KL_r, CP_true, CP_false, evOp, evX, X.ev, optX, put_some, put_none, get_set2, sel_t, sel_f, Nat.reduceBEq, Nat.reduceAdd, Nat.reduceLT, Nat.reduceLeDiff, Nat.reduceEqDiff, reduceIte, if_true, if_false, bi_add, bi_sub, bi_mul, bi_eql, bi_neq, bi_lss, bi_leq, bi_gtr, bi_geq, bs_eql, bs_neq, bs_lss, Am.unOp, ret1, pubL, pub, pubA, initT, wkZ, wk, wants, resOf, tupOf, quiet, AOp.cls, Nat.beq_eq, Bool.or_eq_true, decide_true, decide_false, beq_self_eq_true, Bool.true_or, Bool.or_true, true_and, and_true, lenA, eqv, eqB, eqP, scal, new_box_self, List.getElem?_cons_zero, List.getElem?_cons_succ, key_ii, key_ss, findM, updM, esc_i, esc_s, esc_b, Int.reduceEq, ret1, new_nb, new_set, reduceCtorEq, Bool.xor_true, Bool.xor_false, Bool.false_eq_true, List.all_cons, List.all_nil, noTok, Bool.and_self, Bool.and_true, Bool.true_and, evParts, cells_b, cells_s, over3_0, over3_1, over3_2, hl1, hst, hla, frzL, frz]
  exact KR_some ((Over.enter s).new _) rfl rfl
theorem quo_ok (l : List Nat) (s : St) : (lim prog).call f_touchstonelaw05_quo [.s l] s = some (.agg (PP.cells ⟨false, l, true⟩), s) := by
  refine fn_W p_touchstonelaw05_quo rfl rfl ?_
  have hst := st3_new s.enter 31 (.b false) (.s []) (.b false) (.b false) (.s l) (.b true) rfl rfl
  have hl1 : ∀ a : AV, [a].length = 1 := fun _ => rfl
  have hb : ((s.enter.new (.cells 31 [.b false, .s l, .b true]))).box? s.enter.nb = some (.cells 31 [.b false, .s l, .b true]) := new_box_self _ _
  have hla := ld_all3 hb
  simp only [c_touchstonelaw05_quo, W_seq, W_reg, W_cond, W_blk, W_skip, W_exit, W_ret, W_regD, WO_nil, WO_cons, WO_guard2, wantV_b, bq_tt, bq_ft, bq_tf, bq_ff, Bool.not_true, Bool.not_false, WD_nil, WD_cons, WD_guard2, WS_some, WS_none, KS_n, KS_x, KS_r, KB_n, KB_x, KB_r, KN_ap, KO_ap, KD_ap, KC_nil, KF_n, KF_r, KG_n, KG_r, KL_n, KL_x, KL_r, CP_true, CP_false, evOp, evX, X.ev, optX, put_some, put_none, get_set2, sel_t, sel_f, Nat.reduceBEq, Nat.reduceAdd, Nat.reduceLT, Nat.reduceLeDiff, Nat.reduceEqDiff, reduceIte, if_true, if_false, bi_add, bi_sub, bi_mul, bi_eql, bi_neq, bi_lss, bi_leq, bi_gtr, bi_geq, bs_eql, bs_neq, bs_lss, Am.unOp, ret1, pubL, pub, pubA, initT, wkZ, wk, wants, resOf, tupOf, quiet, AOp.cls, Nat.beq_eq, Bool.or_eq_true, decide_true, decide_false, beq_self_eq_true, Bool.true_or, Bool.or_true, true_and, and_true, lenA, eqv, eqB, eqP, scal, new_box_self, List.getElem?_cons_zero, List.getElem?_cons_succ, key_ii, key_ss, findM, updM, esc_i, esc_s, esc_b, Int.reduceEq, ret1, new_nb, new_set, reduceCtorEq, Bool.xor_true, Bool.xor_false, Bool.false_eq_true, List.all_cons, List.all_nil, noTok, Bool.and_self, Bool.and_true, Bool.true_and, evParts, cells_b, cells_s, over3_0, over3_1, over3_2, hl1, hst, hla, frzL, frz]
  exact KR_some ((Over.enter s).new _) rfl rfl
theorem qpar_ok (l : List Nat) (s : St) : (lim prog).call f_touchstonelaw05_qpar [.s l] s = some (.agg (PP.cells ⟨true, l, true⟩), s) := by
  refine fn_W p_touchstonelaw05_qpar rfl rfl ?_
  have hst := st3_new s.enter 31 (.b false) (.s []) (.b false) (.b true) (.s l) (.b true) rfl rfl
  have hl1 : ∀ a : AV, [a].length = 1 := fun _ => rfl
  have hb : ((s.enter.new (.cells 31 [.b true, .s l, .b true]))).box? s.enter.nb = some (.cells 31 [.b true, .s l, .b true]) := new_box_self _ _
  have hla := ld_all3 hb
  simp only [c_touchstonelaw05_qpar, W_seq, W_reg, W_cond, W_blk, W_skip, W_exit, W_ret, W_regD, WO_nil, WO_cons, WO_guard2, wantV_b, bq_tt, bq_ft, bq_tf, bq_ff, Bool.not_true, Bool.not_false, WD_nil, WD_cons, WD_guard2, WS_some, WS_none, KS_n, KS_x, KS_r, KB_n, KB_x, KB_r, KN_ap, KO_ap, KD_ap, KC_nil, KF_n, KF_r, KG_n, KG_r, KL_n, KL_x, KL_r, CP_true, CP_false, evOp, evX, X.ev, optX, put_some, put_none, get_set2, sel_t, sel_f, Nat.reduceBEq, Nat.reduceAdd, Nat.reduceLT, Nat.reduceLeDiff, Nat.reduceEqDiff, reduceIte, if_true, if_false, bi_add, bi_sub, bi_mul, bi_eql, bi_neq, bi_lss, bi_leq, bi_gtr, bi_geq, bs_eql, bs_neq, bs_lss, Am.unOp, ret1, pubL, pub, pubA, initT, wkZ, wk, wants, resOf, tupOf, quiet, AOp.cls, Nat.beq_eq, Bool.or_eq_true, decide_true, decide_false, beq_self_eq_true, Bool.true_or, Bool.or_true, true_and, and_true, lenA, eqv, eqB, eqP, scal, new_box_self, List.getElem?_cons_zero, List.getElem?_cons_succ, key_ii, key_ss, findM, updM, esc_i, esc_s, esc_b, Int.reduceEq, ret1, new_nb, new_set, reduceCtorEq, Bool.xor_true, Bool.xor_false, Bool.false_eq_true, List.all_cons, List.all_nil, noTok, Bool.and_self, Bool.and_true, Bool.true_and, evParts, cells_b, cells_s, over3_0, over3_1, over3_2, hl1, hst, hla, frzL, frz]
  exact KR_some ((Over.enter s).new _) rfl rfl

def varsV (l : List Nat) : VV := ⟨[[120]], [l], [[111, 110, 101], [116, 119, 111]], 0⟩
theorem len1 (a : AV) : [a].length = 1 := rfl
theorem al1 (a : List Nat) : allLen 1 [AV.s a] = true := rfl
theorem al2 (a b : List Nat) : allLen 1 [AV.s a, AV.s b] = true := rfl
theorem al3 (a b c : List Nat) : allLen 1 [AV.s a, AV.s b, AV.s c] = true := rfl
theorem cells_sl (L : List AV) (m : Cap) : (AV.sl 1 L m).cells = [.sl 1 L m] := rfl
theorem vars_ok (l : List Nat) (s : St) : (lim prog).call f_touchstonelaw05_vars [.s l] s = some ((varsV l).av, s) := by
  refine fn_W p_touchstonelaw05_vars rfl rfl ?_
  have hl1 : ∀ a : AV, [a].length = 1 := fun _ => rfl
  have hst := st4_new (s := s.enter.new (.cells 28 [.nsl, .nsl, .nsl, .i .i64 0])) (new_box_self s.enter _) (.sl 1 [.s [120]] .full) (.sl 1 [.s l] .full) (.sl 1 [.s [111, 110, 101], .s [116, 119, 111]] .full) (.i .i64 0) rfl rfl
  rw [new_set] at hst
  have hb : ((s.enter.new (.cells 28 [.sl 1 [.s [120]] .full, .sl 1 [.s l] .full, .sl 1 [.s [111, 110, 101], .s [116, 119, 111]] .full, .i .i64 0]))).box? s.enter.nb = some (.cells 28 [.sl 1 [.s [120]] .full, .sl 1 [.s l] .full, .sl 1 [.s [111, 110, 101], .s [116, 119, 111]] .full, .i .i64 0]) := new_box_self _ _
  have hla := ld_all4 hb
  simp only [c_touchstonelaw05_vars, W_seq, W_reg, W_cond, W_blk, W_skip, W_exit, W_ret, W_regD, WO_nil, WO_cons, WO_guard2, wantV_b, bq_tt, bq_ft, bq_tf, bq_ff, Bool.not_true, Bool.not_false, WD_nil, WD_cons, WD_guard2, WS_some, WS_none, KS_n, KS_x, KS_r, KB_n, KB_x, KB_r, KN_ap, KO_ap, KD_ap, KC_nil, KF_n, KF_r, KG_n, KG_r, KL_n, KL_x, KL_r, CP_true, CP_false, evOp, evX, X.ev, optX, put_some, put_none, get_set2, sel_t, sel_f, Nat.reduceBEq, Nat.reduceAdd, Nat.reduceLT, Nat.reduceLeDiff, Nat.reduceEqDiff, reduceIte, if_true, if_false, bi_add, bi_sub, bi_mul, bi_eql, bi_neq, bi_lss, bi_leq, bi_gtr, bi_geq, bs_eql, bs_neq, bs_lss, Am.unOp, ret1, pubL, pub, pubA, initT, wkZ, wk, wants, resOf, tupOf, quiet, AOp.cls, Nat.beq_eq, Bool.or_eq_true, decide_true, decide_false, beq_self_eq_true, Bool.true_or, Bool.or_true, true_and, and_true, lenA, eqv, eqB, eqP, scal, new_box_self, List.getElem?_cons_zero, List.getElem?_cons_succ, key_ii, key_ss, findM, updM, esc_i, esc_s, esc_b, Int.reduceEq, ret1, new_nb, new_set, reduceCtorEq, Bool.xor_true, Bool.xor_false, Bool.false_eq_true, List.all_cons, List.all_nil, noTok, Bool.and_self, Bool.and_true, Bool.true_and, evParts, cells_sl, al1, al2, cells_i, over4_0, over4_1, over4_2, over4_3, hl1, hst, hla, frzL, frz]
  exact KR_some ((Over.enter s).new _) rfl rfl

theorem fieldsL_len (it : Int → List Nat) (v : VV) (ps : List PP) : (fieldsL it v ps).length ≤ szF it v ps + 1 := by
  obtain ⟨z1, z2⟩ := stepF_len it v ps ([], [], false)
  simp only [List.length_nil, Nat.zero_add] at z1
  unfold fieldsL
  simp only
  split
  · simp only [List.length_append, List.length_cons, List.length_nil]; omega
  · omega
theorem lfields_ok (v : VV) (hv : v.Ok) (ps : List PP) (hp : ∀ p ∈ ps, Txt p.text) (ht : ∀ p ∈ ps, Txt (partL itoaN v p)) (hlen : ps.length < 2 ^ 63) (hsz : szF itoaN v ps < 2 ^ 37) (want : List (List Nat)) (s : St) (hw : Wf s) :
    (lim prog).call f_touchstonelaw05_fields [v.av, partsA ps, tx want] s = some (.b (decide (fieldsL itoaN v ps = want)), s) := by
  refine fn_W p_touchstonelaw05_fields rfl rfl ?_
  have hb : (s.enter.new (.cells 28 v.cells)).box? s.enter.nb = some (.cells 28 v.cells) := new_box_self _ _
  have hla := ld_all4 hb
  have hf := fields_ok itoaN itoa_ok v hv ps hp ht hlen hsz (s.enter.new (.cells 28 v.cells)) (hw.enter.new _)
  have hfl : (fieldsL itoaN v ps).length < 2 ^ 63 := by have := fieldsL_len itoaN v ps; omega
  simp only [c_touchstonelaw05_fields, W_seq, W_reg, W_cond, W_blk, W_skip, W_exit, W_ret, W_regD, WO_nil, WO_cons, WO_guard2, wantV_b, bq_tt, bq_ft, bq_tf, bq_ff, Bool.not_true, Bool.not_false, WD_nil, WD_cons, WD_guard2, WS_some, WS_none, KS_n, KS_x, KS_r, KB_n, KB_x, KB_r, KN_ap, KO_ap, KD_ap, KC_nil, KF_n, KF_r, KG_n, KG_r, KL_n, KL_x, KL_r, CP_true, CP_false, evOp, evX, X.ev, optX, put_some, put_none, get_set2, sel_t, sel_f, Nat.reduceBEq, Nat.reduceAdd, Nat.reduceLT, Nat.reduceLeDiff, Nat.reduceEqDiff, reduceIte, if_true, if_false, bi_add, bi_sub, bi_mul, bi_eql, bi_neq, bi_lss, bi_leq, bi_gtr, bi_geq, bs_eql, bs_neq, bs_lss, Am.unOp, ret1, pubL, pub, pubA, initT, wkZ, wk, wants, resOf, tupOf, quiet, AOp.cls, Nat.beq_eq, Bool.or_eq_true, decide_true, decide_false, beq_self_eq_true, Bool.true_or, Bool.or_true, true_and, and_true, lenA, eqv, eqB, eqP, scal, new_box_self, List.getElem?_cons_zero, List.getElem?_cons_succ, key_ii, key_ss, findM, updM, esc_i, esc_s, esc_b, Int.reduceEq, ret1, new_nb, new_set, reduceCtorEq, Bool.xor_true, Bool.xor_false, Bool.false_eq_true, List.all_cons, List.all_nil, noTok, Bool.and_self, Bool.and_true, Bool.true_and, cells_agg, len4, hla, hf, same_ok _ _ hfl]
  exact KR_some ((Over.enter s).new _) rfl rfl

def v0 : VV := varsV [97, 32, 32, 98, 32]
theorem v0_ok : v0.Ok := ⟨by decide, by decide, by decide, by decide, by decide⟩
theorem txt_of {l : List Nat} (h : (l.all fun n => decide (n < 256)) = true) (hl : l.length < 1000) : Txt l := ⟨fun n hn => by simpa using List.all_eq_true.1 h n hn, by omega⟩
/-- One example. -/
theorem ex_ok (ps : List PP) (want : List (List Nat)) (h1 : (ps.all fun p => (p.text.all fun n => decide (n < 256)) && decide (p.text.length < 1000)) = true) (h2 : (ps.all fun p => ((partL itoaN v0 p).all fun n => decide (n < 256)) && decide ((partL itoaN v0 p).length < 1000)) = true)
    (h3 : ps.length < 10) (h4 : fieldsL itoaN v0 ps = want) (h5 : szF itoaN v0 ps < 1000) (a b : AV) (ha : wk (.sl 3 (.agg [.id, .id, .id])) a = wk (.sl 3 (.agg [.id, .id, .id])) (partsA ps)) (hb : wk (.sl 1 .id) b = wk (.sl 1 .id) (tx want)) (s : St) (hw : Wf s) :
    (lim prog).call f_touchstonelaw05_fields [v0.av, a, b] s = some (.b true, s) := by
  rw [call_wk (args := [v0.av, a, b]) (args' := [v0.av, partsA ps, tx want]) p_touchstonelaw05_fields rfl rfl rfl (by
    simp only [c_touchstonelaw05_fields, wkZ, ha, hb])]
  rw [lfields_ok v0 v0_ok ps (fun p hp => ?_) (fun p hp => ?_) (by omega) (by omega) want s hw, h4]
  · simp
  · have := List.all_eq_true.1 h1 p hp
    simp only [Bool.and_eq_true, decide_eq_true_eq] at this
    exact txt_of this.1 this.2
  · have := List.all_eq_true.1 h2 p hp
    simp only [Bool.and_eq_true, decide_eq_true_eq] at this
    exact txt_of this.1 this.2

theorem itoa2 : itoaN 2 = [50] := by
  unfold itoaN Lib.itoa
  rw [if_neg (by omega), Lib.decDigits, dif_pos (by decide)]
  rfl

theorem ap1 (p : PP) : allLen 3 [AV.agg p.cells] = true := rfl
theorem ap2 (p q : PP) : allLen 3 [AV.agg p.cells, AV.agg q.cells] = true := rfl
theorem ap3 (p q r : PP) : allLen 3 [AV.agg p.cells, AV.agg q.cells, AV.agg r.cells] = true := rfl
abbrev pcs (l : List PP) : List AV := l.map fun p => AV.agg p.cells
theorem works_ok (s : St) (hw : Wf s) : (lim prog).call f_touchstonelaw05_works [] s = some (.b true, s) := by
  refine fn_W p_touchstonelaw05_works rfl rfl ?_
  have hst := st4_new (s := s.enter.new (.cells 28 [.nsl, .nsl, .nsl, .i .i64 0])) (new_box_self s.enter _) (tx v0.names) (tx v0.values) (tx v0.args) (.i .i64 v0.status) rfl rfl
  rw [new_set] at hst
  obtain ⟨s1, hs1⟩ : ∃ s1, s.enter.new (.cells 28 v0.cells) = s1 := ⟨_, rfl⟩
  rw [hs1] at hst
  have hst : stA (s.enter.new (.cells 28 [.nsl, .nsl, .nsl, .i .i64 0])) 4 (.p s.enter.nb 0) v0.av = some s1 := hst
  have hvars : ∀ s, (lim prog).call f_touchstonelaw05_vars [.s [97, 32, 32, 98, 32]] s = some (v0.av, s) := fun s => vars_ok _ s
  have w1 : Wf s1 := by rw [← hs1]; exact hw.enter.new _
  have ov1 : Over s s1 := by rw [← hs1]; exact (Over.enter s).new _
  have hb : s1.box? s.enter.nb = some (.cells 28 v0.cells) := by rw [← hs1]; exact new_box_self _ _
  have hla : ldA s1 true 4 (.p s.enter.nb 0) = some v0.av := ld_all4 hb
  have g1 := ex_ok [⟨true, [120], false⟩] [[97], [98]] rfl rfl (by decide) rfl (by decide) (.sl 3 [.agg (PP.cells ⟨true, [120], false⟩)] .full) (.sl 1 [.s [97], .s [98]] .full) rfl rfl s1 w1
  have g2 := ex_ok [⟨true, [120], true⟩] [[97, 32, 32, 98, 32]] rfl rfl (by decide) rfl (by decide) (.sl 3 [.agg (PP.cells ⟨true, [120], true⟩)] .full) (.sl 1 [.s [97, 32, 32, 98, 32]] .full) rfl rfl s1 w1
  have g3 := ex_ok [⟨false, [99], false⟩, ⟨true, [120], false⟩, ⟨false, [100], true⟩] [[99, 97], [98], [100]] rfl rfl (by decide) rfl (by decide) (.sl 3 [.agg (PP.cells ⟨false, [99], false⟩), .agg (PP.cells ⟨true, [120], false⟩), .agg (PP.cells ⟨false, [100], true⟩)] .full) (.sl 1 [.s [99, 97], .s [98], .s [100]] .full) rfl rfl s1 w1
  have g4 := ex_ok [⟨true, [121], false⟩] [] rfl rfl (by decide) rfl (by decide) (.sl 3 [.agg (PP.cells ⟨true, [121], false⟩)] .full) .nsl rfl rfl s1 w1
  have g5 := ex_ok [⟨false, [], true⟩] [[]] rfl rfl (by decide) rfl (by decide) (.sl 3 [.agg (PP.cells ⟨false, [], true⟩)] .full) (.sl 1 [.s []] .full) rfl rfl s1 w1
  have g6 := ex_ok [⟨false, [99], false⟩, ⟨true, [121], false⟩] [[99]] rfl rfl (by decide) rfl (by decide) (.sl 3 [.agg (PP.cells ⟨false, [99], false⟩), .agg (PP.cells ⟨true, [121], false⟩)] .full) (.sl 1 [.s [99]] .full) rfl rfl s1 w1
  have g7 := text_ok itoaN itoa_ok v0 v0_ok [⟨false, [99], false⟩, ⟨true, [120], false⟩] (fun p hp => by
      simp only [List.mem_cons, List.not_mem_nil, or_false] at hp
      rcases hp with rfl | rfl <;> exact txt_of rfl (by decide)) (fun p hp => by
      simp only [List.mem_cons, List.not_mem_nil, or_false] at hp
      rcases hp with rfl | rfl
      · exact txt_of (l := [99]) rfl (by decide)
      · exact txt_of (l := [97, 32, 32, 98, 32]) rfl (by decide)) (by decide) (by decide) s1 w1
  rw [show textL itoaN v0 [⟨false, [99], false⟩, ⟨true, [120], false⟩] = [99, 97, 32, 32, 98, 32] from rfl,
    call_wk (args := [v0.av, partsA [⟨false, [99], false⟩, ⟨true, [120], false⟩]]) (args' := [v0.av, .sl 3 [.agg (PP.cells ⟨false, [99], false⟩), .agg (PP.cells ⟨true, [120], false⟩)] .full]) p_expand_Text rfl rfl rfl rfl] at g7
  have g8 := value_ok itoaN itoa_ok v0 v0_ok [35] (txt_of rfl (by decide)) s1
  rw [show valueL itoaN v0 [35] = [50] from itoa2] at g8
  have g9 := value_ok itoaN itoa_ok v0 v0_ok [51] (txt_of rfl (by decide)) s1
  rw [show valueL itoaN v0 [51] = [] from rfl] at g9
  simp only [c_touchstonelaw05_works, W_seq, W_reg, W_cond, W_blk, W_skip, W_exit, W_ret, W_regD, WO_nil, WO_cons, WO_guard2, wantV_b, bq_tt, bq_ft, bq_tf, bq_ff, Bool.not_true, Bool.not_false, WD_nil, WD_cons, WD_guard2, WS_some, WS_none, KS_n, KS_x, KS_r, KB_n, KB_x, KB_r, KN_ap, KO_ap, KD_ap, KC_nil, KF_n, KF_r, KG_n, KG_r, KL_n, KL_x, KL_r, CP_true, CP_false, evOp, evX, X.ev, optX, put_some, put_none, get_set2, sel_t, sel_f, Nat.reduceBEq, Nat.reduceAdd, Nat.reduceLT, Nat.reduceLeDiff, Nat.reduceEqDiff, reduceIte, if_true, if_false, bi_add, bi_sub, bi_mul, bi_eql, bi_neq, bi_lss, bi_leq, bi_gtr, bi_geq, bs_eql, bs_neq, bs_lss, Am.unOp, ret1, pubL, pub, pubA, initT, wkZ, wk, wants, resOf, tupOf, quiet, AOp.cls, Nat.beq_eq, Bool.or_eq_true, decide_true, decide_false, beq_self_eq_true, Bool.true_or, Bool.or_true, true_and, and_true, lenA, eqv, eqB, eqP, scal, new_box_self, List.getElem?_cons_zero, List.getElem?_cons_succ, key_ii, key_ss, findM, updM, esc_i, esc_s, esc_b, Int.reduceEq, ret1, new_nb, new_set, reduceCtorEq, Bool.xor_true, Bool.xor_false, Bool.false_eq_true, List.all_cons, List.all_nil, noTok, Bool.and_self, Bool.and_true, Bool.true_and, hvars, shutA, cells_agg, len4, hst, hla, par_ok, qpar_ok, lit_ok, quo_ok, al1, al2, al3, ap1, ap2, ap3, g1, g2, g3, g4, g5, g6, g7, g8, g9]
  rw [KC_ap]
  have hbeq : beqA v0.av v0.av = true := rfl
  refine ⟨?_, ?_⟩
  · simp only [chkD, sameAt, List.range', List.nil_append, List.cons_append, Nat.reduceSub, Nat.reduceAdd, List.all_cons, List.all_nil, List.getElem?_cons_zero, List.getElem?_cons_succ, W_seq, W_reg, W_cond, W_blk, W_skip, W_exit, W_ret, W_regD, WO_nil, WO_cons, WO_guard2, wantV_b, bq_tt, bq_ft, bq_tf, bq_ff, Bool.not_true, Bool.not_false, WD_nil, WD_cons, WD_guard2, WS_some, WS_none, KS_n, KS_x, KS_r, KB_n, KB_x, KB_r, KN_ap, KO_ap, KD_ap, KC_nil, KF_n, KF_r, KG_n, KG_r, KL_n, KL_x, KL_r, CP_true, CP_false, evOp, evX, X.ev, optX, put_some, put_none, get_set2, sel_t, sel_f, Nat.reduceBEq, Nat.reduceAdd, Nat.reduceLT, Nat.reduceLeDiff, Nat.reduceEqDiff, reduceIte, if_true, if_false, bi_add, bi_sub, bi_mul, bi_eql, bi_neq, bi_lss, bi_leq, bi_gtr, bi_geq, bs_eql, bs_neq, bs_lss, Am.unOp, ret1, pubL, pub, pubA, initT, wkZ, wk, wants, resOf, tupOf, quiet, AOp.cls, Nat.beq_eq, Bool.or_eq_true, decide_true, decide_false, beq_self_eq_true, Bool.true_or, Bool.or_true, true_and, and_true, lenA, eqv, eqB, eqP, scal, new_box_self, List.getElem?_cons_zero, List.getElem?_cons_succ, key_ii, key_ss, findM, updM, esc_i, esc_s, esc_b, Int.reduceEq, ret1, new_nb, new_set, reduceCtorEq, Bool.xor_true, Bool.xor_false, Bool.false_eq_true, List.all_cons, List.all_nil, noTok, Bool.and_self, Bool.and_true, Bool.true_and, hla, hbeq]
  · simp only [W_seq, W_reg, W_cond, W_blk, W_skip, W_exit, W_ret, W_regD, WO_nil, WO_cons, WO_guard2, wantV_b, bq_tt, bq_ft, bq_tf, bq_ff, Bool.not_true, Bool.not_false, WD_nil, WD_cons, WD_guard2, WS_some, WS_none, KS_n, KS_x, KS_r, KB_n, KB_x, KB_r, KN_ap, KO_ap, KD_ap, KC_nil, KF_n, KF_r, KG_n, KG_r, KL_n, KL_x, KL_r, CP_true, CP_false, evOp, evX, X.ev, optX, put_some, put_none, get_set2, sel_t, sel_f, Nat.reduceBEq, Nat.reduceAdd, Nat.reduceLT, Nat.reduceLeDiff, Nat.reduceEqDiff, reduceIte, if_true, if_false, bi_add, bi_sub, bi_mul, bi_eql, bi_neq, bi_lss, bi_leq, bi_gtr, bi_geq, bs_eql, bs_neq, bs_lss, Am.unOp, ret1, pubL, pub, pubA, initT, wkZ, wk, wants, resOf, tupOf, quiet, AOp.cls, Nat.beq_eq, Bool.or_eq_true, decide_true, decide_false, beq_self_eq_true, Bool.true_or, Bool.or_true, true_and, and_true, lenA, eqv, eqB, eqP, scal, new_box_self, List.getElem?_cons_zero, List.getElem?_cons_succ, key_ii, key_ss, findM, updM, esc_i, esc_s, esc_b, Int.reduceEq, ret1, new_nb, new_set, reduceCtorEq, Bool.xor_true, Bool.xor_false, Bool.false_eq_true, List.all_cons, List.all_nil, noTok, Bool.and_self, Bool.and_true, Bool.true_and]
    exact KR_some ov1 rfl rfl
end Go.Proofs.YtfpoihibfajhlaaDoor

/-
  How great values and parts are.
-/
set_option maxRecDepth 100000
set_option linter.unusedSimpArgs false
set_option linter.constructorNameAsVariable false
namespace Go.Proofs.YtfpoihibfajhlaaDoor
open Go.Proofs.YtfpoihibfajhlaaDoor.Am

abbrev pcell (p : PP) : AV := .agg p.cells
theorem row_wk {a' : AV} {ps : List PP} (h : (a' = .nsl ∧ ps.map pcell = []) ∨ a' = .sl 3 (ps.map pcell) .shut) : wk (.sl 3 (.agg [.id, .id, .id])) a' = wk (.sl 3 (.agg [.id, .id, .id])) (partsA ps) := by
  rcases h with ⟨rfl, h⟩ | rfl
  · have : ps = [] := by simpa using h
    subst this
    simp [wk, wkM]
  · have e : ∀ l : List PP, wkM (.agg [.id, .id, .id]) (l.map pcell) = l.map pcell := by
      intro l
      induction l with
      | nil => simp [wkM]
      | cons p l ih => simp [wkM, ih, wk, wkZ]
    simp [wk, e]

structure Small (x : VV) (ps : List PP) : Prop where
  n : x.names.length < 20000
  w : x.values.length < 20000
  a : x.args.length < 20000
  cnt : ps.length ≤ 200
  tx : ∀ p ∈ ps, p.text.length < 20000
  vx : ∀ l ∈ x.values, l.length < 20000
  ax : ∀ l ∈ x.args, l.length < 20000

theorem sum_mem {α : Type} (f : α → Nat) : ∀ {l : List α} {a : α}, a ∈ l → f a ≤ (l.map f).sum
  | b :: l, a, h => by
    rcases List.mem_cons.1 h with rfl | h
    · simp
    · have := sum_mem f h
      simp only [List.map_cons, List.sum_cons]; omega
theorem sum_len {α : Type} (f : α → Nat) : ∀ l : List α, l.length ≤ (l.map fun a => f a + 1).sum
  | [] => by simp
  | a :: l => by
    have := sum_len f l
    simp only [List.map_cons, List.sum_cons, List.length_cons]; omega
theorem small_of {x : VV} {ps : List PP} (h : largeP x ps = false) : Small x ps := by
  simp only [largeP, Bool.or_eq_false_iff, decide_eq_false_iff_not] at h
  obtain ⟨h1, h2⟩ := h
  have h1 : largeF x ps < 20000 := by omega
  have k := partsF_small ps _ h1
  have e : partsF (textsF 0 x.names + textsF 0 x.values + textsF 0 x.args) ps = largeF x ps := rfl
  rw [e] at k
  have a1 := textsF_small x.names 0 (by omega)
  have a2 := textsF_small x.values 0 (by omega)
  have a3 := textsF_small x.args 0 (by omega)
  have b1 := sum_len List.length x.names
  have b2 := sum_len List.length x.values
  have b3 := sum_len List.length x.args
  refine ⟨by omega, by omega, by omega, by omega, fun p hp => ?_, fun l hl => ?_, fun l hl => ?_⟩
  · have := sum_mem (fun p : PP => p.text.length + 1) hp
    omega
  · have := sum_mem (fun l : List Nat => l.length + 1) hl
    omega
  · have := sum_mem (fun l : List Nat => l.length + 1) hl
    omega

theorem getD_cases (L : List (List Nat)) (i : Nat) : L.getD i [] = [] ∨ L.getD i [] ∈ L := by
  by_cases h : i < L.length
  · right
    simp [List.getD, h]
  · left
    simp [List.getD, List.getElem?_eq_none (Nat.le_of_not_lt h)]
theorem getD_c1 {L M : List (List Nat)} {i : Nat} {X Y : List Nat} : L.getD i [] = X ∨ L.getD i [] = Y ∨ L.getD i [] = [] ∨ L.getD i [] ∈ L ∨ L.getD i [] ∈ M := by
  rcases getD_cases L i with h | h
  · exact .inr (.inr (.inl h))
  · exact .inr (.inr (.inr (.inl h)))
theorem getD_c2 {L M : List (List Nat)} {i : Nat} {X Y : List Nat} : L.getD i [] = X ∨ L.getD i [] = Y ∨ L.getD i [] = [] ∨ L.getD i [] ∈ M ∨ L.getD i [] ∈ L := by
  rcases getD_cases L i with h | h
  · exact .inr (.inr (.inl h))
  · exact .inr (.inr (.inr (.inr h)))
theorem valueL_cases (it : Int → List Nat) (v : VV) (n : List Nat) : valueL it v n = it v.args.length ∨ valueL it v n = it v.status ∨ valueL it v n = [] ∨ valueL it v n ∈ v.args ∨ valueL it v n ∈ v.values := by
  unfold valueL
  split
  · exact .inl rfl
  split
  · exact .inr (.inl rfl)
  split
  · split
    · exact getD_c1
    · split
      · exact getD_c2
      · exact .inr (.inr (.inl rfl))
  · split
    · exact getD_c2
    · exact .inr (.inr (.inl rfl))
theorem value_small {v : VV} (hv : v.Ok) {ps : List PP} (hs : Small v ps) (h1 : ∀ l ∈ v.values, Txt l) (h2 : ∀ l ∈ v.args, Txt l) (n : List Nat) : (valueL itoaN v n).length < 20000 ∧ Txt (valueL itoaN v n) := by
  have hit : ∀ k : Int, -9223372036854775808 ≤ k → k ≤ 9223372036854775807 → (itoaN k).length < 20000 ∧ Txt (itoaN k) := fun k a b => by
    have := itoaN_len a b
    exact ⟨by omega, fun c hc => itoaN_lt hc, by omega⟩
  rcases valueL_cases itoaN v n with h | h | h | h | h
  · rw [h]; exact hit _ (by omega) (by have := hs.a; omega)
  · rw [h]; exact hit _ hv.s0 hv.s1
  · rw [h]; exact ⟨by simp, by simp, by simp⟩
  · exact ⟨hs.ax _ h, h2 _ h⟩
  · exact ⟨hs.vx _ h, h1 _ h⟩
theorem part_small {v : VV} (hv : v.Ok) {ps : List PP} (hs : Small v ps) (h1 : ∀ l ∈ v.values, Txt l) (h2 : ∀ l ∈ v.args, Txt l) (h3 : ∀ p ∈ ps, Txt p.text) {p : PP} (hp : p ∈ ps) : (partL itoaN v p).length < 20000 ∧ Txt (partL itoaN v p) := by
  unfold partL
  split
  · exact value_small hv hs h1 h2 _
  · exact ⟨hs.tx p hp, h3 p hp⟩
theorem quo_part (v : VV) (p : PP) : partL itoaN v (quo p) = partL itoaN v p := rfl
theorem nb_len (l : List Nat) : (nb l).length ≤ l.length := List.length_filter_le _ _
theorem bare_part {v : VV} (hv : v.Ok) {ps : List PP} (hs : Small v ps) (h1 : ∀ l ∈ v.values, Txt l) (h2 : ∀ l ∈ v.args, Txt l) (h3 : ∀ p ∈ ps, Txt p.text) {p : PP} (hp : p ∈ ps) : (partL itoaN v (bare p)).length < 20000 ∧ Txt (partL itoaN v (bare p)) := by
  obtain ⟨pv, pt, pq⟩ := p
  cases pv with
  | true => exact value_small hv hs h1 h2 _
  | false =>
    have e : partL itoaN v (bare ⟨false, pt, pq⟩) = nb pt := rfl
    rw [e]
    have k1 := hs.tx _ hp
    have k2 := h3 _ hp
    have k3 := nb_len pt
    exact ⟨by simp only at k1; omega, fun n hn => k2.lt n (List.mem_filter.1 hn).1, by have := k2.len; simp only at this; omega⟩
theorem szF_le (v : VV) (n : Nat) : ∀ ps : List PP, (∀ p ∈ ps, (partL itoaN v p).length < n) → szF itoaN v ps ≤ ps.length * n
  | [], _ => by simp [szF]
  | p :: ps, h => by
    have h1 := szF_le v n ps fun q hq => h q (by simp [hq])
    have h2 := h p (by simp)
    rw [szF_cons, List.length_cons, Nat.succ_mul]
    omega

end Go.Proofs.YtfpoihibfajhlaaDoor

/-
  The law ExpandKeeps on the abstract machine.
-/
set_option maxRecDepth 100000
set_option linter.unusedSimpArgs false
set_option linter.constructorNameAsVariable false
namespace Go.Proofs.YtfpoihibfajhlaaDoor
open Go.Proofs.YtfpoihibfajhlaaDoor.Am
attribute [local irreducible] W WO WE WQ WD Tr.get Tr.set

theorem large_nil (x : VV) (hx : x.Ok) (s : St) : (lim prog).call f_touchstonelaw05_large [x.av, .nsl] s = some (.b (largeP x []), s) := by
  have := call_wk (args := [x.av, .nsl]) (args' := [x.av, partsA []]) (s := s) p_touchstonelaw05_large rfl rfl rfl (by simp [c_touchstonelaw05_large, wkZ, wk, wkM])
  rw [this]
  exact large_ok x hx [] (by simp) s
theorem still_V (x : VV) : still x.av = true := by
  simp only [still, List.all_cons, List.all_nil, noTok, pubL, pubC_ws, pubC_i, beqAL, beqA, beqAL_strs]
  simp
theorem bs_leq (x y : List Nat) : Am.binOp .leq (.s x) (.s y) = some (.b (ltN x y || beqN x y)) := by simp [Am.binOp, strOp]
theorem keeps_loop {s q : St} {n : En} {R : List RA} {B : List (Nat × Box)} {K : List (List Nat)} {a b c : AV} {iw : Nat} {e : Tr} (H : Hp s q n R ((iw, .cells 28 [tx K, a, b, c]) :: B))
    (hA : ∀ {i : Nat} {a b : List Nat}, K[i]? = some a → K[i + 1]? = some b → (ltN b a || beqN b a) = false) (hl : K.length < 2 ^ 62) (g10 : e.get 10 = .p iw 0) (g12 : e.get 12 = .i .i64 1) {Q : Ex → Tr → St → Prop} (k : ∀ e', Q (.x 0) e' q) :
    W (lim prog) (subC c_touchstonelaw05_ExpandKeeps.body [1, 1, 1, 1, 1, 1, 0, 1, 0]) e q Q := by
  have l0 := H.ld 0 (off := 0) rfl rfl
  simp only [c_touchstonelaw05_ExpandKeeps, subC]
  refine W_loop (fun n e q' => q' = q ∧ e.get 10 = .p iw 0 ∧ ∃ i : Nat, i + 1 ≤ max K.length 1 ∧ i + n = K.length ∧ e.get 12 = .i .i64 ((i + 1 : Nat) : Int)) ?_ K.length _ _ ?_
  · rintro n e q' ⟨rfl, g10, i, hi, hin, g12⟩
    by_cases h : i + 1 < K.length
    · have e1 : (((i + 1 : Nat) : Int) < (K.length : Int)) = True := by simp only [eq_iff_iff, iff_true]; omega
      obtain ⟨x, hx⟩ : ∃ x, K[i]? = some x := ⟨_, List.getElem?_eq_getElem (by omega)⟩
      obtain ⟨y, hy⟩ : ∃ y, K[i + 1]? = some y := ⟨_, List.getElem?_eq_getElem h⟩
      have hx2 : (K.map AV.s)[i]? = some (.s x) := by rw [List.getElem?_map, hx]; rfl
      have hy2 : (K.map AV.s)[i + 1]? = some (.s y) := by rw [List.getElem?_map, hy]; rfl
      have hs : IntKind.i64.wrap (((i + 1 : Nat) : Int) - 1) = (i : Int) := by
        rw [show ((i + 1 : Nat) : Int) - 1 = (i : Int) by omega]; exact wrap_nat (by omega)
      have hw1 := wrap_succ (show i + 1 + 1 < 2 ^ 63 by omega)
      simp only [go_sem, KB_n, KB_x, Nat.reduceBEq, Nat.reduceAdd, Nat.reduceLT, Nat.reduceLeDiff, Nat.reduceEqDiff, reduceIte, Int.reduceEq, reduceCtorEq, g10, g12, l0, e1, List.length_map, Nat.zero_add, natOf_nat, hy2, hs, hx2, cells_s, ldA_1, bs_leq, hA hx hy, hw1]
      exact ⟨n - 1, by omega, i + 1, by omega, by omega, rfl⟩
    · have e1 : (((i + 1 : Nat) : Int) < (K.length : Int)) = False := by simp only [eq_iff_iff, iff_false]; omega
      simp only [go_sem, KB_n, KB_x, Nat.reduceBEq, Nat.reduceAdd, Nat.reduceLT, Nat.reduceLeDiff, Nat.reduceEqDiff, reduceIte, Int.reduceEq, reduceCtorEq, g10, g12, l0, e1, List.length_map, Nat.zero_add]
      exact k _
  · exact ⟨rfl, g10, 0, by omega, by omega, g12⟩
theorem keeps_ok (x : VV) (hx : x.Ok) (hn : ∀ l ∈ x.names, Txt l) (name value other : List Nat) (h1 : Txt name) (h2 : Txt value) (h3 : Txt other) (s : St) (hw : Wf s) :
    (lim prog).call f_touchstonelaw05_ExpandKeeps [x.av, .s name, .s value, .s other] s = some (.b true, s) := by
  refine fn_W p_touchstonelaw05_ExpandKeeps rfl rfl ?_
  have H1 := (Hp.begin hw).new (.cells 24 x.cells)
  generalize hq : s.enter.new (.cells 24 x.cells) = q at H1
  generalize hm : s.enter.nb = m at H1
  have l1 := H1.ldw 0 (m := 4) rfl rfl
  have hworks := fun s hw => works_ok s hw
  have hwk := works_ok q H1.wf
  have hlg := large_nil x hx q
  have big : ∀ (b : Bool), b = true → KR s [.id] (.b true) (some ([.b true], q)) := fun _ _ => KR_some H1.over rfl rfl
  cases c1 : largeP x [] with
  | true =>
    rw [c1] at hlg
    simp only [c_touchstonelaw05_ExpandKeeps, go_sem, KB_n, KB_x, Nat.reduceBEq, Nat.reduceAdd, Nat.reduceLT, Nat.reduceLeDiff, Nat.reduceEqDiff, reduceIte, Int.reduceEq, reduceCtorEq, hq, hm, hwk, l1, hlg]
    exact KR_some H1.over rfl rfl
  | false =>
  rw [c1] at hlg
  by_cases c2 : 1000 < name.length
  · have e2 : ((1000 : Int) < (name.length : Int)) = True := by simp only [eq_iff_iff, iff_true]; omega
    simp only [c_touchstonelaw05_ExpandKeeps, go_sem, KB_n, KB_x, Nat.reduceBEq, Nat.reduceAdd, Nat.reduceLT, Nat.reduceLeDiff, Nat.reduceEqDiff, reduceIte, Int.reduceEq, reduceCtorEq, hq, hm, hwk, l1, hlg, e2]
    exact KR_some H1.over rfl rfl
  have e2 : ((1000 : Int) < (name.length : Int)) = False := by simp only [eq_iff_iff, iff_false]; omega
  by_cases c3 : 5000 < value.length
  · have e3 : ((5000 : Int) < (value.length : Int)) = True := by simp only [eq_iff_iff, iff_true]; omega
    simp only [c_touchstonelaw05_ExpandKeeps, go_sem, KB_n, KB_x, Nat.reduceBEq, Nat.reduceAdd, Nat.reduceLT, Nat.reduceLeDiff, Nat.reduceEqDiff, reduceIte, Int.reduceEq, reduceCtorEq, hq, hm, hwk, l1, hlg, e2, e3]
    exact KR_some H1.over rfl rfl
  have e3 : ((5000 : Int) < (value.length : Int)) = False := by simp only [eq_iff_iff, iff_false]; omega
  by_cases c4 : 1000 < other.length
  · have e4 : ((1000 : Int) < (other.length : Int)) = True := by simp only [eq_iff_iff, iff_true]; omega
    simp only [c_touchstonelaw05_ExpandKeeps, go_sem, KB_n, KB_x, Nat.reduceBEq, Nat.reduceAdd, Nat.reduceLT, Nat.reduceLeDiff, Nat.reduceEqDiff, reduceIte, Int.reduceEq, reduceCtorEq, hq, hm, hwk, l1, hlg, e2, e3, e4]
    exact KR_some H1.over rfl rfl
  have e4 : ((1000 : Int) < (other.length : Int)) = False := by simp only [eq_iff_iff, iff_false]; omega
  have hS := small_of c1
  have hSn := hS.n
  have hSa := hS.a
  have hSw := hS.w
  have hgiven := given_ok x (by omega) (by omega) (by omega) q H1.wf
  have H2 := H1.new (.cells 28 noV0)
  generalize hq2 : q.new (.cells 28 noV0) = q2 at H2
  generalize hi : q.nb = iv at H2
  obtain ⟨q3, d3, H3, _⟩ := H2.stw 0 (v := x.av) (m := 4) rfl rfl ⟨rfl, rfl⟩
  have l3 := H3.ldw 0 (m := 4) rfl rfl
  have hset := set_ok x hx (by omega) (by omega) name value h1 hn (by omega) q3 H3.wf
  have H4 := H3.new (.cells 28 noV0)
  generalize hq4 : q3.new (.cells 28 noV0) = q4 at H4
  generalize hiw : q3.nb = iw at H4
  obtain ⟨q5, d5, H5, _⟩ := H4.stw 0 (v := (setR x name value).av) (m := 4) rfl rfl ⟨rfl, rfl⟩
  by_cases c5 : setE name value = 0
  · have e5 : setR x name value = setV x name value := by simp [setR, c5]
    rw [e5] at d5 H5 hset
    rw [c5] at hset
    have hnm : isNameN name = true := by
      cases h : isNameN name with
      | true => rfl
      | false => rw [setE, if_pos h] at c5; cases c5
    have hall : ∀ l ∈ x.names ++ [name], ∀ n ∈ l, n < 256 := fun l hl => by
      rcases List.mem_append.1 hl with hl | hl
      · exact (hn l hl).lt
      · rw [List.mem_singleton.1 hl]; exact h1.lt
    have hKl := setK_len x name
    have hwo : (setV x name value).Ok := ⟨by show (setK x name).length < _; omega, by show ((setK x name).map _).length < _; rw [List.length_map]; omega, hx.a, hx.s0, hx.s1⟩
    have va := value_ok itoaN itoa_ok (setV x name value) hwo name h1 q5
    have vb := value_ok itoaN itoa_ok (setV x name value) hwo other h3 q5
    have vc := value_ok itoaN itoa_ok x hx other h3 q5
    rw [keep_name hall itoaN hnm] at va
    have l5 := H5.ldw 0 (m := 4) rfl rfl
    have l6 := H5.ldw 1 (m := 4) rfl rfl
    have l7 := H5.ld 0 (off := 0) rfl rfl
    have l8 := H5.ld 0 (off := 1) rfl rfl
    have e7 : (value ≠ value) = False := by simp
    have e8 : (((0 : Nat) : Int) ≠ 0) = False := by simp
    have hA := @setK_asc x name
    have hlen : (setV x name value).values.length = (setV x name value).names.length := List.length_map _
    have e9 : ((((setV x name value).names.map AV.s).length : Int) ≠ (((setV x name value).values.map AV.s).length : Int)) = False := by simp [hlen]
    have hK : (setV x name value).names = setK x name := rfl
    have hKl2 : (setK x name).length < 2 ^ 62 := by omega
    by_cases c6 : other = name
    · have e6 : (other ≠ name) = False := by simp [c6]
      simp only [c_touchstonelaw05_ExpandKeeps, go_sem, KB_n, KB_x, Nat.reduceBEq, Nat.reduceAdd, Nat.reduceLT, Nat.reduceLeDiff, Nat.reduceEqDiff, reduceIte, Int.reduceEq, reduceCtorEq, hq, hm, hwk, l1, hlg, e2, e3, e4, hgiven, hq2, hi, d3, l3, hset, hq4, hiw, d5, e8]
      refine W_regE rfl ?_
      simp only [go_sem, KB_n, KB_x, Nat.reduceBEq, Nat.reduceAdd, Nat.reduceLT, Nat.reduceLeDiff, Nat.reduceEqDiff, reduceIte, Int.reduceEq, reduceCtorEq, l5, va, e6, e7, l7, l8, Nat.zero_add, e9]
      refine KW_skip rfl (b := false) ?_ rfl ⟨_, rfl⟩ (KW_end ?_)
      · simp only [go_sem, KB_n, KB_x, Nat.reduceBEq, Nat.reduceAdd, Nat.reduceLT, Nat.reduceLeDiff, Nat.reduceEqDiff, reduceIte, Int.reduceEq, reduceCtorEq]
      simp only [go_sem, KB_n, KB_x, Nat.reduceBEq, Nat.reduceAdd, Nat.reduceLT, Nat.reduceLeDiff, Nat.reduceEqDiff, reduceIte, Int.reduceEq, reduceCtorEq, e9]
      refine keeps_loop H5 (fun h1 h2 => hA h1 h2) hKl2 ?_ ?_ ?_
      · simp only [go_sem, KB_n, KB_x, Nat.reduceBEq, Nat.reduceAdd, Nat.reduceLT, Nat.reduceLeDiff, Nat.reduceEqDiff, reduceIte, Int.reduceEq, reduceCtorEq]
      · simp only [go_sem, KB_n, KB_x, Nat.reduceBEq, Nat.reduceAdd, Nat.reduceLT, Nat.reduceLeDiff, Nat.reduceEqDiff, reduceIte, Int.reduceEq, reduceCtorEq]
      · intro e'
        simp only [go_sem, KB_n, KB_x, Nat.reduceBEq, Nat.reduceAdd, Nat.reduceLT, Nat.reduceLeDiff, Nat.reduceEqDiff, reduceIte, Int.reduceEq, reduceCtorEq]
        exact KR_some H5.over rfl rfl
    · have e6 : (other ≠ name) = True := by simp [c6]
      have e10 := keep_other hall itoaN (value := value) c6
      rw [e10] at vb
      have e11 : (valueL itoaN x other ≠ valueL itoaN x other) = False := by simp
      simp only [c_touchstonelaw05_ExpandKeeps, go_sem, KB_n, KB_x, Nat.reduceBEq, Nat.reduceAdd, Nat.reduceLT, Nat.reduceLeDiff, Nat.reduceEqDiff, reduceIte, Int.reduceEq, reduceCtorEq, hq, hm, hwk, l1, hlg, e2, e3, e4, hgiven, hq2, hi, d3, l3, hset, hq4, hiw, d5, e8]
      refine W_regE rfl ?_
      simp only [go_sem, KB_n, KB_x, Nat.reduceBEq, Nat.reduceAdd, Nat.reduceLT, Nat.reduceLeDiff, Nat.reduceEqDiff, reduceIte, Int.reduceEq, reduceCtorEq, l5, l6, va, vb, vc, e6, e7, l7, l8, Nat.zero_add, e9, e11]
      refine KW_ldG rfl ?_ ?_ ⟨⟨_, rfl, l6⟩, ⟨_, rfl, l6⟩, ⟨_, rfl, l6⟩, trivial⟩ (KW_end ?_)
      · simp only [go_sem, KB_n, KB_x, Nat.reduceBEq, Nat.reduceAdd, Nat.reduceLT, Nat.reduceLeDiff, Nat.reduceEqDiff, reduceIte, Int.reduceEq, reduceCtorEq]
      · exact still_V x
      simp only [go_sem, KB_n, KB_x, Nat.reduceBEq, Nat.reduceAdd, Nat.reduceLT, Nat.reduceLeDiff, Nat.reduceEqDiff, reduceIte, Int.reduceEq, reduceCtorEq, e9]
      refine keeps_loop H5 (fun h1 h2 => hA h1 h2) hKl2 ?_ ?_ ?_
      · simp only [go_sem, KB_n, KB_x, Nat.reduceBEq, Nat.reduceAdd, Nat.reduceLT, Nat.reduceLeDiff, Nat.reduceEqDiff, reduceIte, Int.reduceEq, reduceCtorEq]
      · simp only [go_sem, KB_n, KB_x, Nat.reduceBEq, Nat.reduceAdd, Nat.reduceLT, Nat.reduceLeDiff, Nat.reduceEqDiff, reduceIte, Int.reduceEq, reduceCtorEq]
      · intro e'
        simp only [go_sem, KB_n, KB_x, Nat.reduceBEq, Nat.reduceAdd, Nat.reduceLT, Nat.reduceLeDiff, Nat.reduceEqDiff, reduceIte, Int.reduceEq, reduceCtorEq]
        exact KR_some H5.over rfl rfl
  · have e5 : setR x name value = noV := by simp [setR, c5]
    have e6 : (((setE name value : Nat) : Int) ≠ 0) = True := by simp only [eq_iff_iff, iff_true]; omega
    rw [e5] at d5 H5 hset
    have l5 := H5.ld 0 (off := 0) rfl rfl
    simp only [c_touchstonelaw05_ExpandKeeps, go_sem, KB_n, KB_x, Nat.reduceBEq, Nat.reduceAdd, Nat.reduceLT, Nat.reduceLeDiff, Nat.reduceEqDiff, reduceIte, Int.reduceEq, reduceCtorEq, hq, hm, hwk, l1, hlg, e2, e3, e4, hgiven, hq2, hi, d3, l3, hset, hq4, hiw, d5, e6, l5]
    exact KR_some H5.over rfl rfl
end Go.Proofs.YtfpoihibfajhlaaDoor
