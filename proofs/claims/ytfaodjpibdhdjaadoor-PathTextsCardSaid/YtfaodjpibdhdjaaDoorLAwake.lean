/-
  The law's examples, in whatever state; the law PathTexts.
-/
import Derived.Test.YtfaodjpibdhdjaaDoorLSame
import Derived.Test.YtfaodjpibdhdjaaDoorAmLaw
set_option linter.all false
set_option linter.unusedVariables false
set_option linter.unusedSimpArgs false
set_option linter.unusedSectionVars false
set_option maxRecDepth 100000
set_option linter.unusedSimpArgs false
set_option linter.constructorNameAsVariable false
namespace Go.Proofs.YtfaodjpibdhdjaaDoor
open Go.Proofs.YtfaodjpibdhdjaaDoor.Am

theorem call_wk {f : Nat} {fn : Fun} {args args' : List AV} {s : St} (hp : prog f = some fn) (hpr : fn.prim = none) (hl : args.length = args'.length) (hw : wkZ fn.cin args = wkZ fn.cin args') : (lim prog).call f args s = (lim prog).call f args' s := by
  rw [lim_call, lim_call]
  unfold callF
  simp only [hp, hpr, hl, hw]
theorem rowP_low {es t0 t1 T : Nat} {s : St} {a : AV} {xs : List AV} (h : RowP es t1 s T a xs) (ht : t0 ≤ t1) : RowP es t0 s T a xs := by
  rcases h with h | ⟨k, v, t, rfl, h1, h2⟩
  · exact .inl h
  · exact .inr ⟨k, v, t, rfl, by omega, h2⟩
/-- A row is told. -/
theorem rowP_pub {s0 q : St} {a : AV} {xs : List (List Nat)} (hw : Wf q) (hov : Over s0 q) (hr : RowP 1 s0.nt q 9 a (xs.map .s)) : ∃ a' q', pub q a = some (a', q') ∧ ((a' = .nsl ∧ xs = []) ∨ a' = .sl 1 (xs.map .s) .shut) ∧ Over s0 q' ∧ Wf q' := by
  rcases hr with ⟨rfl, h⟩ | ⟨k, vv, t, rfl, m1, m2, m3, m4, _⟩
  · exact ⟨.nsl, q, rfl, .inl ⟨rfl, by simpa using h⟩, hov, hw⟩
  · exact ⟨.sl 1 (xs.map .s) .shut, q.setTok k { t with pub := max t.pub (xs.map AV.s).length }, by simp only [pub, m3, m4, if_true], .inr rfl, Over.setTok hov m1 m2 _, hw.setTok _ _⟩

abbrev aw0 : List Nat := [47, 97, 47, 47, 46, 47, 98, 47, 46, 46]
theorem aw_steps : stepsL aw0 = [[97], [98], [46, 46]] := by rfl
theorem aw_clean : cleanL aw0 = [[97]] := by rfl
theorem aw_dir : dirP aw0 = true := by rfl
theorem aw_show : showP [[97], [98]] = [47, 97, 47, 98] := by rfl
theorem aw_u1 : undP [[97]] [[97], [98]] = true := by rfl
theorem aw_u2 : undP [[98]] [[97], [98]] = false := by rfl
theorem aw_less : lessP [[97]] [[97], [98]] = true := by rfl

theorem awake_all (s : St) (hw : Wf s) : (lim prog).call f_touchstonelaw06_awake [] s = some (.b true, s) := by
  refine fn_W p_touchstonelaw06_awake rfl rfl ?_
  have h0 : Txt aw0 := ⟨by decide, by decide⟩
  obtain ⟨r1, q1, c1, hr1, u1⟩ := pathSteps_K aw0 h0 (by decide) s.enter hw.enter
  rw [aw_steps] at hr1
  have ov1 : Over s q1 := u1.over s (Over.enter s)
  have hr1' : RowP 1 s.nt q1 9 r1 (([[97], [98], [46, 46]] : List (List Nat)).map .s) := hr1
  rcases thaw_rowP u1.wf ov1 hr1' with ⟨_, h, _⟩ | ⟨q2, ht, hb, w2, n2, t2, ov2⟩
  · simp at h
  have hs1 : (lim prog).call f_touchstoneref06_Same [.bl q1.nb 1 0 3 (3, false), .sl 1 [.s [97], .s [98], .s [46, 46]] .full] q2 = some (.b true, q2) := by
    refine (call_wk (args' := [.bl q1.nb 1 0 3 (3, false), tx [[97], [98], [46, 46]]]) p_touchstoneref06_Same rfl ?_ ?_).trans ?_
    · rfl
    · rfl
    exact same_bl hb (by decide) (3, false)
  have hd := dir_ok aw0 (by decide) q2
  rw [aw_dir] at hd
  obtain ⟨r3, q3, c3, hr3, u3⟩ := pathClean_K aw0 h0 (by decide) q2 w2
  rw [aw_clean] at hr3
  have ov3 : Over s q3 := u3.over s ov2
  have hr3' : RowP 1 s.nt q3 9 r3 (([[97]] : List (List Nat)).map .s) := rowP_low hr3 ov2.nt
  obtain ⟨a4, q4, e4, h4, ov4, w4⟩ := rowP_pub u3.wf ov3 hr3'
  have h4 : a4 = .sl 1 [.s [97]] .shut := by
    rcases h4 with ⟨_, h⟩ | h
    · simp at h
    · exact h
  subst h4
  have hs2 : (lim prog).call f_touchstoneref06_Same [.sl 1 [.s [97]] .shut, .sl 1 [.s [97]] .full] q4 = some (.b true, q4) := by
    refine (call_wk (args' := [tx [[97]], tx [[97]]]) p_touchstoneref06_Same rfl ?_ ?_).trans ?_
    · rfl
    · rfl
    rw [ref_same_ok [[97]] [[97]] (by decide) q4]; rfl
  have hsh : (lim prog).call f_path_Show [.sl 1 [.s [97], .s [98]] .full] q4 = some (.s [47, 97, 47, 98], q4) := by
    refine (call_wk (args' := [tx [[97], [98]]]) p_path_Show rfl ?_ ?_).trans ?_
    · rfl
    · rfl
    have := show_ok (L := [[97], [98]]) ⟨by decide, by decide⟩ q4
    rw [aw_show] at this
    exact this
  have hu1 : (lim prog).call f_path_Under [.sl 1 [.s [97]] .full, .sl 1 [.s [97], .s [98]] .full] q4 = some (.b true, q4) := by
    refine (call_wk (args' := [tx [[97]], tx [[97], [98]]]) p_path_Under rfl ?_ ?_).trans ?_
    · rfl
    · rfl
    have := under_ok [[97]] [[97], [98]] (by decide) q4
    rw [aw_u1] at this
    exact this
  have hu2 : (lim prog).call f_path_Under [.sl 1 [.s [98]] .full, .sl 1 [.s [97], .s [98]] .full] q4 = some (.b false, q4) := by
    refine (call_wk (args' := [tx [[98]], tx [[97], [98]]]) p_path_Under rfl ?_ ?_).trans ?_
    · rfl
    · rfl
    have := under_ok [[98]] [[97], [98]] (by decide) q4
    rw [aw_u2] at this
    exact this
  have hls : (lim prog).call f_path_Less [.sl 1 [.s [97]] .full, .sl 1 [.s [97], .s [98]] .full] q4 = some (.b true, q4) := by
    refine (call_wk (args' := [tx [[97]], tx [[97], [98]]]) p_path_Less rfl ?_ ?_).trans ?_
    · rfl
    · rfl
    have := less_ok [[97]] [[97], [98]] (by decide) q4
    rw [aw_less] at this
    exact this
  have l1 : ∀ a : List Nat, allLen 1 [AV.s a] = true := fun _ => rfl
  have l2 : ∀ a b : List Nat, allLen 1 [AV.s a, AV.s b] = true := fun _ _ => rfl
  have l3 : ∀ a b c : List Nat, allLen 1 [AV.s a, AV.s b, AV.s c] = true := fun _ _ _ => rfl
  have e4' : pub q3 r3 = some (.sl 1 [.s [97]] .shut, q4) := e4
  have ht' : thawA q1 r1 = some (.bl q1.nb 1 0 3 (3, false), q2) := ht
  simp only [c_touchstonelaw06_awake, W_seq, W_reg, W_cond, W_blk, W_skip, W_exit, W_ret, W_regD, WO_nil, WO_cons, WO_guard2, wantV_b, bq_tt, bq_ft, bq_tf, bq_ff, Bool.not_true, Bool.not_false, WD_nil, WD_cons, WD_guard2, WS_some, WS_none, KS_n, KS_x, KS_r, KB_n, KB_x, KB_r, KN_ap, KO_ap, KD_ap, KC_nil, KF_n, KF_r, KG_n, KG_r, KL_n, KL_x, KL_r, CP_true, CP_false, evOp, evX, X.ev, optX, put_some, put_none, get_set2, sel_t, sel_f, Nat.reduceBEq, Nat.reduceAdd, Nat.reduceLT, Nat.reduceLeDiff, Nat.reduceEqDiff, reduceIte, if_true, if_false, bi_add, bi_sub, bi_mul, bi_eql, bi_neq, bi_lss, bi_leq, bi_gtr, bi_geq, bs_eql, bs_neq, bs_lss, Am.unOp, ret1, pubL, pubC_agg, pubC_s, pubC_i, pubC_b, pubC_p, pubC_np, pubC_nsl, pubC_ws, pubC_full, pubC_shut, pubC_fn, pubA, initT, wkZ, wk, wants, resOf, tupOf, quiet, AOp.cls, Nat.beq_eq, Bool.or_eq_true, decide_true, decide_false, beq_self_eq_true, Bool.true_or, Bool.or_true, true_and, and_true, lenA, eqv, eqB, eqP, scal, new_box_self, List.getElem?_cons_zero, List.getElem?_cons_succ, key_ii, key_ss, findM, updM, esc_i, esc_s, esc_b, Int.reduceEq, ret1, new_nb, new_set, reduceCtorEq, Bool.xor_true, Bool.xor_false, Bool.false_eq_true, List.all_cons, List.all_nil, noTok, Bool.and_self, Bool.and_true, Bool.true_and, or_true, false_or, W_thw, c1, ht', pubC_bl, l1, l2, l3, hs1, hd, c3, e4', hs2, hsh, hu1, hu2, hls, eq_self]
  exact KR_some ov4 rfl rfl

theorem pathTexts_ok (l : List Nat) (hl : Txt l) (s : St) (hws : Wf s) : (lim prog).call f_touchstonelaw06_PathTexts [.s l] s = some (.b true, s) := by
  refine fn_W p_touchstonelaw06_PathTexts rfl rfl ?_
  have hw := hws.enter
  by_cases hbig : (2000 : Int) < (l.length : Int)
  · have ha := awake_all s.enter hw
    simp only [c_touchstonelaw06_PathTexts, W_seq, W_reg, W_cond, W_blk, W_skip, W_exit, W_ret, W_regD, WO_nil, WO_cons, WO_guard2, wantV_b, bq_tt, bq_ft, bq_tf, bq_ff, Bool.not_true, Bool.not_false, WD_nil, WD_cons, WD_guard2, WS_some, WS_none, KS_n, KS_x, KS_r, KB_n, KB_x, KB_r, KN_ap, KO_ap, KD_ap, KC_nil, KF_n, KF_r, KG_n, KG_r, KL_n, KL_x, KL_r, CP_true, CP_false, evOp, evX, X.ev, optX, put_some, put_none, get_set2, sel_t, sel_f, Nat.reduceBEq, Nat.reduceAdd, Nat.reduceLT, Nat.reduceLeDiff, Nat.reduceEqDiff, reduceIte, if_true, if_false, bi_add, bi_sub, bi_mul, bi_eql, bi_neq, bi_lss, bi_leq, bi_gtr, bi_geq, bs_eql, bs_neq, bs_lss, Am.unOp, ret1, pubL, pubC_agg, pubC_s, pubC_i, pubC_b, pubC_p, pubC_np, pubC_nsl, pubC_ws, pubC_full, pubC_shut, pubC_fn, pubA, initT, wkZ, wk, wants, resOf, tupOf, quiet, AOp.cls, Nat.beq_eq, Bool.or_eq_true, decide_true, decide_false, beq_self_eq_true, Bool.true_or, Bool.or_true, true_and, and_true, lenA, eqv, eqB, eqP, scal, new_box_self, List.getElem?_cons_zero, List.getElem?_cons_succ, key_ii, key_ss, findM, updM, esc_i, esc_s, esc_b, Int.reduceEq, ret1, new_nb, new_set, reduceCtorEq, Bool.xor_true, Bool.xor_false, Bool.false_eq_true, List.all_cons, List.all_nil, noTok, Bool.and_self, Bool.and_true, Bool.true_and, or_true, false_or, ofNat_len, hbig, ha]
    exact KR_some (Over.enter s) rfl rfl
  have hlen : l.length ≤ 2000 := by omega
  simp only [c_touchstonelaw06_PathTexts, W_seq, W_reg, W_cond, W_blk, W_skip, W_exit, W_ret, W_regD, WO_nil, WO_cons, WO_guard2, wantV_b, bq_tt, bq_ft, bq_tf, bq_ff, Bool.not_true, Bool.not_false, WD_nil, WD_cons, WD_guard2, WS_some, WS_none, KS_n, KS_x, KS_r, KB_n, KB_x, KB_r, KN_ap, KO_ap, KD_ap, KC_nil, KF_n, KF_r, KG_n, KG_r, KL_n, KL_x, KL_r, CP_true, CP_false, evOp, evX, X.ev, optX, put_some, put_none, get_set2, sel_t, sel_f, Nat.reduceBEq, Nat.reduceAdd, Nat.reduceLT, Nat.reduceLeDiff, Nat.reduceEqDiff, reduceIte, if_true, if_false, bi_add, bi_sub, bi_mul, bi_eql, bi_neq, bi_lss, bi_leq, bi_gtr, bi_geq, bs_eql, bs_neq, bs_lss, Am.unOp, ret1, pubL, pubC_agg, pubC_s, pubC_i, pubC_b, pubC_p, pubC_np, pubC_nsl, pubC_ws, pubC_full, pubC_shut, pubC_fn, pubA, initT, wkZ, wk, wants, resOf, tupOf, quiet, AOp.cls, Nat.beq_eq, Bool.or_eq_true, decide_true, decide_false, beq_self_eq_true, Bool.true_or, Bool.or_true, true_and, and_true, lenA, eqv, eqB, eqP, scal, new_box_self, List.getElem?_cons_zero, List.getElem?_cons_succ, key_ii, key_ss, findM, updM, esc_i, esc_s, esc_b, Int.reduceEq, ret1, new_nb, new_set, reduceCtorEq, Bool.xor_true, Bool.xor_false, Bool.false_eq_true, List.all_cons, List.all_nil, noTok, Bool.and_self, Bool.and_true, Bool.true_and, or_true, false_or, ofNat_len, hbig]
  refine W_loop (fun n e q => e.get 0 = .s l ∧ Over s q ∧ Wf q ∧ ∃ i : Nat, i + n = 2 ∧ e.get 3 = .i .i64 i) ?_ 2 _ _ ?_
  · rintro n e q ⟨g0, hov, hwq, i, hi, g3⟩
    simp only [W_seq, W_reg, W_cond, W_blk, W_skip, W_exit, W_ret, W_regD, WO_nil, WO_cons, WO_guard2, wantV_b, bq_tt, bq_ft, bq_tf, bq_ff, Bool.not_true, Bool.not_false, WD_nil, WD_cons, WD_guard2, WS_some, WS_none, KS_n, KS_x, KS_r, KB_n, KB_x, KB_r, KN_ap, KO_ap, KD_ap, KC_nil, KF_n, KF_r, KG_n, KG_r, KL_n, KL_x, KL_r, CP_true, CP_false, evOp, evX, X.ev, optX, put_some, put_none, get_set2, sel_t, sel_f, Nat.reduceBEq, Nat.reduceAdd, Nat.reduceLT, Nat.reduceLeDiff, Nat.reduceEqDiff, reduceIte, if_true, if_false, bi_add, bi_sub, bi_mul, bi_eql, bi_neq, bi_lss, bi_leq, bi_gtr, bi_geq, bs_eql, bs_neq, bs_lss, Am.unOp, ret1, pubL, pubC_agg, pubC_s, pubC_i, pubC_b, pubC_p, pubC_np, pubC_nsl, pubC_ws, pubC_full, pubC_shut, pubC_fn, pubA, initT, wkZ, wk, wants, resOf, tupOf, quiet, AOp.cls, Nat.beq_eq, Bool.or_eq_true, decide_true, decide_false, beq_self_eq_true, Bool.true_or, Bool.or_true, true_and, and_true, lenA, eqv, eqB, eqP, scal, new_box_self, List.getElem?_cons_zero, List.getElem?_cons_succ, key_ii, key_ss, findM, updM, esc_i, esc_s, esc_b, Int.reduceEq, ret1, new_nb, new_set, reduceCtorEq, Bool.xor_true, Bool.xor_false, Bool.false_eq_true, List.all_cons, List.all_nil, noTok, Bool.and_self, Bool.and_true, Bool.true_and, or_true, false_or, g0, g3]
    refine CP_dec (fun hlt => ?_) (fun hge => ?_)
    · obtain ⟨r1, q1, c1, hr1, u1⟩ := pathSteps_K l hl (by omega) q hwq
      have ov1 := u1.over s hov
      have hr1' : RowP 1 s.nt q1 9 r1 ((stepsL l).map .s) := rowP_low hr1 hov.nt
      have c2 := refSteps_ok l (by omega) q1 u1.wf
      obtain ⟨q2, c3, ov2, w2⟩ := lsame_ok u1.wf ov1 (by have := stepsL_len l; omega) hr1'
      obtain ⟨r3, q3, c4, hr3, u3⟩ := pathClean_K l hl (by omega) q2 w2
      have ov3 := u3.over s ov2
      have hr3' : RowP 1 s.nt q3 9 r3 ((cleanL l).map .s) := rowP_low hr3 ov2.nt
      have c5 := refClean_ok l (by omega) q3 u3.wf
      have hcl : (cleanL l).length ≤ l.length + 1 := by
        have h1 := foldl_len (stepsL l) []
        have h2 := stepsL_len l
        unfold cleanL
        simp only [List.length_nil, Nat.zero_add] at h1
        omega
      obtain ⟨q4, c6, ov4, w4⟩ := lsame_ok u3.wf ov3 (by omega) hr3'
      simp only [W_seq, W_reg, W_cond, W_blk, W_skip, W_exit, W_ret, W_regD, WO_nil, WO_cons, WO_guard2, wantV_b, bq_tt, bq_ft, bq_tf, bq_ff, Bool.not_true, Bool.not_false, WD_nil, WD_cons, WD_guard2, WS_some, WS_none, KS_n, KS_x, KS_r, KB_n, KB_x, KB_r, KN_ap, KO_ap, KD_ap, KC_nil, KF_n, KF_r, KG_n, KG_r, KL_n, KL_x, KL_r, CP_true, CP_false, evOp, evX, X.ev, optX, put_some, put_none, get_set2, sel_t, sel_f, Nat.reduceBEq, Nat.reduceAdd, Nat.reduceLT, Nat.reduceLeDiff, Nat.reduceEqDiff, reduceIte, if_true, if_false, bi_add, bi_sub, bi_mul, bi_eql, bi_neq, bi_lss, bi_leq, bi_gtr, bi_geq, bs_eql, bs_neq, bs_lss, Am.unOp, ret1, pubL, pubC_agg, pubC_s, pubC_i, pubC_b, pubC_p, pubC_np, pubC_nsl, pubC_ws, pubC_full, pubC_shut, pubC_fn, pubA, initT, wkZ, wk, wants, resOf, tupOf, quiet, AOp.cls, Nat.beq_eq, Bool.or_eq_true, decide_true, decide_false, beq_self_eq_true, Bool.true_or, Bool.or_true, true_and, and_true, lenA, eqv, eqB, eqP, scal, new_box_self, List.getElem?_cons_zero, List.getElem?_cons_succ, key_ii, key_ss, findM, updM, esc_i, esc_s, esc_b, Int.reduceEq, ret1, new_nb, new_set, reduceCtorEq, Bool.xor_true, Bool.xor_false, Bool.false_eq_true, List.all_cons, List.all_nil, noTok, Bool.and_self, Bool.and_true, Bool.true_and, or_true, false_or, g0, g3, c1, c2, c3, c4, c5, c6, wrap_succ (show i + 1 < 2 ^ 63 by omega)]
      exact ⟨n - 1, by omega, ov4, w4, i + 1, by omega, rfl⟩
    · have d1 := pathLast_ok l hl (by omega) q hwq
      have d2 := refLast_ok l (by omega) q hwq
      have d3 := name_ok l hl q hwq
      have d4 := refName_ok l (by omega) q
      have d5 := dir_ok l (by omega) q
      have d6 := refDir_ok l (by omega) q hwq
      have d7 := pathCheck_ok l hl (by omega) q hwq
      have d8 := refCheck_ok l (by omega) q hwq
      have ha := awake_all q hwq
      have hbb : ∀ b : Bool, (b == b) = true := fun b => by cases b <;> rfl
      have hL : ∃ x b, LastR l = .tup [.s x, .b b] := by
        unfold LastR
        split
        · exact ⟨_, _, rfl⟩
        · exact ⟨_, _, rfl⟩
      obtain ⟨x, b, hx⟩ := hL
      rw [hx] at d1 d2
      simp only [W_seq, W_reg, W_cond, W_blk, W_skip, W_exit, W_ret, W_regD, WO_nil, WO_cons, WO_guard2, wantV_b, bq_tt, bq_ft, bq_tf, bq_ff, Bool.not_true, Bool.not_false, WD_nil, WD_cons, WD_guard2, WS_some, WS_none, KS_n, KS_x, KS_r, KB_n, KB_x, KB_r, KN_ap, KO_ap, KD_ap, KC_nil, KF_n, KF_r, KG_n, KG_r, KL_n, KL_x, KL_r, CP_true, CP_false, evOp, evX, X.ev, optX, put_some, put_none, get_set2, sel_t, sel_f, Nat.reduceBEq, Nat.reduceAdd, Nat.reduceLT, Nat.reduceLeDiff, Nat.reduceEqDiff, reduceIte, if_true, if_false, bi_add, bi_sub, bi_mul, bi_eql, bi_neq, bi_lss, bi_leq, bi_gtr, bi_geq, bs_eql, bs_neq, bs_lss, Am.unOp, ret1, pubL, pubC_agg, pubC_s, pubC_i, pubC_b, pubC_p, pubC_np, pubC_nsl, pubC_ws, pubC_full, pubC_shut, pubC_fn, pubA, initT, wkZ, wk, wants, resOf, tupOf, quiet, AOp.cls, Nat.beq_eq, Bool.or_eq_true, decide_true, decide_false, beq_self_eq_true, Bool.true_or, Bool.or_true, true_and, and_true, lenA, eqv, eqB, eqP, scal, new_box_self, List.getElem?_cons_zero, List.getElem?_cons_succ, key_ii, key_ss, findM, updM, esc_i, esc_s, esc_b, Int.reduceEq, ret1, new_nb, new_set, reduceCtorEq, Bool.xor_true, Bool.xor_false, Bool.false_eq_true, List.all_cons, List.all_nil, noTok, Bool.and_self, Bool.and_true, Bool.true_and, or_true, false_or, g0, d1, d2, d3, d4, d5, d6, d7, d8, hbb, eq_self, ha]
      exact KR_some hov rfl rfl
  · simp only [W_seq, W_reg, W_cond, W_blk, W_skip, W_exit, W_ret, W_regD, WO_nil, WO_cons, WO_guard2, wantV_b, bq_tt, bq_ft, bq_tf, bq_ff, Bool.not_true, Bool.not_false, WD_nil, WD_cons, WD_guard2, WS_some, WS_none, KS_n, KS_x, KS_r, KB_n, KB_x, KB_r, KN_ap, KO_ap, KD_ap, KC_nil, KF_n, KF_r, KG_n, KG_r, KL_n, KL_x, KL_r, CP_true, CP_false, evOp, evX, X.ev, optX, put_some, put_none, get_set2, sel_t, sel_f, Nat.reduceBEq, Nat.reduceAdd, Nat.reduceLT, Nat.reduceLeDiff, Nat.reduceEqDiff, reduceIte, if_true, if_false, bi_add, bi_sub, bi_mul, bi_eql, bi_neq, bi_lss, bi_leq, bi_gtr, bi_geq, bs_eql, bs_neq, bs_lss, Am.unOp, ret1, pubL, pubC_agg, pubC_s, pubC_i, pubC_b, pubC_p, pubC_np, pubC_nsl, pubC_ws, pubC_full, pubC_shut, pubC_fn, pubA, initT, wkZ, wk, wants, resOf, tupOf, quiet, AOp.cls, Nat.beq_eq, Bool.or_eq_true, decide_true, decide_false, beq_self_eq_true, Bool.true_or, Bool.or_true, true_and, and_true, lenA, eqv, eqB, eqP, scal, new_box_self, List.getElem?_cons_zero, List.getElem?_cons_succ, key_ii, key_ss, findM, updM, esc_i, esc_s, esc_b, Int.reduceEq, ret1, new_nb, new_set, reduceCtorEq, Bool.xor_true, Bool.xor_false, Bool.false_eq_true, List.all_cons, List.all_nil, noTok, Bool.and_self, Bool.and_true, Bool.true_and, or_true, false_or]
    exact ⟨Over.enter s, hw, 0, by omega, rfl⟩
end Go.Proofs.YtfaodjpibdhdjaaDoor
