/-
  The law ExpandSplits on the abstract machine.
-/
import Derived.Test.YtfpoihibfajhlaaDoorLExpand7
set_option linter.all false
set_option linter.unusedVariables false
set_option linter.unusedSimpArgs false
set_option linter.unusedSectionVars false
set_option maxRecDepth 100000
set_option linter.unusedSimpArgs false
set_option linter.constructorNameAsVariable false
namespace Go.Proofs.YtfpoihibfajhlaaDoor
open Go.Proofs.YtfpoihibfajhlaaDoor.Am

theorem natOf_nat0 : natOf (.i .i64 0) = some 0 := rfl
theorem beq_s (l : List Nat) : beqA (.s l) (.s l) = true := by simp only [beqA, beqN_refl]
theorem wantV_undef : wantV Am.undef false = .b false := rfl
theorem putL_len : ∀ L : List (List Nat), (putL L).length = L.flatten.length + L.length
  | [] => rfl
  | l :: L => by
    have := putL_len L
    simp only [putL, List.map_cons, List.flatten_cons, List.length_append, List.length_cons] at this ⊢
    omega
theorem putL_append (a b : List (List Nat)) : putL (a ++ b) = putL a ++ putL b := by simp only [putL, List.map_append, List.flatten_append]
theorem putL_one (l : List Nat) : putL [l] = 32 :: l := by simp [putL]
theorem elems_one {s : St} (a : AV) : elems s 3 (.sl 3 [a] .full) = some [a] := by simp [elems, St.ok]
theorem al3_1 (a b c : Bool) (l : List Nat) : allLen 3 [AV.agg [.b a, .s l, .b b]] = true := rfl

set_option maxHeartbeats 4000000 in
theorem splits_ok (x : VV) (hx : x.Ok) (ps : List PP) (hp : ∀ p ∈ ps, Txt p.text) (hv : ∀ l ∈ x.values, Txt l) (ha : ∀ l ∈ x.args, Txt l) (hlen : ps.length < 2 ^ 63) (s : St) (hw : Wf s) :
    (lim prog).call f_touchstonelaw05_ExpandSplits [x.av, partsA ps] s = some (.b true, s) := by
  refine fn_W p_touchstonelaw05_ExpandSplits rfl rfl ?_
  obtain ⟨s1, hs1⟩ : ∃ s1, s.enter.new (.cells 24 x.cells) = s1 := ⟨_, rfl⟩
  have w1 : Wf s1 := by rw [← hs1]; exact hw.enter.new _
  have ov1 : Over s s1 := by rw [← hs1]; exact (Over.enter s).new _
  have hb1 : s1.box? s.enter.nb = some (.cells 24 x.cells) := by rw [← hs1]; exact new_box_self _ _
  have hla1 : ldA s1 true 4 (.p s.enter.nb 0) = some x.av := ld_all4 hb1
  have hworks := works_ok s1 w1
  have hlarge := large_ok x hx ps hlen s1
  cases hL : largeP x ps with
  | true =>
    rw [hL] at hlarge
    simp only [c_touchstonelaw05_ExpandSplits, W_seq, W_reg, W_cond, W_blk, W_skip, W_exit, W_ret, W_regD, WO_nil, WO_cons, WO_guard2, wantV_b, bq_tt, bq_ft, bq_tf, bq_ff, Bool.not_true, Bool.not_false, WD_nil, WD_cons, WD_guard2, WS_some, WS_none, KS_n, KS_x, KS_r, KB_n, KB_x, KB_r, KN_ap, KO_ap, KD_ap, KC_nil, KF_n, KF_r, KG_n, KG_r, KL_n, KL_x, KL_r, CP_true, CP_false, evOp, evX, X.ev, optX, put_some, put_none, get_set2, sel_t, sel_f, Nat.reduceBEq, Nat.reduceAdd, Nat.reduceLT, Nat.reduceLeDiff, Nat.reduceEqDiff, reduceIte, if_true, if_false, bi_add, bi_sub, bi_mul, bi_eql, bi_neq, bi_lss, bi_leq, bi_gtr, bi_geq, bs_eql, bs_neq, bs_lss, Am.unOp, ret1, pubL, pub, pubA, initT, wkZ, wk, wants, resOf, tupOf, quiet, AOp.cls, Nat.beq_eq, Bool.or_eq_true, decide_true, decide_false, beq_self_eq_true, Bool.true_or, Bool.or_true, true_and, and_true, lenA, eqv, eqB, eqP, scal, new_box_self, List.getElem?_cons_zero, List.getElem?_cons_succ, key_ii, key_ss, findM, updM, esc_i, esc_s, esc_b, Int.reduceEq, ret1, new_nb, new_set, reduceCtorEq, Bool.xor_true, Bool.xor_false, Bool.false_eq_true, List.all_cons, List.all_nil, noTok, Bool.and_self, Bool.and_true, Bool.true_and, cells_agg, len4, hs1, hworks, hla1, hlarge]
    exact KR_some ov1 rfl rfl
  | false =>
  rw [hL] at hlarge
  have hS := small_of hL
  have hgiven := given_ok x (by have := hS.n; omega) (by have := hS.w; omega) (by have := hS.a; omega) s1 w1
  have est := st4_new (s := s1.new (.cells 28 [.nsl, .nsl, .nsl, .i .i64 0])) (new_box_self s1 _) (tx x.names) (tx x.values) (tx x.args) (.i .i64 x.status) rfl (by simp [AV.refs.go, AV.refs, refs_s])
  rw [new_set] at est
  obtain ⟨s2, hs2⟩ : ∃ s2, s1.new (.cells 28 x.cells) = s2 := ⟨_, rfl⟩
  rw [hs2] at est
  obtain ⟨idv, hidv⟩ : ∃ k, s1.nb = k := ⟨_, rfl⟩
  rw [hidv] at est
  have w2 : Wf s2 := by rw [← hs2]; exact w1.new _
  have ov2 : Over s s2 := by rw [← hs2]; exact ov1.new _
  have hb2 : s2.box? idv = some (.cells 28 x.cells) := by rw [← hs2, ← hidv]; exact new_box_self _ _
  have hidv2 : idv < s2.nb := by rw [← hs2, ← hidv]; show s1.nb < s1.nb + 1; omega
  have hsidv : s.nb ≤ idv := by rw [← hidv]; exact ov1.nb
  simp only [c_touchstonelaw05_ExpandSplits, W_seq, W_reg, W_cond, W_blk, W_skip, W_exit, W_ret, W_regD, WO_nil, WO_cons, WO_guard2, wantV_b, bq_tt, bq_ft, bq_tf, bq_ff, Bool.not_true, Bool.not_false, WD_nil, WD_cons, WD_guard2, WS_some, WS_none, KS_n, KS_x, KS_r, KB_n, KB_x, KB_r, KN_ap, KO_ap, KD_ap, KC_nil, KF_n, KF_r, KG_n, KG_r, KL_n, KL_x, KL_r, CP_true, CP_false, evOp, evX, X.ev, optX, put_some, put_none, get_set2, sel_t, sel_f, Nat.reduceBEq, Nat.reduceAdd, Nat.reduceLT, Nat.reduceLeDiff, Nat.reduceEqDiff, reduceIte, if_true, if_false, bi_add, bi_sub, bi_mul, bi_eql, bi_neq, bi_lss, bi_leq, bi_gtr, bi_geq, bs_eql, bs_neq, bs_lss, Am.unOp, ret1, pubL, pub, pubA, initT, wkZ, wk, wants, resOf, tupOf, quiet, AOp.cls, Nat.beq_eq, Bool.or_eq_true, decide_true, decide_false, beq_self_eq_true, Bool.true_or, Bool.or_true, true_and, and_true, lenA, eqv, eqB, eqP, scal, new_box_self, List.getElem?_cons_zero, List.getElem?_cons_succ, key_ii, key_ss, findM, updM, esc_i, esc_s, esc_b, Int.reduceEq, ret1, new_nb, new_set, reduceCtorEq, Bool.xor_true, Bool.xor_false, Bool.false_eq_true, List.all_cons, List.all_nil, noTok, Bool.and_self, Bool.and_true, Bool.true_and, cells_agg, len4, hs1, hworks, hla1, hlarge, hgiven, hidv, est]
  refine W_loop (fun n e q => ∃ i : Nat, i + n = ps.length ∧ e.get 1 = partsA ps ∧ e.get 5 = .p idv 0 ∧ e.get 8 = .i .i64 i ∧ Over s q ∧ Wf q ∧ idv < q.nb ∧ q.box? idv = some (.cells 28 x.cells) ∧
    RowE 3 s.nt q 31 (e.get 6) (((ps.take i).map quo).map pcell) ∧ RowE 3 s.nt q 31 (e.get 7) (((ps.take i).map bare).map pcell) ∧ ∀ k, rowTok (e.get 6) = some k → rowTok (e.get 7) ≠ some k) ?_ ps.length _ _ ?_
  · rintro n e q ⟨i, hi, h1, h5, h8, hov, hwq, hq, hbv, hr6, hr7, hdis⟩
    obtain ⟨r6, h6⟩ : ∃ r, e.get 6 = r := ⟨_, rfl⟩
    obtain ⟨r7, h7⟩ : ∃ r, e.get 7 = r := ⟨_, rfl⟩
    rw [h6] at hr6 hdis
    rw [h7] at hr7 hdis
    simp only [W_seq, W_reg, W_cond, W_blk, W_skip, W_exit, W_ret, W_regD, WO_nil, WO_cons, WO_guard2, wantV_b, bq_tt, bq_ft, bq_tf, bq_ff, Bool.not_true, Bool.not_false, WD_nil, WD_cons, WD_guard2, WS_some, WS_none, KS_n, KS_x, KS_r, KB_n, KB_x, KB_r, KN_ap, KO_ap, KD_ap, KC_nil, KF_n, KF_r, KG_n, KG_r, KL_n, KL_x, KL_r, CP_true, CP_false, evOp, evX, X.ev, optX, put_some, put_none, get_set2, sel_t, sel_f, Nat.reduceBEq, Nat.reduceAdd, Nat.reduceLT, Nat.reduceLeDiff, Nat.reduceEqDiff, reduceIte, if_true, if_false, bi_add, bi_sub, bi_mul, bi_eql, bi_neq, bi_lss, bi_leq, bi_gtr, bi_geq, bs_eql, bs_neq, bs_lss, Am.unOp, ret1, pubL, pub, pubA, initT, wkZ, wk, wants, resOf, tupOf, quiet, AOp.cls, Nat.beq_eq, Bool.or_eq_true, decide_true, decide_false, beq_self_eq_true, Bool.true_or, Bool.or_true, true_and, and_true, lenA, eqv, eqB, eqP, scal, new_box_self, List.getElem?_cons_zero, List.getElem?_cons_succ, key_ii, key_ss, findM, updM, esc_i, esc_s, esc_b, Int.reduceEq, ret1, new_nb, new_set, reduceCtorEq, Bool.xor_true, Bool.xor_false, Bool.false_eq_true, List.all_cons, List.all_nil, noTok, Bool.and_self, Bool.and_true, Bool.true_and, h1, h5, h8, List.length_map, ofNat_len]
    refine CP_dec (fun hlt => ?_) (fun hge => ?_)
    · have hlt : i < ps.length := by omega
      have hget : (ps.map fun p => AV.agg p.cells)[i]? = some (.agg ps[i].cells) := by simp [hlt]
      obtain ⟨q2, hq2⟩ : ∃ q2, q.new (.cells 31 ps[i].cells) = q2 := ⟨_, rfl⟩
      obtain ⟨idp, hidp⟩ : ∃ k, q.nb = k := ⟨_, rfl⟩
      have w2 : Wf q2 := by rw [← hq2]; exact hwq.new _
      have ov2 : Over s q2 := by rw [← hq2]; exact hov.new _
      have nb2 : q2.nb = q.nb + 1 ∧ q2.nt = q.nt := by rw [← hq2]; exact ⟨rfl, rfl⟩
      have lt2 : ∀ j, j < q.nb → q2.box? j = q.box? j := fun j hj => by rw [← hq2]; exact new_box_lt hj
      have tk2 : ∀ k, q2.tok? k = q.tok? k := fun k => by rw [← hq2]; rfl
      have est : stA (q.new (.cells 31 [.b false, .s [], .b false])) 3 (.p q.nb 0) (.agg ps[i].cells) = some q2 := by
        rw [← hq2]
        simp [stA, new_box_self, AV.cells, ones, over, esc, AV.refs, AV.refs.go, new_set]
      have bq2 : q2.box? idp = some (.cells 31 ps[i].cells) := by rw [← hq2, ← hidp]; exact new_box_self _ _
      rw [hidp] at est
      have hidp2 : idp < q2.nb := by omega
      -- quoted
      obtain ⟨q3, e3, E3, b3, nt3, tk3⟩ := st_cell (t0 := s.nt) (off := 2) (v := .b true) w2 hidp2 bq2 (by simp) rfl rfl
      have la3 := ld_all3 (s := q3) (id := idp) (a := .b ps[i].var) (b := .s ps[i].text) (c := .b true) b3
      have r6_3 : RowE 3 s.nt q3 31 r6 (((ps.take i).map quo).map pcell) := hr6.mono (by omega) fun k _ => by rw [tk3, tk2]
      have r7_3 : RowE 3 s.nt q3 31 r7 (((ps.take i).map bare).map pcell) := hr7.mono (by omega) fun k _ => by rw [tk3, tk2]
      have hcnt := hS.cnt
      obtain ⟨r6', q4, e4, r6_4, g4⟩ := app_rowE (y := .sl 3 [.agg [.b ps[i].var, .s ps[i].text, .b true]] .full) E3.wf (by have := ov2.nt; omega) r6_3 (elems_one _) (by simp) (by simp; omega)
      have w4 := g4.wf E3.wf
      have b4 : q4.box? idp = some (.cells 31 [.b ps[i].var, .s ps[i].text, .b true]) := by
        rw [show q4.box? idp = q3.box? idp by simp [St.box?, g4.nb, g4.boxes]]; exact b3
      have hidp4 : idp < q4.nb := by rw [g4.nb, E3.nb]; exact hidp2
      obtain ⟨q5, e5, E5, b5, nt5, tk5⟩ := st_cell (t0 := s.nt) (off := 2) (v := .b false) w4 hidp4 b4 (by simp) rfl rfl
      have b5 : q5.box? idp = some (.cells 31 [.b ps[i].var, .s ps[i].text, .b false]) := b5
      have l5_0 := ld_box (s := q5) (off := 0) (v := .b ps[i].var) b5 rfl
      have l5_1 := ld_box (s := q5) (off := 1) (v := .s ps[i].text) b5 rfl
      have htk7 : ∀ k, rowTok r7 = some k → k < q3.nt ∧ rowTok r6 ≠ some k := fun k hk => ⟨r7_3.tok_lt hk, fun h => hdis k h hk⟩
      have r7_4 : RowE 3 s.nt q4 31 r7 (((ps.take i).map bare).map pcell) := r7_3.mono g4.nt fun k hk => (g4.toks k (htk7 k hk).1 (htk7 k hk).2).1
      have dis4 : ∀ k, rowTok r7 = some k → rowTok r6' ≠ some k := fun k hk => (g4.toks k (htk7 k hk).1 (htk7 k hk).2).2
      have hfin : ∀ q6 tx6, Eff s.nt idp q5 q6 → q6.nt = q5.nt → (∀ k, q6.tok? k = q5.tok? k) → (bare ps[i]).cells = [.b ps[i].var, .s tx6, .b false] →
          ∃ r7' q7, appA q6 3 31 r7 (.sl 3 [.agg [.b ps[i].var, .s tx6, .b false]] .full) = some (r7', q7) ∧ ∃ m, m < n ∧ ∃ i' : Nat, i' + m = ps.length ∧ AV.i .i64 ((i + 1 : Nat) : Int) = .i .i64 i' ∧ Over s q7 ∧ Wf q7 ∧ idv < q7.nb ∧ q7.box? idv = some (.cells 28 x.cells) ∧
            RowE 3 s.nt q7 31 r6' (((ps.take i').map quo).map pcell) ∧ RowE 3 s.nt q7 31 r7' (((ps.take i').map bare).map pcell) ∧ ∀ k, rowTok r6' = some k → rowTok r7' ≠ some k := by
        intro q6 tx6 E6 nt6 tk6 hc
        have r7_6 : RowE 3 s.nt q6 31 r7 (((ps.take i).map bare).map pcell) := r7_4.mono (by omega) fun k _ => by rw [tk6, tk5]
        have r6_6 : RowE 3 s.nt q6 31 r6' (((ps.take i).map quo).map pcell ++ [.agg [.b ps[i].var, .s ps[i].text, .b true]]) := r6_4.mono (by omega) fun k _ => by rw [tk6, tk5]
        have hnt6 : s.nt ≤ q6.nt := by have := ov2.nt; have := g4.nt; have := E3.nt; omega
        obtain ⟨r7', q7, e7, r7_7, g7⟩ := app_rowE (y := .sl 3 [.agg [.b ps[i].var, .s tx6, .b false]] .full) E6.wf hnt6 r7_6 (elems_one _) (by simp) (by simp; omega)
        refine ⟨r7', q7, e7, n - 1, by omega, i + 1, by omega, rfl, ?_, g7.wf E6.wf, ?_, ?_, ?_, ?_, ?_⟩
        · have o3 := E3.over s (Nat.le_refl _) (by omega) ov2
          have o4 := g4.over s (Nat.le_refl _) o3.nt o3
          have o5 := E5.over s (Nat.le_refl _) (by omega) o4
          have o6 := E6.over s (Nat.le_refl _) (by omega) o5
          exact g7.over s (Nat.le_refl _) hnt6 o6
        · rw [g7.nb, E6.nb, E5.nb, g4.nb, E3.nb]; omega
        · have f1 : q7.box? idv = q6.box? idv := by simp [St.box?, g7.nb, g7.boxes]
          have f2 : q4.box? idv = q3.box? idv := by simp [St.box?, g4.nb, g4.boxes]
          rw [f1, E6.box _ (by omega), E5.box _ (by omega), f2, E3.box _ (by omega), lt2 _ (by omega)]
          exact hbv
        · have e1 : ((ps.take (i + 1)).map quo).map pcell = ((ps.take i).map quo).map pcell ++ [.agg [.b ps[i].var, .s ps[i].text, .b true]] := by
            rw [List.take_succ_eq_append_getElem hlt, List.map_append, List.map_append]; rfl
          rw [e1]
          exact r6_6.mono g7.nt fun k hk => (g7.toks k (r6_6.tok_lt hk) fun h => dis4 k h hk).1
        · have e1 : ((ps.take (i + 1)).map bare).map pcell = ((ps.take i).map bare).map pcell ++ [.agg [.b ps[i].var, .s tx6, .b false]] := by
            rw [List.take_succ_eq_append_getElem hlt, List.map_append, List.map_append, ← hc]; rfl
          rw [e1]
          exact r7_7
        · exact fun k hk => (g7.toks k (r6_6.tok_lt hk) fun h => dis4 k h hk).2
      have hw64 := wrap_succ (show i + 1 < 2 ^ 63 by omega)
      cases hvar : ps[i].var with
      | true =>
        have la5 := ld_all3 (s := q5) (id := idp) b5
        obtain ⟨r7', q7, e7, hinv⟩ := hfin q5 ps[i].text (Eff.refl E5.wf) rfl (fun _ => rfl) (by simp [bare, PP.cells, hvar])
        simp only [hvar] at l5_0
        simp only [W_seq, W_reg, W_cond, W_blk, W_skip, W_exit, W_ret, W_regD, WO_nil, WO_cons, WO_guard2, wantV_b, bq_tt, bq_ft, bq_tf, bq_ff, Bool.not_true, Bool.not_false, WD_nil, WD_cons, WD_guard2, WS_some, WS_none, KS_n, KS_x, KS_r, KB_n, KB_x, KB_r, KN_ap, KO_ap, KD_ap, KC_nil, KF_n, KF_r, KG_n, KG_r, KL_n, KL_x, KL_r, CP_true, CP_false, evOp, evX, X.ev, optX, put_some, put_none, get_set2, sel_t, sel_f, Nat.reduceBEq, Nat.reduceAdd, Nat.reduceLT, Nat.reduceLeDiff, Nat.reduceEqDiff, reduceIte, if_true, if_false, bi_add, bi_sub, bi_mul, bi_eql, bi_neq, bi_lss, bi_leq, bi_gtr, bi_geq, bs_eql, bs_neq, bs_lss, Am.unOp, ret1, pubL, pub, pubA, initT, wkZ, wk, wants, resOf, tupOf, quiet, AOp.cls, Nat.beq_eq, Bool.or_eq_true, decide_true, decide_false, beq_self_eq_true, Bool.true_or, Bool.or_true, true_and, and_true, lenA, eqv, eqB, eqP, scal, new_box_self, List.getElem?_cons_zero, List.getElem?_cons_succ, key_ii, key_ss, findM, updM, esc_i, esc_s, esc_b, Int.reduceEq, ret1, new_nb, new_set, reduceCtorEq, Bool.xor_true, Bool.xor_false, Bool.false_eq_true, List.all_cons, List.all_nil, noTok, Bool.and_self, Bool.and_true, Bool.true_and, h1, h5, h6, h7, h8, natOf_nat, hget, cells_agg, len3, ofNat_len, ldE3, hidp, est, Nat.zero_add, e3, la3, al3_1, e4, e5, l5_0, la5, e7, hw64]
        exact hinv
      | false =>
        simp only [hvar] at l5_0
        simp only [W_seq, W_reg, W_cond, W_blk, W_skip, W_exit, W_ret, W_regD, WO_nil, WO_cons, WO_guard2, wantV_b, bq_tt, bq_ft, bq_tf, bq_ff, Bool.not_true, Bool.not_false, WD_nil, WD_cons, WD_guard2, WS_some, WS_none, KS_n, KS_x, KS_r, KB_n, KB_x, KB_r, KN_ap, KO_ap, KD_ap, KC_nil, KF_n, KF_r, KG_n, KG_r, KL_n, KL_x, KL_r, CP_true, CP_false, evOp, evX, X.ev, optX, put_some, put_none, get_set2, sel_t, sel_f, Nat.reduceBEq, Nat.reduceAdd, Nat.reduceLT, Nat.reduceLeDiff, Nat.reduceEqDiff, reduceIte, if_true, if_false, bi_add, bi_sub, bi_mul, bi_eql, bi_neq, bi_lss, bi_leq, bi_gtr, bi_geq, bs_eql, bs_neq, bs_lss, Am.unOp, ret1, pubL, pub, pubA, initT, wkZ, wk, wants, resOf, tupOf, quiet, AOp.cls, Nat.beq_eq, Bool.or_eq_true, decide_true, decide_false, beq_self_eq_true, Bool.true_or, Bool.or_true, true_and, and_true, lenA, eqv, eqB, eqP, scal, new_box_self, List.getElem?_cons_zero, List.getElem?_cons_succ, key_ii, key_ss, findM, updM, esc_i, esc_s, esc_b, Int.reduceEq, ret1, new_nb, new_set, reduceCtorEq, Bool.xor_true, Bool.xor_false, Bool.false_eq_true, List.all_cons, List.all_nil, noTok, Bool.and_self, Bool.and_true, Bool.true_and, h1, h5, h6, h7, h8, natOf_nat, hget, cells_agg, len3, ofNat_len, ldE3, hidp, est, Nat.zero_add, e3, la3, al3_1, e4, e5, l5_0]
        have htx := hp ps[i] (List.getElem_mem hlt)
        have htl := hS.tx ps[i] (List.getElem_mem hlt)
        have e1' : e.get 1 = partsA ps := h1
        refine W_loop (fun m e q => ∃ k : Nat, k + m = ps[i].text.length ∧ q = q5 ∧ e.get 1 = partsA ps ∧ e.get 5 = .p idv 0 ∧ e.get 8 = .i .i64 i ∧ e.get 6 = r6' ∧ e.get 7 = r7 ∧ e.get 9 = .p idp 0 ∧ e.get 10 = .s (nb (ps[i].text.take k)) ∧ e.get 11 = .i .i64 k) ?_ ps[i].text.length _ _ ?_
        · rintro m e q ⟨k, hk, rfl, h1, h5, h8, h6, h7, h9, h10, h11⟩
          simp only [W_seq, W_reg, W_cond, W_blk, W_skip, W_exit, W_ret, W_regD, WO_nil, WO_cons, WO_guard2, wantV_b, bq_tt, bq_ft, bq_tf, bq_ff, Bool.not_true, Bool.not_false, WD_nil, WD_cons, WD_guard2, WS_some, WS_none, KS_n, KS_x, KS_r, KB_n, KB_x, KB_r, KN_ap, KO_ap, KD_ap, KC_nil, KF_n, KF_r, KG_n, KG_r, KL_n, KL_x, KL_r, CP_true, CP_false, evOp, evX, X.ev, optX, put_some, put_none, get_set2, sel_t, sel_f, Nat.reduceBEq, Nat.reduceAdd, Nat.reduceLT, Nat.reduceLeDiff, Nat.reduceEqDiff, reduceIte, if_true, if_false, bi_add, bi_sub, bi_mul, bi_eql, bi_neq, bi_lss, bi_leq, bi_gtr, bi_geq, bs_eql, bs_neq, bs_lss, Am.unOp, ret1, pubL, pub, pubA, initT, wkZ, wk, wants, resOf, tupOf, quiet, AOp.cls, Nat.beq_eq, Bool.or_eq_true, decide_true, decide_false, beq_self_eq_true, Bool.true_or, Bool.or_true, true_and, and_true, lenA, eqv, eqB, eqP, scal, new_box_self, List.getElem?_cons_zero, List.getElem?_cons_succ, key_ii, key_ss, findM, updM, esc_i, esc_s, esc_b, Int.reduceEq, ret1, new_nb, new_set, reduceCtorEq, Bool.xor_true, Bool.xor_false, Bool.false_eq_true, List.all_cons, List.all_nil, noTok, Bool.and_self, Bool.and_true, Bool.true_and, h1, h5, h6, h7, h8, h9, h10, h11, Nat.zero_add, l5_1, ofNat_len]
          refine CP_dec (fun hlt2 => ?_) (fun hge2 => ?_)
          · have hlt2 : k < ps[i].text.length := by omega
            have hget2 : ps[i].text[k]? = some ps[i].text[k] := List.getElem?_eq_getElem hlt2
            have hbl := blank_ok ps[i].text[k] (htx.lt _ (List.getElem_mem hlt2)) q
            have hst : nb (ps[i].text.take (k + 1)) = nb (ps[i].text.take k) ++ nb [ps[i].text[k]] := by
              rw [List.take_succ_eq_append_getElem hlt2, nb_append]
            have hsub : (ps[i].text.drop k).take (k + 1 - k) = [ps[i].text[k]] := by
              rw [show k + 1 - k = 1 by omega, List.take_one, List.head?_drop, hget2]; rfl
            have hwk := wrap_succ (show k + 1 < 2 ^ 63 by omega)
            cases hc : blankN ps[i].text[k] with
            | true =>
              rw [hc] at hbl
              have hn1 : nb [ps[i].text[k]] = [] := by simp [nb, hc]
              simp only [W_seq, W_reg, W_cond, W_blk, W_skip, W_exit, W_ret, W_regD, WO_nil, WO_cons, WO_guard2, wantV_b, bq_tt, bq_ft, bq_tf, bq_ff, Bool.not_true, Bool.not_false, WD_nil, WD_cons, WD_guard2, WS_some, WS_none, KS_n, KS_x, KS_r, KB_n, KB_x, KB_r, KN_ap, KO_ap, KD_ap, KC_nil, KF_n, KF_r, KG_n, KG_r, KL_n, KL_x, KL_r, CP_true, CP_false, evOp, evX, X.ev, optX, put_some, put_none, get_set2, sel_t, sel_f, Nat.reduceBEq, Nat.reduceAdd, Nat.reduceLT, Nat.reduceLeDiff, Nat.reduceEqDiff, reduceIte, if_true, if_false, bi_add, bi_sub, bi_mul, bi_eql, bi_neq, bi_lss, bi_leq, bi_gtr, bi_geq, bs_eql, bs_neq, bs_lss, Am.unOp, ret1, pubL, pub, pubA, initT, wkZ, wk, wants, resOf, tupOf, quiet, AOp.cls, Nat.beq_eq, Bool.or_eq_true, decide_true, decide_false, beq_self_eq_true, Bool.true_or, Bool.or_true, true_and, and_true, lenA, eqv, eqB, eqP, scal, new_box_self, List.getElem?_cons_zero, List.getElem?_cons_succ, key_ii, key_ss, findM, updM, esc_i, esc_s, esc_b, Int.reduceEq, ret1, new_nb, new_set, reduceCtorEq, Bool.xor_true, Bool.xor_false, Bool.false_eq_true, List.all_cons, List.all_nil, noTok, Bool.and_self, Bool.and_true, Bool.true_and, h1, h5, h6, h7, h8, h9, h10, h11, Nat.zero_add, l5_1, ofNat_len, natOf_nat, hget2, hbl, hwk]
              exact ⟨m - 1, by omega, k + 1, by omega, by rw [hst, hn1, List.append_nil], rfl⟩
            | false =>
              rw [hc] at hbl
              have hn1 : nb [ps[i].text[k]] = [ps[i].text[k]] := by simp [nb, hc]
              have hln := nb_len (ps[i].text.take k)
              have hln2 : (ps[i].text.take k).length ≤ ps[i].text.length := by simp; omega
              have hcat : (nb (ps[i].text.take k)).length + [ps[i].text[k]].length < 2 ^ 62 := by simp; omega
              simp only [W_seq, W_reg, W_cond, W_blk, W_skip, W_exit, W_ret, W_regD, WO_nil, WO_cons, WO_guard2, wantV_b, bq_tt, bq_ft, bq_tf, bq_ff, Bool.not_true, Bool.not_false, WD_nil, WD_cons, WD_guard2, WS_some, WS_none, KS_n, KS_x, KS_r, KB_n, KB_x, KB_r, KN_ap, KO_ap, KD_ap, KC_nil, KF_n, KF_r, KG_n, KG_r, KL_n, KL_x, KL_r, CP_true, CP_false, evOp, evX, X.ev, optX, put_some, put_none, get_set2, sel_t, sel_f, Nat.reduceBEq, Nat.reduceAdd, Nat.reduceLT, Nat.reduceLeDiff, Nat.reduceEqDiff, reduceIte, if_true, if_false, bi_add, bi_sub, bi_mul, bi_eql, bi_neq, bi_lss, bi_leq, bi_gtr, bi_geq, bs_eql, bs_neq, bs_lss, Am.unOp, ret1, pubL, pub, pubA, initT, wkZ, wk, wants, resOf, tupOf, quiet, AOp.cls, Nat.beq_eq, Bool.or_eq_true, decide_true, decide_false, beq_self_eq_true, Bool.true_or, Bool.or_true, true_and, and_true, lenA, eqv, eqB, eqP, scal, new_box_self, List.getElem?_cons_zero, List.getElem?_cons_succ, key_ii, key_ss, findM, updM, esc_i, esc_s, esc_b, Int.reduceEq, ret1, new_nb, new_set, reduceCtorEq, Bool.xor_true, Bool.xor_false, Bool.false_eq_true, List.all_cons, List.all_nil, noTok, Bool.and_self, Bool.and_true, Bool.true_and, h1, h5, h6, h7, h8, h9, h10, h11, Nat.zero_add, l5_1, ofNat_len, natOf_nat, hget2, hbl, hwk, bounds_ii (show k ≤ k + 1 by omega) (show k + 1 ≤ ps[i].text.length by omega), hsub, bs_add, if_pos hcat]
              exact ⟨m - 1, by omega, k + 1, by omega, by rw [hst, hn1], rfl⟩
          · have hkl : k = ps[i].text.length := by omega
            subst hkl
            rw [List.take_length] at h10
            obtain ⟨q6, e6, E6, b6, nt6, tk6⟩ := st_cell (t0 := s.nt) (off := 1) (v := .s (nb ps[i].text)) E5.wf (by rw [E5.nb]; exact hidp4) b5 (by simp) rfl rfl
            have b6 : q6.box? idp = some (.cells 31 [.b ps[i].var, .s (nb ps[i].text), .b false]) := b6
            have la6 := ld_all3 (s := q6) (id := idp) b6
            obtain ⟨r7', q7, e7, hinv⟩ := hfin q6 (nb ps[i].text) E6 nt6 tk6 (by simp [bare, PP.cells, hvar])
            simp only [List.take_length, W_seq, W_reg, W_cond, W_blk, W_skip, W_exit, W_ret, W_regD, WO_nil, WO_cons, WO_guard2, wantV_b, bq_tt, bq_ft, bq_tf, bq_ff, Bool.not_true, Bool.not_false, WD_nil, WD_cons, WD_guard2, WS_some, WS_none, KS_n, KS_x, KS_r, KB_n, KB_x, KB_r, KN_ap, KO_ap, KD_ap, KC_nil, KF_n, KF_r, KG_n, KG_r, KL_n, KL_x, KL_r, CP_true, CP_false, evOp, evX, X.ev, optX, put_some, put_none, get_set2, sel_t, sel_f, Nat.reduceBEq, Nat.reduceAdd, Nat.reduceLT, Nat.reduceLeDiff, Nat.reduceEqDiff, reduceIte, if_true, if_false, bi_add, bi_sub, bi_mul, bi_eql, bi_neq, bi_lss, bi_leq, bi_gtr, bi_geq, bs_eql, bs_neq, bs_lss, Am.unOp, ret1, pubL, pub, pubA, initT, wkZ, wk, wants, resOf, tupOf, quiet, AOp.cls, Nat.beq_eq, Bool.or_eq_true, decide_true, decide_false, beq_self_eq_true, Bool.true_or, Bool.or_true, true_and, and_true, lenA, eqv, eqB, eqP, scal, new_box_self, List.getElem?_cons_zero, List.getElem?_cons_succ, key_ii, key_ss, findM, updM, esc_i, esc_s, esc_b, Int.reduceEq, ret1, new_nb, new_set, reduceCtorEq, Bool.xor_true, Bool.xor_false, Bool.false_eq_true, List.all_cons, List.all_nil, noTok, Bool.and_self, Bool.and_true, Bool.true_and, h1, h5, h6, h7, h8, h9, h10, h11, Nat.zero_add, e6, la6, al3_1, e7, hw64]
            exact hinv
        · simp only [W_seq, W_reg, W_cond, W_blk, W_skip, W_exit, W_ret, W_regD, WO_nil, WO_cons, WO_guard2, wantV_b, bq_tt, bq_ft, bq_tf, bq_ff, Bool.not_true, Bool.not_false, WD_nil, WD_cons, WD_guard2, WS_some, WS_none, KS_n, KS_x, KS_r, KB_n, KB_x, KB_r, KN_ap, KO_ap, KD_ap, KC_nil, KF_n, KF_r, KG_n, KG_r, KL_n, KL_x, KL_r, CP_true, CP_false, evOp, evX, X.ev, optX, put_some, put_none, get_set2, sel_t, sel_f, Nat.reduceBEq, Nat.reduceAdd, Nat.reduceLT, Nat.reduceLeDiff, Nat.reduceEqDiff, reduceIte, if_true, if_false, bi_add, bi_sub, bi_mul, bi_eql, bi_neq, bi_lss, bi_leq, bi_gtr, bi_geq, bs_eql, bs_neq, bs_lss, Am.unOp, ret1, pubL, pub, pubA, initT, wkZ, wk, wants, resOf, tupOf, quiet, AOp.cls, Nat.beq_eq, Bool.or_eq_true, decide_true, decide_false, beq_self_eq_true, Bool.true_or, Bool.or_true, true_and, and_true, lenA, eqv, eqB, eqP, scal, new_box_self, List.getElem?_cons_zero, List.getElem?_cons_succ, key_ii, key_ss, findM, updM, esc_i, esc_s, esc_b, Int.reduceEq, ret1, new_nb, new_set, reduceCtorEq, Bool.xor_true, Bool.xor_false, Bool.false_eq_true, List.all_cons, List.all_nil, noTok, Bool.and_self, Bool.and_true, Bool.true_and, h1, h5, h6, h7, h8]
          exact ⟨0, by omega, rfl, rfl⟩
    · have hil : i = ps.length := by omega
      subst hil
      rw [List.take_length] at hr6 hr7
      have hpq : ∀ p ∈ ps.map quo, Txt p.text := fun p h => by
        obtain ⟨p', h', rfl⟩ := List.mem_map.1 h
        exact hp p' h'
      have htq : ∀ p ∈ ps.map quo, (partL itoaN x p).length < 20000 ∧ Txt (partL itoaN x p) := fun p h => by
        obtain ⟨p', h', rfl⟩ := List.mem_map.1 h
        rw [quo_part]; exact part_small hx hS hv ha hp h'
      have hpb : ∀ p ∈ ps.map bare, Txt p.text := fun p h => by
        obtain ⟨p', h', rfl⟩ := List.mem_map.1 h
        unfold bare
        simp only
        split
        · exact hp p' h'
        · have := hp p' h'
          have k3 := nb_len p'.text
          exact ⟨fun n hn => this.lt n (List.mem_filter.1 hn).1, by have := this.len; omega⟩
      have htb : ∀ p ∈ ps.map bare, (partL itoaN x p).length < 20000 ∧ Txt (partL itoaN x p) := fun p h => by
        obtain ⟨p', h', rfl⟩ := List.mem_map.1 h
        exact bare_part hx hS hv ha hp h'
      have hcnt := hS.cnt
      have szq := szF_le x 20000 (ps.map quo) fun p h => (htq p h).1
      have szb := szF_le x 20000 (ps.map bare) fun p h => (htb p h).1
      rw [List.length_map] at szq szb
      have szp := szF_le x 20000 ps fun p h => (part_small hx hS hv ha hp h).1
      obtain ⟨a6, q6, e6, k6, u6⟩ := hr6.pubd hwq
      have hF1o := fields_ok itoaN itoa_ok x hx (ps.map quo) hpq (fun p h => (htq p h).2) (by simpa using hlen) (by omega) q6 u6.wf
      have hF1 : (lim prog).call f_expand_Fields [x.av, a6] q6 = some (tx (fieldsL itoaN x (ps.map quo)), q6) := by
        rw [call_wk (args := [x.av, a6]) (args' := [x.av, partsA (ps.map quo)]) p_expand_Fields rfl rfl rfl (by
          simp only [c_expand_Fields, wkZ]
          rw [row_wk k6])]
        exact hF1o
      have hbv6 : q6.box? idv = some (.cells 28 x.cells) := by rw [u6.box]; exact hbv
      have la : ldA q true 4 (.p idv 0) = some x.av := ld_all4 hbv
      have la6 : ldA q6 true 4 (.p idv 0) = some x.av := ld_all4 hbv6
      have hr7_6 := u6.row hr7
      obtain ⟨a7, q7, e7, k7, u7⟩ := hr7_6.pubd u6.wf
      have hF2o := fields_ok itoaN itoa_ok x hx (ps.map bare) hpb (fun p h => (htb p h).2) (by simpa using hlen) (by omega) q7 u7.wf
      have hF2 : (lim prog).call f_expand_Fields [x.av, a7] q7 = some (tx (fieldsL itoaN x (ps.map bare)), q7) := by
        rw [call_wk (args := [x.av, a7]) (args' := [x.av, partsA (ps.map bare)]) p_expand_Fields rfl rfl rfl (by
          simp only [c_expand_Fields, wkZ]
          rw [row_wk k7])]
        exact hF2o
      have hT1 := text_ok itoaN itoa_ok x hx ps hp (fun p h => (part_small hx hS hv ha hp h).2) hlen (by omega) q6 u6.wf
      have hbv7 : q7.box? idv = some (.cells 28 x.cells) := by rw [u7.box]; exact hbv6
      have la7 : ldA q7 true 4 (.p idv 0) = some x.av := ld_all4 hbv7
      have hQ := quo_fields itoaN x ps
      have h11 : (((1 : Nat) : Int) ≠ 1) = False := by simp
      have h00 : ((0 : Int) ≠ 0) = False := by simp
      have h0l : ((0 : Int) < 0) = False := by simp
      obtain ⟨B, hB⟩ : ∃ B, fieldsL itoaN x (ps.map bare) = B := ⟨_, rfl⟩
      obtain ⟨hB1, hB2⟩ := bare_fields itoaN x ps
      rw [hB] at hF2 hB1 hB2
      have hTl := textL_len itoaN x (ps.map bare)
      have hBl := fieldsL_len itoaN x (ps.map bare)
      rw [hB] at hBl
      obtain ⟨T, hT⟩ : ∃ T, textL itoaN x (ps.map bare) = T := ⟨_, rfl⟩
      rw [hT] at hB2 hTl
      have hnbT := nb_len T
      have hflat : B.flatten.length ≤ 4000000 := by rw [hB2]; omega
      have hBlen : B.length ≤ 4000001 := by omega
      have htake : ∀ i, (B.take i).flatten.length ≤ B.flatten.length := fun i => by
        have e1 : B.flatten.length = (B.take i).flatten.length + (B.drop i).flatten.length := by
          rw [← List.length_append, ← List.flatten_append, List.take_append_drop]
        omega
      have hput : ∀ i, (putL (B.take i)).length ≤ (B.take i).flatten.length + B.length := fun i => by
        have := putL_len (B.take i)
        have e2 : (B.take i).length ≤ B.length := by simp; omega
        omega
      have hr7_7 := u7.row hr7_6
      obtain ⟨a8, q8, e8, k8, u8⟩ := hr7_7.pubd u7.wf
      have hT2o := text_ok itoaN itoa_ok x hx (ps.map bare) hpb (fun p h => (htb p h).2) (by simpa using hlen) (by omega) q8 u8.wf
      rw [hT] at hT2o
      have hT2 : (lim prog).call f_expand_Text [x.av, a8] q8 = some (.s T, q8) := by
        rw [call_wk (args := [x.av, a8]) (args' := [x.av, partsA (ps.map bare)]) p_expand_Text rfl rfl rfl (by
          simp only [c_expand_Text, wkZ]
          rw [row_wk k8])]
        exact hT2o
      have ov8 : Over s q8 := u8.over s (Nat.le_refl _) (u7.over s (Nat.le_refl _) (u6.over s (Nat.le_refl _) hov))
      have hput2 : (putL B).length ≤ 8000001 := by have := hput B.length; rw [List.take_length] at this; omega
      have hpt : Txt (putL B) := ⟨fun n hn => by
        simp only [putL, List.mem_flatten, List.mem_map] at hn
        obtain ⟨l, ⟨l', hl', rfl⟩, hn⟩ := hn
        rcases List.mem_cons.1 hn with rfl | hn
        · omega
        · have hm : n ∈ T := by
            have : n ∈ B.flatten := List.mem_flatten.2 ⟨l', hl', hn⟩
            rw [hB2] at this
            exact (List.mem_filter.1 this).1
          rw [← hT] at hm
          exact textL_txt itoaN x (ps.map bare) (fun p h => (htb p h).2) _ hm, by omega⟩
      have hvp : valueL itoaN ⟨[[120]], [putL B], [], 0⟩ [120] = putL B := rfl
      have hF3o := fields_ok itoaN itoa_ok ⟨[[120]], [putL B], [], 0⟩ ⟨by simp, by simp, by simp, by simp, by simp⟩ [⟨true, [120], false⟩] (fun p h => by
          simp only [List.mem_singleton] at h; subst h; exact txt_of rfl (by decide)) (fun p h => by
          simp only [List.mem_singleton] at h; subst h; exact hpt) (by simp) (by
          have : szF itoaN ⟨[[120]], [putL B], [], 0⟩ [⟨true, [120], false⟩] = (putL B).length + 1 := rfl
          omega) q8 u8.wf
      rw [again itoaN ⟨[[120]], [putL B], [], 0⟩ B hB1 ⟨true, [120], false⟩ hvp rfl rfl] at hF3o
      have hF3 : (lim prog).call f_expand_Fields [.agg [.sl 1 [.s [120]] .full, .sl 1 [.s (putL B)] .full, .nsl, .i .i64 0], .sl 3 [.agg (PP.cells ⟨true, [120], false⟩)] .full] q8 = some (tx B, q8) := by
        rw [call_wk (args := [.agg [.sl 1 [.s [120]] .full, .sl 1 [.s (putL B)] .full, .nsl, .i .i64 0], .sl 3 [.agg (PP.cells ⟨true, [120], false⟩)] .full]) (args' := [VV.av ⟨[[120]], [putL B], [], 0⟩, partsA [⟨true, [120], false⟩]]) p_expand_Fields rfl rfl rfl rfl]
        exact hF3o
      have hsame : (lim prog).call f_touchstonelaw05_same [tx B, tx B] q8 = some (.b true, q8) := by
        rw [same_ok B B (by omega) q8]; simp
      have hp1 := pubC_full q8 1 [.s [120]]
      have hBB : (B.flatten = B.flatten) = True := eq_self _
      have hp2 := pubC_full q8 1 [.s (putL B)]
      by_cases hne : ps = []
      case' pos =>
        rw [if_pos hne] at hQ
        rw [hQ] at hF1
        have hl0 : ps.length = 0 := by rw [hne]; rfl
        simp only [W_seq, W_reg, W_cond, W_blk, W_skip, W_exit, W_ret, W_regD, WO_nil, WO_cons, WO_guard2, wantV_b, bq_tt, bq_ft, bq_tf, bq_ff, Bool.not_true, Bool.not_false, WD_nil, WD_cons, WD_guard2, WS_some, WS_none, KS_n, KS_x, KS_r, KB_n, KB_x, KB_r, KN_ap, KO_ap, KD_ap, KC_nil, KF_n, KF_r, KG_n, KG_r, KL_n, KL_x, KL_r, CP_true, CP_false, evOp, evX, X.ev, optX, put_some, put_none, get_set2, sel_t, sel_f, Nat.reduceBEq, Nat.reduceAdd, Nat.reduceLT, Nat.reduceLeDiff, Nat.reduceEqDiff, reduceIte, if_true, if_false, bi_add, bi_sub, bi_mul, bi_eql, bi_neq, bi_lss, bi_leq, bi_gtr, bi_geq, bs_eql, bs_neq, bs_lss, Am.unOp, ret1, pubL, pubC_agg, pubC_s, pubC_i, pubC_b, pubC_p, pubC_np, pubC_nsl, pubC_ws, pubC_full, pubC_shut, pubC_fn, pubA, initT, wkZ, wk, wants, resOf, tupOf, quiet, AOp.cls, Nat.beq_eq, Bool.or_eq_true, decide_true, decide_false, beq_self_eq_true, Bool.true_or, Bool.or_true, true_and, and_true, lenA, eqv, eqB, eqP, scal, new_box_self, List.getElem?_cons_zero, List.getElem?_cons_succ, key_ii, key_ss, findM, updM, esc_i, esc_s, esc_b, Int.reduceEq, ret1, new_nb, new_set, reduceCtorEq, Bool.xor_true, Bool.xor_false, Bool.false_eq_true, List.all_cons, List.all_nil, noTok, Bool.and_self, Bool.and_true, Bool.true_and, h1, h5, h6, h7, la, e6, hF1, hl0, h00, h0l, wantV_undef, List.length_map, List.length_nil, List.map_nil, ofNat_len, Int.ofNat_zero]
        rw [KC_ap]
        refine ⟨by simp only [chkD, sameAt, List.range', List.nil_append, List.cons_append, Nat.reduceSub, Nat.reduceAdd, List.all_cons, List.all_nil, List.getElem?_cons_zero, List.getElem?_cons_succ, W_seq, W_reg, W_cond, W_blk, W_skip, W_exit, W_ret, W_regD, WO_nil, WO_cons, WO_guard2, wantV_b, bq_tt, bq_ft, bq_tf, bq_ff, Bool.not_true, Bool.not_false, WD_nil, WD_cons, WD_guard2, WS_some, WS_none, KS_n, KS_x, KS_r, KB_n, KB_x, KB_r, KN_ap, KO_ap, KD_ap, KC_nil, KF_n, KF_r, KG_n, KG_r, KL_n, KL_x, KL_r, CP_true, CP_false, evOp, evX, X.ev, optX, put_some, put_none, get_set2, sel_t, sel_f, Nat.reduceBEq, Nat.reduceAdd, Nat.reduceLT, Nat.reduceLeDiff, Nat.reduceEqDiff, reduceIte, if_true, if_false, bi_add, bi_sub, bi_mul, bi_eql, bi_neq, bi_lss, bi_leq, bi_gtr, bi_geq, bs_eql, bs_neq, bs_lss, Am.unOp, ret1, pubL, pubC_agg, pubC_s, pubC_i, pubC_b, pubC_p, pubC_np, pubC_nsl, pubC_ws, pubC_full, pubC_shut, pubC_fn, pubA, initT, wkZ, wk, wants, resOf, tupOf, quiet, AOp.cls, Nat.beq_eq, Bool.or_eq_true, decide_true, decide_false, beq_self_eq_true, Bool.true_or, Bool.or_true, true_and, and_true, lenA, eqv, eqB, eqP, scal, new_box_self, List.getElem?_cons_zero, List.getElem?_cons_succ, key_ii, key_ss, findM, updM, esc_i, esc_s, esc_b, Int.reduceEq, ret1, new_nb, new_set, reduceCtorEq, Bool.xor_true, Bool.xor_false, Bool.false_eq_true, List.all_cons, List.all_nil, noTok, Bool.and_self, Bool.and_true, Bool.true_and]; exact .inl rfl, ?_⟩
      case' neg =>
        rw [if_neg hne] at hQ
        rw [hQ] at hF1
        have hl0 : 0 < ps.length := List.length_pos_iff.2 hne
        have hl1 : ((ps.length : Int) = 0) = False := by simp; omega
        have hl2 : ((ps.length : Int) > 0) = True := by simp; omega
        simp only [W_seq, W_reg, W_cond, W_blk, W_skip, W_exit, W_ret, W_regD, WO_nil, WO_cons, WO_guard2, wantV_b, bq_tt, bq_ft, bq_tf, bq_ff, Bool.not_true, Bool.not_false, WD_nil, WD_cons, WD_guard2, WS_some, WS_none, KS_n, KS_x, KS_r, KB_n, KB_x, KB_r, KN_ap, KO_ap, KD_ap, KC_nil, KF_n, KF_r, KG_n, KG_r, KL_n, KL_x, KL_r, CP_true, CP_false, evOp, evX, X.ev, optX, put_some, put_none, get_set2, sel_t, sel_f, Nat.reduceBEq, Nat.reduceAdd, Nat.reduceLT, Nat.reduceLeDiff, Nat.reduceEqDiff, reduceIte, if_true, if_false, bi_add, bi_sub, bi_mul, bi_eql, bi_neq, bi_lss, bi_leq, bi_gtr, bi_geq, bs_eql, bs_neq, bs_lss, Am.unOp, ret1, pubL, pubC_agg, pubC_s, pubC_i, pubC_b, pubC_p, pubC_np, pubC_nsl, pubC_ws, pubC_full, pubC_shut, pubC_fn, pubA, initT, wkZ, wk, wants, resOf, tupOf, quiet, AOp.cls, Nat.beq_eq, Bool.or_eq_true, decide_true, decide_false, beq_self_eq_true, Bool.true_or, Bool.or_true, true_and, and_true, lenA, eqv, eqB, eqP, scal, new_box_self, List.getElem?_cons_zero, List.getElem?_cons_succ, key_ii, key_ss, findM, updM, esc_i, esc_s, esc_b, Int.reduceEq, ret1, new_nb, new_set, reduceCtorEq, Bool.xor_true, Bool.xor_false, Bool.false_eq_true, List.all_cons, List.all_nil, noTok, Bool.and_self, Bool.and_true, Bool.true_and, h1, h5, h6, h7, la, la6, hT1, e6, hF1, hl1, hl2, h11, natOf_nat0, List.length_map, List.length_nil, List.length_cons, List.map_nil, List.map_cons, ofNat_len, cells_s, ldA_1]
        rw [KC_ap]
        refine ⟨by simp only [chkD, sameAt, List.range', List.nil_append, List.cons_append, Nat.reduceSub, Nat.reduceAdd, List.all_cons, List.all_nil, List.getElem?_cons_zero, List.getElem?_cons_succ, W_seq, W_reg, W_cond, W_blk, W_skip, W_exit, W_ret, W_regD, WO_nil, WO_cons, WO_guard2, wantV_b, bq_tt, bq_ft, bq_tf, bq_ff, Bool.not_true, Bool.not_false, WD_nil, WD_cons, WD_guard2, WS_some, WS_none, KS_n, KS_x, KS_r, KB_n, KB_x, KB_r, KN_ap, KO_ap, KD_ap, KC_nil, KF_n, KF_r, KG_n, KG_r, KL_n, KL_x, KL_r, CP_true, CP_false, evOp, evX, X.ev, optX, put_some, put_none, get_set2, sel_t, sel_f, Nat.reduceBEq, Nat.reduceAdd, Nat.reduceLT, Nat.reduceLeDiff, Nat.reduceEqDiff, reduceIte, if_true, if_false, bi_add, bi_sub, bi_mul, bi_eql, bi_neq, bi_lss, bi_leq, bi_gtr, bi_geq, bs_eql, bs_neq, bs_lss, Am.unOp, ret1, pubL, pubC_agg, pubC_s, pubC_i, pubC_b, pubC_p, pubC_np, pubC_nsl, pubC_ws, pubC_full, pubC_shut, pubC_fn, pubA, initT, wkZ, wk, wants, resOf, tupOf, quiet, AOp.cls, Nat.beq_eq, Bool.or_eq_true, decide_true, decide_false, beq_self_eq_true, Bool.true_or, Bool.or_true, true_and, and_true, lenA, eqv, eqB, eqP, scal, new_box_self, List.getElem?_cons_zero, List.getElem?_cons_succ, key_ii, key_ss, findM, updM, esc_i, esc_s, esc_b, Int.reduceEq, ret1, new_nb, new_set, reduceCtorEq, Bool.xor_true, Bool.xor_false, Bool.false_eq_true, List.all_cons, List.all_nil, noTok, Bool.and_self, Bool.and_true, Bool.true_and, ldA_1, beq_s], ?_⟩
      all_goals
        have hTT : (textL itoaN x ps ≠ textL itoaN x ps) = False := by simp
        simp only [W_seq, W_reg, W_cond, W_blk, W_skip, W_exit, W_ret, W_regD, WO_nil, WO_cons, WO_guard2, wantV_b, bq_tt, bq_ft, bq_tf, bq_ff, Bool.not_true, Bool.not_false, WD_nil, WD_cons, WD_guard2, WS_some, WS_none, KS_n, KS_x, KS_r, KB_n, KB_x, KB_r, KN_ap, KO_ap, KD_ap, KC_nil, KF_n, KF_r, KG_n, KG_r, KL_n, KL_x, KL_r, CP_true, CP_false, evOp, evX, X.ev, optX, put_some, put_none, get_set2, sel_t, sel_f, Nat.reduceBEq, Nat.reduceAdd, Nat.reduceLT, Nat.reduceLeDiff, Nat.reduceEqDiff, reduceIte, if_true, if_false, bi_add, bi_sub, bi_mul, bi_eql, bi_neq, bi_lss, bi_leq, bi_gtr, bi_geq, bs_eql, bs_neq, bs_lss, Am.unOp, ret1, pubL, pubC_agg, pubC_s, pubC_i, pubC_b, pubC_p, pubC_np, pubC_nsl, pubC_ws, pubC_full, pubC_shut, pubC_fn, pubA, initT, wkZ, wk, wants, resOf, tupOf, quiet, AOp.cls, Nat.beq_eq, Bool.or_eq_true, decide_true, decide_false, beq_self_eq_true, Bool.true_or, Bool.or_true, true_and, and_true, lenA, eqv, eqB, eqP, scal, new_box_self, List.getElem?_cons_zero, List.getElem?_cons_succ, key_ii, key_ss, findM, updM, esc_i, esc_s, esc_b, Int.reduceEq, ret1, new_nb, new_set, reduceCtorEq, Bool.xor_true, Bool.xor_false, Bool.false_eq_true, List.all_cons, List.all_nil, noTok, Bool.and_self, Bool.and_true, Bool.true_and, h1, h5, h6, h7, la6, e7, hF2, hTT]
        refine W_loop (fun n e q => ∃ i : Nat, i + n = B.length ∧ q7 = q ∧ e.get 5 = .p idv 0 ∧ e.get 7 = r7 ∧ e.get 13 = tx B ∧ e.get 14 = .s (B.take i).flatten ∧ e.get 15 = .s (putL (B.take i)) ∧ e.get 16 = .i .i64 i) ?_ B.length _ _ ?_
        · rintro n e q ⟨i, hi, rfl, h5, h7, h13, h14, h15, h16⟩
          simp only [W_seq, W_reg, W_cond, W_blk, W_skip, W_exit, W_ret, W_regD, WO_nil, WO_cons, WO_guard2, wantV_b, bq_tt, bq_ft, bq_tf, bq_ff, Bool.not_true, Bool.not_false, WD_nil, WD_cons, WD_guard2, WS_some, WS_none, KS_n, KS_x, KS_r, KB_n, KB_x, KB_r, KN_ap, KO_ap, KD_ap, KC_nil, KF_n, KF_r, KG_n, KG_r, KL_n, KL_x, KL_r, CP_true, CP_false, evOp, evX, X.ev, optX, put_some, put_none, get_set2, sel_t, sel_f, Nat.reduceBEq, Nat.reduceAdd, Nat.reduceLT, Nat.reduceLeDiff, Nat.reduceEqDiff, reduceIte, if_true, if_false, bi_add, bi_sub, bi_mul, bi_eql, bi_neq, bi_lss, bi_leq, bi_gtr, bi_geq, bs_eql, bs_neq, bs_lss, Am.unOp, ret1, pubL, pubC_agg, pubC_s, pubC_i, pubC_b, pubC_p, pubC_np, pubC_nsl, pubC_ws, pubC_full, pubC_shut, pubC_fn, pubA, initT, wkZ, wk, wants, resOf, tupOf, quiet, AOp.cls, Nat.beq_eq, Bool.or_eq_true, decide_true, decide_false, beq_self_eq_true, Bool.true_or, Bool.or_true, true_and, and_true, lenA, eqv, eqB, eqP, scal, new_box_self, List.getElem?_cons_zero, List.getElem?_cons_succ, key_ii, key_ss, findM, updM, esc_i, esc_s, esc_b, Int.reduceEq, ret1, new_nb, new_set, reduceCtorEq, Bool.xor_true, Bool.xor_false, Bool.false_eq_true, List.all_cons, List.all_nil, noTok, Bool.and_self, Bool.and_true, Bool.true_and, h5, h7, h13, h14, h15, h16, List.length_map, ofNat_len]
          refine CP_dec (fun hlt => ?_) (fun hge => ?_)
          · have hlt : i < B.length := by omega
            have hok := hB1 _ (List.getElem_mem hlt)
            have hne : (B[i] = []) = False := by simp [hok.1]
            have hget := tx_get hlt
            have hfl : (B.take (i + 1)).flatten = (B.take i).flatten ++ B[i] := by
              rw [List.take_succ_eq_append_getElem hlt, List.flatten_append]; simp
            have hpl : putL (B.take (i + 1)) = putL (B.take i) ++ [32] ++ B[i] := by
              rw [List.take_succ_eq_append_getElem hlt, putL_append, putL_one]; simp
            have hbl : B[i].length ≤ 4000000 := by
              have := htake (i + 1)
              rw [hfl, List.length_append] at this
              omega
            simp only [W_seq, W_reg, W_cond, W_blk, W_skip, W_exit, W_ret, W_regD, WO_nil, WO_cons, WO_guard2, wantV_b, bq_tt, bq_ft, bq_tf, bq_ff, Bool.not_true, Bool.not_false, WD_nil, WD_cons, WD_guard2, WS_some, WS_none, KS_n, KS_x, KS_r, KB_n, KB_x, KB_r, KN_ap, KO_ap, KD_ap, KC_nil, KF_n, KF_r, KG_n, KG_r, KL_n, KL_x, KL_r, CP_true, CP_false, evOp, evX, X.ev, optX, put_some, put_none, get_set2, sel_t, sel_f, Nat.reduceBEq, Nat.reduceAdd, Nat.reduceLT, Nat.reduceLeDiff, Nat.reduceEqDiff, reduceIte, if_true, if_false, bi_add, bi_sub, bi_mul, bi_eql, bi_neq, bi_lss, bi_leq, bi_gtr, bi_geq, bs_eql, bs_neq, bs_lss, Am.unOp, ret1, pubL, pubC_agg, pubC_s, pubC_i, pubC_b, pubC_p, pubC_np, pubC_nsl, pubC_ws, pubC_full, pubC_shut, pubC_fn, pubA, initT, wkZ, wk, wants, resOf, tupOf, quiet, AOp.cls, Nat.beq_eq, Bool.or_eq_true, decide_true, decide_false, beq_self_eq_true, Bool.true_or, Bool.or_true, true_and, and_true, lenA, eqv, eqB, eqP, scal, new_box_self, List.getElem?_cons_zero, List.getElem?_cons_succ, key_ii, key_ss, findM, updM, esc_i, esc_s, esc_b, Int.reduceEq, ret1, new_nb, new_set, reduceCtorEq, Bool.xor_true, Bool.xor_false, Bool.false_eq_true, List.all_cons, List.all_nil, noTok, Bool.and_self, Bool.and_true, Bool.true_and, h5, h7, h13, h14, h15, h16, natOf_nat, hget, cells_s, ldA_1, hne]
            refine W_loop (fun m e q => ∃ k : Nat, k + m = B[i].length ∧ q7 = q ∧ e.get 5 = .p idv 0 ∧ e.get 7 = r7 ∧ e.get 13 = tx B ∧ e.get 14 = .s (B.take i).flatten ∧ e.get 15 = .s (putL (B.take i)) ∧ e.get 16 = .i .i64 i ∧ e.get 17 = .i .i64 k) ?_ B[i].length _ _ ?_
            · rintro m e q ⟨k, hk, rfl, h5, h7, h13, h14, h15, h16, h17⟩
              simp only [W_seq, W_reg, W_cond, W_blk, W_skip, W_exit, W_ret, W_regD, WO_nil, WO_cons, WO_guard2, wantV_b, bq_tt, bq_ft, bq_tf, bq_ff, Bool.not_true, Bool.not_false, WD_nil, WD_cons, WD_guard2, WS_some, WS_none, KS_n, KS_x, KS_r, KB_n, KB_x, KB_r, KN_ap, KO_ap, KD_ap, KC_nil, KF_n, KF_r, KG_n, KG_r, KL_n, KL_x, KL_r, CP_true, CP_false, evOp, evX, X.ev, optX, put_some, put_none, get_set2, sel_t, sel_f, Nat.reduceBEq, Nat.reduceAdd, Nat.reduceLT, Nat.reduceLeDiff, Nat.reduceEqDiff, reduceIte, if_true, if_false, bi_add, bi_sub, bi_mul, bi_eql, bi_neq, bi_lss, bi_leq, bi_gtr, bi_geq, bs_eql, bs_neq, bs_lss, Am.unOp, ret1, pubL, pubC_agg, pubC_s, pubC_i, pubC_b, pubC_p, pubC_np, pubC_nsl, pubC_ws, pubC_full, pubC_shut, pubC_fn, pubA, initT, wkZ, wk, wants, resOf, tupOf, quiet, AOp.cls, Nat.beq_eq, Bool.or_eq_true, decide_true, decide_false, beq_self_eq_true, Bool.true_or, Bool.or_true, true_and, and_true, lenA, eqv, eqB, eqP, scal, new_box_self, List.getElem?_cons_zero, List.getElem?_cons_succ, key_ii, key_ss, findM, updM, esc_i, esc_s, esc_b, Int.reduceEq, ret1, new_nb, new_set, reduceCtorEq, Bool.xor_true, Bool.xor_false, Bool.false_eq_true, List.all_cons, List.all_nil, noTok, Bool.and_self, Bool.and_true, Bool.true_and, h5, h7, h13, h14, h15, h16, h17, natOf_nat, hget, cells_s, ldA_1, ofNat_len]
              refine CP_dec (fun hlt2 => ?_) (fun hge2 => ?_)
              · have hlt2 : k < B[i].length := by omega
                have hget2 : B[i][k]? = some B[i][k] := List.getElem?_eq_getElem hlt2
                have hbk : blankN B[i][k] = false := hok.2 _ (List.getElem_mem hlt2)
                have h256 : B[i][k] < 256 := by
                  have hm : B[i][k] ∈ T := by
                    have : B[i][k] ∈ B.flatten := List.mem_flatten.2 ⟨B[i], List.getElem_mem hlt, List.getElem_mem hlt2⟩
                    rw [hB2] at this
                    exact (List.mem_filter.1 this).1
                  rw [← hT] at hm
                  exact textL_txt itoaN x (ps.map bare) (fun p h => (htb p h).2) _ hm
                have hb := blank_ok B[i][k] h256 q7
                rw [hbk] at hb
                simp only [W_seq, W_reg, W_cond, W_blk, W_skip, W_exit, W_ret, W_regD, WO_nil, WO_cons, WO_guard2, wantV_b, bq_tt, bq_ft, bq_tf, bq_ff, Bool.not_true, Bool.not_false, WD_nil, WD_cons, WD_guard2, WS_some, WS_none, KS_n, KS_x, KS_r, KB_n, KB_x, KB_r, KN_ap, KO_ap, KD_ap, KC_nil, KF_n, KF_r, KG_n, KG_r, KL_n, KL_x, KL_r, CP_true, CP_false, evOp, evX, X.ev, optX, put_some, put_none, get_set2, sel_t, sel_f, Nat.reduceBEq, Nat.reduceAdd, Nat.reduceLT, Nat.reduceLeDiff, Nat.reduceEqDiff, reduceIte, if_true, if_false, bi_add, bi_sub, bi_mul, bi_eql, bi_neq, bi_lss, bi_leq, bi_gtr, bi_geq, bs_eql, bs_neq, bs_lss, Am.unOp, ret1, pubL, pubC_agg, pubC_s, pubC_i, pubC_b, pubC_p, pubC_np, pubC_nsl, pubC_ws, pubC_full, pubC_shut, pubC_fn, pubA, initT, wkZ, wk, wants, resOf, tupOf, quiet, AOp.cls, Nat.beq_eq, Bool.or_eq_true, decide_true, decide_false, beq_self_eq_true, Bool.true_or, Bool.or_true, true_and, and_true, lenA, eqv, eqB, eqP, scal, new_box_self, List.getElem?_cons_zero, List.getElem?_cons_succ, key_ii, key_ss, findM, updM, esc_i, esc_s, esc_b, Int.reduceEq, ret1, new_nb, new_set, reduceCtorEq, Bool.xor_true, Bool.xor_false, Bool.false_eq_true, List.all_cons, List.all_nil, noTok, Bool.and_self, Bool.and_true, Bool.true_and, h5, h7, h13, h14, h15, h16, h17, hget2, hb, wrap_succ (show k + 1 < 2 ^ 63 by omega)]
                exact ⟨m - 1, by omega, k + 1, by omega, rfl⟩
              · have hc1 : (B.take i).flatten.length + B[i].length < 2 ^ 62 := by have := htake i; omega
                have hc2 : (putL (B.take i)).length + [32].length < 2 ^ 62 := by have := hput i; have := htake i; simp; omega
                have hc3 : (putL (B.take i) ++ [32]).length + B[i].length < 2 ^ 62 := by have := hput i; have := htake i; simp; omega
                simp only [W_seq, W_reg, W_cond, W_blk, W_skip, W_exit, W_ret, W_regD, WO_nil, WO_cons, WO_guard2, wantV_b, bq_tt, bq_ft, bq_tf, bq_ff, Bool.not_true, Bool.not_false, WD_nil, WD_cons, WD_guard2, WS_some, WS_none, KS_n, KS_x, KS_r, KB_n, KB_x, KB_r, KN_ap, KO_ap, KD_ap, KC_nil, KF_n, KF_r, KG_n, KG_r, KL_n, KL_x, KL_r, CP_true, CP_false, evOp, evX, X.ev, optX, put_some, put_none, get_set2, sel_t, sel_f, Nat.reduceBEq, Nat.reduceAdd, Nat.reduceLT, Nat.reduceLeDiff, Nat.reduceEqDiff, reduceIte, if_true, if_false, bi_add, bi_sub, bi_mul, bi_eql, bi_neq, bi_lss, bi_leq, bi_gtr, bi_geq, bs_eql, bs_neq, bs_lss, Am.unOp, ret1, pubL, pubC_agg, pubC_s, pubC_i, pubC_b, pubC_p, pubC_np, pubC_nsl, pubC_ws, pubC_full, pubC_shut, pubC_fn, pubA, initT, wkZ, wk, wants, resOf, tupOf, quiet, AOp.cls, Nat.beq_eq, Bool.or_eq_true, decide_true, decide_false, beq_self_eq_true, Bool.true_or, Bool.or_true, true_and, and_true, lenA, eqv, eqB, eqP, scal, new_box_self, List.getElem?_cons_zero, List.getElem?_cons_succ, key_ii, key_ss, findM, updM, esc_i, esc_s, esc_b, Int.reduceEq, ret1, new_nb, new_set, reduceCtorEq, Bool.xor_true, Bool.xor_false, Bool.false_eq_true, List.all_cons, List.all_nil, noTok, Bool.and_self, Bool.and_true, Bool.true_and, h5, h7, h13, h14, h15, h16, h17, natOf_nat, hget, cells_s, ldA_1, bs_add, if_pos hc1, if_pos hc2, if_pos hc3, wrap_succ (show i + 1 < 2 ^ 63 by omega)]
                exact ⟨n - 1, by omega, i + 1, by omega, by rw [hfl], by rw [hpl], rfl⟩
            · simp only [W_seq, W_reg, W_cond, W_blk, W_skip, W_exit, W_ret, W_regD, WO_nil, WO_cons, WO_guard2, wantV_b, bq_tt, bq_ft, bq_tf, bq_ff, Bool.not_true, Bool.not_false, WD_nil, WD_cons, WD_guard2, WS_some, WS_none, KS_n, KS_x, KS_r, KB_n, KB_x, KB_r, KN_ap, KO_ap, KD_ap, KC_nil, KF_n, KF_r, KG_n, KG_r, KL_n, KL_x, KL_r, CP_true, CP_false, evOp, evX, X.ev, optX, put_some, put_none, get_set2, sel_t, sel_f, Nat.reduceBEq, Nat.reduceAdd, Nat.reduceLT, Nat.reduceLeDiff, Nat.reduceEqDiff, reduceIte, if_true, if_false, bi_add, bi_sub, bi_mul, bi_eql, bi_neq, bi_lss, bi_leq, bi_gtr, bi_geq, bs_eql, bs_neq, bs_lss, Am.unOp, ret1, pubL, pubC_agg, pubC_s, pubC_i, pubC_b, pubC_p, pubC_np, pubC_nsl, pubC_ws, pubC_full, pubC_shut, pubC_fn, pubA, initT, wkZ, wk, wants, resOf, tupOf, quiet, AOp.cls, Nat.beq_eq, Bool.or_eq_true, decide_true, decide_false, beq_self_eq_true, Bool.true_or, Bool.or_true, true_and, and_true, lenA, eqv, eqB, eqP, scal, new_box_self, List.getElem?_cons_zero, List.getElem?_cons_succ, key_ii, key_ss, findM, updM, esc_i, esc_s, esc_b, Int.reduceEq, ret1, new_nb, new_set, reduceCtorEq, Bool.xor_true, Bool.xor_false, Bool.false_eq_true, List.all_cons, List.all_nil, noTok, Bool.and_self, Bool.and_true, Bool.true_and, h5, h7, h13, h14, h15, h16]
              exact ⟨0, by omega, rfl⟩
          · have hil : i = B.length := by omega
            rw [hil, List.take_length] at h14 h15
            have la7 : ldA q7 true 4 (.p idv 0) = some x.av := la7
            simp only [W_seq, W_reg, W_cond, W_blk, W_skip, W_exit, W_ret, W_regD, WO_nil, WO_cons, WO_guard2, wantV_b, bq_tt, bq_ft, bq_tf, bq_ff, Bool.not_true, Bool.not_false, WD_nil, WD_cons, WD_guard2, WS_some, WS_none, KS_n, KS_x, KS_r, KB_n, KB_x, KB_r, KN_ap, KO_ap, KD_ap, KC_nil, KF_n, KF_r, KG_n, KG_r, KL_n, KL_x, KL_r, CP_true, CP_false, evOp, evX, X.ev, optX, put_some, put_none, get_set2, sel_t, sel_f, Nat.reduceBEq, Nat.reduceAdd, Nat.reduceLT, Nat.reduceLeDiff, Nat.reduceEqDiff, reduceIte, if_true, if_false, bi_add, bi_sub, bi_mul, bi_eql, bi_neq, bi_lss, bi_leq, bi_gtr, bi_geq, bs_eql, bs_neq, bs_lss, Am.unOp, ret1, pubL, pubC_agg, pubC_s, pubC_i, pubC_b, pubC_p, pubC_np, pubC_nsl, pubC_ws, pubC_full, pubC_shut, pubC_fn, pubA, initT, wkZ, wk, wants, resOf, tupOf, quiet, AOp.cls, Nat.beq_eq, Bool.or_eq_true, decide_true, decide_false, beq_self_eq_true, Bool.true_or, Bool.or_true, true_and, and_true, lenA, eqv, eqB, eqP, scal, new_box_self, List.getElem?_cons_zero, List.getElem?_cons_succ, key_ii, key_ss, findM, updM, esc_i, esc_s, esc_b, Int.reduceEq, ret1, new_nb, new_set, reduceCtorEq, Bool.xor_true, Bool.xor_false, Bool.false_eq_true, List.all_cons, List.all_nil, noTok, Bool.and_self, Bool.and_true, Bool.true_and, h5, h7, h13, h14, h15, h16, la7, e8, hT2]
            refine W_loop (fun n e q => ∃ i : Nat, i + n = T.length ∧ q8 = q ∧ e.get 13 = tx B ∧ e.get 14 = .s B.flatten ∧ e.get 15 = .s (putL B) ∧ e.get 18 = .s T ∧ e.get 19 = .s (nb (T.take i)) ∧ e.get 20 = .i .i64 i) ?_ T.length _ _ ?_
            · rintro n e q ⟨i, hi, rfl, h13, h14, h15, h18, h19, h20⟩
              simp only [W_seq, W_reg, W_cond, W_blk, W_skip, W_exit, W_ret, W_regD, WO_nil, WO_cons, WO_guard2, wantV_b, bq_tt, bq_ft, bq_tf, bq_ff, Bool.not_true, Bool.not_false, WD_nil, WD_cons, WD_guard2, WS_some, WS_none, KS_n, KS_x, KS_r, KB_n, KB_x, KB_r, KN_ap, KO_ap, KD_ap, KC_nil, KF_n, KF_r, KG_n, KG_r, KL_n, KL_x, KL_r, CP_true, CP_false, evOp, evX, X.ev, optX, put_some, put_none, get_set2, sel_t, sel_f, Nat.reduceBEq, Nat.reduceAdd, Nat.reduceLT, Nat.reduceLeDiff, Nat.reduceEqDiff, reduceIte, if_true, if_false, bi_add, bi_sub, bi_mul, bi_eql, bi_neq, bi_lss, bi_leq, bi_gtr, bi_geq, bs_eql, bs_neq, bs_lss, Am.unOp, ret1, pubL, pubC_agg, pubC_s, pubC_i, pubC_b, pubC_p, pubC_np, pubC_nsl, pubC_ws, pubC_full, pubC_shut, pubC_fn, pubA, initT, wkZ, wk, wants, resOf, tupOf, quiet, AOp.cls, Nat.beq_eq, Bool.or_eq_true, decide_true, decide_false, beq_self_eq_true, Bool.true_or, Bool.or_true, true_and, and_true, lenA, eqv, eqB, eqP, scal, new_box_self, List.getElem?_cons_zero, List.getElem?_cons_succ, key_ii, key_ss, findM, updM, esc_i, esc_s, esc_b, Int.reduceEq, ret1, new_nb, new_set, reduceCtorEq, Bool.xor_true, Bool.xor_false, Bool.false_eq_true, List.all_cons, List.all_nil, noTok, Bool.and_self, Bool.and_true, Bool.true_and, h13, h14, h15, h18, h19, h20, ofNat_len]
              refine CP_dec (fun hlt => ?_) (fun hge => ?_)
              · have hlt : i < T.length := by omega
                have hget : T[i]? = some T[i] := List.getElem?_eq_getElem hlt
                have h256 : T[i] < 256 := textL_txt itoaN x (ps.map bare) (fun p h => (htb p h).2) _ (by rw [hT]; exact List.getElem_mem hlt)
                have hb := blank_ok T[i] h256 q8
                have hst : nb (T.take (i + 1)) = nb (T.take i) ++ nb [T[i]] := by
                  rw [List.take_succ_eq_append_getElem hlt, nb_append]
                have hsub : (T.drop i).take (i + 1 - i) = [T[i]] := by
                  rw [show i + 1 - i = 1 by omega, List.take_one, List.head?_drop, hget]; rfl
                have hwk := wrap_succ (show i + 1 < 2 ^ 63 by omega)
                cases hc : blankN T[i] with
                | true =>
                  rw [hc] at hb
                  have hn1 : nb [T[i]] = [] := by simp [nb, hc]
                  simp only [W_seq, W_reg, W_cond, W_blk, W_skip, W_exit, W_ret, W_regD, WO_nil, WO_cons, WO_guard2, wantV_b, bq_tt, bq_ft, bq_tf, bq_ff, Bool.not_true, Bool.not_false, WD_nil, WD_cons, WD_guard2, WS_some, WS_none, KS_n, KS_x, KS_r, KB_n, KB_x, KB_r, KN_ap, KO_ap, KD_ap, KC_nil, KF_n, KF_r, KG_n, KG_r, KL_n, KL_x, KL_r, CP_true, CP_false, evOp, evX, X.ev, optX, put_some, put_none, get_set2, sel_t, sel_f, Nat.reduceBEq, Nat.reduceAdd, Nat.reduceLT, Nat.reduceLeDiff, Nat.reduceEqDiff, reduceIte, if_true, if_false, bi_add, bi_sub, bi_mul, bi_eql, bi_neq, bi_lss, bi_leq, bi_gtr, bi_geq, bs_eql, bs_neq, bs_lss, Am.unOp, ret1, pubL, pubC_agg, pubC_s, pubC_i, pubC_b, pubC_p, pubC_np, pubC_nsl, pubC_ws, pubC_full, pubC_shut, pubC_fn, pubA, initT, wkZ, wk, wants, resOf, tupOf, quiet, AOp.cls, Nat.beq_eq, Bool.or_eq_true, decide_true, decide_false, beq_self_eq_true, Bool.true_or, Bool.or_true, true_and, and_true, lenA, eqv, eqB, eqP, scal, new_box_self, List.getElem?_cons_zero, List.getElem?_cons_succ, key_ii, key_ss, findM, updM, esc_i, esc_s, esc_b, Int.reduceEq, ret1, new_nb, new_set, reduceCtorEq, Bool.xor_true, Bool.xor_false, Bool.false_eq_true, List.all_cons, List.all_nil, noTok, Bool.and_self, Bool.and_true, Bool.true_and, h13, h14, h15, h18, h19, h20, ofNat_len, natOf_nat, hget, hb, hwk]
                  exact ⟨n - 1, by omega, i + 1, by omega, by rw [hst, hn1, List.append_nil], rfl⟩
                | false =>
                  rw [hc] at hb
                  have hn1 : nb [T[i]] = [T[i]] := by simp [nb, hc]
                  have hln := nb_len (T.take i)
                  have hln2 : (T.take i).length ≤ T.length := by simp; omega
                  have hcat : (nb (T.take i)).length + [T[i]].length < 2 ^ 62 := by simp; omega
                  simp only [W_seq, W_reg, W_cond, W_blk, W_skip, W_exit, W_ret, W_regD, WO_nil, WO_cons, WO_guard2, wantV_b, bq_tt, bq_ft, bq_tf, bq_ff, Bool.not_true, Bool.not_false, WD_nil, WD_cons, WD_guard2, WS_some, WS_none, KS_n, KS_x, KS_r, KB_n, KB_x, KB_r, KN_ap, KO_ap, KD_ap, KC_nil, KF_n, KF_r, KG_n, KG_r, KL_n, KL_x, KL_r, CP_true, CP_false, evOp, evX, X.ev, optX, put_some, put_none, get_set2, sel_t, sel_f, Nat.reduceBEq, Nat.reduceAdd, Nat.reduceLT, Nat.reduceLeDiff, Nat.reduceEqDiff, reduceIte, if_true, if_false, bi_add, bi_sub, bi_mul, bi_eql, bi_neq, bi_lss, bi_leq, bi_gtr, bi_geq, bs_eql, bs_neq, bs_lss, Am.unOp, ret1, pubL, pubC_agg, pubC_s, pubC_i, pubC_b, pubC_p, pubC_np, pubC_nsl, pubC_ws, pubC_full, pubC_shut, pubC_fn, pubA, initT, wkZ, wk, wants, resOf, tupOf, quiet, AOp.cls, Nat.beq_eq, Bool.or_eq_true, decide_true, decide_false, beq_self_eq_true, Bool.true_or, Bool.or_true, true_and, and_true, lenA, eqv, eqB, eqP, scal, new_box_self, List.getElem?_cons_zero, List.getElem?_cons_succ, key_ii, key_ss, findM, updM, esc_i, esc_s, esc_b, Int.reduceEq, ret1, new_nb, new_set, reduceCtorEq, Bool.xor_true, Bool.xor_false, Bool.false_eq_true, List.all_cons, List.all_nil, noTok, Bool.and_self, Bool.and_true, Bool.true_and, h13, h14, h15, h18, h19, h20, ofNat_len, natOf_nat, hget, hb, hwk, bounds_ii (show i ≤ i + 1 by omega) (show i + 1 ≤ T.length by omega), hsub, bs_add, if_pos hcat]
                  exact ⟨n - 1, by omega, i + 1, by omega, by rw [hst, hn1], rfl⟩
              · have hil2 : i = T.length := by omega
                have hBB2 : (B.flatten = nb (T.take i)) = True := by rw [hil2, List.take_length, hB2]; exact eq_self _
                simp only [W_seq, W_reg, W_cond, W_blk, W_skip, W_exit, W_ret, W_regD, WO_nil, WO_cons, WO_guard2, wantV_b, bq_tt, bq_ft, bq_tf, bq_ff, Bool.not_true, Bool.not_false, WD_nil, WD_cons, WD_guard2, WS_some, WS_none, KS_n, KS_x, KS_r, KB_n, KB_x, KB_r, KN_ap, KO_ap, KD_ap, KC_nil, KF_n, KF_r, KG_n, KG_r, KL_n, KL_x, KL_r, CP_true, CP_false, evOp, evX, X.ev, optX, put_some, put_none, get_set2, sel_t, sel_f, Nat.reduceBEq, Nat.reduceAdd, Nat.reduceLT, Nat.reduceLeDiff, Nat.reduceEqDiff, reduceIte, if_true, if_false, bi_add, bi_sub, bi_mul, bi_eql, bi_neq, bi_lss, bi_leq, bi_gtr, bi_geq, bs_eql, bs_neq, bs_lss, Am.unOp, ret1, pubL, pubC_agg, pubC_s, pubC_i, pubC_b, pubC_p, pubC_np, pubC_nsl, pubC_ws, pubC_full, pubC_shut, pubC_fn, pubA, initT, wkZ, wk, wants, resOf, tupOf, quiet, AOp.cls, Nat.beq_eq, Bool.or_eq_true, decide_true, decide_false, beq_self_eq_true, Bool.true_or, Bool.or_true, true_and, and_true, lenA, eqv, eqB, eqP, scal, new_box_self, List.getElem?_cons_zero, List.getElem?_cons_succ, key_ii, key_ss, findM, updM, esc_i, esc_s, esc_b, Int.reduceEq, ret1, new_nb, new_set, reduceCtorEq, Bool.xor_true, Bool.xor_false, Bool.false_eq_true, List.all_cons, List.all_nil, noTok, Bool.and_self, Bool.and_true, Bool.true_and, h13, h14, h15, h18, h19, h20, al1, evParts, hp1, hp2, cells_sl, len1, over4_0, over4_1, par_ok, ap1, hF3, hsame, hBB2]
                exact KR_some ov8 rfl rfl
            · simp only [W_seq, W_reg, W_cond, W_blk, W_skip, W_exit, W_ret, W_regD, WO_nil, WO_cons, WO_guard2, wantV_b, bq_tt, bq_ft, bq_tf, bq_ff, Bool.not_true, Bool.not_false, WD_nil, WD_cons, WD_guard2, WS_some, WS_none, KS_n, KS_x, KS_r, KB_n, KB_x, KB_r, KN_ap, KO_ap, KD_ap, KC_nil, KF_n, KF_r, KG_n, KG_r, KL_n, KL_x, KL_r, CP_true, CP_false, evOp, evX, X.ev, optX, put_some, put_none, get_set2, sel_t, sel_f, Nat.reduceBEq, Nat.reduceAdd, Nat.reduceLT, Nat.reduceLeDiff, Nat.reduceEqDiff, reduceIte, if_true, if_false, bi_add, bi_sub, bi_mul, bi_eql, bi_neq, bi_lss, bi_leq, bi_gtr, bi_geq, bs_eql, bs_neq, bs_lss, Am.unOp, ret1, pubL, pubC_agg, pubC_s, pubC_i, pubC_b, pubC_p, pubC_np, pubC_nsl, pubC_ws, pubC_full, pubC_shut, pubC_fn, pubA, initT, wkZ, wk, wants, resOf, tupOf, quiet, AOp.cls, Nat.beq_eq, Bool.or_eq_true, decide_true, decide_false, beq_self_eq_true, Bool.true_or, Bool.or_true, true_and, and_true, lenA, eqv, eqB, eqP, scal, new_box_self, List.getElem?_cons_zero, List.getElem?_cons_succ, key_ii, key_ss, findM, updM, esc_i, esc_s, esc_b, Int.reduceEq, ret1, new_nb, new_set, reduceCtorEq, Bool.xor_true, Bool.xor_false, Bool.false_eq_true, List.all_cons, List.all_nil, noTok, Bool.and_self, Bool.and_true, Bool.true_and, h13, h14, h15]
              exact ⟨0, by omega, rfl, rfl⟩
        · simp only [W_seq, W_reg, W_cond, W_blk, W_skip, W_exit, W_ret, W_regD, WO_nil, WO_cons, WO_guard2, wantV_b, bq_tt, bq_ft, bq_tf, bq_ff, Bool.not_true, Bool.not_false, WD_nil, WD_cons, WD_guard2, WS_some, WS_none, KS_n, KS_x, KS_r, KB_n, KB_x, KB_r, KN_ap, KO_ap, KD_ap, KC_nil, KF_n, KF_r, KG_n, KG_r, KL_n, KL_x, KL_r, CP_true, CP_false, evOp, evX, X.ev, optX, put_some, put_none, get_set2, sel_t, sel_f, Nat.reduceBEq, Nat.reduceAdd, Nat.reduceLT, Nat.reduceLeDiff, Nat.reduceEqDiff, reduceIte, if_true, if_false, bi_add, bi_sub, bi_mul, bi_eql, bi_neq, bi_lss, bi_leq, bi_gtr, bi_geq, bs_eql, bs_neq, bs_lss, Am.unOp, ret1, pubL, pubC_agg, pubC_s, pubC_i, pubC_b, pubC_p, pubC_np, pubC_nsl, pubC_ws, pubC_full, pubC_shut, pubC_fn, pubA, initT, wkZ, wk, wants, resOf, tupOf, quiet, AOp.cls, Nat.beq_eq, Bool.or_eq_true, decide_true, decide_false, beq_self_eq_true, Bool.true_or, Bool.or_true, true_and, and_true, lenA, eqv, eqB, eqP, scal, new_box_self, List.getElem?_cons_zero, List.getElem?_cons_succ, key_ii, key_ss, findM, updM, esc_i, esc_s, esc_b, Int.reduceEq, ret1, new_nb, new_set, reduceCtorEq, Bool.xor_true, Bool.xor_false, Bool.false_eq_true, List.all_cons, List.all_nil, noTok, Bool.and_self, Bool.and_true, Bool.true_and, h1, h5, h6, h7]
          exact ⟨0, by omega, rfl, rfl, rfl⟩
  · simp only [W_seq, W_reg, W_cond, W_blk, W_skip, W_exit, W_ret, W_regD, WO_nil, WO_cons, WO_guard2, wantV_b, bq_tt, bq_ft, bq_tf, bq_ff, Bool.not_true, Bool.not_false, WD_nil, WD_cons, WD_guard2, WS_some, WS_none, KS_n, KS_x, KS_r, KB_n, KB_x, KB_r, KN_ap, KO_ap, KD_ap, KC_nil, KF_n, KF_r, KG_n, KG_r, KL_n, KL_x, KL_r, CP_true, CP_false, evOp, evX, X.ev, optX, put_some, put_none, get_set2, sel_t, sel_f, Nat.reduceBEq, Nat.reduceAdd, Nat.reduceLT, Nat.reduceLeDiff, Nat.reduceEqDiff, reduceIte, if_true, if_false, bi_add, bi_sub, bi_mul, bi_eql, bi_neq, bi_lss, bi_leq, bi_gtr, bi_geq, bs_eql, bs_neq, bs_lss, Am.unOp, ret1, pubL, pub, pubA, initT, wkZ, wk, wants, resOf, tupOf, quiet, AOp.cls, Nat.beq_eq, Bool.or_eq_true, decide_true, decide_false, beq_self_eq_true, Bool.true_or, Bool.or_true, true_and, and_true, lenA, eqv, eqB, eqP, scal, new_box_self, List.getElem?_cons_zero, List.getElem?_cons_succ, key_ii, key_ss, findM, updM, esc_i, esc_s, esc_b, Int.reduceEq, ret1, new_nb, new_set, reduceCtorEq, Bool.xor_true, Bool.xor_false, Bool.false_eq_true, List.all_cons, List.all_nil, noTok, Bool.and_self, Bool.and_true, Bool.true_and]
    exact ⟨0, by omega, rfl, ov2, w2, hidv2, hb2, .inl ⟨rfl, rfl⟩, .inl ⟨rfl, rfl⟩, fun k h => by simp [rowTok] at h⟩
end Go.Proofs.YtfpoihibfajhlaaDoor
