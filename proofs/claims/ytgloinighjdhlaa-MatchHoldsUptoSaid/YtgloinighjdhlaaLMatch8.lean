/-
  pat.below as an iterator.
-/
import Derived.Test.YtgloinighjdhlaaLPlace1
set_option linter.all false
set_option linter.unusedVariables false
set_option linter.unusedSimpArgs false
set_option linter.unusedSectionVars false
set_option maxRecDepth 100000
set_option maxHeartbeats 4000000
namespace Go.Proofs.Ytgloinighjdhlaa
open Go.Proofs.Ytgloinighjdhlaa.Am
attribute [local irreducible] W WO WE WQ WD Tr.get Tr.set
theorem UF {l : List FT} {x : Nat × List (List Nat)} {a0 a1 : AV} (ha : CB 6 a0 (l.map FT.av)) (hp : CB 1 a1 (x.2.map .s)) (q : St) :
    (lim prog).call EQ [a0, .agg [.i .i64 (x.1 : Nat), a1]] q = some (.fn Bc [.p (q.nb + 1) 0, .p q.nb 0], { (q.new (.cells 22 [fx l])).new (.cells 107 (tdV x).cells) with lo := min q.lo q.nb }) := by
 obtain ⟨r, s', h, rfl, rfl⟩ := fn_G (f := EQ) (args := [a0, .agg [.i .i64 (x.1 : Nat), a1]]) (s := q) (Post := fun r s' => r = .fn Bc [.p (q.nb + 1) 0, .p q.nb 0] ∧ s' = { (q.new (.cells 22 [fx l])).new (.cells 107 (tdV x).cells) with lo := min q.lo q.nb }) OZ rfl rfl (by
  have hz0 : wkZ ES.cin [a0, .agg [.i .i64 (x.1 : Nat), a1]] = [fx l, .agg [.i .i64 (x.1 : Nat), tx x.2]] := by
   simp only [ES, wkZ, Ek ha, wk, hp.wk (NB _)]
  rw [hz0]
  have c1 : (fx l).cells = [fx l] := rfl
  have h1 : q.enter.nb = q.nb := rfl
  simp only [ES, go_sem, AD, AA, AC, AB, KB_n, KB_x, Nat.reduceBEq, Nat.reduceAdd, Nat.reduceLT, Nat.reduceLeDiff, Nat.reduceEqDiff, reduceIte, Int.reduceEq, reduceCtorEq, c1, h1, List.length_cons, List.length_nil]
  exact ⟨_, _, rfl, rfl, Lz rfl⟩)
 exact h
theorem Jf : ∀ L : List (List Nat), D4 (L.map AV.s) (L.map AV.s) = true
 | [] => rfl
 | z :: L => by simp [List.map_cons, D4, beqA, Jf L, K5]
theorem Sh : ∀ l : List FT, D4 (l.map FT.av) (l.map FT.av) = true
 | [] => rfl
 | f :: l => by
   have h : D4 f.cells f.cells = true := by
    simp [FT.cells, tx, zx, D4, beqA, LW, Jf]
   simp only [List.map_cons, D4, FT.av, beqA, h, Bool.true_and]
   exact Sh l
theorem UG (l : List FT) : still (fx l) = true := by
 simp [still, fx, beqA, Sh]
theorem P0 {l : List FT} {x : Nat × List (List Nat)} {a0 a1 : AV} (ha : CB 6 a0 (l.map FT.av)) (hp : CB 1 a1 (x.2.map .s)) {q : St} (hw : Wf q) :
    ∃ q', (lim prog).call EQ [a0, .agg [.i .i64 (x.1 : Nat), a1]] q = some (.fn Bc [.p (q.nb + 1) 0, .p q.nb 0], q') ∧ Wf q' ∧ q'.nb = q.nb + 2 ∧ q'.nt = q.nt ∧ q'.box? q.nb = some (.cells 22 [fx l]) ∧ q'.box? (q.nb + 1) = some (.cells 107 (tdV x).cells) ∧ (∀ i, i < q.nb → q'.box? i = q.box? i) ∧ (∀ s0 : St, Over s0 q → Over s0 q') ∧ ∀ (O : Nat → Prop) (h : Nat), h ≤ q.nb → Fq O h q q' := by
 have w1 := hw.new (.cells 22 [fx l])
 refine ⟨_, UF ha hp q, (w1.new _).lo _, rfl, rfl, ?_, ?_, fun i hi => ?_, fun s0 h => ?_, fun O h hq => ?_⟩
 · have h1 : ((q.new (.cells 22 [fx l])).new (.cells 107 (tdV x).cells)).box? q.nb = (q.new (.cells 22 [fx l])).box? q.nb := B4 (by simp [St.new])
   exact h1.trans (BE q _)
 · exact BE (q.new (.cells 22 [fx l])) _
 · have h1 : ((q.new (.cells 22 [fx l])).new (.cells 107 (tdV x).cells)).box? i = (q.new (.cells 22 [fx l])).box? i := B4 (by simp [St.new]; omega)
   exact h1.trans (B4 hi)
 · refine ((h.new _).new _).setLo ?_
   have := h.lo
   have := h.nb
   omega
 · refine ((Fq.new hq _).trans (Fq.new (by simp [St.new]; omega) _)).trans (Fq.lo' (by simp [St.new]; omega) ?_)
   exact Nat.min_le_left _ _
def Jg (l : List FT) (d : Nat) (f : FT) (p : List (List Nat)) : List (List (Nat × List (List Nat))) := (f.kids.zip f.names).map fun x => belowF l d x.1.toNat (p ++ [x.2])
theorem Si {l : List FT} {d n : Nat} {f : FT} (hf : l[n]? = some f) (p : List (List Nat)) : belowF l (d + 1) n p = (n, p) :: (Jg l d f p).flatten := by
 rw [belowF, hf]; rfl
theorem flat_take {α : Type} {L : List (List α)} {i : Nat} {x : List α} (h : L[i]? = some x) : (L.take (i + 1)).flatten.length = (L.take i).flatten.length + x.length := by
 rw [List.getElem?_eq_some_iff] at h
 obtain ⟨hi, rfl⟩ := h
 rw [List.take_succ_eq_append_getElem hi, List.flatten_append, List.length_append]
 simp
theorem Sj {α : Type} {L : List (List α)} {i j : Nat} {x : List α} {a : α} (h : L[i]? = some x) (hj : x[j]? = some a) : L.flatten[(L.take i).flatten.length + j]? = some a := by
 rw [List.getElem?_eq_some_iff] at h
 obtain ⟨hi, rfl⟩ := h
 have : L.flatten = (L.take i).flatten ++ (L[i] ++ (L.drop (i + 1)).flatten) := by
  conv => lhs; rw [← List.take_append_drop i L, List.drop_eq_getElem_cons hi, List.flatten_append, List.flatten_cons]
 rw [this, List.getElem?_append_right (by omega), Nat.add_sub_cancel_left, List.getElem?_append_left]
 · exact hj
 · rw [List.getElem?_eq_some_iff] at hj; exact hj.1
theorem N1 {l : List FT} (hm : mayP l = true) (ho : ∀ f ∈ l, f.Ok) (hl : l.length < 2 ^ 34) : ∀ (d n : Nat) (p : List (List Nat)), n < l.length → p.length + d < 2 ^ 36 → ∀ {s : St} {xb lb : Nat}, s.box? xb = some (.cells 107 (tdV (n, p)).cells) → s.box? lb = some (.cells 22 [fx l]) → xb < s.nb → lb < s.nb →
    l.length - n ≤ d → IterG prog (fun j => j = xb ∨ j = lb) Bc [.p xb 0, .p lb 0] (tdL (belowF l d n p)) s
 | 0, n, p, hn, _, s, xb, lb, hx, hlb, lx, ll, hd => by omega
 | d + 1, n, p, hn, hpd, s, xb, lb, hx, hlb, lx, ll, hd => by
   intro s0 hc h ky I R C hC hch B hI hov hw hh h0
   obtain ⟨f, hf⟩ : ∃ f, l[n]? = some f := ⟨_, List.getElem?_eq_getElem hn⟩
   have hfm := List.mem_of_getElem? hf
   have hfo := ho f hfm
   have hone := Oe hm hfm
   have hnk := D1 hone
   have hbel := Si (d := d) hf p
   rw [hbel] at B ⊢
   obtain ⟨r, s', hcall, rfl, hres⟩ := fn_G (f := Bc) (args := [.yld ky, .p xb 0, .p lb 0]) (s := s) (Post := fun r s' => r = .tup [] ∧ Over s0 s' ∧ Wf s' ∧ s.nb ≤ s'.nb ∧ s.nt ≤ s'.nt ∧ (I C (tdL ((n, p) :: (Jg l d f p).flatten)).length s' ∨ R s')) Md rfl rfl (by
    have hend : ∀ q, Over s0 q → Wf q → s.nb ≤ q.nb → s.nt ≤ q.nt → (I (Cin hc C s) (tdL ((n, p) :: (Jg l d f p).flatten)).length q ∨ R q) → KH s [] (fun r s' => r = .tup [] ∧ Over s0 s' ∧ Wf s' ∧ s.nb ≤ s'.nb ∧ s.nt ≤ s'.nt ∧ (I C (tdL ((n, p) :: (Jg l d f p).flatten)).length s' ∨ R s')) (some ([], q)) := fun q k1 k2 k3 k4 k5 => by
     refine ⟨_, _, rfl, rfl, QI hov k1 k3 k4 _, TU k2 k3 k4 _, TR k3 _, TS k4 _, ?_⟩
     exact k5.imp (fun k => B.leave _ _ _ _ _ hC k hh k3 k4 k2 rfl) fun k => B.leaveR _ _ _ k hh k3 k4 k2 rfl
    have hCi : TokSafe hc (Cin hc C s) := Cin.safe s
    have hIi := B.enter _ _ _ hC hI hh
    have hz0 : wkZ BX.cin [.yld ky, .p xb 0, .p lb 0] = [.yld ky, .p xb 0, .p lb 0] := by simp [BX, wkZ, wk]
    have c1 : (AV.yld ky).cells = [.yld ky] := rfl
    have e0 : s.enter.nb = s.nb := rfl
    rw [hz0]
    obtain ⟨q1, hq1⟩ : ∃ q1, s.enter.new (.cells 119 [.yld ky]) = q1 := ⟨_, rfl⟩
    have w1 : Wf q1 := by rw [← hq1]; exact hw.enter.new _
    have nb1 : q1.nb = s.nb + 1 := by rw [← hq1]; rfl
    have nt1 : q1.nt = s.nt := by rw [← hq1]; rfl
    have ov1 : Over s0 q1 := by rw [← hq1]; exact hov.toEnter.new _
    have bx1 : ∀ i, i < s.nb → q1.box? i = s.box? i := fun i hi => by rw [← hq1, B4 (by exact hi)]; rfl
    have by1 : q1.box? s.nb = some (.cells 119 [.yld ky]) := by rw [← hq1]; exact BE s.enter _
    have I1 := B.stab _ _ _ q1 hCi hIi (by rw [← hq1]; exact Fq.new (show h ≤ s.enter.nb from hh) _)
    have ldy1 := Dx (s := q1) (v := .yld ky) (off := 0) by1 rfl
    have ldx1 : ldA q1 true 2 (.p xb 0) = some (tdV (n, p)) := by
     simp only [ldA, St.cells?, bx1 xb lx, hx]; rfl
    have lr1 : ∀ u, ldR u (some (tdV (n, p))) = some (tdV (n, p), u) := fun _ => rfl
    have pv : ∀ u : St, Am.pub u (tdV (n, p)) = some (tdV (n, p), u) := fun _ => rfl
    obtain ⟨bb, q2, hstep, ht2, hf2, ov2, w2, nb2, nt2, keep2⟩ := B.step (Cin hc C s) 0 (by simp [tdL]) q1 hCi I1 ov1 w1 (by omega)
    have hL0 : (tdL ((n, p) :: (Jg l d f p).flatten))[0]'(by simp [tdL]) = [tdV (n, p)] := rfl
    rw [hL0] at hstep
    have by2 : q2.box? s.nb = some (.cells 119 [.yld ky]) := by rw [keep2 s.nb (.inr hh) (by omega)]; exact by1
    have bxx2 : q2.box? xb = some (.cells 107 (tdV (n, p)).cells) := by rw [keep2 xb (.inl (.inl rfl)) (by omega), bx1 xb lx]; exact hx
    have bxl2 : q2.box? lb = some (.cells 22 [fx l]) := by rw [keep2 lb (.inl (.inr rfl)) (by omega), bx1 lb ll]; exact hlb
    cases bb with
    | false =>
      simp only [BX, go_sem, AD, AA, AC, AB, KB_n, KB_x, Nat.reduceBEq, Nat.reduceAdd, Nat.reduceLT, Nat.reduceLeDiff, Nat.reduceEqDiff, reduceIte, Int.reduceEq, reduceCtorEq, c1, e0, hq1, List.length_cons, List.length_nil, ldy1, ldx1, lr1, pv, hstep]
      exact hend q2 ov2 w2 (by omega) (by omega) (.inr (hf2 rfl))
    | true =>
      have I2 := ht2 rfl
      have ldl2 := Dx (s := q2) (v := fx l) (off := 0) bxl2 rfl
      have ldn2 := Dx (s := q2) (v := .i .i64 (n : Nat)) (off := 0) bxx2 rfl
      have hg := Hz hf
      have ldf := DF f
      have pvf := BA f
      obtain ⟨q3, d3, w3, nb3, nt3, bf3, bx3, ov3, fq3⟩ := UT (q := q2) w2 (T := 60) (m := 6) (z := [.b false, .i .u8 0, .nsl, .nsl, .i .i64 0, .i .i64 0]) (v := .agg f.cells) rfl ⟨rfl, rfl⟩ (by simp [FT.cells, tx, zx, AV.refs, AV.refs.go, Fb, J7])
      have ov3 := ov3 s0 ov2
      have ldk3 := Dx (s := q3) (v := zx f.kids) (off := 3) bf3 rfl
      simp only [BX, go_sem, AD, AA, AC, AB, KB_n, KB_x, Nat.reduceBEq, Nat.reduceAdd, Nat.reduceLT, Nat.reduceLeDiff, Nat.reduceEqDiff, reduceIte, Int.reduceEq, reduceCtorEq, c1, e0, hq1, List.length_cons, List.length_nil, ldy1, ldx1, lr1, pv, hstep, ldl2, ldn2, AF, fx, hg, ldf, pvf, Nat.zero_add, Ax, d3, ldk3, zx, List.length_map]
      refine BF (fun x e q => ∃ i : Nat, i + x = f.kids.length ∧ I (Cin hc C s) (1 + (((Jg l d f p).take i).flatten).length) q ∧ Over s0 q ∧ Wf q ∧ q3.nb ≤ q.nb ∧ s.nt ≤ q.nt ∧ q.box? s.nb = some (.cells 119 [.yld ky]) ∧ q.box? q2.nb = some (.cells 60 f.cells) ∧ q.box? xb = some (.cells 107 (tdV (n, p)).cells) ∧ q.box? lb = some (.cells 22 [fx l]) ∧
       e.get 1 = .p xb 0 ∧ e.get 2 = .p lb 0 ∧ e.get 3 = .p s.nb 0 ∧ e.get 4 = .p q2.nb 0 ∧ e.get 18 = zx f.kids ∧ e.get 19 = .i .i64 (f.kids.length : Nat) ∧ e.get 20 = .i .i64 (i : Nat)) ?_ f.kids.length _ _ ?_
      · rintro x e q ⟨i, hix, hIq, ovq, wq, nbq, ntq, bq1, bq2, bq3, bq4, g1, g2, g3, g4, g18, g19, g20⟩
        by_cases hi : i < f.kids.length
        · have h1 : ((i : Int) < (f.kids.length : Int)) = True := by simp only [eq_iff_iff, iff_true]; omega
          obtain ⟨k, hk⟩ : ∃ k, f.kids[i]? = some k := ⟨_, List.getElem?_eq_getElem hi⟩
          have hkid := (mayD hm).kid n f hf k (List.mem_of_getElem? hk)
          obtain ⟨kn, rfl⟩ : ∃ kn : Nat, k = (kn : Int) := ⟨k.toNat, by omega⟩
          obtain ⟨nm, hnm⟩ : ∃ nm, f.names[i]? = some nm := ⟨_, List.getElem?_eq_getElem (by omega)⟩
          have hk2 := I3 hk
          have ldk : ∀ u : St, ldA u false 1 (.ep [.i .i64 (kn : Int)] 0 .shut) = some (.i .i64 (kn : Int)) := fun _ => rfl
          simp only [go_sem, AD, AA, AC, AB, KB_n, KB_x, Nat.reduceBEq, Nat.reduceAdd, Nat.reduceLT, Nat.reduceLeDiff, Nat.reduceEqDiff, reduceIte, Int.reduceEq, reduceCtorEq, g1, g2, g3, g4, g18, g19, g20, zx, h1, AF, hk2, ldk, Ct]
          have ll0 := Dx (s := q) (v := fx l) (off := 0) bq4 rfl
          have lp0 := Dx (s := q) (v := tx p) (off := 1) bq3 rfl
          have ln0 := Dx (s := q) (v := tx f.names) (off := 2) bq2 rfl
          have hnm2 : (f.names.map AV.s)[i]? = some (.s nm) := by rw [List.getElem?_map, hnm]; rfl
          have ldn : ∀ u : St, ldA u false 1 (.ep [.s nm] 0 .shut) = some (.s nm) := fun _ => rfl
          have hsl : Ba q false 1 (.ws false 1 (p.map .s)) none (some (.i .i64 (p.length : Nat))) (some (.i .i64 (p.length : Nat))) = some (.ws true 1 (p.map .s), q) := by
           have ht : List.take p.length (p.map AV.s) = p.map .s := List.take_of_length_le (by simp)
           unfold Ba CU
           simp [CS, ht]
          obtain ⟨q4, d4, w4, nb4, nt4, bx4, ov4, fq4⟩ := VD (q := q) (es := 1) (T := 9) (a := .ws true 1 (p.map .s)) (xs := p.map .s) (y := .sl 1 [.s nm] .full) (ys := [.s nm]) wq .ws (by simp [elems, St.ok]) (by simp) (by simp; omega)
          have ov4 := ov4 s0 ovq
          obtain ⟨q5, d5, w5, nb5, nt5, bl5, bt5, bx5, ov5, fq5⟩ := P0 (l := l) (x := (kn, p ++ [nm])) (a0 := fx l) (a1 := .sl 1 (p.map .s ++ [.s nm]) .shut) .ws (.inr (.inr (.inr (.inl (by simp))))) w4
          have ov5 := ov5 s0 ov4
          simp only [fx] at d5
          have hal : Al 1 [AV.s nm] = true := rfl
          have hsh : ∀ u : St, WT false u (.fn Bc [.p (q4.nb + 1) 0, .p q4.nb 0]) = some (.fn Bc [.p (q4.nb + 1) 0, .p q4.nb 0], u) := fun _ => rfl
          have ll4 := Dx (s := q4) (v := fx l) (off := 0) (by rw [bx4]; exact bq4) rfl
          refine UZ rfl ?_
          simp only [go_sem, AD, AA, AC, AB, KB_n, KB_x, Nat.reduceBEq, Nat.reduceAdd, Nat.reduceLT, Nat.reduceLeDiff, Nat.reduceEqDiff, reduceIte, Int.reduceEq, reduceCtorEq, g1, g2, g3, g4, ll0, lp0, ln0, tx, fx, AF, hnm2, ldn, List.length_map, hsl, hal, d4, d5, hsh]
          refine KW_ld rfl (by simp only [go_sem, AD, AA, AC, AB, KB_n, KB_x, Nat.reduceBEq, Nat.reduceAdd, Nat.reduceLT, Nat.reduceLeDiff, Nat.reduceEqDiff, reduceIte, Int.reduceEq, reduceCtorEq, g2]) (UG l) ⟨⟨_, rfl, ll0⟩, ⟨_, rfl, ll0⟩, ⟨_, rfl, ll0⟩, ⟨_, rfl, ll0⟩, ⟨_, rfl, ll0⟩, ⟨_, rfl, ll0⟩, ⟨_, rfl, ll0⟩, ⟨_, rfl, ll0⟩, ⟨_, rfl, ll0⟩, ⟨_, rfl, ll0⟩, ⟨_, rfl, ll0⟩, ⟨_, rfl, ll0⟩, ⟨_, rfl, ll0⟩, ⟨_, rfl, ll0⟩, ⟨_, rfl, ll0⟩, ⟨_, rfl, ll0⟩, ⟨_, rfl, ll0⟩, ⟨_, rfl, ll0⟩, ⟨_, rfl, ll0⟩, ⟨_, rfl, ll4⟩, trivial⟩ (Ub ?_)
          have Isub : (Jg l d f p)[i]? = some (belowF l d kn (p ++ [nm])) := by
           unfold Jg
           rw [List.getElem?_map]
           have : (f.kids.zip f.names)[i]? = some ((kn : Int), nm) := by rw [List.getElem?_zip_eq_some]; exact ⟨hk, hnm⟩
           rw [this]; simp
          have by5 : q5.box? s.nb = some (.cells 119 [.yld ky]) := by rw [bx5 _ (by omega), bx4]; exact bq1
          have bf5 : q5.box? q2.nb = some (.cells 60 f.cells) := by rw [bx5 _ (by omega), bx4]; exact bq2
          have bxx5 : q5.box? xb = some (.cells 107 (tdV (n, p)).cells) := by rw [bx5 _ (by omega), bx4]; exact bq3
          have bxl5 : q5.box? lb = some (.cells 22 [fx l]) := by rw [bx5 _ (by omega), bx4]; exact bq4
          have I5 := B.stab _ _ _ _ hCi hIq ((fq4 _ _ (by omega)).trans (fq5 _ _ (by omega)))
          simp only [go_sem, AD, AA, AC, AB, KB_n, KB_x, Nat.reduceBEq, Nat.reduceAdd, Nat.reduceLT, Nat.reduceLeDiff, Nat.reduceEqDiff, reduceIte, Int.reduceEq, reduceCtorEq]
          refine Wz (g := Bc) (caps := [.p (q4.nb + 1) 0, .p q4.nb 0]) (by simp only [go_sem, AD, AA, AC, AB, KB_n, KB_x, Nat.reduceBEq, Nat.reduceAdd, Nat.reduceLT, Nat.reduceLeDiff, Nat.reduceEqDiff, reduceIte, Int.reduceEq, reduceCtorEq]) fun e' he' => ?_
          have z1 : e'.get 1 = .p xb 0 := by rw [he']; simp only [go_sem, AD, AA, AC, AB, KB_n, KB_x, Nat.reduceBEq, Nat.reduceAdd, Nat.reduceLT, Nat.reduceLeDiff, Nat.reduceEqDiff, reduceIte, Int.reduceEq, reduceCtorEq, g1]
          have z2 : e'.get 2 = .p lb 0 := by rw [he']; simp only [go_sem, AD, AA, AC, AB, KB_n, KB_x, Nat.reduceBEq, Nat.reduceAdd, Nat.reduceLT, Nat.reduceLeDiff, Nat.reduceEqDiff, reduceIte, Int.reduceEq, reduceCtorEq, g2]
          have z3 : e'.get 3 = .p s.nb 0 := by rw [he']; simp only [go_sem, AD, AA, AC, AB, KB_n, KB_x, Nat.reduceBEq, Nat.reduceAdd, Nat.reduceLT, Nat.reduceLeDiff, Nat.reduceEqDiff, reduceIte, Int.reduceEq, reduceCtorEq, g3]
          have z4 : e'.get 4 = .p q2.nb 0 := by rw [he']; simp only [go_sem, AD, AA, AC, AB, KB_n, KB_x, Nat.reduceBEq, Nat.reduceAdd, Nat.reduceLT, Nat.reduceLeDiff, Nat.reduceEqDiff, reduceIte, Int.reduceEq, reduceCtorEq, g4]
          have z18 : e'.get 18 = zx f.kids := by rw [he']; simp only [go_sem, AD, AA, AC, AB, KB_n, KB_x, Nat.reduceBEq, Nat.reduceAdd, Nat.reduceLT, Nat.reduceLeDiff, Nat.reduceEqDiff, reduceIte, Int.reduceEq, reduceCtorEq, g18]
          have z19 : e'.get 19 = .i .i64 (f.kids.length : Nat) := by rw [he']; simp only [go_sem, AD, AA, AC, AB, KB_n, KB_x, Nat.reduceBEq, Nat.reduceAdd, Nat.reduceLT, Nat.reduceLeDiff, Nat.reduceEqDiff, reduceIte, Int.reduceEq, reduceCtorEq, g19]
          have z20 : e'.get 20 = .i .i64 (i : Nat) := by rw [he']; simp only [go_sem, AD, AA, AC, AB, KB_n, KB_x, Nat.reduceBEq, Nat.reduceAdd, Nat.reduceLT, Nat.reduceLeDiff, Nat.reduceEqDiff, reduceIte, Int.reduceEq, reduceCtorEq, g20]
          clear he'
          obtain ⟨q6, hq6⟩ : ∃ q6, q5.new (.loop 0 none e' [45] bA bC) = q6 := ⟨_, rfl⟩
          have w6 : Wf q6 := by rw [← hq6]; exact w5.new _
          have nb6 : q6.nb = q5.nb + 1 := by rw [← hq6]; rfl
          have nt6 : q6.nt = q5.nt := by rw [← hq6]; rfl
          have ov6 : Over s0 q6 := by rw [← hq6]; exact ov5.new _
          have bx6 : ∀ i, i < q5.nb → q6.box? i = q5.box? i := fun i hi => by rw [← hq6]; exact B4 hi
          have bk6 : q6.box? q5.nb = some (.loop 0 none e' [45] bA bC) := by rw [← hq6]; exact BE q5 _
          have fq6 : Fq (fun j => j = xb ∨ j = lb) h q5 q6 := by rw [← hq6]; exact Fq.new (by omega) _
          have B6 := Sg (O1 := fun j => j = q4.nb + 1 ∨ j = q4.nb) (Kp := fun j => j = s.nb ∨ j = q2.nb ∨ j = xb ∨ j = lb) (qr := q5) (k1 := q5.nb) (idy := s.nb) (c := 1 + (((Jg l d f p).take i).flatten).length) (L1 := belowF l d kn (p ++ [nm])) (e := e') B (by omega)
           (fun j hj => ⟨by omega, by omega, by omega⟩) (fun j hj => ⟨by omega, by
            rcases hj with rfl | rfl | rfl | rfl
            · exact .inr hh
            · exact .inr (by omega)
            · exact .inl (.inl rfl)
            · exact .inl (.inr rfl)⟩) (.inl rfl) by5 (by omega) z3 (fun j x hx => by
            rw [Nat.add_assoc, Nat.add_comm 1, List.getElem?_cons_succ]
            exact Sj Isub hx)
          obtain ⟨q7, d7, ov7, w7, nb7, nt7, hres7⟩ := N1 hm ho hl d kn (p ++ [nm]) (by omega) (by simp; omega) (s := q6) (xb := q4.nb + 1) (lb := q4.nb) (by rw [bx6 _ (by omega)]; exact bt5) (by rw [bx6 _ (by omega)]; exact bl5) (by omega) (by omega) (by omega)
           s0 hc (q5.nb + 1) q5.nb _ _ (Cin hc C s) hCi (by omega) B6 ⟨B.stab _ _ _ _ hCi I5 fq6, bk6, fun i hi => by
            rw [bx6 i (by rcases hi with rfl | rfl | rfl | rfl <;> omega)]⟩ ov6 w6 (by omega) (by omega)
          have bx7 : ∀ B i, (q7.setBox q5.nb B).box? i = if i = q5.nb then some B else q7.box? i := fun B i => setBox_box? w7.b (by omega) i
          have fq7 : ∀ B, Fq (fun j => j = xb ∨ j = lb) h q7 (q7.setBox q5.nb B) := fun B => Fq.setBox w7 (by omega) (.inl (by omega)) (by omega) _
          have ov8 : ∀ B, Over s0 (q7.setBox q5.nb B) := fun B => Over.setBox ov7 (by omega) (by omega) _
          rw [← hq6] at d7
          rcases hres7 with ⟨hI7, hk7, hkp7⟩ | ⟨hR7, tm, ps, a, b, hk7⟩
          · refine ⟨_, q7, d7, _, _, _, _, _, _, hk7, by decide, ?_⟩
            have hw1 := AR (show i + 1 < 2 ^ 63 by have := hfo.klen; omega)
            simp only [go_sem, AD, AA, AC, AB, KB_n, KB_x, Nat.reduceBEq, Nat.reduceAdd, Nat.reduceLT, Nat.reduceLeDiff, Nat.reduceEqDiff, reduceIte, Int.reduceEq, reduceCtorEq, z20, hw1]
            refine ⟨x - 1, by omega, i + 1, by omega, ?_, ov8 _, w7.setBox _ _, by show q3.nb ≤ q7.nb; omega, by show s.nt ≤ q7.nt; omega, by rw [bx7, if_neg (by omega), hkp7 _ (.inl rfl)]; exact by5, by rw [bx7, if_neg (by omega), hkp7 _ (.inr (.inl rfl))]; exact bf5, by rw [bx7, if_neg (by omega), hkp7 _ (.inr (.inr (.inl rfl)))]; exact bxx5, by rw [bx7, if_neg (by omega), hkp7 _ (.inr (.inr (.inr rfl)))]; exact bxl5, z1, z2, z3, z4, z18, z19, rfl⟩
            have : 1 + ((Jg l d f p).take (i + 1)).flatten.length = 1 + ((Jg l d f p).take i).flatten.length + (tdL (belowF l d kn (p ++ [nm]))).length := by
             rw [flat_take Isub]; simp [tdL, Nat.add_assoc]
            rw [this]
            exact B.stab _ _ _ _ hCi hI7 (fq7 _)
          · refine ⟨_, q7, d7, _, _, _, _, _, _, hk7, by decide, ?_⟩
            simp only [go_sem, AD, AA, AC, AB, KB_n, KB_x, Nat.reduceBEq, Nat.reduceAdd, Nat.reduceLT, Nat.reduceLeDiff, Nat.reduceEqDiff, reduceIte, Int.reduceEq, reduceCtorEq]
            exact hend _ (ov8 _) (w7.setBox _ _) (by show s.nb ≤ q7.nb; omega) (by show s.nt ≤ q7.nt; omega) (.inr (B.stabR _ _ hR7 (fq7 _)))
        · have h1 : ((i : Int) < (f.kids.length : Int)) = False := by simp only [eq_iff_iff, iff_false]; omega
          simp only [go_sem, AD, AA, AC, AB, KB_n, KB_x, Nat.reduceBEq, Nat.reduceAdd, Nat.reduceLT, Nat.reduceLeDiff, Nat.reduceEqDiff, reduceIte, Int.reduceEq, reduceCtorEq, g19, g20, h1]
          refine hend q ovq wq (by omega) (by omega) (.inl ?_)
          have : (Jg l d f p).length ≤ i := by simp [Jg]; omega
          rw [List.take_of_length_le this] at hIq
          rw [Nat.add_comm] at hIq
          simpa only [tdL, List.length_map, List.length_cons] using hIq
      · simp only [go_sem, AD, AA, AC, AB, KB_n, KB_x, Nat.reduceBEq, Nat.reduceAdd, Nat.reduceLT, Nat.reduceLeDiff, Nat.reduceEqDiff, reduceIte, Int.reduceEq, reduceCtorEq]
        refine ⟨0, by omega, ?_, ov3, w3, Nat.le_refl _, by omega, by rw [bx3 _ (by omega)]; exact by2, bf3, by rw [bx3 _ (by omega)]; exact bxx2, by rw [bx3 _ (by omega)]; exact bxl2, rfl, rfl⟩
        exact B.stab _ _ _ _ hCi I2 (fq3 _ _ (by omega)))
   exact ⟨s', hcall, hres⟩
end Go.Proofs.Ytgloinighjdhlaa

/-
  pat.Place.
-/
set_option maxRecDepth 100000
set_option maxHeartbeats 4000000
namespace Go.Proofs.Ytgloinighjdhlaa
open Go.Proofs.Ytgloinighjdhlaa.Am
attribute [local irreducible] W WO WE WQ WD Tr.get Tr.set
def Dh (l : List FT) (n : Int) : List (List Nat) × Int := if mayP l then (if 0 ≤ n ∧ n < (l.length : Int) then (climb l n.toNat, 0) else ([], 1)) else ([], 4)
abbrev pA : C := subC Bf.body [1, 1, 0, 1, 0, 0]
abbrev pC : C := subC Bf.body [1, 1, 0, 1, 0, 1]
def PI (L : List (Nat × List (List Nat))) (n : Int) (b0 k1 : Nat) (e : Tr) (j : Nat) (q : St) : Prop :=
 (∀ (i : Nat) (x : Nat × List (List Nat)), i < j → L[i]? = some x → (x.1 : Int) ≠ n) ∧ q.box? k1 = some (.loop 0 none e [23] pA pC) ∧ q.box? b0 = some (.cells 3 [.i .i64 n]) ∧ q.box? (b0 + 1) = some (.cells 44 [.nsl]) ∧ q.box? (b0 + 2) = some (.cells 26 [.i .i64 0])
def PR (p : List (List Nat)) (t0 b0 k1 : Nat) (q : St) : Prop :=
 (∃ tm ps a b, q.box? k1 = some (.loop 2 (some .ret) tm ps a b)) ∧ RG 1 t0 9 44 (b0 + 1) (p.map .s) true (CLow (k1 + 1)) q ∧ q.box? (b0 + 2) = some (.cells 26 [.i .i64 0])
theorem Sk {s : St} {L : List (Nat × List (List Nat))} {n : Int} {p : List (List Nat)} {b0 k1 : Nat} {e : Tr} (hk1 : b0 + 5 = k1) (hs : s.nb = b0) (g3 : e.get 3 = .p b0 0) (g4 : e.get 4 = .p (b0 + 1) 0) (g5 : e.get 5 = .p (b0 + 2) 0)
    (hL : ∀ (i : Nat) (x : Nat × List (List Nat)), L[i]? = some x → (x.1 : Int) = n → x.2 = p) (hp : p.length < 2 ^ 36) :
    BodyG prog (fun j => j = b0 + 3 + 1 ∨ j = b0 + 3) s (k1 + 1) (k1 + 1) (.yld k1) (tdL L) (fun _ j q => PI L n b0 k1 e j q) (PR p s.nt b0 k1) where
 stab := fun C j q q' _ ⟨h1, h2, h3, h4, h5⟩ f => ⟨h1, by rw [f.box _ (by omega) (by omega)]; exact h2, by rw [f.box _ (by omega) (by omega)]; exact h3, by rw [f.box _ (by omega) (by omega)]; exact h4, by rw [f.box _ (by omega) (by omega)]; exact h5⟩
 enter := fun C j q _ h _ => h
 leave := fun C j s q v _ ⟨h1, h2, h3, h4, h5⟩ hs hn ht hw hv => ⟨h1, by rw [Dk hw hn (by omega)]; exact h2, by rw [Dk hw hn (by omega)]; exact h3, by rw [Dk hw hn (by omega)]; exact h4, by rw [Dk hw hn (by omega)]; exact h5⟩
 stabR := fun q q' ⟨⟨tm, ps, a, b, h1⟩, h2, h3⟩ f => ⟨⟨tm, ps, a, b, by rw [f.box _ (by omega) (by omega)]; exact h1⟩, h2.stab (CLow.safe _) (by omega) (by omega) (Nat.le_refl _) f, by rw [f.box _ (by omega) (by omega)]; exact h3⟩
 leaveR := fun s q v ⟨⟨tm, ps, a, b, h1⟩, h2, h3⟩ hs hn ht hw hv => ⟨⟨tm, ps, a, b, by rw [Dk hw hn (by omega)]; exact h1⟩, h2.leaveL (by omega) hs hn ht hw hv, by rw [Dk hw hn (by omega)]; exact h3⟩
 step := by
  intro C j hj q hC ⟨hI, hk, hb0, hb1, hb2⟩ hov hw hh
  have hj' : j < L.length := by simpa [tdL] using hj
  obtain ⟨x, hx⟩ : ∃ x, L[j]? = some x := ⟨_, List.getElem?_eq_getElem hj'⟩
  have hLj : (tdL L)[j] = [tdV x] := by
   rw [List.getElem?_eq_getElem hj'] at hx
   simp only [tdL, List.getElem_map]
   rw [Option.some.inj hx]
  rw [hLj]
  obtain ⟨q0, st0, w0, nb0, nt0, bn0, bx0, ov0, fq0⟩ := UT (q := q) hw (T := 107) (m := 2) (z := [.i .i64 0, .nsl]) (v := tdV x) rfl ⟨rfl, rfl⟩ (by simp [tdV, tx, AV.refs, AV.refs.go, Fb])
  have ov0 := ov0 s hov
  obtain ⟨q1, hq1⟩ : ∃ q1, q0.setBox k1 (.loop 1 none e [23] pA pC) = q1 := ⟨_, rfl⟩
  have w1 : Wf q1 := by rw [← hq1]; exact w0.setBox _ _
  have nb1 : q1.nb = q.nb + 1 ∧ q1.nt = q.nt := by rw [← hq1]; exact ⟨nb0, nt0⟩
  have bx1 : ∀ i, q1.box? i = if i = k1 then some (.loop 1 none e [23] pA pC) else q0.box? i := fun i => by rw [← hq1]; exact setBox_box? w0.b (by omega) i
  have ov1 : Over s q1 := by rw [← hq1]; exact Over.setBox ov0 (by omega) (by omega) _
  have b1k := bx1 k1
  rw [if_pos rfl] at b1k
  have b10 : q1.box? b0 = some (.cells 3 [.i .i64 n]) := by rw [bx1, if_neg (by omega), bx0 _ (by omega)]; exact hb0
  have b11 : q1.box? (b0 + 1) = some (.cells 44 [.nsl]) := by rw [bx1, if_neg (by omega), bx0 _ (by omega)]; exact hb1
  have b12 : q1.box? (b0 + 2) = some (.cells 26 [.i .i64 0]) := by rw [bx1, if_neg (by omega), bx0 _ (by omega)]; exact hb2
  have b1n : q1.box? q.nb = some (.cells 107 (tdV x).cells) := by rw [bx1, if_neg (by omega)]; exact bn0
  have ldn := Dx (s := q1) (v := .i .i64 n) (off := 0) b10 rfl
  have ldx := Dx (s := q1) (v := .i .i64 (x.1 : Nat)) (off := 0) b1n rfl
  have ldp := Dx (s := q1) (v := tx x.2) (off := 1) b1n rfl
  have hkO : ¬ (k1 = b0 + 3 + 1 ∨ k1 = b0 + 3) := by omega
  refine JQ ?_
  refine OP (t := e.set 10 23 (tdV x)) hk rfl ?_
  simp only [pA, Bf, subC, go_sem, AD, AA, AC, AB, KB_n, KB_x, Nat.reduceBEq, Nat.reduceAdd, Nat.reduceLT, Nat.reduceLeDiff, Nat.reduceEqDiff, reduceIte, Int.reduceEq, reduceCtorEq, st0]
  refine ⟨_, _, _, _, by rw [bx0 k1 (by omega)]; exact hk, ?_⟩
  rw [hq1]
  by_cases hxn : (x.1 : Int) = n
  · have e1 : ((x.1 : Int) = n) = True := by simp [hxn]
    have hpl := hL j x hx hxn
    obtain ⟨rest, H, hrest⟩ := US w1 ov1 [(b0 + 1, .cells 44 [.nsl]), (b0 + 2, .cells 26 [.i .i64 0]), (k1, .loop 1 none e [23] pA pC)] (by
     intro p hp
     simp only [List.mem_cons, List.not_mem_nil, or_false] at hp
     rcases hp with rfl | rfl | rfl
     · exact ⟨b11, by simp only; omega⟩
     · exact ⟨b12, by simp only; omega⟩
     · exact ⟨b1k, by simp only; omega⟩) (by simp; omega)
    obtain ⟨r, q2, d2, H2, n2⟩ := Ph H x.2 (by rw [hpl]; omega)
    have rc := H2.rcells 0 rfl
    obtain ⟨q3, d3, H3, n3, lo3⟩ := H2.st 0 (off := 0) (v := r) rfl (by simp) ⟨rc.1, rc.2.1⟩
    obtain ⟨q4, d4, H4, n4, _⟩ := H3.st 1 (off := 0) (v := .i .i64 0) rfl (by simp) ⟨rfl, rfl⟩
    have lr : ldR q1 (some (tx x.2)) = some (tx x.2, q1) := rfl
    simp only [tx] at d2
    simp only [pC, Bf, subC, go_sem, AD, AA, AC, AB, KB_n, KB_x, Nat.reduceBEq, Nat.reduceAdd, Nat.reduceLT, Nat.reduceLeDiff, Nat.reduceEqDiff, reduceIte, Int.reduceEq, reduceCtorEq, g3, g4, g5, ldn, ldx, ldp, lr, e1, d2, d3, d4]
    simp only [List.cons_append, List.nil_append, List.set_cons_zero, List.set_cons_succ] at H4
    have H5 := H4.setBox (i := 2) rfl (.loop 2 (some .ret) e [23] pA pC)
    simp only [List.set_cons_zero, List.set_cons_succ] at H5
    refine HJ (H4.box (i := 2) rfl).1 (by omega) H4.wf H4.over (by omega) (by omega) (by have := H4.nt; simp only at this; omega) hkO (fun i hi hlt => ?_) (fun hh => by simp at hh) (fun _ => ⟨⟨_, _, _, _, (H5.box (i := 2) rfl).1⟩, ⟨r, (H5.box (i := 0) rfl).1, by rw [← hpl]; exact H5.rows (i := 0) rfl, fun k hk => ?_⟩, (H5.box (i := 1) rfl).1⟩) (fun i hh => by simp at hh)
    · rw [Hp.keep (M := [_, _, _]) hrest w1 H4 (by omega) (by omega) (fun p hp => by
       simp only [List.mem_cons, List.not_mem_nil, or_false] at hp
       rcases hp with rfl | rfl | rfl <;> simp only <;> omega), bx1, if_neg (by omega), bx0 i hlt]
    · have hrf : r.refs = true := by
       rcases H2.rows (i := 0) rfl with h | ⟨k', v, t, h, _⟩
       · rw [Fa h] at hk; cases hk
       · simp only at h; rw [h]; rfl
      have h1 := lo3 hrf
      have h2 : q4.lo ≤ q3.lo := by
       have := st_lo d4; omega
      show (q4.setBox k1 _).lo < k1 + 1
      have : (q4.setBox k1 (.loop 2 (some .ret) e [23] pA pC)).lo = q4.lo := rfl
      omega
  · have e1 : ((x.1 : Int) = n) = False := by simp [hxn]
    simp only [pC, Bf, subC, go_sem, AD, AA, AC, AB, KB_n, KB_x, Nat.reduceBEq, Nat.reduceAdd, Nat.reduceLT, Nat.reduceLeDiff, Nat.reduceEqDiff, reduceIte, Int.reduceEq, reduceCtorEq, g3, g4, g5, ldn, ldx, e1]
    have bx3 : ∀ B i, (q1.setBox k1 B).box? i = if i = k1 then some B else q1.box? i := fun B i => setBox_box? w1.b (by omega) i
    refine HJ b1k (by omega) w1 ov1 (by omega) (by omega) (by omega) hkO (fun i hi hlt => by rw [bx1, if_neg (by omega)]; exact bx0 i hlt) (fun _ => ⟨fun i y hi hy => ?_, by rw [bx3, if_pos rfl], by rw [bx3, if_neg (by omega)]; exact b10, by rw [bx3, if_neg (by omega)]; exact b11, by rw [bx3, if_neg (by omega)]; exact b12⟩) (fun hh => by simp at hh) (fun i hh => by simp at hh)
    by_cases hij : i < j
    · exact hI i y hij hy
    · obtain rfl : i = j := by omega
      rw [hx] at hy
      cases hy
      exact hxn
theorem Fe {a : AV} {p : List (List Nat)} (h : CB 1 a (p.map .s)) (e : Int) {s q : St} (ov : Over s q) : KR s [(.sl 1 .id), .id] (.tup [tx p, .i .i64 e]) (some ([a, .i .i64 e], q)) := by
 refine AM ov ?_ ?_
 · simp only [CA, AV.refs, AV.refs.go, h.refs (Fb p)]; rfl
 · simp only [wkZ, h.wk (NB p), CA, wk, tx]
theorem N2 {l : List FT} (h : MayD l) : ∀ n, n < l.length → (climb l n).length ≤ n := by
 intro n
 induction n using Nat.strongRecOn with
 | _ n ih =>
   intro hn
   by_cases h0 : n = 0
   · subst h0; rw [Hl]; simp
   · obtain ⟨u, f, h1, h2, h3, _⟩ := h.up n (by omega) hn
     rw [Je h (by omega) hn h1 h2 h3, List.length_append]
     have := ih u h2 (by omega)
     simp only [List.length_cons, List.length_nil]
     omega
theorem UH (l : List FT) (ho : FOk l) (n : Int) (s : St) (hw : Wf s) : (lim prog).call IL [fx l, .i .i64 n] s = some (.tup [tx (Dh l n).1, .i .i64 (Dh l n).2], s) := by
 refine fn_W OX rfl rfl ?_
 have hz0 : wkZ Bf.cin [fx l, .i .i64 n] = [fx l, .i .i64 n] := by
  simp only [Bf, wkZ, Ek .ws, wk]
  rfl
 rw [hz0]
 have H1 := (((Hp.begin hw).new (.cells 3 [.i .i64 n])).new (.cells 44 [.nsl])).new (.cells 26 [.i .i64 0])
 obtain ⟨q3, hq3⟩ : ∃ q3, ((s.enter.new (.cells 3 [.i .i64 n])).new (.cells 44 [.nsl])).new (.cells 26 [.i .i64 0]) = q3 := ⟨_, rfl⟩
 have nb3 : q3.nb = s.nb + 3 := by rw [← hq3]; rfl
 have e1 : (s.enter.new (.cells 3 [.i .i64 n])).nb = s.nb + 1 := rfl
 have e2 : ((s.enter.new (.cells 3 [.i .i64 n])).new (.cells 44 [.nsl])).nb = s.nb + 2 := rfl
 have e3 : s.enter.nb = s.nb := rfl
 have c1 : (AV.i .i64 n).cells = [.i .i64 n] := rfl
 rw [hq3, e1, e2, e3] at H1
 have hmay := SC l ho.ok ho.len ho.fl q3 H1.wf
 unfold fx at hmay
 have ldn := H1.ld 2 (off := 0) (v := .i .i64 n) rfl rfl
 cases hm : mayP l
 · rw [hm] at hmay
   obtain ⟨q4, d4, H4, n4, _⟩ := H1.st 1 (off := 0) (v := .nsl) rfl (by simp) ⟨rfl, rfl⟩
   obtain ⟨q5, d5, H5, n5, _⟩ := H4.st 0 (off := 0) (v := .i .i64 4) rfl (by simp) ⟨rfl, rfl⟩
   have la := H5.ld 1 (off := 0) (v := .nsl) rfl rfl
   have lb := H5.ld 0 (off := 0) (v := .i .i64 4) rfl rfl
   simp only [Bf, go_sem, AD, AA, AC, AB, KB_n, KB_x, Nat.reduceBEq, Nat.reduceAdd, Nat.reduceLT, Nat.reduceLeDiff, Nat.reduceEqDiff, reduceIte, Int.reduceEq, reduceCtorEq, fx, hq3, e1, e2, e3, c1, List.length_cons, List.length_nil, hmay, d4, d5, la, lb]
   unfold Dh
   rw [hm, if_neg (by simp)]
   exact Fe (p := []) (.inl ⟨rfl, rfl⟩) 4 H5.over
 · rw [hm] at hmay
   unfold Dh
   rw [hm, if_pos rfl]
   by_cases hr : 0 ≤ n ∧ n < (l.length : Int)
   · have r1 : (n < 0) = False := by simp only [eq_iff_iff, iff_false]; omega
     have r2 : ((l.length : Int) ≤ n) = False := by simp only [eq_iff_iff, iff_false]; omega
     rw [if_pos hr]
     obtain ⟨q5, d5, w5, nb5, nt5, bl5, bt5, bx5, ov5, fq5⟩ := P0 (l := l) (x := (0, [])) (a0 := fx l) (a1 := .nsl) .ws (.inl ⟨rfl, rfl⟩) H1.wf
     have ov5 := ov5 s H1.over
     simp only [fx, Int.natCast_zero] at d5
     simp only [Bf, go_sem, AD, AA, AC, AB, KB_n, KB_x, Nat.reduceBEq, Nat.reduceAdd, Nat.reduceLT, Nat.reduceLeDiff, Nat.reduceEqDiff, reduceIte, Int.reduceEq, reduceCtorEq, fx, hq3, e1, e2, e3, c1, List.length_cons, List.length_nil, hmay, ldn, r1, r2, List.length_map, d5]
     refine Wz (g := Bc) (caps := [.p (q3.nb + 1) 0, .p q3.nb 0]) (by simp only [go_sem, AD, AA, AC, AB, KB_n, KB_x, Nat.reduceBEq, Nat.reduceAdd, Nat.reduceLT, Nat.reduceLeDiff, Nat.reduceEqDiff, reduceIte, Int.reduceEq, reduceCtorEq]) fun e' he' => ?_
     have z3 : e'.get 3 = .p s.nb 0 := by rw [he']; simp only [go_sem, AD, AA, AC, AB, KB_n, KB_x, Nat.reduceBEq, Nat.reduceAdd, Nat.reduceLT, Nat.reduceLeDiff, Nat.reduceEqDiff, reduceIte, Int.reduceEq, reduceCtorEq]
     have z4 : e'.get 4 = .p (s.nb + 1) 0 := by rw [he']; simp only [go_sem, AD, AA, AC, AB, KB_n, KB_x, Nat.reduceBEq, Nat.reduceAdd, Nat.reduceLT, Nat.reduceLeDiff, Nat.reduceEqDiff, reduceIte, Int.reduceEq, reduceCtorEq]
     have z5 : e'.get 5 = .p (s.nb + 2) 0 := by rw [he']; simp only [go_sem, AD, AA, AC, AB, KB_n, KB_x, Nat.reduceBEq, Nat.reduceAdd, Nat.reduceLT, Nat.reduceLeDiff, Nat.reduceEqDiff, reduceIte, Int.reduceEq, reduceCtorEq]
     clear he'
     obtain ⟨q6, hq6⟩ : ∃ q6, q5.new (.loop 0 none e' [23] pA pC) = q6 := ⟨_, rfl⟩
     have w6 : Wf q6 := by rw [← hq6]; exact w5.new _
     have nb6 : q6.nb = q5.nb + 1 := by rw [← hq6]; rfl
     have ov6 : Over s q6 := by rw [← hq6]; exact ov5.new _
     have bx6 : ∀ i, i < q5.nb → q6.box? i = q5.box? i := fun i hi => by rw [← hq6]; exact B4 hi
     have bk6 : q6.box? q5.nb = some (.loop 0 none e' [23] pA pC) := by rw [← hq6]; exact BE q5 _
     have hd := mayD hm
     have hnl : n.toNat < l.length := by omega
     have B := Sk (s := s) (L := belowF l l.length 0 []) (n := n) (p := climb l n.toNat) (b0 := s.nb) (k1 := q5.nb) (e := e') (by omega) rfl z3 z4 z5 (fun i x hx hxn => by
      have hx := List.mem_of_getElem? hx
      rw [← Hl l] at hx
      have := (LE hm l.length 0 hd.pos hx).2
      rw [this, ← hxn, Int.toNat_natCast]) (by have := N2 hd n.toNat hnl; have := ho.len; omega)
     have b0 := (H1.box (i := 2) rfl).1
     have b1 := (H1.box (i := 1) rfl).1
     have b2 := (H1.box (i := 0) rfl).1
     simp only at b0 b1 b2
     obtain ⟨q7, d7, ov7, w7, nb7, nt7, hres7⟩ := N1 hm ho.ok ho.len l.length 0 [] hd.pos (by have := ho.len; simp; omega) (s := q6) (xb := q3.nb + 1) (lb := q3.nb) (by rw [bx6 _ (by omega)]; exact bt5) (by rw [bx6 _ (by omega)]; exact bl5) (by omega) (by omega) (by omega)
      s (q5.nb + 1) (q5.nb + 1) q5.nb _ _ (C0 (q5.nb + 1) 0) (C0.safe _ _) (Nat.le_refl _) (by rw [nb3]; exact B)
      (show PI (belowF l l.length 0 []) n s.nb q5.nb e' 0 q6 from ⟨fun i x hi => by omega, bk6, by rw [bx6 _ (by omega), bx5 _ (by omega)]; exact b0, by rw [bx6 _ (by omega), bx5 _ (by omega)]; exact b1, by rw [bx6 _ (by omega), bx5 _ (by omega)]; exact b2⟩) ov6 w6 (by omega) (by omega)
     rw [← hq6] at d7
     rcases hres7 with ⟨hI7, _⟩ | ⟨⟨tm, ps, a, b, hk7⟩, hrg, hb2⟩
     · obtain ⟨j, hj⟩ := Sf hm hnl
       have hjl : j < (tdL (belowF l l.length 0 [])).length := by
        rw [List.getElem?_eq_some_iff] at hj
        simpa [tdL] using hj.1
       exact absurd (by simp only; omega) (hI7 j _ hjl hj)
     · refine ⟨_, q7, d7, _, _, _, _, _, _, hk7, by decide, ?_⟩
       have fq7 : Fq (fun j => j = s.nb + 3 + 1 ∨ j = s.nb + 3) q5.nb q7 (q7.setBox q5.nb .used) := Fq.setBox w7 (by omega) (.inl (Nat.le_refl _)) (by omega) _
       obtain ⟨q8, hq8⟩ : ∃ q8, q7.setBox q5.nb .used = q8 := ⟨_, rfl⟩
       rw [hq8] at fq7
       have w8 : Wf q8 := by rw [← hq8]; exact w7.setBox _ _
       have ov8 : Over s q8 := by rw [← hq8]; exact Over.setBox ov7 (by omega) (by omega) _
       obtain ⟨r, k1, k2, _⟩ := hrg
       have k1 : q8.box? (s.nb + 1) = some (.cells 44 [r]) := by rw [fq7.box _ (by omega) (by omega)]; exact k1
       have k3 : q8.box? (s.nb + 2) = some (.cells 26 [.i .i64 0]) := by rw [fq7.box _ (by omega) (by omega)]; exact hb2
       have k2 := k2.mono fq7.tok.1 fun k hk => fq7.tok.2 k (k2.tok_lt hk)
       obtain ⟨rest, H8, _⟩ := US w8 ov8 [] (by simp) (by simp)
       have H8 := H8.addRow k2
       obtain ⟨r', q9, d9, t9, H9, n9⟩ := H8.pub 0 rfl
       have d9A : pubA q8 r = some (r', q9) := by
        rw [MJ (H8.rows (i := 0) rfl)]; exact d9
       have la := Dx (s := q8) (v := r) (off := 0) k1 rfl
       have hbb : q9.box? (s.nb + 2) = q8.box? (s.nb + 2) := VE d9 _
       have lb := Dx (s := q9) (v := .i .i64 0) (off := 0) (by rw [hbb]; exact k3) rfl
       simp only [hq8, go_sem, AD, AA, AC, AB, KB_n, KB_x, Nat.reduceBEq, Nat.reduceAdd, Nat.reduceLT, Nat.reduceLeDiff, Nat.reduceEqDiff, reduceIte, Int.reduceEq, reduceCtorEq, z4, z5, la, lb, d9A]
       exact Fe t9 0 H9.over
   · rw [if_neg hr]
     obtain ⟨q4, d4, H4, n4, _⟩ := H1.st 1 (off := 0) (v := .nsl) rfl (by simp) ⟨rfl, rfl⟩
     obtain ⟨q5, d5, H5, n5, _⟩ := H4.st 0 (off := 0) (v := .i .i64 1) rfl (by simp) ⟨rfl, rfl⟩
     have la := H5.ld 1 (off := 0) (v := .nsl) rfl rfl
     have lb := H5.ld 0 (off := 0) (v := .i .i64 1) rfl rfl
     by_cases r1 : n < 0
     · have r1' : (n < 0) = True := by simp [r1]
       simp only [Bf, go_sem, AD, AA, AC, AB, KB_n, KB_x, Nat.reduceBEq, Nat.reduceAdd, Nat.reduceLT, Nat.reduceLeDiff, Nat.reduceEqDiff, reduceIte, Int.reduceEq, reduceCtorEq, fx, hq3, e1, e2, e3, c1, List.length_cons, List.length_nil, hmay, ldn, r1', d4, d5, la, lb]
       exact Fe (p := []) (.inl ⟨rfl, rfl⟩) 1 H5.over
     · have r1' : (n < 0) = False := by simp [r1]
       have r2' : ((l.length : Int) ≤ n) = True := by simp only [eq_iff_iff, iff_true]; omega
       simp only [Bf, go_sem, AD, AA, AC, AB, KB_n, KB_x, Nat.reduceBEq, Nat.reduceAdd, Nat.reduceLT, Nat.reduceLeDiff, Nat.reduceEqDiff, reduceIte, Int.reduceEq, reduceCtorEq, fx, hq3, e1, e2, e3, c1, List.length_cons, List.length_nil, hmay, ldn, r1', r2', List.length_map, d4, d5, la, lb]
       exact Fe (p := []) (.inl ⟨rfl, rfl⟩) 1 H5.over
end Go.Proofs.Ytgloinighjdhlaa

/-
  The document's names and places of facts.
-/
set_option maxRecDepth 100000
set_option maxHeartbeats 4000000
namespace Go.Proofs.Ytgloinighjdhlaa
open Go.Proofs.Ytgloinighjdhlaa.Am
attribute [local irreducible] W WO WE WQ WD Tr.get Tr.set
theorem SK {f : FT} {k : Int} {i : Nat} {s : List Nat} (h : f.kids[i]? = some k) (hs : f.names[i]? = some s) (hno : ∀ j, j < i → ∀ y, f.kids[j]? = some y → y ≠ k) : J3 f k = s := by
 unfold J3
 have : f.kids.findIdx? (· == k) = some i := by
  rw [List.findIdx?_eq_some_iff_getElem]
  rw [List.getElem?_eq_some_iff] at h
  obtain ⟨hi, h⟩ := h
  exact ⟨hi, by simp [h], fun j hj => by simpa using hno j hj _ (List.getElem?_eq_getElem (by omega))⟩
 rw [this]; simp [hs]
theorem QY {f : FT} {k : Int} (hno : ∀ (j : Nat) (y : Int), f.kids[j]? = some y → y ≠ k) : J3 f k = [] := by
 unfold J3
 have : f.kids.findIdx? (· == k) = none := by
  rw [List.findIdx?_eq_none_iff]
  intro y hy
  obtain ⟨j, hj⟩ := List.mem_iff_getElem?.1 hy
  simpa using hno j y hj
 rw [this]
theorem Nn (f : FT) (ho : f.Ok) (hnk : f.names.length = f.kids.length) (k : Int) (s : St) (hw : Wf s) : (lim prog).call DI [.agg f.cells, .i .i64 k] s = some (.s (J3 f k), s) := by
 refine fn_W Gv rfl rfl ?_
 have hz0 : wkZ BR.cin [.agg f.cells, .i .i64 k] = [.agg f.cells, .i .i64 k] := by
  simp only [BR, wkZ, wk, SF]
 rw [hz0]
 have H1 := (Hp.begin hw).new (.cells 60 f.cells)
 obtain ⟨q1, hq1⟩ : ∃ q1, s.enter.new (.cells 60 f.cells) = q1 := ⟨_, rfl⟩
 rw [hq1] at H1
 have e0 : s.enter.nb = s.nb := rfl
 have c6 : f.cells.length = 6 := rfl
 simp only [BR, go_sem, AD, AA, AC, AB, KB_n, KB_x, Nat.reduceBEq, Nat.reduceAdd, Nat.reduceLT, Nat.reduceLeDiff, Nat.reduceEqDiff, reduceIte, Int.reduceEq, reduceCtorEq, Ax, hq1, c6, e0]
 refine BF (fun x e q => ∃ i : Nat, i + x = f.kids.length ∧ Hp s q s.en [] [(s.nb, .cells 60 f.cells)] ∧ (∀ j, j < i → ∀ y, f.kids[j]? = some y → y ≠ k) ∧ e.get 1 = .i .i64 k ∧ e.get 2 = .p s.nb 0 ∧ e.get 5 = .i .i64 (i : Nat)) ?_ f.kids.length _ _ ?_
 · rintro x e q ⟨i, hix, H, hno, g1, g2, g5⟩
   have lk := H.ld 0 (off := 3) (v := zx f.kids) rfl rfl
   have ln := H.ld 0 (off := 2) (v := tx f.names) rfl rfl
   by_cases h : i < f.kids.length
   · have h1 : ((i : Int) < (f.kids.length : Int)) = True := by simp only [eq_iff_iff, iff_true]; omega
     obtain ⟨y, hy⟩ : ∃ y, f.kids[i]? = some y := ⟨_, List.getElem?_eq_getElem h⟩
     obtain ⟨nm, hnm⟩ : ∃ nm, f.names[i]? = some nm := ⟨_, List.getElem?_eq_getElem (by omega)⟩
     have hy2 := I3 hy
     have hnm2 : (f.names.map AV.s)[i]? = some (.s nm) := by rw [List.getElem?_map, hnm]; rfl
     have hw1 := AR (show i + 1 < 2 ^ 63 by have := ho.klen; omega)
     by_cases hyk : y = k
     · have e1 : (y = k) = True := by simp [hyk]
       subst hyk
       rw [SK hy hnm hno]
       simp only [go_sem, AD, AA, AC, AB, KB_n, KB_x, Nat.reduceBEq, Nat.reduceAdd, Nat.reduceLT, Nat.reduceLeDiff, Nat.reduceEqDiff, reduceIte, Int.reduceEq, reduceCtorEq, g1, g2, g5, zx, tx, lk, ln, List.length_map, h1, Nat.zero_add, AF, hy2, hnm2, Ct, Ay, Bw, e1]
       exact AM H.over rfl rfl
     · have e1 : (y = k) = False := by simp [hyk]
       simp only [go_sem, AD, AA, AC, AB, KB_n, KB_x, Nat.reduceBEq, Nat.reduceAdd, Nat.reduceLT, Nat.reduceLeDiff, Nat.reduceEqDiff, reduceIte, Int.reduceEq, reduceCtorEq, g1, g2, g5, zx, tx, lk, ln, List.length_map, h1, Nat.zero_add, AF, hy2, Ct, Bw, e1, hw1]
       refine ⟨x - 1, by omega, i + 1, by omega, H, fun j hj z hz => ?_, rfl⟩
       by_cases hji : j < i
       · exact hno j hji z hz
       · obtain rfl : j = i := by omega
         rw [hy] at hz; cases hz; exact hyk
   · have h1 : ((i : Int) < (f.kids.length : Int)) = False := by simp only [eq_iff_iff, iff_false]; omega
     rw [QY fun j y hy => hno j (by rw [List.getElem?_eq_some_iff] at hy; have := hy.1; omega) y hy]
     simp only [go_sem, AD, AA, AC, AB, KB_n, KB_x, Nat.reduceBEq, Nat.reduceAdd, Nat.reduceLT, Nat.reduceLeDiff, Nat.reduceEqDiff, reduceIte, Int.reduceEq, reduceCtorEq, g1, g2, g5, zx, lk, List.length_map, h1, Nat.zero_add]
     exact AM H.over rfl rfl
 · simp only [go_sem, AD, AA, AC, AB, KB_n, KB_x, Nat.reduceBEq, Nat.reduceAdd, Nat.reduceLT, Nat.reduceLeDiff, Nat.reduceEqDiff, reduceIte, Int.reduceEq, reduceCtorEq]
   exact ⟨0, by omega, H1, fun j hj => by omega, rfl⟩
theorem QZ {t0 : Nat} {s : St} {r : RA} (h : RowH t0 s r) : elems s r.es r.a = some r.xs := by
 rcases h with h | ⟨k, v, t, h, h1, h2, h3, h4, _⟩
 · exact h.told.elems s
 · rw [h]
   simp [elems, St.ok, h3, h4]
def OutR (es T : Nat) (a : AV) (xs : List AV) (R : List RA) : Prop := Ho es a xs ∨ ∃ fr, R[0]? = some ⟨es, T, a, xs, fr⟩
theorem OutR.elems {es T : Nat} {a : AV} {xs : List AV} {R : List RA} {B : List (Nat × Box)} {s0 s : St} {n : En} (h : OutR es T a xs R) (H : Hp s0 s n R B) : Am.elems s es a = some xs := by
 rcases h with h | ⟨fr, h⟩
 · exact h.told.elems s
 · exact QZ (H.rows h)
theorem OutR.pubA {es T : Nat} {a : AV} {xs : List AV} {R : List RA} {B : List (Nat × Box)} {s0 s : St} {n : En} (h : OutR es T a xs R) (H : Hp s0 s n R B) : ∃ a' s' R', Am.pubA s a = some (a', s') ∧ CB es a' xs ∧ Hp s0 s' n R' B := by
 rcases h with h | ⟨fr, h⟩
 · exact ⟨a, s, R, h.told.pubA s, h.told, H⟩
 · obtain ⟨a', s', d, t, H', _⟩ := H.pub 0 h
   exact ⟨a', s', _, by rw [MJ (H.rows h)]; exact d, t, H'⟩
theorem Mg (l : List FT) (ho : FOk l) (n : Int) (s : St) (hw : Wf s) : (lim prog).call DA [fx l, .i .i64 n] s = some (.tup [tx (Dh l n).1, .i .i64 (Dh l n).2], s) := by
 refine fn_W GZ rfl rfl ?_
 have hz0 : wkZ Ai.cin [fx l, .i .i64 n] = [fx l, .i .i64 n] := by
  simp only [Ai, wkZ, Ek .ws, wk]
  rfl
 rw [hz0]
 have H1 := Hp.begin hw
 have hmay := IR l ho.ok ho.len ho.fl s.enter H1.wf
 unfold fx at hmay
 cases hm : mayP l
 · rw [hm] at hmay
   simp only [Ai, go_sem, AD, AA, AC, AB, KB_n, KB_x, Nat.reduceBEq, Nat.reduceAdd, Nat.reduceLT, Nat.reduceLeDiff, Nat.reduceEqDiff, reduceIte, Int.reduceEq, reduceCtorEq, fx, hmay]
   unfold Dh
   rw [hm, if_neg (by simp)]
   exact Fe (p := []) (.inl ⟨rfl, rfl⟩) 4 H1.over
 · rw [hm] at hmay
   unfold Dh
   rw [hm, if_pos rfl]
   have hd := mayD hm
   by_cases hr : 0 ≤ n ∧ n < (l.length : Int)
   · have r1 : (n < 0) = False := by simp only [eq_iff_iff, iff_false]; omega
     have r2 : ((l.length : Int) ≤ n) = False := by simp only [eq_iff_iff, iff_false]; omega
     rw [if_pos hr]
     obtain ⟨m, rfl⟩ : ∃ m : Nat, n = (m : Int) := ⟨n.toNat, by omega⟩
     rw [Int.toNat_natCast]
     simp only [Ai, go_sem, AD, AA, AC, AB, KB_n, KB_x, Nat.reduceBEq, Nat.reduceAdd, Nat.reduceLT, Nat.reduceLeDiff, Nat.reduceEqDiff, reduceIte, Int.reduceEq, reduceCtorEq, fx, hmay, r1, r2, List.length_map]
     refine BF (fun x e q => ∃ (a : AV) (p : List (List Nat)) (R : List RA), x < l.length ∧ Hp s q s.en R [] ∧ OutR 1 9 a (p.map .s) R ∧ climb l m = climb l x ++ p ∧ p.length + x ≤ m ∧ e.get 0 = fx l ∧ e.get 1 = .i .i64 (x : Nat) ∧ e.get 6 = a) ?_ m _ _ ?_
     · rintro x e q ⟨a, p, R, hx, H, hR, hcl, hpl, g0, g1, g6⟩
       by_cases hx0 : x = 0
       · have h1 : ((0 : Int) < (x : Int)) = False := by simp only [eq_iff_iff, iff_false]; omega
         subst hx0
         rw [Hl, List.nil_append] at hcl
         obtain ⟨a', q', R', d, t, H'⟩ := hR.pubA H
         simp only [go_sem, AD, AA, AC, AB, KB_n, KB_x, Nat.reduceBEq, Nat.reduceAdd, Nat.reduceLT, Nat.reduceLeDiff, Nat.reduceEqDiff, reduceIte, Int.reduceEq, reduceCtorEq, g0, g1, g6, h1, Int.natCast_zero, d, Int.lt_irrefl]
         rw [hcl]
         exact Fe t 0 H'.over
       · have h1 : ((0 : Int) < (x : Int)) = True := by simp only [eq_iff_iff, iff_true]; omega
         obtain ⟨u, f, hu1, hu2, hu3, hu4⟩ := hd.up x (by omega) hx
         have hab := Pq l ho.ok ho.len (x : Int) q H.wf
         have hai : D0 l (x : Int) = (u : Int) := by unfold D0; rw [hu1]
         rw [hai] at hab
         unfold fx at hab
         have hfm := List.mem_of_getElem? hu3
         have hnm := Nn f (ho.ok f hfm) (D1 (hd.one f hfm)) (x : Int) q H.wf
         have hg := Hz hu3
         have ldf := DF f
         have pvf := BA f
         have hal : Al 1 [AV.s (J3 f (x : Int))] = true := rfl
         obtain ⟨a', q', d, H', n', _⟩ := H.appN 9 (a := .sl 1 [.s (J3 f (x : Int))] .full) (y := a) (ys := p.map .s) .full (hR.elems H) (by have := ho.len; simp; omega)
         simp only [go_sem, AD, AA, AC, AB, KB_n, KB_x, Nat.reduceBEq, Nat.reduceAdd, Nat.reduceLT, Nat.reduceLeDiff, Nat.reduceEqDiff, reduceIte, Int.reduceEq, reduceCtorEq, g0, g1, g6, h1, fx, hab, AF, hg, ldf, pvf, hnm, Ax, hal, d]
         refine ⟨u, by omega, a', J3 f (x : Int) :: p, _, by omega, H', ?_, ?_, ?_, rfl, rfl⟩
         · exact .inr ⟨_, rfl⟩
         · rw [hcl, Je hd (by omega) hx hu1 hu2 hu3, List.append_assoc]
           rfl
         · simp; omega
     · simp only [go_sem, AD, AA, AC, AB, KB_n, KB_x, Nat.reduceBEq, Nat.reduceAdd, Nat.reduceLT, Nat.reduceLeDiff, Nat.reduceEqDiff, reduceIte, Int.reduceEq, reduceCtorEq]
       exact ⟨.nsl, [], [], by omega, H1, .inl .nil, by simp, by simp, rfl, rfl⟩
   · rw [if_neg hr]
     by_cases r1 : n < 0
     · have r1' : (n < 0) = True := by simp [r1]
       simp only [Ai, go_sem, AD, AA, AC, AB, KB_n, KB_x, Nat.reduceBEq, Nat.reduceAdd, Nat.reduceLT, Nat.reduceLeDiff, Nat.reduceEqDiff, reduceIte, Int.reduceEq, reduceCtorEq, fx, hmay, r1']
       exact Fe (p := []) (.inl ⟨rfl, rfl⟩) 1 H1.over
     · have r1' : (n < 0) = False := by simp [r1]
       have r2' : ((l.length : Int) ≤ n) = True := by simp only [eq_iff_iff, iff_true]; omega
       simp only [Ai, go_sem, AD, AA, AC, AB, KB_n, KB_x, Nat.reduceBEq, Nat.reduceAdd, Nat.reduceLT, Nat.reduceLeDiff, Nat.reduceEqDiff, reduceIte, Int.reduceEq, reduceCtorEq, fx, hmay, r1', r2', List.length_map]
       exact Fe (p := []) (.inl ⟨rfl, rfl⟩) 1 H1.over
end Go.Proofs.Ytgloinighjdhlaa

/-
  The order of places: plain facts.
-/
set_option maxRecDepth 100000
namespace Go.Proofs.Ytgloinighjdhlaa
open Go.Proofs.Ytgloinighjdhlaa.Am
theorem I9 : ∀ {a b c : List Nat}, ltN a b = true → ltN b c = true → ltN a c = true
 | [], [], _, h, _ => by simp [ltN] at h
 | _ :: _, [], _, h, _ => by simp [ltN] at h
 | _, _ :: _, [], _, h => by simp [ltN] at h
 | [], _ :: _, _ :: _, _, _ => rfl
 | a :: x, b :: y, c :: z, h1, h2 => by
   simp only [ltN, Bool.or_eq_true, Bool.and_eq_true, Nat.blt_eq, Nat.beq_eq] at h1 h2 ⊢
   rcases h1 with h1 | ⟨h1, h3⟩
   · rcases h2 with h2 | ⟨h2, _⟩
     · left; omega
     · left; omega
   · rcases h2 with h2 | ⟨h2, h4⟩
     · left; omega
     · right; exact ⟨by omega, I9 h3 h4⟩
end Go.Proofs.Ytgloinighjdhlaa

/-
  slices.BinarySearch of texts that rise.
-/
set_option maxRecDepth 100000
set_option maxHeartbeats 2000000
namespace Go.Proofs.Ytgloinighjdhlaa
open Go.Proofs.Ytgloinighjdhlaa.Am
attribute [local irreducible] W WO WE WQ WD Tr.get Tr.set
theorem WB (a : List Nat) (s : St) : (lim prog).call DM [.s a] s = some (.b false, s) := by
 refine fn_W Iz rfl rfl ?_
 have e1 : (a ≠ a) = False := by simp
 simp only [DN, go_sem, AD, AA, AC, AB, KB_n, KB_x, Nat.reduceBEq, Nat.reduceAdd, Nat.reduceLT, Nat.reduceLeDiff, Nat.reduceEqDiff, reduceIte, Int.reduceEq, reduceCtorEq, e1]
 exact AM (Over.enter s) rfl rfl
theorem WC (a : List Nat) (s : St) : (lim prog).call Cj [.s a] s = some (.b false, s) := by
 refine fn_W HR rfl rfl ?_
 have e1 : (a ≠ a) = False := by simp
 simp only [Cm, go_sem, AD, AA, AC, AB, KB_n, KB_x, Nat.reduceBEq, Nat.reduceAdd, Nat.reduceLT, Nat.reduceLeDiff, Nat.reduceEqDiff, reduceIte, Int.reduceEq, reduceCtorEq, e1]
 exact AM (Over.enter s) rfl rfl
theorem Py (a b : List Nat) (s : St) : (lim prog).call ER [.s a, .s b] s = some (.b (ltN a b), s) := by
 refine fn_W JY rfl rfl ?_
 simp only [De, go_sem, AD, AA, AC, AB, KB_n, KB_x, Nat.reduceBEq, Nat.reduceAdd, Nat.reduceLT, Nat.reduceLeDiff, Nat.reduceEqDiff, reduceIte, Int.reduceEq, reduceCtorEq, WB]
 exact AM (Over.enter s) rfl rfl
def Asc (L : List (List Nat)) : Prop := ∀ {i j : Nat} {a b : List Nat}, i < j → L[i]? = some a → L[j]? = some b → ltN a b = true
structure Pos (L : List (List Nat)) (x : List Nat) (p : Nat) : Prop where
 le : p ≤ L.length
 lo : ∀ {k : Nat} {y : List Nat}, k < p → L[k]? = some y → ltN y x = true
 hi : ∀ {k : Nat} {y : List Nat}, p ≤ k → L[k]? = some y → ltN y x = false
theorem shr1 (a : Nat) : Am.binOp .shr (.i .u64 (a : Int)) (.i .u64 1) = some (.i .u64 ((a / 2 : Nat) : Int)) := by
 have : ((a : Int).fdiv 2) = ((a / 2 : Nat) : Int) := by
  rw [Int.fdiv_eq_ediv_of_nonneg _ (by omega)]; omega
 simp [Am.binOp, IntKind.bits]
 exact this
theorem wrapU {a : Nat} (h : a < 2 ^ 64) : IntKind.u64.wrap (a : Int) = (a : Int) := by
 have : ((a : Int) % 2 ^ 64) = (a : Int) := by omega
 simp only [IntKind.wrap, IntKind.signed, IntKind.bits, this]
 rfl
theorem Uf (f : List Nat → Bool) : ∀ L : List (List Nat), ∃ p, p ≤ L.length ∧ (∀ {k : Nat} {y : List Nat}, k < p → L[k]? = some y → f y = true) ∧ ∀ {y : List Nat}, L[p]? = some y → f y = false
 | [] => ⟨0, by simp, fun h => by omega, fun h => by simp at h⟩
 | a :: L => by
   cases ha : f a with
   | false => exact ⟨0, by simp, fun h => by omega, fun h => by simp only [List.getElem?_cons_zero, Option.some.injEq] at h; rw [← h]; exact ha⟩
   | true =>
     obtain ⟨p, h1, h2, h3⟩ := Uf f L
     refine ⟨p + 1, by simp; omega, fun {k y} hk hy => ?_, fun h => h3 (by simpa using h)⟩
     cases k with
     | zero => simp only [List.getElem?_cons_zero, Option.some.injEq] at hy; rw [← hy]; exact ha
     | succ k => exact h2 (k := k) (by omega) (by simpa using hy)
theorem pos_ex {L : List (List Nat)} (hasc : Asc L) (x : List Nat) : ∃ p, Pos L x p := by
 obtain ⟨p, h1, h2, h3⟩ := Uf (fun y => ltN y x) L
 refine ⟨p, h1, fun hk hy => h2 hk hy, @fun k y hk hy => ?_⟩
 by_cases hkp : k = p
 · subst hkp; exact h3 hy
 · have hlt : k < L.length := (List.getElem?_eq_some_iff.1 hy).1
   have hpk : p < k := by omega
   obtain ⟨z, hz⟩ : ∃ z, L[p]? = some z := ⟨_, List.getElem?_eq_getElem (show p < L.length by omega)⟩
   have hzy := hasc hpk hz hy
   rw [Bool.eq_false_iff]
   intro hyx
   have := I9 hzy hyx
   rw [h3 hz] at this
   cases this
theorem Lx (L : List (List Nat)) (x : List Nat) (hasc : Asc L) (hl : L.length < 2 ^ 62) (s : St) : ∃ p, Pos L x p ∧ (lim prog).call A4 [tx L, .s x] s = some (.tup [.i .i64 (p : Nat), .b (decide (L[p]? = some x))], s) := by
 have hex : ∃ p, Pos L x p := pos_ex hasc x
 obtain ⟨p, hp⟩ := hex
 refine ⟨p, hp, fn_W Ds rfl rfl ?_⟩
 simp only [A6, go_sem, AD, AA, AC, AB, KB_n, KB_x, Nat.reduceBEq, Nat.reduceAdd, Nat.reduceLT, Nat.reduceLeDiff, Nat.reduceEqDiff, reduceIte, Int.reduceEq, reduceCtorEq, List.length_map]
 refine BF (fun n e q => q = s.enter ∧ ∃ i j : Nat, i + n = j ∧ i ≤ p ∧ p ≤ j ∧ j ≤ L.length ∧ e.get 0 = tx L ∧ e.get 1 = .s x ∧ e.get 6 = .i .i64 (L.length : Nat) ∧ e.get 7 = .i .i64 (i : Nat) ∧ e.get 8 = .i .i64 (j : Nat)) ?_ L.length _ _ ?_
 · rintro n e q ⟨rfl, i, j, hij, hip, hpj, hj, g0, g1, g6, g7, g8⟩
   by_cases h : i < j
   · have e1 : ((i : Int) < (j : Int)) = True := by simp only [eq_iff_iff, iff_true]; omega
     have hs1 : IntKind.i64.wrap ((i : Int) + (j : Int)) = ((i + j : Nat) : Int) := by
      rw [show (i : Int) + (j : Int) = ((i + j : Nat) : Int) by omega]; exact Bx (by omega)
     have hs2 := wrapU (show i + j < 2 ^ 64 by omega)
     have hs3 := Bx (show (i + j) / 2 < 2 ^ 63 by omega)
     obtain ⟨m, hm⟩ : ∃ m, (i + j) / 2 = m := ⟨_, rfl⟩
     rw [hm] at hs3
     obtain ⟨y, hy⟩ : ∃ y, L[m]? = some y := ⟨_, List.getElem?_eq_getElem (by omega)⟩
     have hy2 : (L.map AV.s)[m]? = some (.s y) := by rw [List.getElem?_map, hy]; rfl
     have hw1 := AR (show m + 1 < 2 ^ 63 by omega)
     have hsh := shr1 (i + j)
     rw [hm] at hsh
     cases hlt : ltN y x with
     | true =>
       have : m < p := by
        refine Nat.lt_of_not_le fun hh => ?_
        have := hp.hi hh hy
        rw [hlt] at this; cases this
       simp only [go_sem, AD, AA, AC, AB, KB_n, KB_x, Nat.reduceBEq, Nat.reduceAdd, Nat.reduceLT, Nat.reduceLeDiff, Nat.reduceEqDiff, reduceIte, Int.reduceEq, reduceCtorEq, g0, g1, g6, g7, g8, e1, hs1, hs2, hsh, hs3, AF, hy2, Ay, Bw, Py, hlt, hw1]
       exact ⟨j - (m + 1), by omega, m + 1, j, by omega, by omega, by omega, hj, rfl, rfl⟩
     | false =>
       have : p ≤ m := by
        refine Nat.le_of_not_lt fun hh => ?_
        have := hp.lo hh hy
        rw [hlt] at this; cases this
       simp only [go_sem, AD, AA, AC, AB, KB_n, KB_x, Nat.reduceBEq, Nat.reduceAdd, Nat.reduceLT, Nat.reduceLeDiff, Nat.reduceEqDiff, reduceIte, Int.reduceEq, reduceCtorEq, g0, g1, g6, g7, g8, e1, hs1, hs2, hsh, hs3, AF, hy2, Ay, Bw, Py, hlt]
       exact ⟨m - i, by omega, i, m, by omega, by omega, by omega, by omega, rfl, rfl⟩
   · have e1 : ((i : Int) < (j : Int)) = False := by simp only [eq_iff_iff, iff_false]; omega
     obtain rfl : i = p := by omega
     have hbr : ∀ b, KR s [.id, .id] (.tup [.i .i64 (i : Nat), .b b]) (some ([.i .i64 (i : Nat), .b b], s.enter)) := fun b => AM (Over.enter s) rfl rfl
     by_cases h2 : i < L.length
     · have e2 : ((i : Int) < (L.length : Int)) = True := by simp only [eq_iff_iff, iff_true]; omega
       obtain ⟨y, hy⟩ : ∃ y, L[i]? = some y := ⟨_, List.getElem?_eq_getElem h2⟩
       have hy2 : (L.map AV.s)[i]? = some (.s y) := by rw [List.getElem?_map, hy]; rfl
       by_cases h3 : y = x
       · have e3 : (y = x) = True := by simp [h3]
         rw [decide_eq_true (by rw [hy, h3] : L[i]? = some x)]
         simp only [go_sem, AD, AA, AC, AB, KB_n, KB_x, Nat.reduceBEq, Nat.reduceAdd, Nat.reduceLT, Nat.reduceLeDiff, Nat.reduceEqDiff, reduceIte, Int.reduceEq, reduceCtorEq, g0, g1, g6, g7, g8, e1, e2, AF, hy2, Ay, Bw, e3]
         exact hbr _
       · have e3 : (y = x) = False := by simp [h3]
         rw [decide_eq_false (by rw [hy]; simpa using h3 : ¬ L[i]? = some x)]
         simp only [go_sem, AD, AA, AC, AB, KB_n, KB_x, Nat.reduceBEq, Nat.reduceAdd, Nat.reduceLT, Nat.reduceLeDiff, Nat.reduceEqDiff, reduceIte, Int.reduceEq, reduceCtorEq, g0, g1, g6, g7, g8, e1, e2, AF, hy2, Ay, Bw, e3, WC]
         exact hbr _
     · have e2 : ((i : Int) < (L.length : Int)) = False := by simp only [eq_iff_iff, iff_false]; omega
       rw [decide_eq_false (by rw [List.getElem?_eq_none (by omega)]; simp : ¬ L[i]? = some x)]
       simp only [go_sem, AD, AA, AC, AB, KB_n, KB_x, Nat.reduceBEq, Nat.reduceAdd, Nat.reduceLT, Nat.reduceLeDiff, Nat.reduceEqDiff, reduceIte, Int.reduceEq, reduceCtorEq, g0, g1, g6, g7, g8, e1, e2]
       exact hbr _
 · simp only [go_sem, AD, AA, AC, AB, KB_n, KB_x, Nat.reduceBEq, Nat.reduceAdd, Nat.reduceLT, Nat.reduceLeDiff, Nat.reduceEqDiff, reduceIte, Int.reduceEq, reduceCtorEq]
   have := hp.le
   exact ⟨0, L.length, by omega, by omega, by omega, by omega, rfl, rfl⟩
end Go.Proofs.Ytgloinighjdhlaa

/-
  ftree.find.
-/
set_option maxRecDepth 100000
set_option maxHeartbeats 2000000
namespace Go.Proofs.Ytgloinighjdhlaa
open Go.Proofs.Ytgloinighjdhlaa.Am
theorem LD : ∀ (p : Option (List Nat)) (ns : List (List Nat)) (ks : List ND), ns.length = ks.length → EW p ns ks = true →
    (∀ {i : Nat} {k : ND}, ks[i]? = some k → D2 k = true) ∧ (∀ {i : Nat} {s : List Nat}, ns[i]? = some s → EC s = true) ∧ (∀ q, p = some q → ∀ {i : Nat} {s : List Nat}, ns[i]? = some s → ltN q s = true) ∧ Asc ns
 | p, [], [], _, _ => ⟨fun h => by simp at h, fun h => by simp at h, fun _ _ _ _ h => by simp at h, fun _ h => by simp at h⟩
 | p, a :: ns, b :: ks, hl, h => by
   simp only [EW, Bool.and_eq_true] at h
   obtain ⟨h1, h2, h3, h4⟩ := h
   obtain ⟨k1, k2, k3, k4⟩ := LD (some a) ns ks (by simpa using hl) h4
   refine ⟨@fun i k hk => ?_, @fun i s hs => ?_, fun q hq => @fun i s hs => ?_, @fun i j x y hij hx hy => ?_⟩
   · cases i with
     | zero => simp only [List.getElem?_cons_zero, Option.some.injEq] at hk; rw [← hk]; exact h3
     | succ i => exact k1 (i := i) (by simpa using hk)
   · cases i with
     | zero => simp only [List.getElem?_cons_zero, Option.some.injEq] at hs; rw [← hs]; exact h1
     | succ i => exact k2 (i := i) (by simpa using hs)
   · subst hq
     have h2 : ltN q a = true := h2
     cases i with
     | zero => simp only [List.getElem?_cons_zero, Option.some.injEq] at hs; rw [← hs]; exact h2
     | succ i => exact I9 h2 (k3 a rfl (i := i) (by simpa using hs))
   · cases j with
     | zero => omega
     | succ j =>
       have hy : ns[j]? = some y := by simpa using hy
       cases i with
       | zero => simp only [List.getElem?_cons_zero, Option.some.injEq] at hx; rw [← hx]; exact k3 a rfl hy
       | succ i => exact k4 (i := i) (j := j) (by omega) (by simpa using hx) hy
 | _, [], _ :: _, hl, _ => by simp at hl
 | _, _ :: _, [], hl, _ => by simp at hl
structure WellD (n : ND) : Prop where
 len : n.names.length = n.kids.length
 kid : ∀ {i : Nat} {k : ND}, n.kids[i]? = some k → D2 k = true
 name : ∀ {i : Nat} {s : List Nat}, n.names[i]? = some s → EC s = true
 asc : Asc n.names
theorem wellD {n : ND} (h : D2 n = true) : WellD n := by
 rw [KT] at h
 split at h
 · simp only [Bool.and_eq_true, decide_eq_true_eq] at h
   obtain ⟨h1, h2, _⟩ := h
   have h2 : n.kids = [] := List.length_eq_zero_iff.1 h2
   exact ⟨by rw [h1, h2]; rfl, fun h => by rw [h2] at h; simp at h, fun h => by rw [h1] at h; simp at h, fun _ h => by rw [h1] at h; simp at h⟩
 · split at h
   · simp only [Bool.and_eq_true, decide_eq_true_eq] at h
     obtain ⟨_, h2, h3⟩ := h
     obtain ⟨k1, k2, _, k4⟩ := LD none _ _ h2 h3
     exact ⟨h2, k1, k2, k4⟩
   · cases h
def noN : ND := .mk 0 [] [] []
def kidN (n : ND) (s : List Nat) : Option ND := if n.kind = 2 then match n.names.findIdx? (· == s) with
 | some i => n.kids[i]?
 | none => none else none
def Ey : ND → List (List Nat) → Option ND
 | n, [] => some n
 | n, s :: p => match kidN n s with
   | some k => Ey k p
   | none => none
theorem Om : ∀ a : List Nat, ltN a a = false
 | [] => rfl
 | c :: a => by
   have : Nat.blt c c = false := by rw [Bool.eq_false_iff]; intro h; rw [Nat.blt_eq] at h; omega
   simp only [ltN, this, Om a, Bool.and_false, Bool.or_self]
theorem SU {L : List (List Nat)} (hasc : Asc L) {x : List Nat} {p : Nat} (hp : Pos L x p) : L.findIdx? (· == x) = if L[p]? = some x then some p else none := by
 by_cases h : L[p]? = some x
 · rw [if_pos h, List.findIdx?_eq_some_iff_getElem]
   obtain ⟨h1, h2⟩ := List.getElem?_eq_some_iff.1 h
   refine ⟨h1, by simp [h2], fun j hj => ?_⟩
   have hlt := hp.lo hj (List.getElem?_eq_getElem (show j < L.length by omega))
   simp only [beq_iff_eq]
   intro he
   rw [he, Om] at hlt
   cases hlt
 · rw [if_neg h, List.findIdx?_eq_none_iff]
   intro y hy
   obtain ⟨j, hj, rfl⟩ := List.mem_iff_getElem.1 hy
   have hg := List.getElem?_eq_getElem hj
   simp only [beq_eq_false_iff_ne, ne_eq]
   intro he
   rw [he] at hg
   by_cases hjp : j < p
   · have := hp.lo hjp hg
     rw [Om] at this; cases this
   · by_cases hjp2 : j = p
     · subst hjp2; exact h hg
     · have hpj : p < j := by omega
       obtain ⟨z, hz⟩ : ∃ z, L[p]? = some z := ⟨_, List.getElem?_eq_getElem (show p < L.length by omega)⟩
       have h1 := hasc hpj hz hg
       have h2 := hp.hi (Nat.le_refl _) hz
       rw [h1] at h2; cases h2
end Go.Proofs.Ytgloinighjdhlaa

/-
  ftree.find as a contract.
-/
set_option maxRecDepth 100000
set_option maxHeartbeats 2000000
namespace Go.Proofs.Ytgloinighjdhlaa
open Go.Proofs.Ytgloinighjdhlaa.Am
attribute [local irreducible] W WO WE WQ WD Tr.get Tr.set
def D9 (o : Option ND) : ND := o.getD noN
theorem WF (n : ND) (ho : n.Ok) (hwl : D2 n = true) (pl : List (List Nat)) (hl : pl.length < 2 ^ 62) (s : St) (hw : Wf s) :
    (lim prog).call HL [.agg n.cells, tx pl] s = some (.tup [.agg (D9 (Ey n pl)).cells, .b (Ey n pl).isSome], s) := by
 refine fn_W Nd rfl rfl ?_
 have H0 := (Hp.begin hw).new (.cells 47 n.cells)
 generalize hq : s.enter.new (.cells 47 n.cells) = q at H0
 generalize hm : s.enter.nb = m at H0
 have H1 := H0.new (.cells 47 [.i .u8 0, .s [], .nsl, .nsl])
 generalize hq1 : q.new (.cells 47 [.i .u8 0, .s [], .nsl, .nsl]) = q1 at H1
 generalize hm1 : q.nb = m1 at H1
 have hz0 : wkZ Dy.cin [.agg n.cells, tx pl] = [.agg n.cells, tx pl] := by simp [Dy, wkZ, wk, ND.cells]
 rw [hz0]
 simp only [Dy, go_sem, AD, AA, AC, AB, KB_n, KB_x, Nat.reduceBEq, Nat.reduceAdd, Nat.reduceLT, Nat.reduceLeDiff, Nat.reduceEqDiff, reduceIte, Int.reduceEq, reduceCtorEq, AP, hq, hm, hq1, hm1, List.length_map]
 refine BF (fun x e q => ∃ (i : Nat) (c : ND), i + x = pl.length ∧ c.Ok ∧ D2 c = true ∧ Ey n pl = Ey c (pl.drop i) ∧ Hp s q s.en [] [(m1, .cells 47 [.i .u8 0, .s [], .nsl, .nsl]), (m, .cells 47 c.cells)] ∧
  e.get 2 = .p m 0 ∧ e.get 4 = .p m1 0 ∧ e.get 10 = tx pl ∧ e.get 11 = .i .i64 (pl.length : Nat) ∧ e.get 12 = .i .i64 (i : Nat)) ?_ pl.length _ _ ?_
 · rintro x e q' ⟨i, c, hi, hco, hcw, hf, H, g2, g4, g10, g11, g12⟩
   have l0 := H.ld 1 (off := 0) (v := .i .u8 (c.kind : Nat)) rfl rfl
   have l2 := H.ld 1 (off := 2) (v := tx c.names) rfl rfl
   have l3 := H.ld 1 (off := 3) (v := .ws false 4 (c.kids.map ND.av)) rfl rfl
   by_cases h : i < pl.length
   · have e1 : ((i : Int) < (pl.length : Int)) = True := by simp only [eq_iff_iff, iff_true]; omega
     obtain ⟨y, hy⟩ : ∃ y, pl[i]? = some y := ⟨_, List.getElem?_eq_getElem h⟩
     have hy2 : (pl.map AV.s)[i]? = some (.s y) := by rw [List.getElem?_map, hy]; rfl
     have hd : pl.drop i = y :: pl.drop (i + 1) := by
      rw [List.drop_eq_getElem_cons h]
      rw [List.getElem?_eq_getElem h] at hy
      cases hy; rfl
     have hD := wellD hcw
     obtain ⟨p, hp, hb⟩ := Lx c.names y hD.asc (by have := hco.names.2; omega) q'
     have hidx := SU hD.asc hp
     have hw1 := AR (show i + 1 < 2 ^ 63 by omega)
     obtain ⟨q3, d3, H3, _⟩ := H.stw 0 (v := .agg [.i .u8 0, .s [], .nsl, .nsl]) (m := 4) rfl rfl ⟨rfl, rfl⟩
     have l4 := H3.ldw 0 (m := 4) rfl rfl
     have bad : kidN c y = none → Ey n pl = none := fun hk => by rw [hf, hd]; simp only [Ey, hk]
     have hend : KR s [(.agg [.id, .id, (.sl 1 .id), (.sl 4 (.agg [.id, .id, (.sl 1 .id), (.sl 4 (.agg [.id, .id, (.sl 1 .id), (.sl 4 .id)]))]))]), .id] (.tup [.agg noN.cells, .b false]) (some ([.agg [.i .u8 0, .s [], .nsl, .nsl], .b false], q3)) := AM H3.over rfl rfl
     by_cases c2 : c.kind = 2
     · have e2 : ((c.kind : Int) ≠ 2) = False := by simp only [ne_eq, eq_iff_iff, iff_false]; omega
       by_cases c3 : c.names[p]? = some y
       · rw [decide_eq_true c3] at hb
         rw [if_pos c3] at hidx
         have hpl : p < c.names.length := (List.getElem?_eq_some_iff.1 c3).1
         obtain ⟨k, hk⟩ : ∃ k, c.kids[p]? = some k := ⟨_, List.getElem?_eq_getElem (by rw [← hD.len]; exact hpl)⟩
         have hkid : kidN c y = some k := by unfold kidN; rw [if_pos c2, hidx]; exact hk
         have hget := FK hk
         obtain ⟨q4, d4, H4, _⟩ := H.stw 1 (v := .agg k.cells) (m := 4) rfl rfl ⟨AP k, FL k⟩
         have hld : ldA q' true 4 (.ep k.cells 0 .shut) = some (.agg k.cells) := rfl
         simp only [go_sem, AD, AA, AC, AB, KB_n, KB_x, Nat.reduceBEq, Nat.reduceAdd, Nat.reduceLT, Nat.reduceLeDiff, Nat.reduceEqDiff, reduceIte, Int.reduceEq, reduceCtorEq, g2, g4, g10, g11, g12, e1, AF, hy2, Ay, Bw, l0, l2, l3, hb, e2, hget, hld, AL, d4, hw1, Nat.zero_add]
         exact ⟨x - 1, by omega, i + 1, k, by omega, hco.kids.1 k (List.mem_of_getElem? hk), hD.kid hk, by rw [hf, hd]; simp only [Ey, hkid], H4, rfl⟩
       · rw [decide_eq_false c3] at hb
         rw [if_neg c3] at hidx
         have hkid : kidN c y = none := by unfold kidN; rw [if_pos c2, hidx]
         rw [bad hkid]
         simp only [go_sem, AD, AA, AC, AB, KB_n, KB_x, Nat.reduceBEq, Nat.reduceAdd, Nat.reduceLT, Nat.reduceLeDiff, Nat.reduceEqDiff, reduceIte, Int.reduceEq, reduceCtorEq, g2, g4, g10, g11, g12, e1, AF, hy2, Ay, Bw, l0, l2, l3, hb, e2, d3, l4, Nat.zero_add]
         exact hend
     · have e2 : ((c.kind : Int) ≠ 2) = True := by simp only [ne_eq, eq_iff_iff, iff_true]; omega
       have hkid : kidN c y = none := by unfold kidN; rw [if_neg c2]
       rw [bad hkid]
       simp only [go_sem, AD, AA, AC, AB, KB_n, KB_x, Nat.reduceBEq, Nat.reduceAdd, Nat.reduceLT, Nat.reduceLeDiff, Nat.reduceEqDiff, reduceIte, Int.reduceEq, reduceCtorEq, g2, g4, g10, g11, g12, e1, AF, hy2, Ay, Bw, l0, l2, l3, hb, e2, d3, l4, Nat.zero_add]
       exact hend
   · have e1 : ((i : Int) < (pl.length : Int)) = False := by simp only [eq_iff_iff, iff_false]; omega
     rw [List.drop_of_length_le (by omega)] at hf
     rw [hf]
     have l4 := H.ldw 1 (m := 4) rfl rfl
     obtain ⟨q4, d4, H4, _⟩ := H.stw 0 (v := .agg c.cells) (m := 4) rfl rfl ⟨AP c, FL c⟩
     have l5 := H4.ldw 0 (m := 4) rfl rfl
     simp only [go_sem, AD, AA, AC, AB, KB_n, KB_x, Nat.reduceBEq, Nat.reduceAdd, Nat.reduceLT, Nat.reduceLeDiff, Nat.reduceEqDiff, reduceIte, Int.reduceEq, reduceCtorEq, g2, g4, g10, g11, g12, e1, l4, AL, FM, d4, l5]
     refine AM H4.over ?_ ?_
     · have := Mn c
       rw [ND.av_eq] at this
       simp only [CA, AV.refs.eq_8, AV.refs.go, this]
       rfl
     · have hwk : wkZ [(.agg [.id, .id, (.sl 1 .id), (.sl 4 (.agg [.id, .id, (.sl 1 .id), (.sl 4 (.agg [.id, .id, (.sl 1 .id), (.sl 4 .id)]))]))]), .id] [.agg c.cells, .b true] = [.agg c.cells, .b true] := by simp [wkZ, wk, ND.cells]
       rw [hwk]
       rfl
 · simp only [go_sem, AD, AA, AC, AB, KB_n, KB_x, Nat.reduceBEq, Nat.reduceAdd, Nat.reduceLT, Nat.reduceLeDiff, Nat.reduceEqDiff, reduceIte, Int.reduceEq, reduceCtorEq]
   exact ⟨0, n, by omega, ho, hwl, rfl, H1, rfl⟩
end Go.Proofs.Ytgloinighjdhlaa

/-
  The node at a place: ftree.At, and the document's.
-/
set_option maxRecDepth 100000
set_option maxHeartbeats 4000000
namespace Go.Proofs.Ytgloinighjdhlaa
open Go.Proofs.Ytgloinighjdhlaa.Am
attribute [local irreducible] W WO WE WQ WD Tr.get Tr.set
abbrev ctN : CT := .agg [.id, .id, (.sl 1 .id), (.sl 4 (.agg [.id, .id, (.sl 1 .id), (.sl 4 (.agg [.id, .id, (.sl 1 .id), (.sl 4 .id)]))]))]
theorem No : noN.Ok := .mk (by decide) ⟨by simp, by simp⟩ (by decide) (fun _ h => by simp at h) (by decide) (by decide) (fun _ h => by simp at h)
theorem Mh {n : ND} (ho : n.Ok) : ∀ (pl : List (List Nat)), (D9 (Ey n pl)).Ok
 | [] => ho
 | y :: pl => by
   unfold Ey
   cases hk : kidN n y with
   | none => exact No
   | some k =>
     simp only
     have hm : k ∈ n.kids := by
      unfold kidN at hk
      split at hk
      · split at hk
        · exact List.mem_of_getElem? hk
        · cases hk
      · cases hk
     exact Mh (ho.kids.1 k hm) pl
theorem KR_N {s q : St} (ov : Over s q) (x : ND) (b : Bool) : KR s [ctN, .id] (.tup [.agg x.cells, .b b]) (some ([.agg x.cells, .b b], q)) := by
 refine AM ov ?_ ?_
 · have := Mn x
   rw [ND.av_eq] at this
   simp only [CA, AV.refs, AV.refs.go, this]
   simp only [AV.refs] at this
   rw [this]; rfl
 · rfl
theorem Qa (n : ND) (ho : n.Ok) (hwl : D2 n = true) (pl : List (List Nat)) (hl : pl.length < 2 ^ 62) (s : St) (hw : Wf s) :
    (lim prog).call JV [.agg n.cells, tx pl] s = some (.tup [.agg (D9 (Ey n pl)).cells, .b (Ey n pl).isSome], s) := by
 refine fn_W QQ rfl rfl ?_
 have hz0 : wkZ E7.cin [.agg n.cells, tx pl] = [.agg n.cells, tx pl] := by simp [E7, wkZ, wk, ND.cells]
 rw [hz0]
 have e0 : s.enter.nb = s.nb := rfl
 have H1 := ((Hp.begin hw).new (.cells 47 n.cells)).new (.cells 47 [.i .u8 0, .s [], .nsl, .nsl])
 have e1 : (s.enter.new (.cells 47 n.cells)).nb = s.nb + 1 := rfl
 obtain ⟨q1, hq1⟩ : ∃ q1, (s.enter.new (.cells 47 n.cells)).new (.cells 47 [.i .u8 0, .s [], .nsl, .nsl]) = q1 := ⟨_, rfl⟩
 rw [hq1, e1, e0] at H1
 have lw := H1.ldw (m := 4) 1 rfl rfl
 have hwf := SS n ho q1 H1.wf
 rw [hwl] at hwf
 have hf := WF n ho hwl pl hl q1 H1.wf
 obtain ⟨x, hx⟩ : ∃ x, D9 (Ey n pl) = x := ⟨_, rfl⟩
 have hxo := Mh ho pl
 rw [hx] at hf hxo
 obtain ⟨q2, d2, H2, n2⟩ := H1.adp (T := 47) (m := 4) (z := [.i .u8 0, .s [], .nsl, .nsl]) (v := .agg x.cells) rfl ⟨AP x, FL x⟩
 have lx := H2.ldw (m := 4) 0 rfl rfl
 have ho := own_ok x hxo q2 H2.wf
 obtain ⟨q3, d3, H3, n3, _⟩ := H2.stw 1 (m := 4) (v := .agg x.cells) rfl rfl ⟨AP x, FL x⟩
 have lr := H3.ldw (m := 4) 1 rfl rfl
 rw [hx]
 simp only [Ax] at lx lr
 simp only [tx] at hf
 simp only [E7, go_sem, AD, AA, AC, AB, KB_n, KB_x, Nat.reduceBEq, Nat.reduceAdd, Nat.reduceLT, Nat.reduceLeDiff, Nat.reduceEqDiff, reduceIte, Int.reduceEq, reduceCtorEq, AP, tx, hq1, e1, e0, lw, hwf, hf, d2, lx, ho, d3, lr, AL, FM]
 exact KR_N H3.over x _
def idxI (L : List (List Nat)) (x : List Nat) : Int := match L.findIdx? (· == x) with
 | some i => (i : Int)
 | none => -1
theorem Np (n : ND) (ho : n.Ok) (x : List Nat) (s : St) (hw : Wf s) : (lim prog).call DJ [.agg n.cells, .s x] s = some (.i .i64 (idxI n.names x), s) := by
 refine fn_W Gw rfl rfl ?_
 have hz0 : wkZ BS.cin [.agg n.cells, .s x] = [.agg n.cells, .s x] := by simp [BS, wkZ, wk, ND.cells]
 rw [hz0]
 have H1 := (Hp.begin hw).new (.cells 47 n.cells)
 obtain ⟨q1, hq1⟩ : ∃ q1, s.enter.new (.cells 47 n.cells) = q1 := ⟨_, rfl⟩
 rw [hq1] at H1
 have e0 : s.enter.nb = s.nb := rfl
 simp only [BS, go_sem, AD, AA, AC, AB, KB_n, KB_x, Nat.reduceBEq, Nat.reduceAdd, Nat.reduceLT, Nat.reduceLeDiff, Nat.reduceEqDiff, reduceIte, Int.reduceEq, reduceCtorEq, AP, hq1, e0]
 refine BF (fun y e q => ∃ i : Nat, i + y = n.names.length ∧ Hp s q s.en [] [(s.nb, .cells 47 n.cells)] ∧ (∀ j, j < i → ∀ z, n.names[j]? = some z → z ≠ x) ∧ e.get 1 = .s x ∧ e.get 2 = .p s.nb 0 ∧ e.get 5 = .i .i64 (i : Nat)) ?_ n.names.length _ _ ?_
 · rintro y e q ⟨i, hix, H, hno, g1, g2, g5⟩
   have ln := H.ld 0 (off := 2) (v := tx n.names) rfl rfl
   by_cases h : i < n.names.length
   · have h1 : ((i : Int) < (n.names.length : Int)) = True := by simp only [eq_iff_iff, iff_true]; omega
     obtain ⟨nm, hnm⟩ : ∃ nm, n.names[i]? = some nm := ⟨_, List.getElem?_eq_getElem h⟩
     have hnm2 : (n.names.map AV.s)[i]? = some (.s nm) := by rw [List.getElem?_map, hnm]; rfl
     have hw1 := AR (show i + 1 < 2 ^ 63 by have := ho.names.2; omega)
     by_cases hyk : nm = x
     · have e1 : (nm = x) = True := by simp [hyk]
       have hix : idxI n.names x = (i : Int) := by
        unfold idxI
        have : n.names.findIdx? (· == x) = some i := by
         rw [List.findIdx?_eq_some_iff_getElem]
         rw [List.getElem?_eq_some_iff] at hnm
         obtain ⟨hi, hnm⟩ := hnm
         exact ⟨hi, by simp [hnm, hyk], fun j hj => by simpa using hno j hj _ (List.getElem?_eq_getElem (by omega))⟩
        rw [this]
       rw [hix]
       simp only [go_sem, AD, AA, AC, AB, KB_n, KB_x, Nat.reduceBEq, Nat.reduceAdd, Nat.reduceLT, Nat.reduceLeDiff, Nat.reduceEqDiff, reduceIte, Int.reduceEq, reduceCtorEq, g1, g2, g5, tx, ln, List.length_map, h1, Nat.zero_add, AF, hnm2, Ay, Bw, e1]
       exact AM H.over rfl rfl
     · have e1 : (nm = x) = False := by simp [hyk]
       simp only [go_sem, AD, AA, AC, AB, KB_n, KB_x, Nat.reduceBEq, Nat.reduceAdd, Nat.reduceLT, Nat.reduceLeDiff, Nat.reduceEqDiff, reduceIte, Int.reduceEq, reduceCtorEq, g1, g2, g5, tx, ln, List.length_map, h1, Nat.zero_add, AF, hnm2, Ay, Bw, e1, hw1]
       refine ⟨y - 1, by omega, i + 1, by omega, H, fun j hj z hz => ?_, rfl⟩
       by_cases hji : j < i
       · exact hno j hji z hz
       · obtain rfl : j = i := by omega
         rw [hnm] at hz; cases hz; exact hyk
   · have h1 : ((i : Int) < (n.names.length : Int)) = False := by simp only [eq_iff_iff, iff_false]; omega
     have hix : idxI n.names x = -1 := by
      unfold idxI
      have : n.names.findIdx? (· == x) = none := by
       rw [List.findIdx?_eq_none_iff]
       intro z hz
       obtain ⟨j, hj⟩ := List.mem_iff_getElem?.1 hz
       simpa using hno j (by rw [List.getElem?_eq_some_iff] at hj; have := hj.1; omega) z hj
      rw [this]
     rw [hix]
     simp only [go_sem, AD, AA, AC, AB, KB_n, KB_x, Nat.reduceBEq, Nat.reduceAdd, Nat.reduceLT, Nat.reduceLeDiff, Nat.reduceEqDiff, reduceIte, Int.reduceEq, reduceCtorEq, g1, g2, g5, tx, ln, List.length_map, h1, Nat.zero_add]
     exact AM H.over rfl rfl
 · simp only [go_sem, AD, AA, AC, AB, KB_n, KB_x, Nat.reduceBEq, Nat.reduceAdd, Nat.reduceLT, Nat.reduceLeDiff, Nat.reduceEqDiff, reduceIte, Int.reduceEq, reduceCtorEq]
   exact ⟨0, by omega, H1, fun j hj => by omega, rfl⟩
theorem Qb {c : ND} (h : D2 c = true) (hk : c.kind ≠ 2) : c.names = [] := by
 rw [KT] at h
 split at h
 · simp only [Bool.and_eq_true, decide_eq_true_eq] at h; exact h.1
 · first | (rw [if_neg hk] at h; cases h) | (split at h; exact absurd (by assumption) hk; cases h) | cases h
theorem Qc (n : ND) (ho : n.Ok) (hwl : D2 n = true) (pl : List (List Nat)) (hl : pl.length < 2 ^ 62) (s : St) (hw : Wf s) :
    (lim prog).call Di [.agg n.cells, tx pl] s = some (.tup [.agg (D9 (Ey n pl)).cells, .b (Ey n pl).isSome], s) := by
 refine fn_W Hr rfl rfl ?_
 have hz0 : wkZ Bj.cin [.agg n.cells, tx pl] = [.agg n.cells, tx pl] := by simp [Bj, wkZ, wk, ND.cells]
 rw [hz0]
 have e0 : s.enter.nb = s.nb := rfl
 have H1 := ((Hp.begin hw).new (.cells 47 n.cells)).new (.cells 47 [.i .u8 0, .s [], .nsl, .nsl])
 have e1 : (s.enter.new (.cells 47 n.cells)).nb = s.nb + 1 := rfl
 obtain ⟨q1, hq1⟩ : ∃ q1, (s.enter.new (.cells 47 n.cells)).new (.cells 47 [.i .u8 0, .s [], .nsl, .nsl]) = q1 := ⟨_, rfl⟩
 rw [hq1, e1, e0] at H1
 simp only [Bj, go_sem, AD, AA, AC, AB, KB_n, KB_x, Nat.reduceBEq, Nat.reduceAdd, Nat.reduceLT, Nat.reduceLeDiff, Nat.reduceEqDiff, reduceIte, Int.reduceEq, reduceCtorEq, AP, hq1, e1, e0]
 refine BF (fun x e q => ∃ (i : Nat) (c : ND), i + x = pl.length ∧ c.Ok ∧ D2 c = true ∧ Ey n pl = Ey c (pl.drop i) ∧ Hp s q s.en [] [(s.nb + 1, .cells 47 [.i .u8 0, .s [], .nsl, .nsl]), (s.nb, .cells 47 c.cells)] ∧ e.get 1 = tx pl ∧ e.get 2 = .p s.nb 0 ∧ e.get 4 = .p (s.nb + 1) 0 ∧ e.get 6 = .i .i64 (i : Nat)) ?_ pl.length _ _ ?_
 · rintro x e q ⟨i, c, hi, hco, hcw, hf, H, g1, g2, g4, g6⟩
   have hall : c.cells.all noTok = true := rfl
   have lw := H.ldw (m := 4) 1 rfl rfl
   have l3 := H.ld 1 (off := 3) (v := .ws false 4 (c.kids.map ND.av)) rfl rfl
   by_cases h : i < pl.length
   · have h1 : ((i : Int) < (pl.length : Int)) = True := by simp only [eq_iff_iff, iff_true]; omega
     obtain ⟨y, hy⟩ : ∃ y, pl[i]? = some y := ⟨_, List.getElem?_eq_getElem h⟩
     have hy2 : (pl.map AV.s)[i]? = some (.s y) := by rw [List.getElem?_map, hy]; rfl
     have hd := V7 hy
     have hD := wellD hcw
     have hfi := Np c hco y q H.wf
     have hw1 := AR (show i + 1 < 2 ^ 63 by omega)
     obtain ⟨q3, d3, H3, _⟩ := H.stw 0 (v := .agg [.i .u8 0, .s [], .nsl, .nsl]) (m := 4) rfl rfl ⟨rfl, rfl⟩
     have l4 := H3.ldw 0 (m := 4) rfl rfl
     cases hfx : c.names.findIdx? (· == y) with
     | none =>
       have hix : idxI c.names y = -1 := by unfold idxI; rw [hfx]
       have hkn : kidN c y = none := by unfold kidN; split; rw [hfx]; rfl
       have hno : Ey n pl = none := by rw [hf, hd]; simp only [Ey, hkn]
       rw [hix] at hfi
       rw [hno]
       have e2 : ((-1 : Int) < 0) = True := by simp
       simp only [go_sem, AD, AA, AC, AB, KB_n, KB_x, Nat.reduceBEq, Nat.reduceAdd, Nat.reduceLT, Nat.reduceLeDiff, Nat.reduceEqDiff, reduceIte, Int.reduceEq, reduceCtorEq, g1, g2, g4, g6, tx, List.length_map, h1, lw, AF, hy2, Ay, Bw, hall, AL, hfi, e2, Bo, d3, l4, Ax]
       exact AM H3.over rfl rfl
     | some p =>
       have hix : idxI c.names y = (p : Int) := by unfold idxI; rw [hfx]
       have hc2 : c.kind = 2 := by
        by_cases hc2 : c.kind = 2
        · exact hc2
        · rw [Qb hcw hc2] at hfx; simp at hfx
       have hpl : p < c.names.length := by
        rw [List.findIdx?_eq_some_iff_getElem] at hfx
        exact hfx.1
       obtain ⟨k, hk⟩ : ∃ k, c.kids[p]? = some k := ⟨_, List.getElem?_eq_getElem (by rw [← hD.len]; exact hpl)⟩
       have hkid : kidN c y = some k := by unfold kidN; rw [if_pos hc2, hfx]; exact hk
       rw [hix] at hfi
       have e2 : ((p : Int) < 0) = False := by simp only [eq_iff_iff, iff_false]; omega
       have e3 : ((c.kids.length : Int) ≤ (p : Int)) = False := by simp only [eq_iff_iff, iff_false]; have := hD.len; omega
       have hget := FK hk
       obtain ⟨q4, d4, H4, _⟩ := H.stw 1 (v := .agg k.cells) (m := 4) rfl rfl ⟨AP k, FL k⟩
       have hld : ldA q true 4 (.ep k.cells 0 .shut) = some (.agg k.cells) := rfl
       simp only [go_sem, AD, AA, AC, AB, KB_n, KB_x, Nat.reduceBEq, Nat.reduceAdd, Nat.reduceLT, Nat.reduceLeDiff, Nat.reduceEqDiff, reduceIte, Int.reduceEq, reduceCtorEq, g1, g2, g4, g6, tx, List.length_map, h1, lw, AF, hy2, Ay, Bw, hall, AL, hfi, e2, e3, Nat.zero_add, l3, hget, hld, AL, d4, hw1, Ax]
       exact ⟨x - 1, by omega, i + 1, k, by omega, hco.kids.1 k (List.mem_of_getElem? hk), hD.kid hk, by rw [hf, hd]; simp only [Ey, hkid], H4, rfl⟩
   · have h1 : ((i : Int) < (pl.length : Int)) = False := by simp only [eq_iff_iff, iff_false]; omega
     rw [List.drop_of_length_le (by omega)] at hf
     simp only [Ey] at hf
     rw [hf]
     obtain ⟨q3, d3, H3, _⟩ := H.stw 0 (v := .agg c.cells) (m := 4) rfl rfl ⟨AP c, FL c⟩
     have l4 := H3.ldw 0 (m := 4) rfl rfl
     simp only [Ax] at l4
     simp only [go_sem, AD, AA, AC, AB, KB_n, KB_x, Nat.reduceBEq, Nat.reduceAdd, Nat.reduceLT, Nat.reduceLeDiff, Nat.reduceEqDiff, reduceIte, Int.reduceEq, reduceCtorEq, g1, g2, g4, g6, tx, List.length_map, h1, lw, AL, d3, l4, FM]
     exact KR_N H3.over c true
 · simp only [go_sem, AD, AA, AC, AB, KB_n, KB_x, Nat.reduceBEq, Nat.reduceAdd, Nat.reduceLT, Nat.reduceLeDiff, Nat.reduceEqDiff, reduceIte, Int.reduceEq, reduceCtorEq]
   exact ⟨0, n, by omega, ho, hwl, by simp, H1, rfl⟩
end Go.Proofs.Ytgloinighjdhlaa

/-
  match.asked and match.entries.
-/
set_option maxRecDepth 100000
set_option maxHeartbeats 4000000
namespace Go.Proofs.Ytgloinighjdhlaa
open Go.Proofs.Ytgloinighjdhlaa.Am
attribute [local irreducible] W WO WE WQ WD Tr.get Tr.set
def Of (P : List Nat → Bool) (L : List (List Nat)) : Int := match L.findIdx? P with
 | some i => (i : Int)
 | none => -1
theorem SL (P : List Nat → Bool) (L : List (List Nat)) : (0 ≤ Of P L) = (L.any P = true) := by
 unfold Of
 cases h : L.findIdx? P with
 | none =>
   rw [List.findIdx?_eq_none_iff] at h
   simp only [eq_iff_iff]
   constructor
   · intro hh; omega
   · intro hh
     obtain ⟨x, hx, hp⟩ := List.any_eq_true.1 hh
     rw [h x hx] at hp; cases hp
 | some i =>
   rw [List.findIdx?_eq_some_iff_getElem] at h
   obtain ⟨hi, hp, _⟩ := h
   simp only [eq_iff_iff]
   constructor
   · intro _; exact List.any_eq_true.2 ⟨_, List.getElem_mem hi, hp⟩
   · intro _; omega
theorem Mi (L : List (List Nat)) (hL : L.length < 2 ^ 62) (g : Nat) (caps : List AV) (P : List Nat → Bool) (s : St) (hw : Wf s) (hP : ∀ z ∈ L, FR (lim prog) (.fn g caps) [.s z] s.enter = some (.b (P z), s.enter)) :
    (lim prog).call Bp [tx L, .fn g caps] s = some (.i .i64 (Of P L), s) := by
 refine fn_W EA rfl rfl ?_
 have hz0 : wkZ Ah.cin [tx L, .fn g caps] = [tx L, .fn g caps] := by simp [Ah, wkZ, wk, tx, NB]
 rw [hz0]
 simp only [Ah, go_sem, AD, AA, AC, AB, KB_n, KB_x, Nat.reduceBEq, Nat.reduceAdd, Nat.reduceLT, Nat.reduceLeDiff, Nat.reduceEqDiff, reduceIte, Int.reduceEq, reduceCtorEq, tx, List.length_map]
 refine BF (fun x e q => ∃ i : Nat, i + x = L.length ∧ q = s.enter ∧ (∀ j, j < i → ∀ y, L[j]? = some y → P y = false) ∧ e.get 0 = tx L ∧ e.get 1 = .fn g caps ∧ e.get 7 = .i .i64 (L.length : Nat) ∧ e.get 8 = .i .i64 (i : Nat)) ?_ L.length _ _ ?_
 · rintro x e q ⟨i, hi, rfl, hb, g0, g1, g7, g8⟩
   by_cases h : i < L.length
   · have h1 : ((i : Int) < (L.length : Int)) = True := by simp only [eq_iff_iff, iff_true]; omega
     obtain ⟨z, hz⟩ : ∃ z, L[i]? = some z := ⟨_, List.getElem?_eq_getElem h⟩
     have hz2 : (L.map AV.s)[i]? = some (.s z) := by rw [List.getElem?_map, hz]; rfl
     have hc := hP z (List.mem_of_getElem? hz)
     have hw1 := AR (show i + 1 < 2 ^ 63 by omega)
     cases hp : P z with
     | true =>
       rw [hp] at hc
       have hix : Of P L = (i : Int) := by
        unfold Of
        have : L.findIdx? P = some i := by
         rw [List.findIdx?_eq_some_iff_getElem]
         rw [List.getElem?_eq_some_iff] at hz
         obtain ⟨h1, hz⟩ := hz
         exact ⟨h1, by rw [hz]; exact hp, fun j hj => by simpa using hb j hj _ (List.getElem?_eq_getElem (by omega))⟩
        rw [this]
       rw [hix]
       simp only [go_sem, AD, AA, AC, AB, KB_n, KB_x, Nat.reduceBEq, Nat.reduceAdd, Nat.reduceLT, Nat.reduceLeDiff, Nat.reduceEqDiff, reduceIte, Int.reduceEq, reduceCtorEq, g0, g1, g7, g8, tx, h1, AF, hz2, Ay, Bw, hc]
       exact AM (Over.enter s) rfl rfl
     | false =>
       rw [hp] at hc
       simp only [go_sem, AD, AA, AC, AB, KB_n, KB_x, Nat.reduceBEq, Nat.reduceAdd, Nat.reduceLT, Nat.reduceLeDiff, Nat.reduceEqDiff, reduceIte, Int.reduceEq, reduceCtorEq, g0, g1, g7, g8, tx, h1, AF, hz2, Ay, Bw, hc, hw1]
       refine ⟨x - 1, by omega, i + 1, by omega, fun j hj y hy => ?_, rfl⟩
       rcases Nat.lt_or_ge j i with hlt | hge
       · exact hb j hlt y hy
       · obtain rfl : j = i := by omega
         rw [hz] at hy; cases hy; exact hp
   · have h1 : ((i : Int) < (L.length : Int)) = False := by simp only [eq_iff_iff, iff_false]; omega
     have hix : Of P L = -1 := by
      unfold Of
      have : L.findIdx? P = none := by
       rw [List.findIdx?_eq_none_iff]
       intro z hz
       obtain ⟨j, hj⟩ := List.mem_iff_getElem?.1 hz
       exact hb j (by rw [List.getElem?_eq_some_iff] at hj; have := hj.1; omega) z hj
      rw [this]
     rw [hix]
     simp only [go_sem, AD, AA, AC, AB, KB_n, KB_x, Nat.reduceBEq, Nat.reduceAdd, Nat.reduceLT, Nat.reduceLeDiff, Nat.reduceEqDiff, reduceIte, Int.reduceEq, reduceCtorEq, g0, g1, g7, g8, h1]
     exact AM (Over.enter s) rfl rfl
 · simp only [go_sem, AD, AA, AC, AB, KB_n, KB_x, Nat.reduceBEq, Nat.reduceAdd, Nat.reduceLT, Nat.reduceLeDiff, Nat.reduceEqDiff, reduceIte, Int.reduceEq, reduceCtorEq]
   exact ⟨0, by omega, fun j hj => by omega, rfl⟩
theorem Gk (L : List (List Nat)) (hL : L.length < 2 ^ 62) (g : Nat) (caps : List AV) (P : List Nat → Bool) (s : St) (hw : Wf s) (hP : ∀ z ∈ L, FR (lim prog) (.fn g caps) [.s z] s.enter.enter = some (.b (P z), s.enter.enter)) :
    (lim prog).call A3 [tx L, .fn g caps] s = some (.b (L.any P), s) := by
 refine fn_W Dr rfl rfl ?_
 have hz0 : wkZ Ab.cin [tx L, .fn g caps] = [tx L, .fn g caps] := by simp [Ab, wkZ, wk, tx, NB]
 have h1 := Mi L hL g caps P s.enter hw.enter hP
 rw [hz0]
 unfold tx at h1
 simp only [Ab, go_sem, AD, AA, AC, AB, KB_n, KB_x, Nat.reduceBEq, Nat.reduceAdd, Nat.reduceLT, Nat.reduceLeDiff, Nat.reduceEqDiff, reduceIte, Int.reduceEq, reduceCtorEq, h1, tx, SL]
 exact AM (Over.enter s) rfl (by cases h : L.any P <;> rfl)
theorem SM (L : List Int) (hL : L.length < 2 ^ 62) (k : Int) {a : AV} (ha : CB 1 a (L.map iv)) (s : St) (hw : Wf s) :
    (lim prog).call DK [a, .i .i64 k] s = some (.i .i64 (Nh (fun z => decide (k = z)) L), s) := by
 refine fn_W Gx rfl rfl ?_
 have hz0 : wkZ BT.cin [a, .i .i64 k] = [zx L, .i .i64 k] := by simp [BT, wkZ, wk, ha.wk (Q8 L), zx]
 rw [hz0]
 simp only [BT, go_sem, AD, AA, AC, AB, KB_n, KB_x, Nat.reduceBEq, Nat.reduceAdd, Nat.reduceLT, Nat.reduceLeDiff, Nat.reduceEqDiff, reduceIte, Int.reduceEq, reduceCtorEq, zx, List.length_map]
 refine BF (fun x e q => ∃ i : Nat, i + x = L.length ∧ q = s.enter ∧ (∀ j, j < i → ∀ y, L[j]? = some y → decide (k = y) = false) ∧ e.get 0 = zx L ∧ e.get 1 = .i .i64 k ∧ e.get 7 = .i .i64 (L.length : Nat) ∧ e.get 8 = .i .i64 (i : Nat)) ?_ L.length _ _ ?_
 · rintro x e q ⟨i, hi, rfl, hb, g0, g1, g7, g8⟩
   by_cases h : i < L.length
   · have h1 : ((i : Int) < (L.length : Int)) = True := by simp only [eq_iff_iff, iff_true]; omega
     obtain ⟨z, hz⟩ : ∃ z, L[i]? = some z := ⟨_, List.getElem?_eq_getElem h⟩
     have hz2 := I3 hz
     have hw1 := AR (show i + 1 < 2 ^ 63 by omega)
     by_cases hp : k = z
     · have e1 : (k = z) = True := by simp [hp]
       rw [Pm hz (by simp [hp]) hb]
       simp only [go_sem, AD, AA, AC, AB, KB_n, KB_x, Nat.reduceBEq, Nat.reduceAdd, Nat.reduceLT, Nat.reduceLeDiff, Nat.reduceEqDiff, reduceIte, Int.reduceEq, reduceCtorEq, g0, g1, g7, g8, zx, h1, AF, hz2, Ct, Bw, e1]
       exact AM (Over.enter s) rfl rfl
     · have e1 : (k = z) = False := by simp [hp]
       simp only [go_sem, AD, AA, AC, AB, KB_n, KB_x, Nat.reduceBEq, Nat.reduceAdd, Nat.reduceLT, Nat.reduceLeDiff, Nat.reduceEqDiff, reduceIte, Int.reduceEq, reduceCtorEq, g0, g1, g7, g8, zx, h1, AF, hz2, Ct, Bw, e1, hw1]
       refine ⟨x - 1, by omega, i + 1, by omega, fun j hj y hy => ?_, rfl⟩
       rcases Nat.lt_or_ge j i with hlt | hge
       · exact hb j hlt y hy
       · obtain rfl : j = i := by omega
         rw [hz] at hy; cases hy; simpa using hp
   · have h1 : ((i : Int) < (L.length : Int)) = False := by simp only [eq_iff_iff, iff_false]; omega
     rw [Pn fun j hj => hb j (by omega)]
     simp only [go_sem, AD, AA, AC, AB, KB_n, KB_x, Nat.reduceBEq, Nat.reduceAdd, Nat.reduceLT, Nat.reduceLeDiff, Nat.reduceEqDiff, reduceIte, Int.reduceEq, reduceCtorEq, g0, g1, g7, g8, h1]
     exact AM (Over.enter s) rfl rfl
 · simp only [go_sem, AD, AA, AC, AB, KB_n, KB_x, Nat.reduceBEq, Nat.reduceAdd, Nat.reduceLT, Nat.reduceLeDiff, Nat.reduceEqDiff, reduceIte, Int.reduceEq, reduceCtorEq]
   exact ⟨0, by omega, fun j hj => by omega, rfl, rfl⟩
theorem Nq (L : List Int) (hL : L.length < 2 ^ 62) (k : Int) {a : AV} (ha : CB 1 a (L.map iv)) (s : St) (hw : Wf s) :
    (lim prog).call Cp [a, .i .i64 k] s = some (.b (decide (k ∈ L)), s) := by
 refine fn_W Fg rfl rfl ?_
 have hz0 : wkZ A8.cin [a, .i .i64 k] = [zx L, .i .i64 k] := by simp [A8, wkZ, wk, ha.wk (Q8 L), zx]
 have h1 := SM L hL k (a := zx L) .ws s.enter hw.enter
 rw [hz0]
 unfold zx at h1
 have hany : (L.any (fun z => decide (k = z)) = true) = (k ∈ L) := by simp [List.any_eq_true]
 simp only [A8, go_sem, AD, AA, AC, AB, KB_n, KB_x, Nat.reduceBEq, Nat.reduceAdd, Nat.reduceLT, Nat.reduceLeDiff, Nat.reduceEqDiff, reduceIte, Int.reduceEq, reduceCtorEq, h1, zx, Ni, hany]
 exact AM (Over.enter s) rfl rfl
def C4 (f : FT) (m : Nat) (x : List Nat) : Bool := match f.names.findIdx? (· == x) with
 | some i => match f.kids[i]? with
   | some k => decide (k ∈ (Dp f.kids).take m)
   | none => false
 | none => false
theorem Pu : ∀ (p : Option (List Nat)) (L : List (List Nat)), ascN p L = true → Asc L ∧ ∀ q, p = some q → ∀ x ∈ L, ltN q x = true
 | p, [], _ => ⟨fun _ h => by simp at h, fun _ _ x hx => by simp at hx⟩
 | p, s :: ns, h => by
   simp only [ascN, Bool.and_eq_true] at h
   obtain ⟨h1, h2, h3⟩ := h
   obtain ⟨k1, k2⟩ := Pu (some s) ns h3
   refine ⟨fun {i j a b} hij ha hb => ?_, fun q hq x hx => ?_⟩
   · cases j with
     | zero => omega
     | succ j =>
       simp only [List.getElem?_cons_succ] at hb
       cases i with
       | zero =>
         simp only [List.getElem?_cons_zero, Option.some.injEq] at ha
         subst ha
         exact k2 s rfl b (List.mem_of_getElem? hb)
       | succ i =>
         simp only [List.getElem?_cons_succ] at ha
         exact k1 (by omega) ha hb
   · subst hq
     simp only at h2
     rcases List.mem_cons.1 hx with rfl | hx
     · exact h2
     · exact I9 h2 (k2 s rfl x hx)
theorem SN {f : FT} (h : f.one = true) : Asc f.names := by
 unfold FT.one at h
 simp only [Bool.and_eq_true] at h
 split at h
 · simp only [Bool.and_eq_true] at h
   exact (Pu none _ h.2.1).1
 · simp only [Bool.and_eq_true, decide_eq_true_eq, List.length_eq_zero_iff] at h
   rw [h.2.1]
   exact fun _ h => by simp at h
theorem Nr {f : FT} (ho : f.Ok) (h1 : f.one = true) {m : Nat} {q : St} (hw : Wf q) {b b2 : Nat} (hb : q.box? b = some (.cells 60 f.cells)) (lb : b < q.nb) {a : AV} (ha : CB 1 a (((Dp f.kids).take m).map iv)) (hb2 : q.box? b2 = some (.cells 37 [a])) (lb2 : b2 < q.nb) (x : List Nat) :
    FR (lim prog) (.fn Aj [.p b 0, .p b2 0]) [.s x] q = some (.b (C4 f m x), q) := by
 show (lim prog).call Aj [.s x, .p b 0, .p b2 0] q = _
 refine fn_W K8 rfl rfl ?_
 have hz0 : wkZ CV.cin [.s x, .p b 0, .p b2 0] = [.s x, .p b 0, .p b2 0] := by simp only [CV, wkZ, wk]
 rw [hz0]
 have ln := Ja (Over.enter q) (off := 2) (v := tx f.names) lb hb rfl
 have lk := Ja (Over.enter q) (off := 3) (v := zx f.kids) lb hb rfl
 have lr := Ja (Over.enter q) (off := 0) (v := a) lb2 hb2 rfl
 obtain ⟨p, hp, hbs⟩ := Lx f.names x (SN h1) (by have := ho.nlen; omega) q.enter
 have hidx := SU (SN h1) hp
 have hnk := D1 h1
 unfold tx at hbs
 by_cases hx : f.names[p]? = some x
 · rw [decide_eq_true hx] at hbs
   rw [if_pos hx] at hidx
   obtain ⟨k, hk⟩ : ∃ k, f.kids[p]? = some k := ⟨_, List.getElem?_eq_getElem (by rw [List.getElem?_eq_some_iff] at hx; have := hx.1; omega)⟩
   have hk2 := I3 hk
   have hci := Nq ((Dp f.kids).take m) (by have := ho.klen; rw [List.length_take, It]; omega) k ha q.enter hw.enter
   have hap : C4 f m x = decide (k ∈ (Dp f.kids).take m) := by unfold C4; rw [hidx]; simp only [hk]
   rw [hap]
   have hld := ha.ld
   have hpu := ha.pub q.enter
   have hnt := ha.noTok
   simp only [CV, go_sem, AD, AA, AC, AB, KB_n, KB_x, Nat.reduceBEq, Nat.reduceAdd, Nat.reduceLT, Nat.reduceLeDiff, Nat.reduceEqDiff, reduceIte, Int.reduceEq, reduceCtorEq, Nat.zero_add, tx, zx, ln, lk, lr, hbs, AF, hk2, Ct, Bw, hld.1, hld.2, hpu, hnt, hci]
   exact AM (Over.enter q) rfl rfl
 · rw [decide_eq_false hx] at hbs
   rw [if_neg hx] at hidx
   have hap : C4 f m x = false := by unfold C4; rw [hidx]
   rw [hap]
   simp only [CV, go_sem, AD, AA, AC, AB, KB_n, KB_x, Nat.reduceBEq, Nat.reduceAdd, Nat.reduceLT, Nat.reduceLeDiff, Nat.reduceEqDiff, reduceIte, Int.reduceEq, reduceCtorEq, Nat.zero_add, tx, ln, hbs]
   exact AM (Over.enter q) rfl rfl
theorem slc_zx {L : List Int} {m : Nat} (hm : m ≤ L.length) (q : St) : ∃ a, Ba q false 1 (.ws false 1 (L.map iv)) none (some (.i .i64 (m : Nat))) none = some (a, q) ∧ CB 1 a ((L.take m).map iv) := by
 unfold Ba CU
 simp only [AF, List.length_map, if_true, Nat.zero_le, hm, and_self, List.drop_zero, Nat.sub_zero]
 split
 · rename_i h
   exact ⟨_, rfl, by rw [h.2, List.take_length]; exact .ws⟩
 · rw [← List.map_take]
   first
    | exact ⟨_, rfl, .ws⟩
    | exact ⟨_, rfl, .inr (.inr (.inr (.inl rfl)))⟩
    | (split <;> first | exact ⟨_, rfl, .ws⟩ | exact ⟨_, rfl, .inr (.inr (.inr (.inl rfl)))⟩ | exact ⟨_, rfl, .inr (.inr (.inl rfl))⟩)
theorem T4 {f : FT} (ho : f.Ok) {m : Nat} (hm : m ≤ f.kids.length) {s0 q : St} {n : En} {R : List RA} {B : List (Nat × Box)} (H : Hp s0 q n R B) :
    ∃ q' a b b2, (lim prog).call DZ [.agg f.cells, .i .i64 (m : Nat)] q = some (.fn Aj [.p b 0, .p b2 0], q') ∧ Hp s0 q' n R ((b2, .cells 37 [a]) :: (b, .cells 60 f.cells) :: B) ∧ CB 1 a (((Dp f.kids).take m).map iv) := by
 obtain ⟨r, q', h, b, b2, a, rfl, H', ht⟩ := fn_G (f := DZ) (args := [.agg f.cells, .i .i64 (m : Nat)]) (s := q) (Post := fun r q' => ∃ b b2 a, r = .fn Aj [.p b 0, .p b2 0] ∧ Hp s0 q' n R ((b2, .cells 37 [a]) :: (b, .cells 60 f.cells) :: B) ∧ CB 1 a (((Dp f.kids).take m).map iv)) Mc rfl rfl (by
  have hz0 : wkZ Dd.cin [.agg f.cells, .i .i64 (m : Nat)] = [.agg f.cells, .i .i64 (m : Nat)] := by simp only [Dd, wkZ, wk, SF]
  rw [hz0]
  have c6 : f.cells.length = 6 := rfl
  have H1 := H.enter.new (.cells 60 f.cells)
  obtain ⟨q1, hq1⟩ : ∃ q1, q.enter.new (.cells 60 f.cells) = q1 := ⟨_, rfl⟩
  have e0 : q.enter.nb = q.nb := rfl
  rw [hq1, e0] at H1
  have lk := H1.ld 0 (off := 3) (v := zx f.kids) rfl rfl
  have hv := SJ f.kids q1
  have H2 := (H1.new (.cells 37 [zx f.kids])).setLo (m := min q1.lo q1.nb) (Nat.le_trans (Nat.min_le_left _ _) H1.lo) (by have := H1.over.lo; have := H1.over.nb; omega)
  obtain ⟨q2, hq2⟩ : ∃ q2, { q1.new (.cells 37 [zx f.kids]) with lo := min q1.lo q1.nb } = q2 := ⟨_, rfl⟩
  rw [hq2] at H2 hv
  have hbx := H2.box (i := 0) rfl
  have hs := SI (L := f.kids) (by have := ho.klen; omega) H2.wf (a := q1.nb) hbx.1 hbx.2.2
  obtain ⟨a, d3, ta⟩ := slc_zx (L := Dp f.kids) (m := m) (by rw [It]; exact hm) q2
  have H3 := H2.new (.cells 37 [.nsl])
  have tc := ta.cells
  obtain ⟨q4, d4, H4, n4, _⟩ := H3.st 0 (off := 0) (v := a) rfl (by simp) ⟨tc.1, tc.2.1⟩
  simp only [zx] at hv hs
  simp only [Dd, go_sem, AD, AA, AC, AB, KB_n, KB_x, Nat.reduceBEq, Nat.reduceAdd, Nat.reduceLT, Nat.reduceLeDiff, Nat.reduceEqDiff, reduceIte, Int.reduceEq, reduceCtorEq, Ax, c6, hq1, e0, zx, lk, hv, hs, d3, d4]
  simp only [List.set_cons_zero] at H4
  refine ⟨_, _, rfl, q.nb, q2.nb, a, rfl, ?_, ta⟩
  have H5 := H4.sel (List.range R.length) (0 :: 2 :: (List.range' 3 B.length)) List.nodup_range (by
   refine List.nodup_cons.2 ⟨by simp, List.nodup_cons.2 ⟨by simp, List.nodup_range'⟩⟩)
  rw [E5] at H5
  have hpk : ∀ (x y z : Nat × Box), pick (x :: y :: z :: B) (0 :: 2 :: List.range' 3 B.length) = x :: z :: B := fun x y z => by
   have : pick (x :: y :: z :: B) (List.range' 3 B.length) = B := by
    have h1 : List.range' 3 B.length = (((List.range B.length).map (· + 1)).map (· + 1)).map (· + 1) := by
     apply List.ext_getElem <;> simp; omega
    rw [h1, Eb, Eb, Eb, E5]
   simp only [pick, List.getElem?_cons_zero, List.getElem?_cons_succ, this]
  rw [hpk] at H5
  exact H.leaveR (n1 := q.en) (v := CA [AV.fn Aj [.p q.nb 0, .p q2.nb 0]]) H5 rfl)
 exact ⟨q', a, b, b2, h, H', ht⟩
def Cn (f : FT) (L : List (List Nat)) : Bool :=
 if f.rest = 1 then !(L.any fun x => !C4 f f.names.length x) else if f.rest = 2 then L.any fun x => !C4 f f.beside.toNat x else true
theorem Og {f : FT} (ho : f.Ok) (h1 : f.one = true) {m : Nat} {q : St} (hw : Wf q) {b b2 b3 : Nat} (hb : q.box? b = some (.cells 60 f.cells)) (lb : b < q.nb) {a : AV} (ha : CB 1 a (((Dp f.kids).take m).map iv)) (hb2 : q.box? b2 = some (.cells 37 [a])) (lb2 : b2 < q.nb) (hb3 : q.box? b3 = some (.cells 88 [.fn Aj [.p b 0, .p b2 0]])) (lb3 : b3 < q.nb) (x : List Nat) :
    FR (lim prog) (.fn Cx [.p b3 0]) [.s x] q = some (.b (!C4 f m x), q) := by
 show (lim prog).call Cx [.s x, .p b3 0] q = _
 refine fn_W JW rfl rfl ?_
 have hz0 : wkZ CN.cin [.s x, .p b3 0] = [.s x, .p b3 0] := by simp only [CN, wkZ, wk]
 rw [hz0]
 have l0 := Ja (Over.enter q) (off := 0) (v := .fn Aj [.p b 0, .p b2 0]) lb3 hb3 rfl
 have hc := Nr ho h1 hw.enter (m := m) (b := b) (b2 := b2) (a := a) (q := q.enter) hb lb ha hb2 lb2 x
 simp only [CN, go_sem, AD, AA, AC, AB, KB_n, KB_x, Nat.reduceBEq, Nat.reduceAdd, Nat.reduceLT, Nat.reduceLeDiff, Nat.reduceEqDiff, reduceIte, Int.reduceEq, reduceCtorEq, Nat.zero_add, l0, hc]
 exact AM (Over.enter q) rfl rfl
theorem Oh {f : FT} (ho : f.Ok) (h1 : f.one = true) {m : Nat} {q : St} (hw : Wf q) {b b2 b3 : Nat} (hb : q.box? b = some (.cells 60 f.cells)) (lb : b < q.nb) {a : AV} (ha : CB 1 a (((Dp f.kids).take m).map iv)) (hb2 : q.box? b2 = some (.cells 37 [a])) (lb2 : b2 < q.nb) (hb3 : q.box? b3 = some (.cells 88 [.fn Aj [.p b 0, .p b2 0]])) (lb3 : b3 < q.nb) (x : List Nat) :
    FR (lim prog) (.fn Cy [.p b3 0]) [.s x] q = some (.b (!C4 f m x), q) := by
 show (lim prog).call Cy [.s x, .p b3 0] q = _
 refine fn_W JX rfl rfl ?_
 have hz0 : wkZ CO.cin [.s x, .p b3 0] = [.s x, .p b3 0] := by simp only [CO, wkZ, wk]
 rw [hz0]
 have l0 := Ja (Over.enter q) (off := 0) (v := .fn Aj [.p b 0, .p b2 0]) lb3 hb3 rfl
 have hc := Nr ho h1 hw.enter (m := m) (b := b) (b2 := b2) (a := a) (q := q.enter) hb lb ha hb2 lb2 x
 simp only [CO, go_sem, AD, AA, AC, AB, KB_n, KB_x, Nat.reduceBEq, Nat.reduceAdd, Nat.reduceLT, Nat.reduceLeDiff, Nat.reduceEqDiff, reduceIte, Int.reduceEq, reduceCtorEq, Nat.zero_add, l0, hc]
 exact AM (Over.enter q) rfl rfl
theorem Lo {f : FT} (h : f.one = true) (h2 : f.rest = 2) : 0 ≤ f.beside ∧ f.beside ≤ (f.kids.length : Int) := by
 have hnk := D1 h
 unfold FT.one at h
 simp only [Bool.and_eq_true] at h
 split at h
 · simp only [Bool.and_eq_true, FT.restB, if_pos h2, decide_eq_true_eq] at h
   omega
 · simp only [Bool.and_eq_true, decide_eq_true_eq] at h
   omega
theorem Qd (f : FT) (ho : f.Ok) (h1 : f.one = true) (L : List (List Nat)) (hL : L.length < 2 ^ 62) (s : St) (hw : Wf s) : (lim prog).call FG [.agg f.cells, tx L] s = some (.b (Cn f L), s) := by
 refine fn_W K7 rfl rfl ?_
 have hz0 : wkZ B2.cin [.agg f.cells, tx L] = [.agg f.cells, tx L] := by simp only [B2, wkZ, wk, SF, tx, NB]
 rw [hz0]
 have c6 : f.cells.length = 6 := rfl
 have e0 : s.enter.nb = s.nb := rfl
 have H1 := (Hp.begin hw).new (.cells 60 f.cells)
 obtain ⟨q1, hq1⟩ : ∃ q1, s.enter.new (.cells 60 f.cells) = q1 := ⟨_, rfl⟩
 rw [hq1, e0] at H1
 have lw := H1.ldw (m := 6) 0 rfl rfl
 have ln := H1.ld 0 (off := 2) (v := tx f.names) rfl rfl
 have lr := H1.ld 0 (off := 4) (v := .i .i64 f.rest) rfl rfl
 have lbs := H1.ld 0 (off := 5) (v := .i .i64 f.beside) rfl rfl
 have hnk := D1 h1
 have pvf := BA f
 have key : ∀ m : Nat, m ≤ f.kids.length → ∃ q2 q4 b b2 b3 a, (lim prog).call DZ [.agg f.cells, .i .i64 (m : Nat)] q1 = some (.fn Aj [.p b 0, .p b2 0], q2) ∧ b3 = q2.nb ∧ stA (q2.new (.cells 88 [.nf])) 1 (.p q2.nb 0) (.fn Aj [.p b 0, .p b2 0]) = some q4 ∧ Hp s q4 s.en [] [(b3, .cells 88 [.fn Aj [.p b 0, .p b2 0]]), (b2, .cells 37 [a]), (b, .cells 60 f.cells), (s.nb, .cells 60 f.cells)] ∧ CB 1 a (((Dp f.kids).take m).map iv) := by
  intro m hm
  obtain ⟨q2, a, b, b2, d2, H2, ta⟩ := T4 ho hm H1
  have H3 := H2.new (.cells 88 [.nf])
  obtain ⟨q4, d4, H4, n4, _⟩ := H3.st 0 (off := 0) (v := .fn Aj [.p b 0, .p b2 0]) rfl (by simp) ⟨rfl, rfl⟩
  exact ⟨q2, q4, b, b2, q2.nb, a, d2, rfl, d4, H4, ta⟩
 by_cases r1 : f.rest = 1
 · have e1 : (f.rest = 1) = True := by simp [r1]
   obtain ⟨q2, q4, b, b2, b3, a, d2, rfl, d4, H4, ta⟩ := key f.names.length (by omega)
   have x0 := H4.box (i := 0) rfl
   have x1 := H4.box (i := 1) rfl
   have x2 := H4.box (i := 2) rfl
   have hcf := Gk L hL Cx [.p q2.nb 0] (fun x => !C4 f f.names.length x) q4 H4.wf fun z hz => Og ho h1 H4.wf.enter.enter (q := q4.enter.enter) x2.1 x2.2.2 ta x1.1 x1.2.2 x0.1 x0.2.2 z
   have hep : Cn f L = !(L.any fun x => !C4 f f.names.length x) := by unfold Cn; rw [if_pos r1]
   rw [hep]
   unfold tx at hcf
   simp only [B2, go_sem, AD, AA, AC, AB, KB_n, KB_x, Nat.reduceBEq, Nat.reduceAdd, Nat.reduceLT, Nat.reduceLeDiff, Nat.reduceEqDiff, reduceIte, Int.reduceEq, reduceCtorEq, Ax, c6, hq1, e0, Nat.zero_add, lw, ln, lr, pvf, tx, List.length_map, e1, d2, d4, hcf]
   exact AM H4.over rfl rfl
 · have e1 : (f.rest = 1) = False := by simp [r1]
   by_cases r2 : f.rest = 2
   · have e2 : (f.rest = 2) = True := by simp [r2]
     have hbb := Lo h1 r2
     obtain ⟨m, hm⟩ : ∃ m : Nat, f.beside = (m : Int) := ⟨f.beside.toNat, by omega⟩
     obtain ⟨q2, q4, b, b2, b3, a, d2, rfl, d4, H4, ta⟩ := key m (by omega)
     have x0 := H4.box (i := 0) rfl
     have x1 := H4.box (i := 1) rfl
     have x2 := H4.box (i := 2) rfl
     have hcf := Gk L hL Cy [.p q2.nb 0] (fun x => !C4 f m x) q4 H4.wf fun z hz => Oh ho h1 H4.wf.enter.enter (q := q4.enter.enter) x2.1 x2.2.2 ta x1.1 x1.2.2 x0.1 x0.2.2 z
     have hep : Cn f L = (L.any fun x => !C4 f m x) := by unfold Cn; rw [if_neg r1, if_pos r2, hm, Int.toNat_natCast]
     rw [hep]
     unfold tx at hcf
     simp only [B2, go_sem, AD, AA, AC, AB, KB_n, KB_x, Nat.reduceBEq, Nat.reduceAdd, Nat.reduceLT, Nat.reduceLeDiff, Nat.reduceEqDiff, reduceIte, Int.reduceEq, reduceCtorEq, Ax, c6, hq1, e0, Nat.zero_add, lw, lr, lbs, hm, pvf, tx, e1, e2, d2, d4, hcf]
     exact AM H4.over rfl rfl
   · have e2 : (f.rest = 2) = False := by simp [r2]
     have hep : Cn f L = true := by unfold Cn; rw [if_neg r1, if_neg r2]
     rw [hep]
     simp only [B2, go_sem, AD, AA, AC, AB, KB_n, KB_x, Nat.reduceBEq, Nat.reduceAdd, Nat.reduceLT, Nat.reduceLeDiff, Nat.reduceEqDiff, reduceIte, Int.reduceEq, reduceCtorEq, Ax, c6, hq1, e0, Nat.zero_add, lr, e1, e2]
     exact AM H1.over rfl rfl
end Go.Proofs.Ytgloinighjdhlaa

/-
  match.node, Fails, Holds, At.
-/
set_option maxRecDepth 100000
set_option maxHeartbeats 4000000
namespace Go.Proofs.Ytgloinighjdhlaa
open Go.Proofs.Ytgloinighjdhlaa.Am
attribute [local irreducible] W WO WE WQ WD Tr.get Tr.set
def Ev (l : List FT) (root : ND) (n : Int) : Option ND := if (Dh l n).2 = 0 then Ey root (Dh l n).1 else none
theorem Ns {l : List FT} (ho : FOk l) (n : Int) : (Dh l n).1.length < 2 ^ 34 := by
 unfold Dh
 cases hm : mayP l
 · rw [if_neg (by simp)]; simp
 · rw [if_pos rfl]
   split
   · have := N2 (mayD hm) n.toNat (by omega)
     have := ho.len
     simp only; omega
   · simp
theorem Mj {root : ND} (hr : root.Ok) (l : List FT) (n : Int) : (D9 (Ev l root n)).Ok := by
 unfold Ev
 split
 · exact Mh hr _
 · exact No
theorem I6 {n : ND} (h : mayN n = true) : D2 n = true := by
 unfold mayN at h
 simp only [Bool.and_eq_true] at h
 exact h.2.1
theorem SO (l : List FT) (ho : FOk l) (root : ND) (hr : root.Ok) (hwl : D2 root = true) (n : Int) (s : St) (hw : Wf s) :
    (lim prog).call Fc [fx l, .agg root.cells, .i .i64 n] s = some (.tup [.agg (D9 (Ev l root n)).cells, .b (Ev l root n).isSome], s) := by
 refine fn_W Nb rfl rfl ?_
 have hz0 : wkZ DV.cin [fx l, .agg root.cells, .i .i64 n] = [fx l, .agg root.cells, .i .i64 n] := by
  simp only [DV, wkZ, Ek .ws, wk]
  simp [ND.cells, wkZ, wk, fx]
 rw [hz0]
 have e0 : s.enter.nb = s.nb := rfl
 have H1 := ((Hp.begin hw).new (.cells 47 root.cells)).new (.cells 47 [.i .u8 0, .s [], .nsl, .nsl])
 have e1 : (s.enter.new (.cells 47 root.cells)).nb = s.nb + 1 := rfl
 obtain ⟨q1, hq1⟩ : ∃ q1, (s.enter.new (.cells 47 root.cells)).new (.cells 47 [.i .u8 0, .s [], .nsl, .nsl]) = q1 := ⟨_, rfl⟩
 rw [hq1, e1, e0] at H1
 have lw := H1.ldw (m := 4) 1 rfl rfl
 have hp := UH l ho n q1 H1.wf
 unfold fx tx at hp
 by_cases hz : (Dh l n).2 = 0
 · have e2 : ((Dh l n).2 ≠ 0) = False := by simp [hz]
   have hx0 : Ev l root n = Ey root (Dh l n).1 := by unfold Ev; rw [if_pos hz]
   have hat := Qa root hr hwl (Dh l n).1 (by have := Ns ho n; omega) q1 H1.wf
   rw [← hx0] at hat
   obtain ⟨x, hx⟩ : ∃ x, D9 (Ev l root n) = x := ⟨_, rfl⟩
   rw [hx] at hat ⊢
   obtain ⟨q3, d3, H3, n3, _⟩ := H1.stw 0 (m := 4) (v := .agg x.cells) rfl rfl ⟨AP x, FL x⟩
   have lr := H3.ldw (m := 4) 0 rfl rfl
   simp only [Ax] at lr
   simp only [tx] at hat
   simp only [DV, go_sem, AD, AA, AC, AB, KB_n, KB_x, Nat.reduceBEq, Nat.reduceAdd, Nat.reduceLT, Nat.reduceLeDiff, Nat.reduceEqDiff, reduceIte, Int.reduceEq, reduceCtorEq, AP, hq1, e1, e0, fx, hp, e2, lw, hat, d3, lr, AL, FM]
   exact KR_N H3.over x _
 · have e2 : ((Dh l n).2 ≠ 0) = True := by simp [hz]
   have hx0 : Ev l root n = none := by unfold Ev; rw [if_neg hz]
   rw [hx0]
   obtain ⟨q3, d3, H3, n3, _⟩ := H1.stw 0 (m := 4) (v := .agg [.i .u8 0, .s [], .nsl, .nsl]) rfl rfl ⟨rfl, rfl⟩
   have lr := H3.ldw (m := 4) 0 rfl rfl
   simp only [Ax] at lr
   simp only [DV, go_sem, AD, AA, AC, AB, KB_n, KB_x, Nat.reduceBEq, Nat.reduceAdd, Nat.reduceLT, Nat.reduceLeDiff, Nat.reduceEqDiff, reduceIte, Int.reduceEq, reduceCtorEq, AP, hq1, e1, e0, fx, hp, e2, Bo, d3, lr]
   exact AM H3.over rfl rfl
theorem Js (l : List FT) (ho : FOk l) (root : ND) (hr : root.Ok) (hwl : D2 root = true) (n : Int) (s : St) (hw : Wf s) :
    (lim prog).call CX [fx l, .agg root.cells, .i .i64 n] s = some (.tup [.agg (D9 (Ev l root n)).cells, .b (Ev l root n).isSome], s) := by
 refine fn_W Gq rfl rfl ?_
 have hz0 : wkZ BB.cin [fx l, .agg root.cells, .i .i64 n] = [fx l, .agg root.cells, .i .i64 n] := by
  simp only [BB, wkZ, Ek .ws, wk]
  simp [ND.cells, wkZ, wk, fx]
 rw [hz0]
 have e0 : s.enter.nb = s.nb := rfl
 have H1 := ((Hp.begin hw).new (.cells 47 root.cells)).new (.cells 47 [.i .u8 0, .s [], .nsl, .nsl])
 have e1 : (s.enter.new (.cells 47 root.cells)).nb = s.nb + 1 := rfl
 obtain ⟨q1, hq1⟩ : ∃ q1, (s.enter.new (.cells 47 root.cells)).new (.cells 47 [.i .u8 0, .s [], .nsl, .nsl]) = q1 := ⟨_, rfl⟩
 rw [hq1, e1, e0] at H1
 have lw := H1.ldw (m := 4) 1 rfl rfl
 have hp := Mg l ho n q1 H1.wf
 unfold fx tx at hp
 by_cases hz : (Dh l n).2 = 0
 · have e2 : ((Dh l n).2 ≠ 0) = False := by simp [hz]
   have hx0 : Ev l root n = Ey root (Dh l n).1 := by unfold Ev; rw [if_pos hz]
   have hat := Qc root hr hwl (Dh l n).1 (by have := Ns ho n; omega) q1 H1.wf
   rw [← hx0] at hat
   obtain ⟨x, hx⟩ : ∃ x, D9 (Ev l root n) = x := ⟨_, rfl⟩
   rw [hx] at hat ⊢
   obtain ⟨q3, d3, H3, n3, _⟩ := H1.stw 0 (m := 4) (v := .agg x.cells) rfl rfl ⟨AP x, FL x⟩
   have lr := H3.ldw (m := 4) 0 rfl rfl
   simp only [Ax] at lr
   simp only [tx] at hat
   simp only [BB, go_sem, AD, AA, AC, AB, KB_n, KB_x, Nat.reduceBEq, Nat.reduceAdd, Nat.reduceLT, Nat.reduceLeDiff, Nat.reduceEqDiff, reduceIte, Int.reduceEq, reduceCtorEq, AP, hq1, e1, e0, fx, hp, e2, lw, hat, d3, lr, AL, FM]
   exact KR_N H3.over x _
 · have e2 : ((Dh l n).2 ≠ 0) = True := by simp [hz]
   have hx0 : Ev l root n = none := by unfold Ev; rw [if_neg hz]
   rw [hx0]
   obtain ⟨q3, d3, H3, n3, _⟩ := H1.stw 0 (m := 4) (v := .agg [.i .u8 0, .s [], .nsl, .nsl]) rfl rfl ⟨rfl, rfl⟩
   have lr := H3.ldw (m := 4) 0 rfl rfl
   simp only [Ax] at lr
   simp only [BB, go_sem, AD, AA, AC, AB, KB_n, KB_x, Nat.reduceBEq, Nat.reduceAdd, Nat.reduceLT, Nat.reduceLeDiff, Nat.reduceEqDiff, reduceIte, Int.reduceEq, reduceCtorEq, AP, hq1, e1, e0, fx, hp, e2, Bo, d3, lr]
   exact AM H3.over rfl rfl
def Fi (l : List FT) (root : ND) (i : Nat) : Bool := match l[i]? with
 | some f => f.known && (decide ((D9 (Ev l root i)).kind ≠ f.kind) || (decide ((D9 (Ev l root i)).kind = 2) && !Cn f (D9 (Ev l root i)).names))
 | none => false
def CD (l : List FT) (root : ND) : Int × Int := if mayP l && mayN root then (match (List.range l.length).find? (Fi l root) with
 | some i => ((i : Int), 0)
 | none => (-1, 0)) else (0, 4)
theorem Lp {P : Nat → Bool} {n i : Nat} (hi : i < n) (hp : P i = true) (hno : ∀ j, j < i → P j = false) : (List.range n).find? P = some i := by
 rw [List.find?_range_eq_some]
 exact ⟨hp, by simpa using hi, fun j hj => by simpa using hno j hj⟩
theorem HS {P : Nat → Bool} {n : Nat} (hno : ∀ j, j < n → P j = false) : (List.range n).find? P = none := by
 rw [List.find?_eq_none]
 intro x hx
 rw [List.mem_range] at hx
 simpa using hno x hx
theorem Nt {s q : St} (ov : Over s q) (a b : Int) : KR s [.id, .id] (.tup [.i .i64 a, .i .i64 b]) (some ([.i .i64 a, .i .i64 b], q)) := AM ov rfl rfl
theorem Pv (l : List FT) (ho : FOk l) (root : ND) (hr : root.Ok) (hb : nodesN root < 2 ^ 62) (s : St) (hw : Wf s) :
    (lim prog).call Er [fx l, .agg root.cells] s = some (.tup [.i .i64 (CD l root).1, .i .i64 (CD l root).2], s) := by
 refine fn_W MY rfl rfl ?_
 have hz0 : wkZ Ck.cin [fx l, .agg root.cells] = [fx l, .agg root.cells] := by
  simp only [Ck, wkZ, Ek .ws, wk]
  simp [ND.cells, wkZ, wk, fx]
 rw [hz0]
 have e0 : s.enter.nb = s.nb := rfl
 have H1 := (Hp.begin hw).new (.cells 47 root.cells)
 obtain ⟨q1, hq1⟩ : ∃ q1, s.enter.new (.cells 47 root.cells) = q1 := ⟨_, rfl⟩
 rw [hq1, e0] at H1
 have lw := H1.ldw (m := 4) 0 rfl rfl
 have hmay := SC l ho.ok ho.len ho.fl q1 H1.wf
 have hmn := ST root hr hb q1 H1.wf
 unfold fx at hmay
 cases hm : mayP l with
 | false =>
   rw [hm] at hmay
   simp only [Ck, go_sem, AD, AA, AC, AB, KB_n, KB_x, Nat.reduceBEq, Nat.reduceAdd, Nat.reduceLT, Nat.reduceLeDiff, Nat.reduceEqDiff, reduceIte, Int.reduceEq, reduceCtorEq, AP, hq1, e0, fx, hmay]
   unfold CD
   rw [hm, if_neg (by simp)]
   exact Nt H1.over 0 4
 | true =>
   rw [hm] at hmay
   cases hn : mayN root with
   | false =>
     rw [hn] at hmn
     simp only [Ck, go_sem, AD, AA, AC, AB, KB_n, KB_x, Nat.reduceBEq, Nat.reduceAdd, Nat.reduceLT, Nat.reduceLeDiff, Nat.reduceEqDiff, reduceIte, Int.reduceEq, reduceCtorEq, AP, hq1, e0, fx, hmay, lw, AL, hmn]
     unfold CD
     rw [hn, if_neg (by simp)]
     exact Nt H1.over 0 4
   | true =>
     rw [hn] at hmn
     have hwl := I6 hn
     simp only [Ck, go_sem, AD, AA, AC, AB, KB_n, KB_x, Nat.reduceBEq, Nat.reduceAdd, Nat.reduceLT, Nat.reduceLeDiff, Nat.reduceEqDiff, reduceIte, Int.reduceEq, reduceCtorEq, AP, hq1, e0, fx, hmay, lw, AL, hmn, List.length_map]
     refine BF (fun x e q => ∃ (i : Nat) (B : List (Nat × Box)), i + x = l.length ∧ Hp s q s.en [] ((s.nb, .cells 47 root.cells) :: B) ∧ (∀ j, j < i → Fi l root j = false) ∧ e.get 0 = fx l ∧ e.get 3 = .p s.nb 0 ∧ e.get 18 = .i .i64 (l.length : Nat) ∧ e.get 19 = .i .i64 (i : Nat)) ?_ l.length _ _ ?_
     · rintro x e q ⟨i, B, hix, H, hno, g0, g3, g18, g19⟩
       by_cases h : i < l.length
       · have h1 : ((i : Int) < (l.length : Int)) = True := by simp only [eq_iff_iff, iff_true]; omega
         obtain ⟨f, hf⟩ : ∃ f, l[i]? = some f := ⟨_, List.getElem?_eq_getElem h⟩
         have hfm := List.mem_of_getElem? hf
         have hg := Hz hf
         have hth : ∀ u : St, Hm u (.ws false 6 (l.map FT.av)) = some (.ws false 6 (l.map FT.av), u) := fun _ => rfl
         have lk0 : ∀ u : St, ldA u false 1 (.ep f.cells 0 .shut) = some (.b f.known) := fun _ => rfl
         have lk1 : ∀ u : St, ldA u false 1 (.ep f.cells 1 .shut) = some (.i .u8 (f.kind : Nat)) := fun _ => rfl
         have ldf := DF f
         have pvf := BA f
         have hall6 : f.cells.all noTok = true := rfl
         have hw1 := AR (show i + 1 < 2 ^ 63 by have := ho.len; omega)
         cases hkn : f.known with
         | false =>
           rw [hkn] at lk0
           have hfb : Fi l root i = false := by unfold Fi; rw [hf]; simp [hkn]
           simp only [go_sem, AD, AA, AC, AB, KB_n, KB_x, Nat.reduceBEq, Nat.reduceAdd, Nat.reduceLT, Nat.reduceLeDiff, Nat.reduceEqDiff, reduceIte, Int.reduceEq, reduceCtorEq, g0, g3, g18, g19, fx, h1, hth, AF, hg, Ax, Nat.zero_add, lk0, hw1]
           refine ⟨x - 1, by omega, i + 1, B, by omega, H, fun j hj => ?_, rfl⟩
           by_cases hji : j < i
           · exact hno j hji
           · obtain rfl : j = i := by omega
             exact hfb
         | true =>
           rw [hkn] at lk0
           have lw2 := H.ldw (m := 4) 0 rfl rfl
           have hnd := SO l ho root hr hwl (i : Int) q H.wf
           have hxo := Mj hr l (i : Int)
           obtain ⟨x', hx⟩ : ∃ x', D9 (Ev l root (i : Int)) = x' := ⟨_, rfl⟩
           have hfb : Fi l root i = (decide (x'.kind ≠ f.kind) || (decide (x'.kind = 2) && !Cn f x'.names)) := by unfold Fi; rw [hf]; simp only [hkn, Bool.true_and, hx]
           rw [hx] at hnd hxo
           obtain ⟨q2, d2, H2, n2⟩ := H.adp (T := 47) (m := 4) (z := [.i .u8 0, .s [], .nsl, .nsl]) (v := .agg x'.cells) rfl ⟨AP x', FL x'⟩
           have lx0 := H2.ld 0 (off := 0) (v := .i .u8 (x'.kind : Nat)) rfl rfl
           have lx2 := H2.ld 0 (off := 2) (v := tx x'.names) rfl rfl
           have hent := Qd f (ho.ok f hfm) (Oe hm hfm) x'.names (by have := hxo.names.2; omega) q2 H2.wf
           simp only [fx] at hnd
           simp only [tx] at hent lx2
           have hsel := H2.sel [] (1 :: 0 :: List.range' 2 B.length) (by simp) (by
            refine List.nodup_cons.2 ⟨by simp, List.nodup_cons.2 ⟨by simp, List.nodup_range'⟩⟩)
           have hpk : ∀ (x y : Nat × Box), pick (x :: y :: B) (1 :: 0 :: List.range' 2 B.length) = y :: x :: B := fun x y => by
            have : pick (x :: y :: B) (List.range' 2 B.length) = B := by
             have h1 : List.range' 2 B.length = ((List.range B.length).map (· + 1)).map (· + 1) := by
              apply List.ext_getElem <;> simp; omega
             rw [h1, Eb, Eb, E5]
            simp only [pick, List.getElem?_cons_zero, List.getElem?_cons_succ, this]
           rw [hpk] at hsel
           simp only [pick] at hsel
           have hstep : Fi l root i = false → ∃ m, m < x ∧ ∃ (i' : Nat) (B' : List (Nat × Box)), i' + m = l.length ∧ Hp s q2 s.en [] ((s.nb, .cells 47 root.cells) :: B') ∧ (∀ j, j < i' → Fi l root j = false) ∧ i' = i + 1 := fun hfb => by
            refine ⟨x - 1, by omega, i + 1, _, by omega, hsel, fun j hj => ?_, rfl⟩
            by_cases hji : j < i
            · exact hno j hji
            · obtain rfl : j = i := by omega
              exact hfb
           have hfail : Fi l root i = true → KR s [.id, .id] (.tup [.i .i64 (CD l root).1, .i .i64 (CD l root).2]) (some ([.i .i64 (i : Nat), .i .i64 0], q2)) := fun hfb => by
            have hfp : CD l root = ((i : Int), 0) := by
             unfold CD
             rw [hm, hn]
             simp only [Bool.and_self, if_true, Lp h hfb hno]
            rw [hfp]
            exact Nt H2.over _ 0
           by_cases hk : x'.kind = f.kind
           · have e1 : ((x'.kind : Int) ≠ (f.kind : Int)) = False := by simp [hk]
             by_cases hk2 : x'.kind = 2
             · have e2 : ((x'.kind : Int) = 2) = True := by simp [hk2]
               cases hen : Cn f x'.names with
               | true =>
                 rw [hen] at hent
                 obtain ⟨m, hm1, i', B', k1, k2, k3, rfl⟩ := hstep (by rw [hfb]; simp [hk, hen])
                 simp only [go_sem, AD, AA, AC, AB, KB_n, KB_x, Nat.reduceBEq, Nat.reduceAdd, Nat.reduceLT, Nat.reduceLeDiff, Nat.reduceEqDiff, reduceIte, Int.reduceEq, reduceCtorEq, g0, g3, g18, g19, fx, h1, hth, AF, hg, Ax, Nat.zero_add, lk0, lk1, lw2, AL, hnd, AP, d2, lx0, lx2, e1, e2, ldf, pvf, hall6, hent, hw1]
                 exact ⟨m, hm1, i + 1, B', k1, k2, k3, rfl⟩
               | false =>
                 rw [hen] at hent
                 simp only [go_sem, AD, AA, AC, AB, KB_n, KB_x, Nat.reduceBEq, Nat.reduceAdd, Nat.reduceLT, Nat.reduceLeDiff, Nat.reduceEqDiff, reduceIte, Int.reduceEq, reduceCtorEq, g0, g3, g18, g19, fx, h1, hth, AF, hg, Ax, Nat.zero_add, lk0, lk1, lw2, AL, hnd, AP, d2, lx0, lx2, e1, e2, ldf, pvf, hall6, hent]
                 exact hfail (by rw [hfb]; simp [hk2, hen])
             · have e2 : ((x'.kind : Int) = 2) = False := by simp only [eq_iff_iff, iff_false]; omega
               obtain ⟨m, hm1, i', B', k1, k2, k3, rfl⟩ := hstep (by rw [hfb]; simp [hk, hk2]; intro hh; exact absurd (hk.trans hh) hk2)
               simp only [go_sem, AD, AA, AC, AB, KB_n, KB_x, Nat.reduceBEq, Nat.reduceAdd, Nat.reduceLT, Nat.reduceLeDiff, Nat.reduceEqDiff, reduceIte, Int.reduceEq, reduceCtorEq, g0, g3, g18, g19, fx, h1, hth, AF, hg, Ax, Nat.zero_add, lk0, lk1, lw2, AL, hnd, AP, d2, lx0, e1, e2, hw1]
               exact ⟨m, hm1, i + 1, B', k1, k2, k3, rfl⟩
           · have e1 : ((x'.kind : Int) ≠ (f.kind : Int)) = True := by simp only [ne_eq, eq_iff_iff, iff_true]; omega
             simp only [go_sem, AD, AA, AC, AB, KB_n, KB_x, Nat.reduceBEq, Nat.reduceAdd, Nat.reduceLT, Nat.reduceLeDiff, Nat.reduceEqDiff, reduceIte, Int.reduceEq, reduceCtorEq, g0, g3, g18, g19, fx, h1, hth, AF, hg, Ax, Nat.zero_add, lk0, lk1, lw2, AL, hnd, AP, d2, lx0, e1]
             exact hfail (by rw [hfb]; simp [hk])
       · have h1 : ((i : Int) < (l.length : Int)) = False := by simp only [eq_iff_iff, iff_false]; omega
         simp only [go_sem, AD, AA, AC, AB, KB_n, KB_x, Nat.reduceBEq, Nat.reduceAdd, Nat.reduceLT, Nat.reduceLeDiff, Nat.reduceEqDiff, reduceIte, Int.reduceEq, reduceCtorEq, g18, g19, h1]
         have hfp : CD l root = (-1, 0) := by
          unfold CD
          rw [hm, hn]
          simp only [Bool.and_self, if_true, HS fun j (hj : j < l.length) => hno j (by omega)]
         rw [hfp]
         exact Nt H.over (-1) 0
     · simp only [go_sem, AD, AA, AC, AB, KB_n, KB_x, Nat.reduceBEq, Nat.reduceAdd, Nat.reduceLT, Nat.reduceLeDiff, Nat.reduceEqDiff, reduceIte, Int.reduceEq, reduceCtorEq]
       exact ⟨0, [], by omega, H1, fun j hj => by omega, rfl, rfl⟩
end Go.Proofs.Ytgloinighjdhlaa

/-
  The document's among and holds.
-/
set_option maxRecDepth 100000
set_option maxHeartbeats 4000000
namespace Go.Proofs.Ytgloinighjdhlaa
open Go.Proofs.Ytgloinighjdhlaa.Am
attribute [local irreducible] W WO WE WQ WD Tr.get Tr.set
theorem Lq (L : List Int) : (Dp L).Perm L := by
 unfold Dp; exact List.mergeSort_perm _ _
theorem T5 (L : List Int) : (Dp L).Pairwise (· ≤ ·) := by
 have := List.pairwise_mergeSort (le := fun x y : Int => decide (x ≤ y)) (by intro a b c; simp; omega) (by intro a b; simp; omega) L
 unfold Dp
 exact this.imp (by simp)
theorem T6 {L : List Int} (h : L.Nodup) : (Dp L).Pairwise (· < ·) := by
 have h1 := T5 L
 have h2 : (Dp L).Pairwise (· ≠ ·) := (Lq L).nodup_iff.2 h
 exact (h1.and h2).imp (by intro a b hab; omega)
theorem SP {L : List Int} (h : L.Nodup) {k : Int} (hk : k ∈ L) (m : Nat) : (k ∈ (Dp L).take m) ↔ L.countP (fun x => decide (x < k)) < m := by
 have hs := T6 h
 have hp := Lq L
 obtain ⟨p, hpk⟩ := List.mem_iff_getElem?.1 ((hp.mem_iff).2 hk)
 have hpl : p < (Dp L).length := (List.getElem?_eq_some_iff.1 hpk).1
 have hpv : (Dp L)[p] = k := (List.getElem?_eq_some_iff.1 hpk).2
 have hc : L.countP (fun x => decide (x < k)) = p := by
  rw [← hp.countP_eq]
  conv => lhs; rw [← List.take_append_drop p (Dp L)]
  rw [List.countP_append]
  have h1 : ((Dp L).take p).countP (fun x => decide (x < k)) = p := by
   rw [List.countP_eq_length.2]
   · rw [List.length_take]; omega
   · intro x hx
     obtain ⟨j, hj⟩ := List.mem_iff_getElem?.1 hx
     rw [List.getElem?_take] at hj
     split at hj
     · rename_i hjp
       obtain ⟨hjl, hjv⟩ := List.getElem?_eq_some_iff.1 hj
       have := List.pairwise_iff_getElem.1 hs j p hjl hpl hjp
       rw [hjv, hpv] at this
       simpa using this
     · cases hj
  have h2 : ((Dp L).drop p).countP (fun x => decide (x < k)) = 0 := by
   rw [List.countP_eq_zero]
   intro x hx
   obtain ⟨j, hj⟩ := List.mem_iff_getElem?.1 hx
   rw [List.getElem?_drop] at hj
   obtain ⟨hjl, hjv⟩ := List.getElem?_eq_some_iff.1 hj
   have : k ≤ x := by
    by_cases hj0 : j = 0
    · subst hj0
      simp only [Nat.add_zero] at hjv
      rw [← hjv, hpv]; omega
    · have := List.pairwise_iff_getElem.1 hs p (p + j) hpl hjl (by omega)
      rw [hjv, hpv] at this
      omega
   simp only [decide_eq_true_eq]; omega
  omega
 rw [hc]
 constructor
 · intro hx
   obtain ⟨j, hj⟩ := List.mem_iff_getElem?.1 hx
   rw [List.getElem?_take] at hj
   split at hj
   · rename_i hjm
     obtain ⟨hjl, hjv⟩ := List.getElem?_eq_some_iff.1 hj
     rcases Nat.lt_trichotomy j p with hh | hh | hh
     · have := List.pairwise_iff_getElem.1 hs j p hjl hpl hh
       rw [hjv, hpv] at this; omega
     · omega
     · have := List.pairwise_iff_getElem.1 hs p j hpl hjl hh
       rw [hjv, hpv] at this; omega
   · cases hj
 · intro hm
   exact List.mem_iff_getElem?.2 ⟨p, by rw [List.getElem?_take, if_pos hm]; exact hpk⟩
theorem Oi {f : FT} (hnd : f.kids.Nodup) {m : Nat} {x : List Nat} {i : Nat} {k : Int} (hx : f.names.findIdx? (· == x) = some i) (hk : f.kids[i]? = some k) : C4 f m x = decide (f.kids.countP (fun z => decide (z < k)) < m) := by
 unfold C4
 rw [hx]
 simp only [hk, SP hnd (List.mem_of_getElem? hk)]
theorem Oj {L : List (List Nat)} {x : List Nat} {i : Nat} (h : L[i]? = some x) (hno : ∀ j, j < i → ∀ y, L[j]? = some y → y ≠ x) : L.findIdx? (· == x) = some i := by
 rw [List.findIdx?_eq_some_iff_getElem]
 rw [List.getElem?_eq_some_iff] at h
 obtain ⟨hi, h⟩ := h
 exact ⟨hi, by simp [h], fun j hj => by simpa using hno j hj _ (List.getElem?_eq_getElem (by omega))⟩
theorem Nu {L : List (List Nat)} {x : List Nat} (hno : ∀ (j : Nat) (y : List Nat), L[j]? = some y → y ≠ x) : L.findIdx? (· == x) = none := by
 rw [List.findIdx?_eq_none_iff]
 intro y hy
 obtain ⟨j, hj⟩ := List.mem_iff_getElem?.1 hy
 simpa using hno j y hj
theorem I7 {α : Type} {L : List α} {c : Nat} {w : α} (h : L[c]? = some w) : L.take (c + 1) = L.take c ++ [w] := by
 rw [List.getElem?_eq_some_iff] at h
 obtain ⟨h', rfl⟩ := h
 rw [List.take_succ_eq_append_getElem h']
theorem T7 (f : FT) (ho : f.Ok) (h1 : f.one = true) (hnd : f.kids.Nodup) (m : Nat) (x : List Nat) (s : St) (hw : Wf s) :
    (lim prog).call C9 [.agg f.cells, .s x, .i .i64 (m : Nat)] s = some (.b (C4 f m x), s) := by
 refine fn_W GY rfl rfl ?_
 have hz0 : wkZ BM.cin [.agg f.cells, .s x, .i .i64 (m : Nat)] = [.agg f.cells, .s x, .i .i64 (m : Nat)] := by simp only [BM, wkZ, wk, SF]
 rw [hz0]
 have c6 : f.cells.length = 6 := rfl
 have e0 : s.enter.nb = s.nb := rfl
 have H1 := (Hp.begin hw).new (.cells 60 f.cells)
 obtain ⟨q1, hq1⟩ : ∃ q1, s.enter.new (.cells 60 f.cells) = q1 := ⟨_, rfl⟩
 rw [hq1, e0] at H1
 have ln := H1.ld 0 (off := 2) (v := tx f.names) rfl rfl
 have lk := H1.ld 0 (off := 3) (v := zx f.kids) rfl rfl
 have hnk := D1 h1
 simp only [BM, go_sem, AD, AA, AC, AB, KB_n, KB_x, Nat.reduceBEq, Nat.reduceAdd, Nat.reduceLT, Nat.reduceLeDiff, Nat.reduceEqDiff, reduceIte, Int.reduceEq, reduceCtorEq, Ax, hq1, c6, e0]
 refine BF (fun y e q => ∃ i : Nat, i + y = f.names.length ∧ q = q1 ∧ (∀ j, j < i → ∀ z, f.names[j]? = some z → z ≠ x) ∧ e.get 1 = .s x ∧ e.get 2 = .i .i64 (m : Nat) ∧ e.get 3 = .p s.nb 0 ∧ e.get 7 = .i .i64 (i : Nat)) ?_ f.names.length _ _ ?_
 · rintro y e q ⟨i, hix, rfl, hno, g1, g2, g3, g7⟩
   by_cases h : i < f.names.length
   · have e1 : ((i : Int) < (f.names.length : Int)) = True := by simp only [eq_iff_iff, iff_true]; omega
     obtain ⟨nm, hnm⟩ : ∃ nm, f.names[i]? = some nm := ⟨_, List.getElem?_eq_getElem h⟩
     have hnm2 : (f.names.map AV.s)[i]? = some (.s nm) := by rw [List.getElem?_map, hnm]; rfl
     obtain ⟨k, hk⟩ : ∃ k, f.kids[i]? = some k := ⟨_, List.getElem?_eq_getElem (by omega)⟩
     have hk2 := I3 hk
     have hw1 := AR (show i + 1 < 2 ^ 63 by have := ho.nlen; omega)
     by_cases hnx : nm = x
     · have e2 : (nm ≠ x) = False := by simp [hnx]
       subst hnx
       rw [Oi hnd (Oj hnm hno) hk]
       simp only [go_sem, AD, AA, AC, AB, KB_n, KB_x, Nat.reduceBEq, Nat.reduceAdd, Nat.reduceLT, Nat.reduceLeDiff, Nat.reduceEqDiff, reduceIte, Int.reduceEq, reduceCtorEq, g1, g2, g3, g7, Nat.zero_add, tx, ln, List.length_map, e1, AF, hnm2, Ay, Bw, e2]
       refine BF (fun y2 e q' => ∃ c : Nat, c + y2 = f.kids.length ∧ q' = q ∧ e.get 2 = .i .i64 (m : Nat) ∧ e.get 3 = .p s.nb 0 ∧ e.get 7 = .i .i64 (i : Nat) ∧ e.get 8 = .i .i64 (((f.kids.take c).countP (fun z => decide (z < k)) : Nat) : Int) ∧ e.get 9 = .i .i64 (c : Nat)) ?_ f.kids.length _ _ ?_
       · rintro y2 e2' q' ⟨c, hcy, rfl, z2, z3, z7, z8, z9⟩
         by_cases hc : c < f.kids.length
         · have e3 : ((c : Int) < (f.kids.length : Int)) = True := by simp only [eq_iff_iff, iff_true]; omega
           obtain ⟨w, hw2⟩ : ∃ w, f.kids[c]? = some w := ⟨_, List.getElem?_eq_getElem hc⟩
           have hw3 := I3 hw2
           have hw4 := AR (show c + 1 < 2 ^ 63 by have := ho.klen; omega)
           have htk : (f.kids.take (c + 1)).countP (fun z => decide (z < k)) = (f.kids.take c).countP (fun z => decide (z < k)) + if w < k then 1 else 0 := by
            rw [I7 hw2, List.countP_append]
            simp [List.countP_cons]
           have hcl : (f.kids.take c).countP (fun z => decide (z < k)) ≤ c := Nat.le_trans List.countP_le_length (by simp; omega)
           have hw5 := AR (show (f.kids.take c).countP (fun z => decide (z < k)) + 1 < 2 ^ 63 by have := ho.klen; omega)
           by_cases hwk : w < k
           · have e4 : (w < k) = True := by simp [hwk]
             rw [if_pos hwk] at htk
             simp only [go_sem, AD, AA, AC, AB, KB_n, KB_x, Nat.reduceBEq, Nat.reduceAdd, Nat.reduceLT, Nat.reduceLeDiff, Nat.reduceEqDiff, reduceIte, Int.reduceEq, reduceCtorEq, z2, z3, z7, z8, z9, Nat.zero_add, zx, lk, List.length_map, e3, AF, hw3, hk2, Ct, Bw, e4, hw4, hw5]
             exact ⟨y2 - 1, by omega, c + 1, by omega, by rw [htk], rfl⟩
           · have e4 : (w < k) = False := by simp [hwk]
             rw [if_neg hwk] at htk
             simp only [go_sem, AD, AA, AC, AB, KB_n, KB_x, Nat.reduceBEq, Nat.reduceAdd, Nat.reduceLT, Nat.reduceLeDiff, Nat.reduceEqDiff, reduceIte, Int.reduceEq, reduceCtorEq, z2, z3, z7, z8, z9, Nat.zero_add, zx, lk, List.length_map, e3, AF, hw3, hk2, Ct, Bw, e4, hw4]
             exact ⟨y2 - 1, by omega, c + 1, by omega, by rw [htk, Nat.add_zero], rfl⟩
         · have e3 : ((c : Int) < (f.kids.length : Int)) = False := by simp only [eq_iff_iff, iff_false]; omega
           rw [List.take_of_length_le (by omega)] at z8
           have e4 : ((f.kids.countP (fun z => decide (z < k)) : Nat) : Int) < (m : Int) ↔ f.kids.countP (fun z => decide (z < k)) < m := by omega
           simp only [go_sem, AD, AA, AC, AB, KB_n, KB_x, Nat.reduceBEq, Nat.reduceAdd, Nat.reduceLT, Nat.reduceLeDiff, Nat.reduceEqDiff, reduceIte, Int.reduceEq, reduceCtorEq, z2, z3, z7, z8, z9, Nat.zero_add, zx, lk, List.length_map, e3, e4]
           exact AM H1.over rfl rfl
       · simp only [go_sem, AD, AA, AC, AB, KB_n, KB_x, Nat.reduceBEq, Nat.reduceAdd, Nat.reduceLT, Nat.reduceLeDiff, Nat.reduceEqDiff, reduceIte, Int.reduceEq, reduceCtorEq]
         exact ⟨0, by omega, g2, g3, g7, by simp, rfl⟩
     · have e2 : (nm ≠ x) = True := by simp [hnx]
       simp only [go_sem, AD, AA, AC, AB, KB_n, KB_x, Nat.reduceBEq, Nat.reduceAdd, Nat.reduceLT, Nat.reduceLeDiff, Nat.reduceEqDiff, reduceIte, Int.reduceEq, reduceCtorEq, g1, g2, g3, g7, Nat.zero_add, tx, ln, List.length_map, e1, AF, hnm2, Ay, Bw, e2, hw1]
       refine ⟨y - 1, by omega, i + 1, by omega, fun j hj z hz => ?_, rfl⟩
       by_cases hji : j < i
       · exact hno j hji z hz
       · obtain rfl : j = i := by omega
         rw [hnm] at hz; cases hz; exact hnx
   · have e1 : ((i : Int) < (f.names.length : Int)) = False := by simp only [eq_iff_iff, iff_false]; omega
     have hap : C4 f m x = false := by
      unfold C4
      rw [Nu fun j y hy => hno j (by rw [List.getElem?_eq_some_iff] at hy; have := hy.1; omega) y hy]
     rw [hap]
     simp only [go_sem, AD, AA, AC, AB, KB_n, KB_x, Nat.reduceBEq, Nat.reduceAdd, Nat.reduceLT, Nat.reduceLeDiff, Nat.reduceEqDiff, reduceIte, Int.reduceEq, reduceCtorEq, g3, g7, Nat.zero_add, tx, ln, List.length_map, e1]
     exact AM H1.over rfl rfl
 · simp only [go_sem, AD, AA, AC, AB, KB_n, KB_x, Nat.reduceBEq, Nat.reduceAdd, Nat.reduceLT, Nat.reduceLeDiff, Nat.reduceEqDiff, reduceIte, Int.reduceEq, reduceCtorEq]
   exact ⟨0, by omega, fun j hj => by omega, rfl⟩
end Go.Proofs.Ytgloinighjdhlaa

/-
  touchstoneref07: what a tree is.
-/
set_option maxRecDepth 100000
set_option maxHeartbeats 4000000
namespace Go.Proofs.Ytgloinighjdhlaa
open Go.Proofs.Ytgloinighjdhlaa.Am
attribute [local irreducible] W WO WE WQ WD Tr.get Tr.set
def N3 (t : List Nat) : Bool := decide (t.length ≤ 256) && !t.contains 0
theorem Ov (t : List Nat) (hl : t.length < 2 ^ 62) (s : St) : (lim prog).call DH [.s t] s = some (.b (N3 t), s) := by
 refine fn_W Gt rfl rfl ?_
 simp only [Cc, go_sem, AD, AA, AC, AB, KB_n, KB_x, Nat.reduceBEq, Nat.reduceAdd, Nat.reduceLT, Nat.reduceLeDiff, Nat.reduceEqDiff, reduceIte, Int.reduceEq, reduceCtorEq]
 refine BF (fun x e q => ∃ i : Nat, i + x = t.length ∧ q = s.enter ∧ (t.take i).contains 0 = false ∧ e.get 0 = .s t ∧ e.get 3 = .i .i64 (i : Nat)) ?_ t.length _ _ ⟨0, by omega, rfl, by simp, by simp only [go_sem, AD, AA, AC, AB, KB_n, KB_x, Nat.reduceBEq, Nat.reduceAdd, Nat.reduceLT, Nat.reduceLeDiff, Nat.reduceEqDiff, reduceIte, Int.reduceEq, reduceCtorEq], by simp only [go_sem, AD, AA, AC, AB, KB_n, KB_x, Nat.reduceBEq, Nat.reduceAdd, Nat.reduceLT, Nat.reduceLeDiff, Nat.reduceEqDiff, reduceIte, Int.reduceEq, reduceCtorEq]; rfl⟩
 rintro x e q ⟨i, hi, rfl, hn, g0, g3⟩
 by_cases h : i < t.length
 · have e1 : ((i : Int) < (t.length : Int)) = True := by simp only [eq_iff_iff, iff_true]; omega
   have hw1 := AR (show i + 1 < 2 ^ 63 by omega)
   have hc : t[i]? = some t[i] := List.getElem?_eq_getElem h
   have htk : t.take (i + 1) = t.take i ++ [t[i]] := by rw [List.take_add_one, hc]; rfl
   by_cases h0 : t[i] = 0
   · have e2 : ((t[i] : Int) = 0) = True := by simp [h0]
     simp only [go_sem, AD, AA, AC, AB, KB_n, KB_x, Nat.reduceBEq, Nat.reduceAdd, Nat.reduceLT, Nat.reduceLeDiff, Nat.reduceEqDiff, reduceIte, Int.reduceEq, reduceCtorEq, g0, g3, e1, AF, hw1, hc, e2]
     refine AM (Over.enter s) rfl ?_
     have : N3 t = false := by
      have : t.contains 0 = true := by rw [List.contains_iff_mem, ← h0]; exact List.getElem_mem h
      rw [N3, this]; simp
     rw [this]; rfl
   · have e2 : ((t[i] : Int) = 0) = False := by simp only [eq_iff_iff, iff_false]; omega
     simp only [go_sem, AD, AA, AC, AB, KB_n, KB_x, Nat.reduceBEq, Nat.reduceAdd, Nat.reduceLT, Nat.reduceLeDiff, Nat.reduceEqDiff, reduceIte, Int.reduceEq, reduceCtorEq, g0, g3, e1, AF, hw1, hc, e2]
     refine ⟨x - 1, by omega, i + 1, by omega, ?_, rfl⟩
     have hb : (0 == t[i]) = false := by simp only [beq_eq_false_iff_ne, ne_eq]; omega
     rw [htk]
     simp only [List.contains_append, hn, List.contains_cons, List.contains_nil, hb, Bool.or_self]
 · have e1 : ((i : Int) < (t.length : Int)) = False := by simp only [eq_iff_iff, iff_false]; omega
   have e2 : ((t.length : Int) ≤ 256) = (t.length ≤ 256) := by simp only [eq_iff_iff]; omega
   rw [List.take_of_length_le (by omega)] at hn
   simp only [go_sem, AD, AA, AC, AB, KB_n, KB_x, Nat.reduceBEq, Nat.reduceAdd, Nat.reduceLT, Nat.reduceLeDiff, Nat.reduceEqDiff, reduceIte, Int.reduceEq, reduceCtorEq, g0, g3, e1, e2]
   refine AM (Over.enter s) rfl ?_
   simp only [N3, hn, CA, wkZ, wk, Bool.not_false, Bool.and_true]
def W1 (n : ND) : Bool := decide (n.names.length = 0) && (decide (n.kids.length = 0) && (N3 n.text && (decide (n.kind = 1) || decide (0 < n.text.length))))
theorem W1_eq (n : ND) : (decide (n.names = []) && (decide (n.kids.length = 0) && (decide (n.text.length ≤ 256) && (!n.text.contains 0 && (decide (n.kind = 1) || decide (n.text ≠ [])))))) = W1 n := by
 have h1 : decide (n.names = []) = decide (n.names.length = 0) := by simp
 have h2 : decide (n.text ≠ []) = decide (0 < n.text.length) := by simp [List.length_pos_iff]
 unfold W1 N3
 rw [h1, h2, Bool.and_assoc]
theorem Ow : ∀ n : ND, n.Ok → ∀ s, Wf s → (lim prog).call CY [.agg n.cells] s = some (.b (D2 n), s) := by
 refine ND.ind fun n ih ho s hw => ?_
 refine fn_W Gr rfl rfl ?_
 have H1 := (Hp.begin hw).new (.cells 47 n.cells)
 generalize hq : s.enter.new (.cells 47 n.cells) = q at H1
 generalize hm : s.enter.nb = m at H1
 have l0 := H1.ld 0 (off := 0) (v := .i .u8 (n.kind : Nat)) rfl rfl
 have l1 := H1.ld 0 (off := 1) (v := .s n.text) rfl rfl
 have l2 := H1.ld 0 (off := 2) (v := tx n.names) rfl rfl
 have l3 := H1.ld 0 (off := 3) (v := .ws false 4 (n.kids.map ND.av)) rfl rfl
 have hz0 : wkZ AN.cin [.agg n.cells] = [.agg n.cells] := by simp [AN, wkZ, wk, ND.cells]
 have ht := Ov n.text ho.text.2 q
 rw [hz0, KT, W1_eq]
 have hbr : ∀ b, KR s [.id] (.b b) (some ([.b b], q)) := fun b => AM H1.over rfl rfl
 by_cases c1 : n.kind = 1 ∨ n.kind = 3
 · rw [if_pos c1]
   by_cases k1 : n.kind = 1
   · have e1 : ((n.kind : Int) = 1) = True := by simp only [eq_iff_iff, iff_true]; omega
     by_cases d1 : n.names.length = 0
     · have f1 : ((n.names.length : Int) = 0) = True := by simp only [eq_iff_iff, iff_true]; omega
       by_cases d2 : n.kids.length = 0
       · have f2 : ((n.kids.length : Int) = 0) = True := by simp only [eq_iff_iff, iff_true]; omega
         cases d3 : N3 n.text
         · rw [d3] at ht
           simp only [AN, go_sem, AD, AA, AC, AB, KB_n, KB_x, Nat.reduceBEq, Nat.reduceAdd, Nat.reduceLT, Nat.reduceLeDiff, Nat.reduceEqDiff, reduceIte, Int.reduceEq, reduceCtorEq, AP, hq, hm, l0, l1, l2, l3, Nat.zero_add, List.length_map, ht, e1, f1, f2]
           rw [show W1 n = false by simp [W1, d3]]
           exact hbr _
         · rw [d3] at ht
           simp only [AN, go_sem, AD, AA, AC, AB, KB_n, KB_x, Nat.reduceBEq, Nat.reduceAdd, Nat.reduceLT, Nat.reduceLeDiff, Nat.reduceEqDiff, reduceIte, Int.reduceEq, reduceCtorEq, AP, hq, hm, l0, l1, l2, l3, Nat.zero_add, List.length_map, ht, e1, f1, f2]
           rw [show W1 n = true by simp [W1, d1, d2, d3, k1]]
           exact hbr _
       · have f2 : ((n.kids.length : Int) = 0) = False := by simp only [eq_iff_iff, iff_false]; omega
         simp only [AN, go_sem, AD, AA, AC, AB, KB_n, KB_x, Nat.reduceBEq, Nat.reduceAdd, Nat.reduceLT, Nat.reduceLeDiff, Nat.reduceEqDiff, reduceIte, Int.reduceEq, reduceCtorEq, AP, hq, hm, l0, l1, l2, l3, Nat.zero_add, List.length_map, ht, e1, f1, f2]
         rw [show W1 n = false by simp [W1, d2]]
         exact hbr _
     · have f1 : ((n.names.length : Int) = 0) = False := by simp only [eq_iff_iff, iff_false]; omega
       simp only [AN, go_sem, AD, AA, AC, AB, KB_n, KB_x, Nat.reduceBEq, Nat.reduceAdd, Nat.reduceLT, Nat.reduceLeDiff, Nat.reduceEqDiff, reduceIte, Int.reduceEq, reduceCtorEq, AP, hq, hm, l0, l1, l2, l3, Nat.zero_add, List.length_map, ht, e1, f1]
       rw [show W1 n = false by simp [W1, d1]]
       exact hbr _
   · have e1 : ((n.kind : Int) = 1) = False := by simp only [eq_iff_iff, iff_false]; omega
     have e3 : ((n.kind : Int) = 3) = True := by simp only [eq_iff_iff, iff_true]; omega
     by_cases d1 : n.names.length = 0
     · have f1 : ((n.names.length : Int) = 0) = True := by simp only [eq_iff_iff, iff_true]; omega
       by_cases d2 : n.kids.length = 0
       · have f2 : ((n.kids.length : Int) = 0) = True := by simp only [eq_iff_iff, iff_true]; omega
         cases d3 : N3 n.text
         · rw [d3] at ht
           simp only [AN, go_sem, AD, AA, AC, AB, KB_n, KB_x, Nat.reduceBEq, Nat.reduceAdd, Nat.reduceLT, Nat.reduceLeDiff, Nat.reduceEqDiff, reduceIte, Int.reduceEq, reduceCtorEq, AP, hq, hm, l0, l1, l2, l3, Nat.zero_add, List.length_map, ht, e1, e3, f1, f2]
           rw [show W1 n = false by simp [W1, d3]]
           exact hbr _
         · rw [d3] at ht
           by_cases d4 : 0 < n.text.length
           · have f4 : ((0 : Int) < (n.text.length : Int)) = True := by simp only [eq_iff_iff, iff_true]; omega
             simp only [AN, go_sem, AD, AA, AC, AB, KB_n, KB_x, Nat.reduceBEq, Nat.reduceAdd, Nat.reduceLT, Nat.reduceLeDiff, Nat.reduceEqDiff, reduceIte, Int.reduceEq, reduceCtorEq, AP, hq, hm, l0, l1, l2, l3, Nat.zero_add, List.length_map, ht, e1, e3, f1, f2, f4]
             rw [show W1 n = true by simp [W1, d1, d2, d3, d4, k1]]
             exact hbr _
           · have f4 : ((0 : Int) < (n.text.length : Int)) = False := by simp only [eq_iff_iff, iff_false]; omega
             simp only [AN, go_sem, AD, AA, AC, AB, KB_n, KB_x, Nat.reduceBEq, Nat.reduceAdd, Nat.reduceLT, Nat.reduceLeDiff, Nat.reduceEqDiff, reduceIte, Int.reduceEq, reduceCtorEq, AP, hq, hm, l0, l1, l2, l3, Nat.zero_add, List.length_map, ht, e1, e3, f1, f2, f4]
             rw [show W1 n = false by simp [W1, d1, d2, d3, d4, k1]]
             exact hbr _
       · have f2 : ((n.kids.length : Int) = 0) = False := by simp only [eq_iff_iff, iff_false]; omega
         simp only [AN, go_sem, AD, AA, AC, AB, KB_n, KB_x, Nat.reduceBEq, Nat.reduceAdd, Nat.reduceLT, Nat.reduceLeDiff, Nat.reduceEqDiff, reduceIte, Int.reduceEq, reduceCtorEq, AP, hq, hm, l0, l1, l2, l3, Nat.zero_add, List.length_map, ht, e1, e3, f1, f2]
         rw [show W1 n = false by simp [W1, d2]]
         exact hbr _
     · have f1 : ((n.names.length : Int) = 0) = False := by simp only [eq_iff_iff, iff_false]; omega
       simp only [AN, go_sem, AD, AA, AC, AB, KB_n, KB_x, Nat.reduceBEq, Nat.reduceAdd, Nat.reduceLT, Nat.reduceLeDiff, Nat.reduceEqDiff, reduceIte, Int.reduceEq, reduceCtorEq, AP, hq, hm, l0, l1, l2, l3, Nat.zero_add, List.length_map, ht, e1, e3, f1]
       rw [show W1 n = false by simp [W1, d1]]
       exact hbr _
 · rw [if_neg c1]
   have e1 : ((n.kind : Int) = 1) = False := by simp only [eq_iff_iff, iff_false]; omega
   have e3 : ((n.kind : Int) = 3) = False := by simp only [eq_iff_iff, iff_false]; omega
   by_cases c2 : n.kind = 2
   · rw [if_pos c2]
     have e2 : ((n.kind : Int) ≠ 2) = False := by simp [c2]
     by_cases d1 : n.text = []
     · have f1 : (n.text ≠ []) = False := by simp [d1]
       by_cases d2 : n.names.length = n.kids.length
       · have f2 : ((n.names.length : Int) ≠ (n.kids.length : Int)) = False := by simp only [ne_eq, eq_iff_iff, iff_false]; omega
         rw [decide_eq_true d1, decide_eq_true d2]
         simp only [AN, go_sem, AD, AA, AC, AB, KB_n, KB_x, Nat.reduceBEq, Nat.reduceAdd, Nat.reduceLT, Nat.reduceLeDiff, Nat.reduceEqDiff, reduceIte, Int.reduceEq, reduceCtorEq, AP, hq, hm, l0, l1, l2, l3, Nat.zero_add, List.length_map, ht, e1, e2, e3, f1, f2]
         refine BF (fun x e q' => ∃ i : Nat, i + x = n.names.length ∧ q' = q ∧ EW none (n.names.take i) (n.kids.take i) = true ∧ e.get 1 = .p m 0 ∧ e.get 3 = .i .i64 (i : Nat)) ?_ n.names.length _ _ ⟨0, by omega, rfl, by simp [EW], by simp only [go_sem, AD, AA, AC, AB, KB_n, KB_x, Nat.reduceBEq, Nat.reduceAdd, Nat.reduceLT, Nat.reduceLeDiff, Nat.reduceEqDiff, reduceIte, Int.reduceEq, reduceCtorEq], by simp only [go_sem, AD, AA, AC, AB, KB_n, KB_x, Nat.reduceBEq, Nat.reduceAdd, Nat.reduceLT, Nat.reduceLeDiff, Nat.reduceEqDiff, reduceIte, Int.reduceEq, reduceCtorEq]; rfl⟩
         rintro x e q' ⟨i, hi, rfl, hwl, g1, g3⟩
         have hnl := ho.names.2
         by_cases h : i < n.names.length
         · have h1 : ((i : Int) < (n.names.length : Int)) = True := by simp only [eq_iff_iff, iff_true]; omega
           obtain ⟨y, hy⟩ : ∃ y, n.names[i]? = some y := ⟨_, List.getElem?_eq_getElem h⟩
           obtain ⟨k, hk⟩ : ∃ k, n.kids[i]? = some k := ⟨_, List.getElem?_eq_getElem (by omega)⟩
           have hy2 : (n.names.map AV.s)[i]? = some (.s y) := by rw [List.getElem?_map, hy]; rfl
           have hk2 := FK hk
           have hkm : k ∈ n.kids := List.mem_of_getElem? hk
           have hym : y ∈ n.names := List.mem_of_getElem? hy
           have hnm := L5 y (ho.names.1 y hym).len q'
           have hkc := ih k hkm (ho.kids.1 k hkm) q' H1.wf
           have hld : ldA q' true 4 (.ep k.cells 0 .shut) = some (.agg k.cells) := rfl
           have hw1 := AR (show i + 1 < 2 ^ 63 by omega)
           have htk : n.names.take (i + 1) = n.names.take i ++ [y] := by rw [List.take_add_one, hy]; rfl
           have htk2 : n.kids.take (i + 1) = n.kids.take i ++ [k] := by rw [List.take_add_one, hk]; rfl
           have hsn := Jb none (n.names.take i) (n.kids.take i) y k (by rw [List.length_take, List.length_take]; omega)
           rw [← htk, ← htk2, hwl, Bool.true_and] at hsn
           have hno : EW none (n.names.take (i + 1)) (n.kids.take (i + 1)) = false → EW none n.names n.kids = false := fun hf => by
            rw [Bool.eq_false_iff]
            intro ht
            rw [Jc n none n.names n.kids (i + 1) ht] at hf
            cases hf
           cases hn1 : EC y with
           | false =>
             rw [hn1] at hnm hsn
             rw [hno hsn]
             simp only [go_sem, AD, AA, AC, AB, KB_n, KB_x, Nat.reduceBEq, Nat.reduceAdd, Nat.reduceLT, Nat.reduceLeDiff, Nat.reduceEqDiff, reduceIte, Int.reduceEq, reduceCtorEq, g1, g3, l2, List.length_map, h1, AF, hy2, Ay, Bw, hnm, Nat.zero_add]
             exact hbr _
           | true =>
           rw [hn1] at hnm hsn
           cases i with
           | zero =>
             have h2 : ((0 : Int) < ((0 : Nat) : Int)) = False := by simp
             have hsn : EW none (n.names.take (0 + 1)) (n.kids.take (0 + 1)) = D2 k := by rw [hsn]; simp
             cases hwk : D2 k with
             | false =>
               rw [hwk] at hkc hsn
               rw [hno hsn]
               simp only [go_sem, AD, AA, AC, AB, KB_n, KB_x, Nat.reduceBEq, Nat.reduceAdd, Nat.reduceLT, Nat.reduceLeDiff, Nat.reduceEqDiff, reduceIte, Int.reduceEq, reduceCtorEq, g1, g3, l2, List.length_map, h1, AF, hy2, Ay, Bw, hnm, h2, l3, hk2, hld, AL, hkc, Nat.zero_add]
               exact ⟨rfl, hbr _⟩
             | true =>
               rw [hwk] at hkc hsn
               simp only [go_sem, AD, AA, AC, AB, KB_n, KB_x, Nat.reduceBEq, Nat.reduceAdd, Nat.reduceLT, Nat.reduceLeDiff, Nat.reduceEqDiff, reduceIte, Int.reduceEq, reduceCtorEq, g1, g3, l2, List.length_map, h1, AF, hy2, Ay, Bw, hnm, h2, l3, hk2, hld, AL, hkc, hw1, Nat.zero_add]
               exact ⟨rfl, x - 1, by omega, 0 + 1, by omega, hsn, by first | trivial | rfl⟩
           | succ i =>
             have h2 : ((0 : Int) < ((i + 1 : Nat) : Int)) = True := by simp only [eq_iff_iff, iff_true]; omega
             obtain ⟨z, hz⟩ : ∃ z, n.names[i]? = some z := ⟨_, List.getElem?_eq_getElem (by omega)⟩
             have hz2 : (n.names.map AV.s)[i]? = some (.s z) := by rw [List.getElem?_map, hz]; rfl
             have hsb : IntKind.i64.wrap (((i + 1 : Nat) : Int) - 1) = (i : Int) := by
              rw [show ((i + 1 : Nat) : Int) - 1 = (i : Int) by omega]; exact Bx (by omega)
             rw [Ju hz] at hsn
             have hsn : EW none (n.names.take (i + 1 + 1)) (n.kids.take (i + 1 + 1)) = (ltN z y && D2 k) := by rw [hsn]; simp
             have hle : (ltN y z || beqN y z) = !ltN z y := HT y z
             cases hzy : ltN z y with
             | false =>
               rw [hzy] at hle hsn
               rw [hno hsn]
               simp only [go_sem, AD, AA, AC, AB, KB_n, KB_x, Nat.reduceBEq, Nat.reduceAdd, Nat.reduceLT, Nat.reduceLeDiff, Nat.reduceEqDiff, reduceIte, Int.reduceEq, reduceCtorEq, g1, g3, List.length_map, h1, AF, hy2, Ay, Bw, hnm, h2, l2, hsb, hz2, IA, hle, Nat.zero_add]
               exact hbr _
             | true =>
               rw [hzy] at hle hsn
               cases hwk : D2 k with
               | false =>
                 rw [hwk] at hkc hsn
                 rw [hno hsn]
                 simp only [go_sem, AD, AA, AC, AB, KB_n, KB_x, Nat.reduceBEq, Nat.reduceAdd, Nat.reduceLT, Nat.reduceLeDiff, Nat.reduceEqDiff, reduceIte, Int.reduceEq, reduceCtorEq, g1, g3, List.length_map, h1, AF, hy2, Ay, Bw, hnm, h2, l2, hsb, hz2, IA, hle, l3, hk2, hld, AL, hkc, Nat.zero_add]
                 exact ⟨rfl, hbr _⟩
               | true =>
                 rw [hwk] at hkc hsn
                 simp only [go_sem, AD, AA, AC, AB, KB_n, KB_x, Nat.reduceBEq, Nat.reduceAdd, Nat.reduceLT, Nat.reduceLeDiff, Nat.reduceEqDiff, reduceIte, Int.reduceEq, reduceCtorEq, g1, g3, List.length_map, h1, AF, hy2, Ay, Bw, hnm, h2, l2, hsb, hz2, IA, hle, l3, hk2, hld, AL, hkc, hw1, Nat.zero_add]
                 exact ⟨rfl, x - 1, by omega, i + 1 + 1, by omega, hsn, by first | trivial | rfl⟩
         · have h1 : ((i : Int) < (n.names.length : Int)) = False := by simp only [eq_iff_iff, iff_false]; omega
           rw [List.take_of_length_le (by omega), List.take_of_length_le (by omega)] at hwl
           rw [hwl]
           simp only [go_sem, AD, AA, AC, AB, KB_n, KB_x, Nat.reduceBEq, Nat.reduceAdd, Nat.reduceLT, Nat.reduceLeDiff, Nat.reduceEqDiff, reduceIte, Int.reduceEq, reduceCtorEq, g1, g3, l2, List.length_map, h1, Nat.zero_add]
           exact hbr _
       · have f2 : ((n.names.length : Int) ≠ (n.kids.length : Int)) = True := by simp only [ne_eq, eq_iff_iff, iff_true]; omega
         rw [decide_eq_true d1, decide_eq_false d2]
         simp only [AN, go_sem, AD, AA, AC, AB, KB_n, KB_x, Nat.reduceBEq, Nat.reduceAdd, Nat.reduceLT, Nat.reduceLeDiff, Nat.reduceEqDiff, reduceIte, Int.reduceEq, reduceCtorEq, AP, hq, hm, l0, l1, l2, l3, Nat.zero_add, List.length_map, ht, e1, e2, e3, f1, f2]
         exact hbr _
     · have f1 : (n.text ≠ []) = True := by simp [d1]
       rw [decide_eq_false d1]
       simp only [AN, go_sem, AD, AA, AC, AB, KB_n, KB_x, Nat.reduceBEq, Nat.reduceAdd, Nat.reduceLT, Nat.reduceLeDiff, Nat.reduceEqDiff, reduceIte, Int.reduceEq, reduceCtorEq, AP, hq, hm, l0, l1, l2, l3, Nat.zero_add, List.length_map, ht, e1, e2, e3, f1]
       exact hbr _
   · rw [if_neg c2]
     have e2 : ((n.kind : Int) ≠ 2) = True := by simp only [ne_eq, eq_iff_iff, iff_true]; omega
     simp only [AN, go_sem, AD, AA, AC, AB, KB_n, KB_x, Nat.reduceBEq, Nat.reduceAdd, Nat.reduceLT, Nat.reduceLeDiff, Nat.reduceEqDiff, reduceIte, Int.reduceEq, reduceCtorEq, AP, hq, hm, l0, l1, l2, l3, Nat.zero_add, List.length_map, ht, e1, e2, e3]
     exact hbr _
theorem N4 : ∀ n : ND, n.Ok → nodesN n < 2 ^ 62 → ∀ s, Wf s → (lim prog).call CK [.agg n.cells] s = some (.i .i64 (nodesN n : Nat), s) := by
 refine ND.ind fun n ih ho hb s hw => ?_
 refine fn_W GW rfl rfl ?_
 have H1 := (Hp.begin hw).new (.cells 47 n.cells)
 generalize hq : s.enter.new (.cells 47 n.cells) = q at H1
 generalize hm : s.enter.nb = m at H1
 have l3 := H1.ld 0 (off := 3) (v := .ws false 4 (n.kids.map ND.av)) rfl rfl
 have hN := Eh n
 have hkl := ho.kids.2
 have hz0 : wkZ BK.cin [.agg n.cells] = [.agg n.cells] := by simp [BK, wkZ, wk, ND.cells]
 rw [hz0]
 simp only [BK, go_sem, AD, AA, AC, AB, KB_n, KB_x, Nat.reduceBEq, Nat.reduceAdd, Nat.reduceLT, Nat.reduceLeDiff, Nat.reduceEqDiff, reduceIte, Int.reduceEq, reduceCtorEq, AP, hq, hm]
 refine BF (fun x e q' => ∃ i : Nat, i + x = n.kids.length ∧ q' = q ∧ e.get 1 = .p m 0 ∧ e.get 3 = .i .i64 ((1 + ((n.kids.take i).map nodesN).sum : Nat) : Int) ∧ e.get 4 = .i .i64 (i : Nat)) ?_ n.kids.length _ _ ⟨0, by omega, rfl, by simp only [go_sem, AD, AA, AC, AB, KB_n, KB_x, Nat.reduceBEq, Nat.reduceAdd, Nat.reduceLT, Nat.reduceLeDiff, Nat.reduceEqDiff, reduceIte, Int.reduceEq, reduceCtorEq], by simp only [go_sem, AD, AA, AC, AB, KB_n, KB_x, Nat.reduceBEq, Nat.reduceAdd, Nat.reduceLT, Nat.reduceLeDiff, Nat.reduceEqDiff, reduceIte, Int.reduceEq, reduceCtorEq]; rfl, by simp only [go_sem, AD, AA, AC, AB, KB_n, KB_x, Nat.reduceBEq, Nat.reduceAdd, Nat.reduceLT, Nat.reduceLeDiff, Nat.reduceEqDiff, reduceIte, Int.reduceEq, reduceCtorEq]; rfl⟩
 rintro x e q' ⟨i, hi, rfl, g1, g3, g4⟩
 by_cases h : i < n.kids.length
 · have e1 : ((i : Int) < (n.kids.length : Int)) = True := by simp only [eq_iff_iff, iff_true]; omega
   obtain ⟨k, hk1⟩ : ∃ k, n.kids[i]? = some k := ⟨_, List.getElem?_eq_getElem h⟩
   have hmem : k ∈ n.kids := List.mem_of_getElem? hk1
   have hget := FK hk1
   have hle := E8 (f := nodesN) hmem
   have hts := Ew nodesN hk1
   have htl := EV nodesN n.kids (i + 1)
   have hc := ih k hmem (ho.kids.1 k hmem) (by omega) q' H1.wf
   have hsum : IntKind.i64.wrap (((1 + ((n.kids.take i).map nodesN).sum : Nat) : Int) + ((nodesN k : Nat) : Int)) = ((1 + ((n.kids.take (i + 1)).map nodesN).sum : Nat) : Int) := by
    rw [hts, show ((1 + ((n.kids.take i).map nodesN).sum : Nat) : Int) + ((nodesN k : Nat) : Int) = ((1 + (((n.kids.take i).map nodesN).sum + nodesN k) : Nat) : Int) by omega]
    exact Bx (by omega)
   have hw1 := AR (show i + 1 < 2 ^ 63 by omega)
   have hld : ldA q' true 4 (.ep k.cells 0 .shut) = some (.agg k.cells) := rfl
   simp only [go_sem, AD, AA, AC, AB, KB_n, KB_x, Nat.reduceBEq, Nat.reduceAdd, Nat.reduceLT, Nat.reduceLeDiff, Nat.reduceEqDiff, reduceIte, Int.reduceEq, reduceCtorEq, g1, g3, g4, l3, List.length_map, e1, AF, hget, hld, AL, hc, hsum, hw1, Nat.zero_add]
   exact ⟨x - 1, by omega, i + 1, by omega, rfl, rfl⟩
 · have e1 : ((i : Int) < (n.kids.length : Int)) = False := by simp only [eq_iff_iff, iff_false]; omega
   obtain rfl : i = n.kids.length := by omega
   simp only [go_sem, AD, AA, AC, AB, KB_n, KB_x, Nat.reduceBEq, Nat.reduceAdd, Nat.reduceLT, Nat.reduceLeDiff, Nat.reduceEqDiff, reduceIte, Int.reduceEq, reduceCtorEq, g1, g3, g4, l3, List.length_map, e1, Nat.zero_add]
   refine AM H1.over rfl ?_
   rw [hN, List.take_length]; rfl
theorem Ox : ∀ n : ND, n.Ok → nodesN n < 2 ^ 62 → ∀ s, Wf s → (lim prog).call CZ [.agg n.cells] s = some (.i .i64 (deepN n : Nat), s) := by
 refine ND.ind fun n ih ho hb s hw => ?_
 refine fn_W Gs rfl rfl ?_
 have H1 := (Hp.begin hw).new (.cells 47 n.cells)
 generalize hq : s.enter.new (.cells 47 n.cells) = q at H1
 generalize hm : s.enter.nb = m at H1
 have l3 := H1.ld 0 (off := 3) (v := .ws false 4 (n.kids.map ND.av)) rfl rfl
 have hN := Eh n
 have hkl := ho.kids.2
 have hz0 : wkZ BQ.cin [.agg n.cells] = [.agg n.cells] := by simp [BQ, wkZ, wk, ND.cells]
 rw [hz0]
 simp only [BQ, go_sem, AD, AA, AC, AB, KB_n, KB_x, Nat.reduceBEq, Nat.reduceAdd, Nat.reduceLT, Nat.reduceLeDiff, Nat.reduceEqDiff, reduceIte, Int.reduceEq, reduceCtorEq, AP, hq, hm]
 refine BF (fun x e q' => ∃ i : Nat, i + x = n.kids.length ∧ q' = q ∧ e.get 1 = .p m 0 ∧ e.get 3 = .i .i64 ((((n.kids.take i).map fun k => 1 + deepN k).foldr max 0 : Nat) : Int) ∧ e.get 4 = .i .i64 (i : Nat)) ?_ n.kids.length _ _ ⟨0, by omega, rfl, by simp only [go_sem, AD, AA, AC, AB, KB_n, KB_x, Nat.reduceBEq, Nat.reduceAdd, Nat.reduceLT, Nat.reduceLeDiff, Nat.reduceEqDiff, reduceIte, Int.reduceEq, reduceCtorEq], by simp only [go_sem, AD, AA, AC, AB, KB_n, KB_x, Nat.reduceBEq, Nat.reduceAdd, Nat.reduceLT, Nat.reduceLeDiff, Nat.reduceEqDiff, reduceIte, Int.reduceEq, reduceCtorEq]; rfl, by simp only [go_sem, AD, AA, AC, AB, KB_n, KB_x, Nat.reduceBEq, Nat.reduceAdd, Nat.reduceLT, Nat.reduceLeDiff, Nat.reduceEqDiff, reduceIte, Int.reduceEq, reduceCtorEq]; rfl⟩
 rintro x e q' ⟨i, hi, rfl, g1, g3, g4⟩
 by_cases h : i < n.kids.length
 · have e1 : ((i : Int) < (n.kids.length : Int)) = True := by simp only [eq_iff_iff, iff_true]; omega
   obtain ⟨k, hk1⟩ : ∃ k, n.kids[i]? = some k := ⟨_, List.getElem?_eq_getElem h⟩
   have hmem : k ∈ n.kids := List.mem_of_getElem? hk1
   have hget := FK hk1
   have hle := E8 (f := nodesN) hmem
   have hdn := Lw k
   have hmt := Px (fun k => 1 + deepN k) hk1
   have hc := ih k hmem (ho.kids.1 k hmem) (by omega) q' H1.wf
   have hsum : IntKind.i64.wrap (((deepN k : Nat) : Int) + 1) = ((1 + deepN k : Nat) : Int) := by
    rw [show ((deepN k : Nat) : Int) + 1 = ((1 + deepN k : Nat) : Int) by omega]
    exact Bx (by omega)
   have hmx : (if ((1 + deepN k : Nat) : Int) > ((((n.kids.take i).map fun k => 1 + deepN k).foldr max 0 : Nat) : Int) then ((1 + deepN k : Nat) : Int) else ((((n.kids.take i).map fun k => 1 + deepN k).foldr max 0 : Nat) : Int)) = ((((n.kids.take (i + 1)).map fun k => 1 + deepN k).foldr max 0 : Nat) : Int) := by
    rw [hmt]
    split <;> omega
   have hw1 := AR (show i + 1 < 2 ^ 63 by omega)
   have hld : ldA q' true 4 (.ep k.cells 0 .shut) = some (.agg k.cells) := rfl
   simp only [go_sem, AD, AA, AC, AB, KB_n, KB_x, Nat.reduceBEq, Nat.reduceAdd, Nat.reduceLT, Nat.reduceLeDiff, Nat.reduceEqDiff, reduceIte, Int.reduceEq, reduceCtorEq, g1, g3, g4, l3, List.length_map, e1, AF, hget, hld, AL, hc, hsum, hmx, hw1, Nat.zero_add]
   exact ⟨x - 1, by omega, i + 1, by omega, rfl, rfl⟩
 · have e1 : ((i : Int) < (n.kids.length : Int)) = False := by simp only [eq_iff_iff, iff_false]; omega
   obtain rfl : i = n.kids.length := by omega
   simp only [go_sem, AD, AA, AC, AB, KB_n, KB_x, Nat.reduceBEq, Nat.reduceAdd, Nat.reduceLT, Nat.reduceLeDiff, Nat.reduceEqDiff, reduceIte, Int.reduceEq, reduceCtorEq, g1, g3, g4, l3, List.length_map, e1, Nat.zero_add]
   refine AM H1.over rfl ?_
   rw [Mm, List.take_length]; rfl
theorem L4 (n : ND) (ho : n.Ok) (hb : nodesN n < 2 ^ 62) (s : St) (hw : Wf s) : (lim prog).call Cg [.agg n.cells] s = some (.b (mayN n), s) := by
 refine fn_W HM rfl rfl ?_
 have H1 := (Hp.begin hw).new (.cells 47 n.cells)
 generalize hq : s.enter.new (.cells 47 n.cells) = q at H1
 generalize hm : s.enter.nb = m at H1
 have l0 := H1.ld 0 (off := 0) (v := .i .u8 (n.kind : Nat)) rfl rfl
 have lw := H1.ldw 0 (m := 4) rfl rfl
 have h1 := Ow n ho q H1.wf
 have h2 := N4 n ho hb q H1.wf
 have h3 := Ox n ho hb q H1.wf
 have hbr : ∀ b, KR s [.id] (.b b) (some ([.b b], q)) := fun b => AM H1.over rfl rfl
 have hz0 : wkZ Ao.cin [.agg n.cells] = [.agg n.cells] := by simp [Ao, wkZ, wk, ND.cells]
 rw [hz0]
 unfold mayN
 have e4 : ((deepN n : Int) ≤ 24) = (deepN n ≤ 24) := by simp only [eq_iff_iff]; omega
 by_cases c1 : n.kind = 2
 · have e1 : ((n.kind : Int) = 2) = True := by simp only [eq_iff_iff, iff_true]; omega
   rw [decide_eq_true c1]
   cases c2 : D2 n with
   | false =>
     rw [c2] at h1
     simp only [Ao, go_sem, AD, AA, AC, AB, KB_n, KB_x, Nat.reduceBEq, Nat.reduceAdd, Nat.reduceLT, Nat.reduceLeDiff, Nat.reduceEqDiff, reduceIte, Int.reduceEq, reduceCtorEq, AP, hq, hm, l0, lw, AL, Nat.zero_add, e1, h1]
     exact hbr _
   | true =>
     rw [c2] at h1
     by_cases c3 : nodesN n ≤ 1024
     · have e3 : ((nodesN n : Int) ≤ 1024) = True := by simp only [eq_iff_iff, iff_true]; omega
       rw [decide_eq_true c3]
       simp only [Ao, go_sem, AD, AA, AC, AB, KB_n, KB_x, Nat.reduceBEq, Nat.reduceAdd, Nat.reduceLT, Nat.reduceLeDiff, Nat.reduceEqDiff, reduceIte, Int.reduceEq, reduceCtorEq, AP, hq, hm, l0, lw, AL, Nat.zero_add, e1, h1, h2, h3, e3, e4]
       exact hbr _
     · have e3 : ((nodesN n : Int) ≤ 1024) = False := by simp only [eq_iff_iff, iff_false]; omega
       rw [decide_eq_false c3]
       simp only [Ao, go_sem, AD, AA, AC, AB, KB_n, KB_x, Nat.reduceBEq, Nat.reduceAdd, Nat.reduceLT, Nat.reduceLeDiff, Nat.reduceEqDiff, reduceIte, Int.reduceEq, reduceCtorEq, AP, hq, hm, l0, lw, AL, Nat.zero_add, e1, h1, h2, h3, e3]
       exact hbr _
 · have e1 : ((n.kind : Int) = 2) = False := by simp only [eq_iff_iff, iff_false]; omega
   rw [decide_eq_false c1]
   simp only [Ao, go_sem, AD, AA, AC, AB, KB_n, KB_x, Nat.reduceBEq, Nat.reduceAdd, Nat.reduceLT, Nat.reduceLeDiff, Nat.reduceEqDiff, reduceIte, Int.reduceEq, reduceCtorEq, AP, hq, hm, l0, Nat.zero_add, e1]
   exact hbr _
theorem LF : ∀ n : ND, n.Ok → ∀ s, Wf s → (lim prog).call Br [.agg n.cells, .agg n.cells] s = some (.b true, s) := by
 refine ND.ind fun n ih ho s hw => ?_
 refine fn_W Gp rfl rfl ?_
 have H1 := ((Hp.begin hw).new (.cells 47 n.cells)).new (.cells 47 n.cells)
 rw [UV] at H1
 generalize hq : (s.enter.new (.cells 47 n.cells)).new (.cells 47 n.cells) = q at H1
 generalize hm : s.enter.nb = m at H1
 have a0 := H1.ld 1 (off := 0) (v := .i .u8 (n.kind : Nat)) rfl rfl
 have a1 := H1.ld 1 (off := 1) (v := .s n.text) rfl rfl
 have a2 := H1.ld 1 (off := 2) (v := tx n.names) rfl rfl
 have a3 := H1.ld 1 (off := 3) (v := .ws false 4 (n.kids.map ND.av)) rfl rfl
 have b0 := H1.ld 0 (off := 0) (v := .i .u8 (n.kind : Nat)) rfl rfl
 have b1 := H1.ld 0 (off := 1) (v := .s n.text) rfl rfl
 have b2 := H1.ld 0 (off := 2) (v := tx n.names) rfl rfl
 have b3 := H1.ld 0 (off := 3) (v := .ws false 4 (n.kids.map ND.av)) rfl rfl
 have hz0 : wkZ BP.cin [.agg n.cells, .agg n.cells] = [.agg n.cells, .agg n.cells] := by simp [BP, wkZ, wk, ND.cells]
 have hnl := ho.names.2
 have hkl := ho.kids.2
 rw [hz0]
 have r1 : ((n.kind : Int) ≠ (n.kind : Int)) = False := by simp
 have r2 : (n.text ≠ n.text) = False := by simp
 have r3 : ((n.names.length : Int) ≠ (n.names.length : Int)) = False := by simp
 have r4 : ((n.kids.length : Int) ≠ (n.kids.length : Int)) = False := by simp
 simp only [BP, go_sem, AD, AA, AC, AB, KB_n, KB_x, Nat.reduceBEq, Nat.reduceAdd, Nat.reduceLT, Nat.reduceLeDiff, Nat.reduceEqDiff, reduceIte, Int.reduceEq, reduceCtorEq, AP, hq, hm, a0, a1, a2, a3, b0, b1, b2, b3, Nat.zero_add, List.length_map, r1, r2, r3, r4]
 refine BF (fun x e q' => ∃ i : Nat, i + x = n.names.length ∧ q' = q ∧ e.get 2 = .p m 0 ∧ e.get 3 = .p (m + 1) 0 ∧ e.get 5 = .i .i64 (i : Nat)) ?_ n.names.length _ _ ⟨0, by omega, rfl, by simp only [go_sem, AD, AA, AC, AB, KB_n, KB_x, Nat.reduceBEq, Nat.reduceAdd, Nat.reduceLT, Nat.reduceLeDiff, Nat.reduceEqDiff, reduceIte, Int.reduceEq, reduceCtorEq], by simp only [go_sem, AD, AA, AC, AB, KB_n, KB_x, Nat.reduceBEq, Nat.reduceAdd, Nat.reduceLT, Nat.reduceLeDiff, Nat.reduceEqDiff, reduceIte, Int.reduceEq, reduceCtorEq], by simp only [go_sem, AD, AA, AC, AB, KB_n, KB_x, Nat.reduceBEq, Nat.reduceAdd, Nat.reduceLT, Nat.reduceLeDiff, Nat.reduceEqDiff, reduceIte, Int.reduceEq, reduceCtorEq]; rfl⟩
 rintro x e q' ⟨i, hi, rfl, g2, g3, g5⟩
 by_cases h : i < n.names.length
 · have e1 : ((i : Int) < (n.names.length : Int)) = True := by simp only [eq_iff_iff, iff_true]; omega
   obtain ⟨y, hy⟩ : ∃ y, n.names[i]? = some y := ⟨_, List.getElem?_eq_getElem h⟩
   have hy2 : (n.names.map AV.s)[i]? = some (.s y) := by rw [List.getElem?_map, hy]; rfl
   have hw1 := AR (show i + 1 < 2 ^ 63 by omega)
   have ry : (y ≠ y) = False := by simp
   simp only [go_sem, AD, AA, AC, AB, KB_n, KB_x, Nat.reduceBEq, Nat.reduceAdd, Nat.reduceLT, Nat.reduceLeDiff, Nat.reduceEqDiff, reduceIte, Int.reduceEq, reduceCtorEq, g2, g3, g5, a2, b2, List.length_map, e1, AF, hy2, Ay, Bw, ry, hw1, Nat.zero_add]
   exact ⟨x - 1, by omega, i + 1, by omega, rfl⟩
 · have e1 : ((i : Int) < (n.names.length : Int)) = False := by simp only [eq_iff_iff, iff_false]; omega
   simp only [go_sem, AD, AA, AC, AB, KB_n, KB_x, Nat.reduceBEq, Nat.reduceAdd, Nat.reduceLT, Nat.reduceLeDiff, Nat.reduceEqDiff, reduceIte, Int.reduceEq, reduceCtorEq, g2, g3, g5, a2, List.length_map, e1, Nat.zero_add]
   refine BF (fun x e q'' => ∃ i : Nat, i + x = n.kids.length ∧ q'' = q' ∧ e.get 2 = .p m 0 ∧ e.get 3 = .p (m + 1) 0 ∧ e.get 6 = .i .i64 (i : Nat)) ?_ n.kids.length _ _ ⟨0, by omega, rfl, by simp only [go_sem, AD, AA, AC, AB, KB_n, KB_x, Nat.reduceBEq, Nat.reduceAdd, Nat.reduceLT, Nat.reduceLeDiff, Nat.reduceEqDiff, reduceIte, Int.reduceEq, reduceCtorEq, g2], by simp only [go_sem, AD, AA, AC, AB, KB_n, KB_x, Nat.reduceBEq, Nat.reduceAdd, Nat.reduceLT, Nat.reduceLeDiff, Nat.reduceEqDiff, reduceIte, Int.reduceEq, reduceCtorEq, g3], by simp only [go_sem, AD, AA, AC, AB, KB_n, KB_x, Nat.reduceBEq, Nat.reduceAdd, Nat.reduceLT, Nat.reduceLeDiff, Nat.reduceEqDiff, reduceIte, Int.reduceEq, reduceCtorEq]; rfl⟩
   rintro x e q'' ⟨i, hi, rfl, g2, g3, g6⟩
   by_cases h : i < n.kids.length
   · have e1 : ((i : Int) < (n.kids.length : Int)) = True := by simp only [eq_iff_iff, iff_true]; omega
     obtain ⟨k, hk1⟩ : ∃ k, n.kids[i]? = some k := ⟨_, List.getElem?_eq_getElem h⟩
     have hmem : k ∈ n.kids := List.mem_of_getElem? hk1
     have hget := FK hk1
     have hld : ldA q'' true 4 (.ep k.cells 0 .shut) = some (.agg k.cells) := rfl
     have hc := ih k hmem (ho.kids.1 k hmem) q'' H1.wf
     have hw1 := AR (show i + 1 < 2 ^ 63 by omega)
     have hnt : k.cells.all noTok = true := rfl
     simp only [go_sem, AD, AA, AC, AB, KB_n, KB_x, Nat.reduceBEq, Nat.reduceAdd, Nat.reduceLT, Nat.reduceLeDiff, Nat.reduceEqDiff, reduceIte, Int.reduceEq, reduceCtorEq, g2, g3, g6, a3, b3, List.length_map, e1, AF, hget, hld, hnt, AL, hc, hw1, Nat.zero_add, true_and]
     exact ⟨x - 1, by omega, i + 1, by omega, rfl⟩
   · have e1 : ((i : Int) < (n.kids.length : Int)) = False := by simp only [eq_iff_iff, iff_false]; omega
     simp only [go_sem, AD, AA, AC, AB, KB_n, KB_x, Nat.reduceBEq, Nat.reduceAdd, Nat.reduceLT, Nat.reduceLeDiff, Nat.reduceEqDiff, reduceIte, Int.reduceEq, reduceCtorEq, g2, g3, g6, a3, List.length_map, e1, Nat.zero_add]
     exact AM H1.over rfl rfl
end Go.Proofs.Ytgloinighjdhlaa

/-
  The document's holds, Fails, Holds, At; match.Holds, At.
-/
set_option maxRecDepth 100000
set_option maxHeartbeats 4000000
namespace Go.Proofs.Ytgloinighjdhlaa
open Go.Proofs.Ytgloinighjdhlaa.Am
attribute [local irreducible] W WO WE WQ WD Tr.get Tr.set
theorem T8 {f : FT} (h : f.one = true) (hd : f.isDir = true) : f.rest = 0 ∨ f.rest = 1 ∨ f.rest = 2 := by
 unfold FT.one at h
 rw [if_pos hd] at h
 simp only [Bool.and_eq_true, FT.restB] at h
 by_cases h2 : f.rest = 2
 · exact .inr (.inr h2)
 · rw [if_neg h2] at h
   simp only [Bool.and_eq_true, Bool.or_eq_true, decide_eq_true_eq] at h
   rcases h.2.2.1 with h | h
   · exact .inl h
   · exact .inr (.inl h)
theorem Mk (l : List FT) (ho : FOk l) (hm : mayP l = true) (root : ND) (hr : root.Ok) (hwl : D2 root = true) {i : Nat} {f : FT} (hf : l[i]? = some f) (s : St) (hw : Wf s) :
    (lim prog).call C8 [fx l, .agg root.cells, .i .i64 (i : Nat)] s = some (.b (!Fi l root i), s) := by
 refine fn_W GV rfl rfl ?_
 have hz0 : wkZ AO.cin [fx l, .agg root.cells, .i .i64 (i : Nat)] = [fx l, .agg root.cells, .i .i64 (i : Nat)] := by
  simp only [AO, wkZ, Ek .ws, wk]
  simp [ND.cells, wkZ, wk, fx]
 rw [hz0]
 have hfm := List.mem_of_getElem? hf
 have hfo := ho.ok f hfm
 have hone := Oe hm hfm
 have hnd := L3 hm hf
 have e0 : s.enter.nb = s.nb := rfl
 have H1 := (Hp.begin hw).new (.cells 47 root.cells)
 have e1 : (s.enter.new (.cells 47 root.cells)).nb = s.nb + 1 := rfl
 obtain ⟨q1, hq1⟩ : ∃ q1, s.enter.new (.cells 47 root.cells) = q1 := ⟨_, rfl⟩
 rw [hq1] at e1
 rw [hq1, e0] at H1
 obtain ⟨q2, d2, H2, n2⟩ := H1.adp (T := 60) (m := 6) (z := [.b false, .i .u8 0, .nsl, .nsl, .i .i64 0, .i .i64 0]) (v := .agg f.cells) rfl ⟨rfl, rfl⟩
 have hg := Hz hf
 have ldf := DF f
 have pvf := BA f
 have c6 : f.cells.length = 6 := rfl
 have lkn := H2.ld 0 (off := 0) (v := .b f.known) rfl rfl
 have lkk := H2.ld 0 (off := 1) (v := .i .u8 (f.kind : Nat)) rfl rfl
 cases hkn : f.known with
 | false =>
   rw [hkn] at lkn
   have hfb : Fi l root i = false := by unfold Fi; rw [hf]; simp [hkn]
   rw [hfb]
   simp only [AO, go_sem, AD, AA, AC, AB, KB_n, KB_x, Nat.reduceBEq, Nat.reduceAdd, Nat.reduceLT, Nat.reduceLeDiff, Nat.reduceEqDiff, reduceIte, Int.reduceEq, reduceCtorEq, AP, hq1, e0, fx, AF, hg, ldf, pvf, Ax, d2, lkn, Nat.zero_add]
   exact AM H2.over rfl rfl
 | true =>
   rw [hkn] at lkn
   have lw := H2.ldw (m := 4) 1 rfl rfl
   have hnode := Js l ho root hr hwl (i : Int) q2 H2.wf
   have hxo := Mj hr l (i : Int)
   obtain ⟨x, hx⟩ : ∃ x, D9 (Ev l root (i : Int)) = x := ⟨_, rfl⟩
   have hfb : Fi l root i = (decide (x.kind ≠ f.kind) || (decide (x.kind = 2) && !Cn f x.names)) := by unfold Fi; rw [hf]; simp only [hkn, Bool.true_and, hx]
   rw [hx] at hnode hxo
   obtain ⟨q3, d3, H3, n3⟩ := H2.adp (T := 47) (m := 4) (z := [.i .u8 0, .s [], .nsl, .nsl]) (v := .agg x.cells) rfl ⟨AP x, FL x⟩
   have x0 := H3.ld 0 (off := 0) (v := .i .u8 (x.kind : Nat)) rfl rfl
   have x2 := H3.ld 0 (off := 2) (v := tx x.names) rfl rfl
   have f1 := H3.ld 1 (off := 1) (v := .i .u8 (f.kind : Nat)) rfl rfl
   have f2 := H3.ld 1 (off := 2) (v := tx f.names) rfl rfl
   have f4 := H3.ld 1 (off := 4) (v := .i .i64 f.rest) rfl rfl
   have f5 := H3.ld 1 (off := 5) (v := .i .i64 f.beside) rfl rfl
   have fw := H3.ldw (m := 6) 1 rfl rfl
   simp only [Ax] at fw
   have hall6 : f.cells.all noTok = true := rfl
   have hnk := D1 hone
   simp only [fx] at hnode
   by_cases hk : x.kind = f.kind
   · have e2 : ((x.kind : Int) ≠ (f.kind : Int)) = False := by simp [hk]
     by_cases hk2 : f.kind = 2
     · have e3 : ((f.kind : Int) ≠ 2) = False := by simp [hk2]
       have hdir : f.isDir = true := by simp [FT.isDir, hkn, hk2]
       by_cases r0 : f.rest = 0
       · have e4 : (f.rest = 0) = True := by simp [r0]
         have hep : Cn f x.names = true := by unfold Cn; rw [if_neg (by omega), if_neg (by omega)]
         have hfb : Fi l root i = false := by rw [hfb]; simp [hk, hep]
         rw [hfb]
         simp only [AO, go_sem, AD, AA, AC, AB, KB_n, KB_x, Nat.reduceBEq, Nat.reduceAdd, Nat.reduceLT, Nat.reduceLeDiff, Nat.reduceEqDiff, reduceIte, Int.reduceEq, reduceCtorEq, AP, hq1, e0, fx, AF, hg, ldf, pvf, Ax, d2, lkn, lw, AL, hnode, d3, x0, f1, f4, e2, e3, e4, Nat.zero_add]
         exact AM H3.over rfl rfl
       · have e4 : (f.rest = 0) = False := by simp [r0]
         have key : ∀ (m : Nat) (e : Tr), Fi l root i = !((x.names.any fun y => !C4 f m y) == decide (f.rest = 2)) → e.get 7 = .p q1.nb 0 → e.get 8 = .p q2.nb 0 → e.get 10 = .i .i64 (m : Nat) → e.get 11 = .b false → e.get 12 = .i .i64 0 →
             W (lim prog) (subC AO.body [1, 1, 1, 1, 1, 1, 1, 1, 1, 0, 1, 0]) e q3 (KB 0 (KS (lim prog) (subC AO.body [1, 1, 1, 1, 1, 1, 1, 1, 1, 1]) (KF s AO.res AO.cout (.b (!Fi l root i))))) := by
          intro m e hfbm g7 g8 g10 g11 g12
          simp only [AO, subC]
          refine BF (fun y e q => ∃ c : Nat, c + y = x.names.length ∧ q = q3 ∧ e.get 7 = .p q1.nb 0 ∧ e.get 8 = .p q2.nb 0 ∧ e.get 10 = .i .i64 (m : Nat) ∧ e.get 11 = .b ((x.names.take c).any fun y => !C4 f m y) ∧ e.get 12 = .i .i64 (c : Nat)) ?_ x.names.length _ _ ⟨0, by omega, rfl, g7, g8, g10, by simpa using g11, by simpa using g12⟩
          rintro y e q ⟨c, hcy, rfl, g7, g8, g10, g11, g12⟩
          by_cases hc : c < x.names.length
          · have c1 : ((c : Int) < (x.names.length : Int)) = True := by simp only [eq_iff_iff, iff_true]; omega
            obtain ⟨nm, hnm⟩ : ∃ nm, x.names[c]? = some nm := ⟨_, List.getElem?_eq_getElem hc⟩
            have hnm2 : (x.names.map AV.s)[c]? = some (.s nm) := by rw [List.getElem?_map, hnm]; rfl
            have ham := T7 f hfo hone hnd m nm q H3.wf
            have hw1 := AR (show c + 1 < 2 ^ 63 by have := hxo.names.2; omega)
            have htk : ((x.names.take (c + 1)).any fun y => !C4 f m y) = (((x.names.take c).any fun y => !C4 f m y) || !C4 f m nm) := by
             rw [I7 hnm, List.any_append]; simp
            cases hsf : (x.names.take c).any fun y => !C4 f m y with
            | true =>
              rw [hsf] at g11 htk
              simp only [go_sem, AD, AA, AC, AB, KB_n, KB_x, Nat.reduceBEq, Nat.reduceAdd, Nat.reduceLT, Nat.reduceLeDiff, Nat.reduceEqDiff, reduceIte, Int.reduceEq, reduceCtorEq, g7, g8, g10, g11, g12, Nat.zero_add, tx, x2, List.length_map, c1, hw1]
              exact ⟨y - 1, by omega, c + 1, by omega, by rw [htk]; rfl, rfl⟩
            | false =>
              rw [hsf] at g11 htk
              simp only [go_sem, AD, AA, AC, AB, KB_n, KB_x, Nat.reduceBEq, Nat.reduceAdd, Nat.reduceLT, Nat.reduceLeDiff, Nat.reduceEqDiff, reduceIte, Int.reduceEq, reduceCtorEq, g7, g8, g10, g11, g12, Nat.zero_add, tx, x2, List.length_map, c1, fw, hall6, pvf, AF, hnm2, Ay, Bw, ham, hw1]
              exact ⟨y - 1, by omega, c + 1, by omega, by rw [htk]; simp, rfl⟩
          · have c1 : ((c : Int) < (x.names.length : Int)) = False := by simp only [eq_iff_iff, iff_false]; omega
            rw [List.take_of_length_le (by omega)] at g11
            simp only [go_sem, AD, AA, AC, AB, KB_n, KB_x, Nat.reduceBEq, Nat.reduceAdd, Nat.reduceLT, Nat.reduceLeDiff, Nat.reduceEqDiff, reduceIte, Int.reduceEq, reduceCtorEq, g7, g8, g11, g12, Nat.zero_add, tx, x2, List.length_map, c1, f4]
            rw [hfbm, Bool.not_not]
            exact AM H3.over rfl (by simp [CA, wkZ, wk])
         have hr12 := T8 hone hdir
         by_cases r2 : f.rest = 2
         · have e5 : (f.rest = 2) = True := by simp [r2]
           have hbb := Lo hone r2
           obtain ⟨m, hmm⟩ : ∃ m : Nat, f.beside = (m : Int) := ⟨f.beside.toNat, by omega⟩
           rw [hmm] at f5
           simp only [AO, go_sem, AD, AA, AC, AB, KB_n, KB_x, Nat.reduceBEq, Nat.reduceAdd, Nat.reduceLT, Nat.reduceLeDiff, Nat.reduceEqDiff, reduceIte, Int.reduceEq, reduceCtorEq, AP, hq1, e0, fx, AF, hg, ldf, pvf, Ax, d2, lkn, lw, AL, hnode, d3, x0, f1, f2, f4, f5, e2, e3, e4, e5, Nat.zero_add, tx]
           refine key m _ ?_ ?_ ?_ ?_ ?_ ?_
           · rw [hfb]
             have : Cn f x.names = (x.names.any fun y => !C4 f m y) := by unfold Cn; rw [if_neg (by omega), if_pos r2, hmm, Int.toNat_natCast]
             rw [this]
             simp [hk, hk2, r2]
           all_goals simp only [go_sem, AD, AA, AC, AB, KB_n, KB_x, Nat.reduceBEq, Nat.reduceAdd, Nat.reduceLT, Nat.reduceLeDiff, Nat.reduceEqDiff, reduceIte, Int.reduceEq, reduceCtorEq]
         · have e5 : (f.rest = 2) = False := by simp [r2]
           have r1 : f.rest = 1 := by omega
           simp only [AO, go_sem, AD, AA, AC, AB, KB_n, KB_x, Nat.reduceBEq, Nat.reduceAdd, Nat.reduceLT, Nat.reduceLeDiff, Nat.reduceEqDiff, reduceIte, Int.reduceEq, reduceCtorEq, AP, hq1, e0, fx, AF, hg, ldf, pvf, Ax, d2, lkn, lw, AL, hnode, d3, x0, f1, f2, f4, e2, e3, e4, e5, Nat.zero_add, tx, List.length_map]
           refine key f.names.length _ ?_ ?_ ?_ ?_ ?_ ?_
           · rw [hfb]
             have : Cn f x.names = !(x.names.any fun y => !C4 f f.names.length y) := by unfold Cn; rw [if_pos r1]
             rw [this]
             simp [hk, hk2, r1]
           all_goals simp only [go_sem, AD, AA, AC, AB, KB_n, KB_x, Nat.reduceBEq, Nat.reduceAdd, Nat.reduceLT, Nat.reduceLeDiff, Nat.reduceEqDiff, reduceIte, Int.reduceEq, reduceCtorEq]
     · have e3 : ((f.kind : Int) ≠ 2) = True := by simp only [ne_eq, eq_iff_iff, iff_true]; omega
       have hfb : Fi l root i = false := by rw [hfb]; simp [hk, hk2]
       rw [hfb]
       simp only [AO, go_sem, AD, AA, AC, AB, KB_n, KB_x, Nat.reduceBEq, Nat.reduceAdd, Nat.reduceLT, Nat.reduceLeDiff, Nat.reduceEqDiff, reduceIte, Int.reduceEq, reduceCtorEq, AP, hq1, e0, fx, AF, hg, ldf, pvf, Ax, d2, lkn, lw, AL, hnode, d3, x0, f1, e2, e3, Nat.zero_add]
       exact AM H3.over rfl rfl
   · have e2 : ((x.kind : Int) ≠ (f.kind : Int)) = True := by simp only [ne_eq, eq_iff_iff, iff_true]; omega
     have hfb : Fi l root i = true := by rw [hfb]; simp [hk]
     rw [hfb]
     simp only [AO, go_sem, AD, AA, AC, AB, KB_n, KB_x, Nat.reduceBEq, Nat.reduceAdd, Nat.reduceLT, Nat.reduceLeDiff, Nat.reduceEqDiff, reduceIte, Int.reduceEq, reduceCtorEq, AP, hq1, e0, fx, AF, hg, ldf, pvf, Ax, d2, lkn, lw, AL, hnode, d3, x0, f1, e2, Nat.zero_add]
     exact AM H3.over rfl rfl
end Go.Proofs.Ytgloinighjdhlaa

/-
  The document's Fails, Holds, At; match.Holds, At.
-/
set_option maxRecDepth 100000
set_option maxHeartbeats 4000000
namespace Go.Proofs.Ytgloinighjdhlaa
open Go.Proofs.Ytgloinighjdhlaa.Am
attribute [local irreducible] W WO WE WQ WD Tr.get Tr.set
theorem wkFN (l : List FT) (root : ND) : wkZ [(.sl 6 (.agg [.id, .id, (.sl 1 .id), (.sl 1 .id), .id, .id])), ctN] [fx l, .agg root.cells] = [fx l, .agg root.cells] := by
 simp only [wkZ, Ek .ws, wk]
 simp [ND.cells, wkZ, wk, fx]
theorem I8 (l : List FT) (ho : FOk l) (root : ND) (hr : root.Ok) (hb : nodesN root < 2 ^ 62) (s : St) (hw : Wf s) :
    (lim prog).call CJ [fx l, .agg root.cells] s = some (.tup [.i .i64 (CD l root).1, .i .i64 (CD l root).2], s) := by
 refine fn_W GS rfl rfl ?_
 have hz0 : wkZ A5.cin [fx l, .agg root.cells] = [fx l, .agg root.cells] := wkFN l root
 rw [hz0]
 have e0 : s.enter.nb = s.nb := rfl
 have H1 := (Hp.begin hw).new (.cells 47 root.cells)
 obtain ⟨q1, hq1⟩ : ∃ q1, s.enter.new (.cells 47 root.cells) = q1 := ⟨_, rfl⟩
 rw [hq1, e0] at H1
 have lw := H1.ldw (m := 4) 0 rfl rfl
 have hmay := IR l ho.ok ho.len ho.fl q1 H1.wf
 have hmn := L4 root hr hb q1 H1.wf
 unfold fx at hmay
 cases hm : mayP l with
 | false =>
   rw [hm] at hmay
   simp only [A5, go_sem, AD, AA, AC, AB, KB_n, KB_x, Nat.reduceBEq, Nat.reduceAdd, Nat.reduceLT, Nat.reduceLeDiff, Nat.reduceEqDiff, reduceIte, Int.reduceEq, reduceCtorEq, AP, hq1, e0, fx, hmay]
   unfold CD
   rw [hm, if_neg (by simp)]
   exact Nt H1.over 0 4
 | true =>
   rw [hm] at hmay
   cases hn : mayN root with
   | false =>
     rw [hn] at hmn
     simp only [A5, go_sem, AD, AA, AC, AB, KB_n, KB_x, Nat.reduceBEq, Nat.reduceAdd, Nat.reduceLT, Nat.reduceLeDiff, Nat.reduceEqDiff, reduceIte, Int.reduceEq, reduceCtorEq, AP, hq1, e0, fx, hmay, lw, AL, hmn]
     unfold CD
     rw [hn, if_neg (by simp)]
     exact Nt H1.over 0 4
   | true =>
     rw [hn] at hmn
     have hwl := I6 hn
     simp only [A5, go_sem, AD, AA, AC, AB, KB_n, KB_x, Nat.reduceBEq, Nat.reduceAdd, Nat.reduceLT, Nat.reduceLeDiff, Nat.reduceEqDiff, reduceIte, Int.reduceEq, reduceCtorEq, AP, hq1, e0, fx, hmay, lw, AL, hmn]
     refine BF (fun x e q => ∃ i : Nat, i + x = l.length ∧ q = q1 ∧ (∀ j, j < i → Fi l root j = false) ∧ e.get 0 = fx l ∧ e.get 3 = .p s.nb 0 ∧ e.get 6 = .i .i64 (i : Nat)) ?_ l.length _ _ ?_
     · rintro x e q ⟨i, hix, rfl, hno, g0, g3, g6⟩
       by_cases h : i < l.length
       · have h1 : ((i : Int) < (l.length : Int)) = True := by simp only [eq_iff_iff, iff_true]; omega
         obtain ⟨f, hf⟩ : ∃ f, l[i]? = some f := ⟨_, List.getElem?_eq_getElem h⟩
         have hh := Mk l ho hm root hr hwl hf q H1.wf
         simp only [fx] at hh
         have hw1 := AR (show i + 1 < 2 ^ 63 by have := ho.len; omega)
         cases hfb : Fi l root i with
         | true =>
           rw [hfb] at hh
           have hfp : CD l root = ((i : Int), 0) := by
            unfold CD
            rw [hm, hn]
            simp only [Bool.and_self, if_true, Lp h hfb hno]
           rw [hfp]
           simp only [go_sem, AD, AA, AC, AB, KB_n, KB_x, Nat.reduceBEq, Nat.reduceAdd, Nat.reduceLT, Nat.reduceLeDiff, Nat.reduceEqDiff, reduceIte, Int.reduceEq, reduceCtorEq, g0, g3, g6, fx, List.length_map, h1, lw, AL, hh]
           exact Nt H1.over _ 0
         | false =>
           rw [hfb] at hh
           simp only [go_sem, AD, AA, AC, AB, KB_n, KB_x, Nat.reduceBEq, Nat.reduceAdd, Nat.reduceLT, Nat.reduceLeDiff, Nat.reduceEqDiff, reduceIte, Int.reduceEq, reduceCtorEq, g0, g3, g6, fx, List.length_map, h1, lw, AL, hh, hw1]
           refine ⟨x - 1, by omega, i + 1, by omega, fun j hj => ?_, rfl⟩
           by_cases hji : j < i
           · exact hno j hji
           · obtain rfl : j = i := by omega
             exact hfb
       · have h1 : ((i : Int) < (l.length : Int)) = False := by simp only [eq_iff_iff, iff_false]; omega
         have hfp : CD l root = (-1, 0) := by
          unfold CD
          rw [hm, hn]
          simp only [Bool.and_self, if_true, HS fun j (hj : j < l.length) => hno j (by omega)]
         rw [hfp]
         simp only [go_sem, AD, AA, AC, AB, KB_n, KB_x, Nat.reduceBEq, Nat.reduceAdd, Nat.reduceLT, Nat.reduceLeDiff, Nat.reduceEqDiff, reduceIte, Int.reduceEq, reduceCtorEq, g0, g6, fx, List.length_map, h1]
         exact Nt H1.over (-1) 0
     · simp only [go_sem, AD, AA, AC, AB, KB_n, KB_x, Nat.reduceBEq, Nat.reduceAdd, Nat.reduceLT, Nat.reduceLeDiff, Nat.reduceEqDiff, reduceIte, Int.reduceEq, reduceCtorEq]
       exact ⟨0, by omega, fun j hj => by omega, rfl, rfl⟩
def Pw (l : List FT) (root : ND) : Bool := decide ((CD l root).2 = 0) && decide ((CD l root).1 < 0)
theorem Qe (l : List FT) (root : ND) : ((CD l root).1 < 0) = ((CD l root).1 = -1) := by
 unfold CD
 split
 · split
   · simp only [eq_iff_iff]; constructor <;> intro h <;> omega
   · simp
 · simp
theorem holds_ok (l : List FT) (ho : FOk l) (root : ND) (hr : root.Ok) (hb : nodesN root < 2 ^ 62) (s : St) (hw : Wf s) :
    (lim prog).call GM [fx l, .agg root.cells] s = some (.b (Pw l root), s) := by
 refine fn_W MZ rfl rfl ?_
 have hz0 : wkZ Da.cin [fx l, .agg root.cells] = [fx l, .agg root.cells] := wkFN l root
 rw [hz0]
 have e0 : s.enter.nb = s.nb := rfl
 have H1 := (Hp.begin hw).new (.cells 47 root.cells)
 obtain ⟨q1, hq1⟩ : ∃ q1, s.enter.new (.cells 47 root.cells) = q1 := ⟨_, rfl⟩
 rw [hq1, e0] at H1
 have lw := H1.ldw (m := 4) 0 rfl rfl
 have hf := Pv l ho root hr hb q1 H1.wf
 unfold fx at hf
 unfold Pw
 by_cases hz : (CD l root).2 = 0
 · have e1 : ((CD l root).2 = 0) = True := by simp [hz]
   simp only [Da, go_sem, AD, AA, AC, AB, KB_n, KB_x, Nat.reduceBEq, Nat.reduceAdd, Nat.reduceLT, Nat.reduceLeDiff, Nat.reduceEqDiff, reduceIte, Int.reduceEq, reduceCtorEq, AP, hq1, e0, fx, lw, AL, hf, e1]
   exact AM H1.over rfl (by simp [CA, wkZ, wk])
 · have e1 : ((CD l root).2 = 0) = False := by simp [hz]
   simp only [Da, go_sem, AD, AA, AC, AB, KB_n, KB_x, Nat.reduceBEq, Nat.reduceAdd, Nat.reduceLT, Nat.reduceLeDiff, Nat.reduceEqDiff, reduceIte, Int.reduceEq, reduceCtorEq, AP, hq1, e0, fx, lw, AL, hf, e1]
   exact AM H1.over rfl (by simp [CA, wkZ, wk])
theorem LQ (l : List FT) (ho : FOk l) (root : ND) (hr : root.Ok) (hb : nodesN root < 2 ^ 62) (s : St) (hw : Wf s) :
    (lim prog).call C7 [fx l, .agg root.cells] s = some (.b (Pw l root), s) := by
 refine fn_W GU rfl rfl ?_
 have hz0 : wkZ BJ.cin [fx l, .agg root.cells] = [fx l, .agg root.cells] := wkFN l root
 rw [hz0]
 have e0 : s.enter.nb = s.nb := rfl
 have H1 := (Hp.begin hw).new (.cells 47 root.cells)
 obtain ⟨q1, hq1⟩ : ∃ q1, s.enter.new (.cells 47 root.cells) = q1 := ⟨_, rfl⟩
 rw [hq1, e0] at H1
 have lw := H1.ldw (m := 4) 0 rfl rfl
 have hf := I8 l ho root hr hb q1 H1.wf
 unfold fx at hf
 unfold Pw
 by_cases hz : (CD l root).2 = 0
 · have e1 : ((CD l root).2 = 0) = True := by simp [hz]
   simp only [BJ, go_sem, AD, AA, AC, AB, KB_n, KB_x, Nat.reduceBEq, Nat.reduceAdd, Nat.reduceLT, Nat.reduceLeDiff, Nat.reduceEqDiff, reduceIte, Int.reduceEq, reduceCtorEq, AP, hq1, e0, fx, lw, AL, hf, e1, Qe]
   exact AM H1.over rfl (by simp [CA, wkZ, wk])
 · have e1 : ((CD l root).2 = 0) = False := by simp [hz]
   simp only [BJ, go_sem, AD, AA, AC, AB, KB_n, KB_x, Nat.reduceBEq, Nat.reduceAdd, Nat.reduceLT, Nat.reduceLeDiff, Nat.reduceEqDiff, reduceIte, Int.reduceEq, reduceCtorEq, AP, hq1, e0, fx, lw, AL, hf, e1]
   exact AM H1.over rfl (by simp [CA, wkZ, wk])
def atP (l : List FT) (root : ND) (n : Int) : ND × Int :=
 if mayP l && mayN root then (if 0 ≤ n ∧ n < (l.length : Int) then (match Ev l root n with | some x => (x, 0) | none => (noN, 5)) else (noN, 1)) else (noN, 4)
theorem KR_Ni {s q : St} (ov : Over s q) (x : ND) (b : Int) : KR s [ctN, .id] (.tup [.agg x.cells, .i .i64 b]) (some ([.agg x.cells, .i .i64 b], q)) := by
 refine AM ov ?_ ?_
 · have := Mn x
   rw [ND.av_eq] at this
   simp only [CA, AV.refs, AV.refs.go, this]
   simp only [AV.refs] at this
   rw [this]; rfl
 · rfl
theorem LR {s q : St} (ov : Over s q) (b : Int) : KR s [ctN, .id] (.tup [.agg noN.cells, .i .i64 b]) (some ([.agg [.i .u8 0, .s [], .nsl, .nsl], .i .i64 b], q)) := AM ov rfl rfl
theorem Lr (l : List FT) (ho : FOk l) (root : ND) (hr : root.Ok) (hb : nodesN root < 2 ^ 62) (n : Int) (s : St) (hw : Wf s) :
    (lim prog).call Hk [fx l, .agg root.cells, .i .i64 n] s = some (.tup [.agg (atP l root n).1.cells, .i .i64 (atP l root n).2], s) := by
 refine fn_W QP rfl rfl ?_
 have hz0 : wkZ C1.cin [fx l, .agg root.cells, .i .i64 n] = [fx l, .agg root.cells, .i .i64 n] := by
  simp only [C1, wkZ, Ek .ws, wk]
  simp [ND.cells, wkZ, wk, fx]
 rw [hz0]
 have e0 : s.enter.nb = s.nb := rfl
 have H1 := ((Hp.begin hw).new (.cells 47 root.cells)).new (.cells 47 [.i .u8 0, .s [], .nsl, .nsl])
 have e1 : (s.enter.new (.cells 47 root.cells)).nb = s.nb + 1 := rfl
 obtain ⟨q1, hq1⟩ : ∃ q1, (s.enter.new (.cells 47 root.cells)).new (.cells 47 [.i .u8 0, .s [], .nsl, .nsl]) = q1 := ⟨_, rfl⟩
 rw [hq1, e1, e0] at H1
 have lw := H1.ldw (m := 4) 1 rfl rfl
 obtain ⟨q3, d3, H3, n3, _⟩ := H1.stw 0 (m := 4) (v := .agg [.i .u8 0, .s [], .nsl, .nsl]) rfl rfl ⟨rfl, rfl⟩
 have lr3 := H3.ldw (m := 4) 0 rfl rfl
 simp only [Ax] at lr3
 have hmay := SC l ho.ok ho.len ho.fl q1 H1.wf
 have hmn := ST root hr hb q1 H1.wf
 unfold fx at hmay
 unfold atP
 cases hm : mayP l with
 | false =>
   rw [hm] at hmay
   simp only [C1, go_sem, AD, AA, AC, AB, KB_n, KB_x, Nat.reduceBEq, Nat.reduceAdd, Nat.reduceLT, Nat.reduceLeDiff, Nat.reduceEqDiff, reduceIte, Int.reduceEq, reduceCtorEq, AP, hq1, e1, e0, fx, hmay, Bo, d3, lr3]
   exact LR H3.over 4
 | true =>
   rw [hm] at hmay
   cases hn : mayN root with
   | false =>
     rw [hn] at hmn
     simp only [C1, go_sem, AD, AA, AC, AB, KB_n, KB_x, Nat.reduceBEq, Nat.reduceAdd, Nat.reduceLT, Nat.reduceLeDiff, Nat.reduceEqDiff, reduceIte, Int.reduceEq, reduceCtorEq, AP, hq1, e1, e0, fx, hmay, lw, AL, hmn, Bo, d3, lr3]
     exact LR H3.over 4
   | true =>
     rw [hn] at hmn
     have hwl := I6 hn
     rw [Bool.and_self, if_pos rfl]
     by_cases hrg : 0 ≤ n ∧ n < (l.length : Int)
     · rw [if_pos hrg]
       have r1 : (n < 0) = False := by simp only [eq_iff_iff, iff_false]; omega
       have r2 : ((l.length : Int) ≤ n) = False := by simp only [eq_iff_iff, iff_false]; omega
       have hnode := SO l ho root hr hwl n q1 H1.wf
       cases hnp : Ev l root n with
       | none =>
         rw [hnp] at hnode
         obtain ⟨q2, d2, H2, n2⟩ := H1.adp (T := 47) (m := 4) (z := [.i .u8 0, .s [], .nsl, .nsl]) (v := .agg noN.cells) rfl ⟨AP noN, FL noN⟩
         obtain ⟨q4, d4, H4, n4, _⟩ := H2.stw 1 (m := 4) (v := .agg [.i .u8 0, .s [], .nsl, .nsl]) rfl rfl ⟨rfl, rfl⟩
         have lr4 := H4.ldw (m := 4) 1 rfl rfl
         simp only [Ax] at lr4
         simp only [fx, D9, Option.getD_none, Option.isSome_none] at hnode
         simp only [C1, go_sem, AD, AA, AC, AB, KB_n, KB_x, Nat.reduceBEq, Nat.reduceAdd, Nat.reduceLT, Nat.reduceLeDiff, Nat.reduceEqDiff, reduceIte, Int.reduceEq, reduceCtorEq, AP, hq1, e1, e0, fx, hmay, lw, AL, hmn, r1, r2, List.length_map, hnode, d2, Bo, d4, lr4]
         exact LR H4.over 5
       | some x =>
         rw [hnp] at hnode
         obtain ⟨q2, d2, H2, n2⟩ := H1.adp (T := 47) (m := 4) (z := [.i .u8 0, .s [], .nsl, .nsl]) (v := .agg x.cells) rfl ⟨AP x, FL x⟩
         have lx := H2.ldw (m := 4) 0 rfl rfl
         obtain ⟨q4, d4, H4, n4, _⟩ := H2.stw 1 (m := 4) (v := .agg x.cells) rfl rfl ⟨AP x, FL x⟩
         have lr4 := H4.ldw (m := 4) 1 rfl rfl
         simp only [Ax] at lr4 lx
         simp only [fx, D9, Option.getD_some, Option.isSome_some] at hnode
         simp only [C1, go_sem, AD, AA, AC, AB, KB_n, KB_x, Nat.reduceBEq, Nat.reduceAdd, Nat.reduceLT, Nat.reduceLeDiff, Nat.reduceEqDiff, reduceIte, Int.reduceEq, reduceCtorEq, AP, hq1, e1, e0, fx, hmay, lw, AL, hmn, r1, r2, List.length_map, hnode, d2, lx, d4, lr4, FM]
         exact KR_Ni H4.over x 0
     · rw [if_neg hrg]
       by_cases r1 : n < 0
       · have r1' : (n < 0) = True := by simp [r1]
         simp only [C1, go_sem, AD, AA, AC, AB, KB_n, KB_x, Nat.reduceBEq, Nat.reduceAdd, Nat.reduceLT, Nat.reduceLeDiff, Nat.reduceEqDiff, reduceIte, Int.reduceEq, reduceCtorEq, AP, hq1, e1, e0, fx, hmay, lw, AL, hmn, r1', Bo, d3, lr3]
         exact LR H3.over 1
       · have r1' : (n < 0) = False := by simp [r1]
         have r2' : ((l.length : Int) ≤ n) = True := by simp only [eq_iff_iff, iff_true]; omega
         simp only [C1, go_sem, AD, AA, AC, AB, KB_n, KB_x, Nat.reduceBEq, Nat.reduceAdd, Nat.reduceLT, Nat.reduceLeDiff, Nat.reduceEqDiff, reduceIte, Int.reduceEq, reduceCtorEq, AP, hq1, e1, e0, fx, hmay, lw, AL, hmn, r1', r2', List.length_map, Bo, d3, lr3]
         exact LR H3.over 1
theorem Ls (l : List FT) (ho : FOk l) (root : ND) (hr : root.Ok) (hb : nodesN root < 2 ^ 62) (n : Int) (s : St) (hw : Wf s) :
    (lim prog).call Cr [fx l, .agg root.cells, .i .i64 n] s = some (.tup [.agg (atP l root n).1.cells, .i .i64 (atP l root n).2], s) := by
 refine fn_W Hq rfl rfl ?_
 have hz0 : wkZ Ag.cin [fx l, .agg root.cells, .i .i64 n] = [fx l, .agg root.cells, .i .i64 n] := by
  simp only [Ag, wkZ, Ek .ws, wk]
  simp [ND.cells, wkZ, wk, fx]
 rw [hz0]
 have e0 : s.enter.nb = s.nb := rfl
 have H1 := ((Hp.begin hw).new (.cells 47 root.cells)).new (.cells 47 [.i .u8 0, .s [], .nsl, .nsl])
 have e1 : (s.enter.new (.cells 47 root.cells)).nb = s.nb + 1 := rfl
 obtain ⟨q1, hq1⟩ : ∃ q1, (s.enter.new (.cells 47 root.cells)).new (.cells 47 [.i .u8 0, .s [], .nsl, .nsl]) = q1 := ⟨_, rfl⟩
 rw [hq1, e1, e0] at H1
 have lw := H1.ldw (m := 4) 1 rfl rfl
 obtain ⟨q3, d3, H3, n3, _⟩ := H1.stw 0 (m := 4) (v := .agg [.i .u8 0, .s [], .nsl, .nsl]) rfl rfl ⟨rfl, rfl⟩
 have lr3 := H3.ldw (m := 4) 0 rfl rfl
 simp only [Ax] at lr3
 have hmay := IR l ho.ok ho.len ho.fl q1 H1.wf
 have hmn := L4 root hr hb q1 H1.wf
 unfold fx at hmay
 unfold atP
 cases hm : mayP l with
 | false =>
   rw [hm] at hmay
   simp only [Ag, go_sem, AD, AA, AC, AB, KB_n, KB_x, Nat.reduceBEq, Nat.reduceAdd, Nat.reduceLT, Nat.reduceLeDiff, Nat.reduceEqDiff, reduceIte, Int.reduceEq, reduceCtorEq, AP, hq1, e1, e0, fx, hmay, Bo, d3, lr3]
   exact LR H3.over 4
 | true =>
   rw [hm] at hmay
   cases hn : mayN root with
   | false =>
     rw [hn] at hmn
     simp only [Ag, go_sem, AD, AA, AC, AB, KB_n, KB_x, Nat.reduceBEq, Nat.reduceAdd, Nat.reduceLT, Nat.reduceLeDiff, Nat.reduceEqDiff, reduceIte, Int.reduceEq, reduceCtorEq, AP, hq1, e1, e0, fx, hmay, lw, AL, hmn, Bo, d3, lr3]
     exact LR H3.over 4
   | true =>
     rw [hn] at hmn
     have hwl := I6 hn
     rw [Bool.and_self, if_pos rfl]
     by_cases hrg : 0 ≤ n ∧ n < (l.length : Int)
     · rw [if_pos hrg]
       have r1 : (n < 0) = False := by simp only [eq_iff_iff, iff_false]; omega
       have r2 : ((l.length : Int) ≤ n) = False := by simp only [eq_iff_iff, iff_false]; omega
       have hnode := Js l ho root hr hwl n q1 H1.wf
       cases hnp : Ev l root n with
       | none =>
         rw [hnp] at hnode
         obtain ⟨q2, d2, H2, n2⟩ := H1.adp (T := 47) (m := 4) (z := [.i .u8 0, .s [], .nsl, .nsl]) (v := .agg noN.cells) rfl ⟨AP noN, FL noN⟩
         obtain ⟨q4, d4, H4, n4, _⟩ := H2.stw 1 (m := 4) (v := .agg [.i .u8 0, .s [], .nsl, .nsl]) rfl rfl ⟨rfl, rfl⟩
         have lr4 := H4.ldw (m := 4) 1 rfl rfl
         simp only [Ax] at lr4
         simp only [fx, D9, Option.getD_none, Option.isSome_none] at hnode
         simp only [Ag, go_sem, AD, AA, AC, AB, KB_n, KB_x, Nat.reduceBEq, Nat.reduceAdd, Nat.reduceLT, Nat.reduceLeDiff, Nat.reduceEqDiff, reduceIte, Int.reduceEq, reduceCtorEq, AP, hq1, e1, e0, fx, hmay, lw, AL, hmn, r1, r2, List.length_map, hnode, d2, Bo, d4, lr4]
         exact LR H4.over 5
       | some x =>
         rw [hnp] at hnode
         obtain ⟨q2, d2, H2, n2⟩ := H1.adp (T := 47) (m := 4) (z := [.i .u8 0, .s [], .nsl, .nsl]) (v := .agg x.cells) rfl ⟨AP x, FL x⟩
         have lx := H2.ldw (m := 4) 0 rfl rfl
         obtain ⟨q4, d4, H4, n4, _⟩ := H2.stw 1 (m := 4) (v := .agg x.cells) rfl rfl ⟨AP x, FL x⟩
         have lr4 := H4.ldw (m := 4) 1 rfl rfl
         simp only [Ax] at lr4 lx
         simp only [fx, D9, Option.getD_some, Option.isSome_some] at hnode
         simp only [Ag, go_sem, AD, AA, AC, AB, KB_n, KB_x, Nat.reduceBEq, Nat.reduceAdd, Nat.reduceLT, Nat.reduceLeDiff, Nat.reduceEqDiff, reduceIte, Int.reduceEq, reduceCtorEq, AP, hq1, e1, e0, fx, hmay, lw, AL, hmn, r1, r2, List.length_map, hnode, d2, lx, d4, lr4, FM]
         exact KR_Ni H4.over x 0
     · rw [if_neg hrg]
       by_cases r1 : n < 0
       · have r1' : (n < 0) = True := by simp [r1]
         simp only [Ag, go_sem, AD, AA, AC, AB, KB_n, KB_x, Nat.reduceBEq, Nat.reduceAdd, Nat.reduceLT, Nat.reduceLeDiff, Nat.reduceEqDiff, reduceIte, Int.reduceEq, reduceCtorEq, AP, hq1, e1, e0, fx, hmay, lw, AL, hmn, r1', Bo, d3, lr3]
         exact LR H3.over 1
       · have r1' : (n < 0) = False := by simp [r1]
         have r2' : ((l.length : Int) ≤ n) = True := by simp only [eq_iff_iff, iff_true]; omega
         simp only [Ag, go_sem, AD, AA, AC, AB, KB_n, KB_x, Nat.reduceBEq, Nat.reduceAdd, Nat.reduceLT, Nat.reduceLeDiff, Nat.reduceEqDiff, reduceIte, Int.reduceEq, reduceCtorEq, AP, hq1, e1, e0, fx, hmay, lw, AL, hmn, r1', r2', List.length_map, Bo, d3, lr3]
         exact LR H3.over 1
end Go.Proofs.Ytgloinighjdhlaa

/-
  The law MatchHolds.
-/
set_option maxRecDepth 100000
set_option maxHeartbeats 4000000
namespace Go.Proofs.Ytgloinighjdhlaa
open Go.Proofs.Ytgloinighjdhlaa.Am
attribute [local irreducible] W WO WE WQ WD Tr.get Tr.set
theorem V9 (l : List FT) (ho : FOk l) (s : St) (hw : Wf s) : ∃ b : Bool, (lim prog).call CW [fx l] s = some (.b b, s) := by
 obtain ⟨r, s', h, rfl, b, rfl⟩ := fn_G (f := CW) (args := [fx l]) (s := s) (Post := fun r s' => s' = s ∧ ∃ b : Bool, r = .b b) Gn rfl rfl (by
  have hz0 : wkZ BO.cin [fx l] = [fx l] := by
   simp only [BO, wkZ, List.cons.injEq, and_true]
   exact Ek .ws
  rw [hz0]
  simp only [BO, go_sem, AD, AA, AC, AB, KB_n, KB_x, Nat.reduceBEq, Nat.reduceAdd, Nat.reduceLT, Nat.reduceLeDiff, Nat.reduceEqDiff, reduceIte, Int.reduceEq, reduceCtorEq]
  refine BF (fun x e q => ∃ i n : Nat, i + x = l.length ∧ q = s.enter ∧ n < 2 ^ 60 ∧ e.get 0 = fx l ∧ e.get 3 = .i .i64 (n : Nat) ∧ e.get 4 = .i .i64 (i : Nat)) ?_ l.length _ _ ?_
  · rintro x e q ⟨i, n, hix, rfl, hn, g0, g3, g4⟩
    have hfin : ∀ b : Bool, KH s [.id] (fun r s' => s' = s ∧ ∃ b : Bool, r = .b b) (some ([.b b], s.enter)) := fun b => ⟨_, _, rfl, (Over.enter s).leave rfl, b, rfl⟩
    by_cases h : i < l.length
    · have h1 : ((i : Int) < (l.length : Int)) = True := by simp only [eq_iff_iff, iff_true]; omega
      by_cases h5 : n < 500
      · have h2 : ((n : Int) < 500) = True := by simp only [eq_iff_iff, iff_true]; omega
        obtain ⟨f, hf⟩ : ∃ f, l[i]? = some f := ⟨_, List.getElem?_eq_getElem h⟩
        have hfo := ho.ok f (List.mem_of_getElem? hf)
        have hg := Hz hf
        have hth : ∀ u : St, Hm u (.ws false 6 (l.map FT.av)) = some (.ws false 6 (l.map FT.av), u) := fun _ => rfl
        have l2 : ∀ u : St, ldA u false 1 (.ep f.cells 2 .shut) = some (tx f.names) := fun _ => rfl
        have l3 : ∀ u : St, ldA u false 1 (.ep f.cells 3 .shut) = some (zx f.kids) := fun _ => rfl
        have nl := hfo.nlen
        have kl := hfo.klen
        have w1 : IntKind.i64.wrap ((n : Int) + 1) = ((n + 1 : Nat) : Int) := AR (by omega)
        have w2 : IntKind.i64.wrap (((n + 1 : Nat) : Int) + (f.names.length : Int)) = ((n + 1 + f.names.length : Nat) : Int) := by
         rw [show (((n + 1 : Nat) : Int) + (f.names.length : Int)) = ((n + 1 + f.names.length : Nat) : Int) by omega]; exact Bx (by omega)
        have w3 : IntKind.i64.wrap (((n + 1 + f.names.length : Nat) : Int) + (f.kids.length : Int)) = ((n + 1 + f.names.length + f.kids.length : Nat) : Int) := by
         rw [show (((n + 1 + f.names.length : Nat) : Int) + (f.kids.length : Int)) = ((n + 1 + f.names.length + f.kids.length : Nat) : Int) by omega]; exact Bx (by omega)
        have w4 := AR (show i + 1 < 2 ^ 63 by have := ho.len; omega)
        simp only [go_sem, AD, AA, AC, AB, KB_n, KB_x, Nat.reduceBEq, Nat.reduceAdd, Nat.reduceLT, Nat.reduceLeDiff, Nat.reduceEqDiff, reduceIte, Int.reduceEq, reduceCtorEq, g0, g3, g4, fx, List.length_map, h1, h2, hth, AF, hg, Ax, Nat.zero_add, l2, l3, tx, zx, w1, w2, w3]
        refine BF (fun y e q => ∃ k m : Nat, k + y = f.names.length ∧ q = s.enter ∧ m < 2 ^ 60 ∧ e.get 0 = fx l ∧ e.get 3 = .i .i64 (m : Nat) ∧ e.get 4 = .i .i64 (i : Nat) ∧ e.get 5 = .i .i64 (k : Nat)) ?_ f.names.length _ _ ?_
        · rintro y e q ⟨k, m, hky, rfl, hm, g0, g3, g4, g5⟩
          by_cases hk : k < f.names.length
          · have k1 : ((k : Int) < (f.names.length : Int)) = True := by simp only [eq_iff_iff, iff_true]; omega
            by_cases h6 : m < 500
            · have k2 : ((m : Int) < 500) = True := by simp only [eq_iff_iff, iff_true]; omega
              obtain ⟨nm, hnm⟩ : ∃ nm, f.names[k]? = some nm := ⟨_, List.getElem?_eq_getElem hk⟩
              have hnm2 : (f.names.map AV.s)[k]? = some (.s nm) := by rw [List.getElem?_map, hnm]; rfl
              have hnl := (hfo.names nm (List.mem_of_getElem? hnm)).2
              have hq := WL nm.length hnl
              have w5 : IntKind.i64.wrap ((m : Int) + ((nm.length / 64 : Nat) : Int)) = ((m + nm.length / 64 : Nat) : Int) := by
               rw [show ((m : Int) + ((nm.length / 64 : Nat) : Int)) = ((m + nm.length / 64 : Nat) : Int) by omega]; exact Bx (by omega)
              have w6 := AR (show k + 1 < 2 ^ 63 by omega)
              simp only [go_sem, AD, AA, AC, AB, KB_n, KB_x, Nat.reduceBEq, Nat.reduceAdd, Nat.reduceLT, Nat.reduceLeDiff, Nat.reduceEqDiff, reduceIte, Int.reduceEq, reduceCtorEq, g0, g3, g4, g5, fx, List.length_map, k1, k2, hth, AF, hg, Ax, Nat.zero_add, l2, tx, hnm2, Ay, Bw, hq, w5, w6]
              exact ⟨y - 1, by omega, k + 1, m + nm.length / 64, by omega, by omega, rfl, rfl⟩
            · have k2 : ((m : Int) < 500) = False := by simp only [eq_iff_iff, iff_false]; omega
              simp only [go_sem, AD, AA, AC, AB, KB_n, KB_x, Nat.reduceBEq, Nat.reduceAdd, Nat.reduceLT, Nat.reduceLeDiff, Nat.reduceEqDiff, reduceIte, Int.reduceEq, reduceCtorEq, g0, g3, g4, g5, fx, List.length_map, k1, k2, hth, AF, hg, Ax, Nat.zero_add, l2, tx, w4]
              exact ⟨x - 1, by omega, i + 1, m, by omega, by omega, rfl, rfl⟩
          · have k1 : ((k : Int) < (f.names.length : Int)) = False := by simp only [eq_iff_iff, iff_false]; omega
            simp only [go_sem, AD, AA, AC, AB, KB_n, KB_x, Nat.reduceBEq, Nat.reduceAdd, Nat.reduceLT, Nat.reduceLeDiff, Nat.reduceEqDiff, reduceIte, Int.reduceEq, reduceCtorEq, g0, g3, g4, g5, fx, List.length_map, k1, hth, AF, hg, Ax, Nat.zero_add, l2, tx, w4]
            exact ⟨x - 1, by omega, i + 1, m, by omega, by omega, rfl, rfl⟩
        · simp only [go_sem, AD, AA, AC, AB, KB_n, KB_x, Nat.reduceBEq, Nat.reduceAdd, Nat.reduceLT, Nat.reduceLeDiff, Nat.reduceEqDiff, reduceIte, Int.reduceEq, reduceCtorEq, g4]
          exact ⟨0, _, by omega, by omega, rfl, rfl, rfl⟩
      · have h2 : ((n : Int) < 500) = False := by simp only [eq_iff_iff, iff_false]; omega
        simp only [go_sem, AD, AA, AC, AB, KB_n, KB_x, Nat.reduceBEq, Nat.reduceAdd, Nat.reduceLT, Nat.reduceLeDiff, Nat.reduceEqDiff, reduceIte, Int.reduceEq, reduceCtorEq, g0, g3, g4, fx, List.length_map, h1, h2]
        exact hfin _
    · have h1 : ((i : Int) < (l.length : Int)) = False := by simp only [eq_iff_iff, iff_false]; omega
      simp only [go_sem, AD, AA, AC, AB, KB_n, KB_x, Nat.reduceBEq, Nat.reduceAdd, Nat.reduceLT, Nat.reduceLeDiff, Nat.reduceEqDiff, reduceIte, Int.reduceEq, reduceCtorEq, g0, g3, g4, fx, List.length_map, h1]
      exact hfin _
  · simp only [go_sem, AD, AA, AC, AB, KB_n, KB_x, Nat.reduceBEq, Nat.reduceAdd, Nat.reduceLT, Nat.reduceLeDiff, Nat.reduceEqDiff, reduceIte, Int.reduceEq, reduceCtorEq]
    exact ⟨0, 0, by omega, by omega, rfl, rfl⟩)
 exact ⟨b, h⟩
theorem Ue {l : List FT} {root : ND} (hr : root.Ok) (n : Int) : (atP l root n).1.Ok := by
 unfold atP
 split
 · split
   · split
     · rename_i x hx
       have := Mj hr l n
       rw [hx] at this
       exact this
     · exact No
   · exact No
 · exact No
theorem SQ : ∀ l : List ND, (∀ k ∈ l, D4 k.cells k.cells = true) → D4 (l.map ND.av) (l.map ND.av) = true
 | [], _ => rfl
 | k :: l, h => by
   simp only [List.map_cons, D4, ND.av_eq, beqA, h k List.mem_cons_self, Bool.true_and]
   have := SQ l fun x hx => h x (List.mem_cons_of_mem _ hx)
   simpa only [ND.av_eq] using this
theorem Ol : ∀ n : ND, D4 n.cells n.cells = true := by
 refine ND.ind fun n ih => ?_
 simp [ND.cells, tx, D4, beqA, Jf, K5, SQ n.kids ih]
theorem WA (n : ND) : still (.agg n.cells) = true := by
 have h1 : n.cells.all noTok = true := rfl
 simp only [still, h1, AL, Ol, Bool.and_self]
theorem Ml (l : List FT) (ho : FOk l) (root : ND) (hr : root.Ok) (hb : FN root < 2 ^ 30) (n : Int) (s : St) (hw : Wf s) :
    (lim prog).call DL [fx l, .agg root.cells, .i .i64 n] s = some (.b true, s) := by
 refine fn_W Eu rfl rfl ?_
 have hz0 : wkZ Aa.cin [fx l, .agg root.cells, .i .i64 n] = [fx l, .agg root.cells, .i .i64 n] := by
  simp only [Aa, wkZ, Ek .ws, wk]
  simp [ND.cells, wkZ, wk, fx]
 rw [hz0]
 have hnb : nodesN root < 2 ^ 62 := by have := Qh root; omega
 have e0 : s.enter.nb = s.nb := rfl
 have H1 := (Hp.begin hw).new (.cells 47 root.cells)
 obtain ⟨q1, hq1⟩ : ∃ q1, s.enter.new (.cells 47 root.cells) = q1 := ⟨_, rfl⟩
 rw [hq1, e0] at H1
 have lw := H1.ldw (m := 4) 0 rfl rfl
 obtain ⟨b, hmany⟩ := V9 l ho q1 H1.wf
 unfold fx at hmany
 cases b with
 | true =>
   simp only [Aa, go_sem, AD, AA, AC, AB, KB_n, KB_x, Nat.reduceBEq, Nat.reduceAdd, Nat.reduceLT, Nat.reduceLeDiff, Nat.reduceEqDiff, reduceIte, Int.reduceEq, reduceCtorEq, AP, hq1, e0, fx, hmany]
   exact AM H1.over rfl rfl
 | false =>
   obtain ⟨_, s2, hwt, hs2, w, hwb, rfl⟩ := Sn root hr (by omega) q1 H1.wf
   rw [hs2] at hwt
   by_cases h2 : 2000 ≤ w
   · have e2 : ((2000 : Int) ≤ (w : Int)) = True := by simp only [eq_iff_iff, iff_true]; omega
     simp only [Aa, go_sem, AD, AA, AC, AB, KB_n, KB_x, Nat.reduceBEq, Nat.reduceAdd, Nat.reduceLT, Nat.reduceLeDiff, Nat.reduceEqDiff, reduceIte, Int.reduceEq, reduceCtorEq, AP, hq1, e0, fx, hmany, lw, AL, hwt, e2]
     exact AM H1.over rfl rfl
   · have e2 : ((2000 : Int) ≤ (w : Int)) = False := by simp only [eq_iff_iff, iff_false]; omega
     have hF1 := Pv l ho root hr hnb q1 H1.wf
     have hF2 := I8 l ho root hr hnb q1 H1.wf
     have hA1 := Lr l ho root hr hnb n q1 H1.wf
     obtain ⟨x, hx⟩ : ∃ x, (atP l root n).1 = x := ⟨_, rfl⟩
     have hxo := Ue (l := l) hr n
     rw [hx] at hA1 hxo
     obtain ⟨q2, d2, H2, n2⟩ := H1.adp (T := 47) (m := 4) (z := [.i .u8 0, .s [], .nsl, .nsl]) (v := .agg x.cells) rfl ⟨AP x, FL x⟩
     have lw2 := H2.ldw (m := 4) 1 rfl rfl
     have hA2 := Ls l ho root hr hnb n q2 H2.wf
     rw [hx] at hA2
     obtain ⟨q3, d3, H3, n3⟩ := H2.adp (T := 47) (m := 4) (z := [.i .u8 0, .s [], .nsl, .nsl]) (v := .agg x.cells) rfl ⟨AP x, FL x⟩
     have lx := H3.ldw (m := 4) 1 rfl rfl
     have ly := H3.ldw (m := 4) 0 rfl rfl
     have lw3 := H3.ldw (m := 4) 2 rfl rfl
     have hS := LF x hxo q3 H3.wf
     have hH1 := holds_ok l ho root hr hnb q3 H3.wf
     have hH2 := LQ l ho root hr hnb q3 H3.wf
     simp only [Ax] at lx ly
     simp only [fx] at hF1 hF2 hA1 hA2 hH1 hH2
     have e3 : ((CD l root).1 ≠ (CD l root).1) = False := by simp
     have e4 : ((CD l root).2 ≠ (CD l root).2) = False := by simp
     have e5 : ((atP l root n).2 ≠ (atP l root n).2) = False := by simp
     have hallx : ∀ y : ND, y.cells.all noTok = true := fun _ => rfl
     have hbb : ∀ y : Bool, (true ^^ (y == y)) = false := fun y => by cases y <;> rfl
     simp only [Aa, go_sem, AD, AA, AC, AB, KB_n, KB_x, Nat.reduceBEq, Nat.reduceAdd, Nat.reduceLT, Nat.reduceLeDiff, Nat.reduceEqDiff, reduceIte, Int.reduceEq, reduceCtorEq, AP, hq1, e0, fx, hmany, lw, AL, hwt, e2, hF1, hF2, hA1, d2, lw2, hA2, d3]
     refine UZ rfl ?_
     simp only [go_sem, AD, AA, AC, AB, KB_n, KB_x, Nat.reduceBEq, Nat.reduceAdd, Nat.reduceLT, Nat.reduceLeDiff, Nat.reduceEqDiff, reduceIte, Int.reduceEq, reduceCtorEq, e3, e4, e5, lx, ly, lw3, hallx, AL, hS, hH1, hH2, hbb]
     refine Ua rfl (by simp only [go_sem, AD, AA, AC, AB, KB_n, KB_x, Nat.reduceBEq, Nat.reduceAdd, Nat.reduceLT, Nat.reduceLeDiff, Nat.reduceEqDiff, reduceIte, Int.reduceEq, reduceCtorEq]) (WA root) ⟨⟨_, rfl, lw3⟩, ⟨_, rfl, lw3⟩, ⟨_, rfl, lw3⟩, ⟨_, rfl, lw3⟩, trivial⟩ (Ub ?_)
     simp only [go_sem, AD, AA, AC, AB, KB_n, KB_x, Nat.reduceBEq, Nat.reduceAdd, Nat.reduceLT, Nat.reduceLeDiff, Nat.reduceEqDiff, reduceIte, Int.reduceEq, reduceCtorEq]
     refine BF (fun y e q => ∃ (i : Nat) (x1 : ND), i + y = l.length ∧ Hp s q s.en [] [(q2.nb, .cells 47 x1.cells), (q1.nb, .cells 47 x1.cells), (s.nb, .cells 47 root.cells)] ∧ e.get 0 = fx l ∧ e.get 4 = .p s.nb 0 ∧ e.get 11 = .p q1.nb 0 ∧ e.get 13 = .p q2.nb 0 ∧ e.get 15 = .i .i64 (i : Nat)) ?_ l.length _ _ ?_
     · rintro y e q ⟨i, x1, hiy, H, g0, g4, g11, g13, g15⟩
       by_cases h : i < l.length
       · have h1 : ((i : Int) < (l.length : Int)) = True := by simp only [eq_iff_iff, iff_true]; omega
         have lw := H.ldw (m := 4) 2 rfl rfl
         have hA1 := Lr l ho root hr hnb (i : Int) q H.wf
         obtain ⟨x, hx⟩ : ∃ x, (atP l root (i : Int)).1 = x := ⟨_, rfl⟩
         have hxo := Ue (l := l) hr (i : Int)
         rw [hx] at hA1 hxo
         obtain ⟨q5, d5, H5, n5, _⟩ := H.stw 1 (m := 4) (v := .agg x.cells) rfl rfl ⟨AP x, FL x⟩
         have lw5 := H5.ldw (m := 4) 2 rfl rfl
         have hA2 := Ls l ho root hr hnb (i : Int) q5 H5.wf
         rw [hx] at hA2
         obtain ⟨q6, d6, H6, n6, _⟩ := H5.stw 0 (m := 4) (v := .agg x.cells) rfl rfl ⟨AP x, FL x⟩
         have lx := H6.ldw (m := 4) 1 rfl rfl
         have ly := H6.ldw (m := 4) 0 rfl rfl
         have hS := LF x hxo q6 H6.wf
         simp only [Ax] at lx ly
         simp only [fx] at hA1 hA2
         have e5 : ((atP l root (i : Int)).2 ≠ (atP l root (i : Int)).2) = False := by simp
         have hw1 := AR (show i + 1 < 2 ^ 63 by have := ho.len; omega)
         simp only [go_sem, AD, AA, AC, AB, KB_n, KB_x, Nat.reduceBEq, Nat.reduceAdd, Nat.reduceLT, Nat.reduceLeDiff, Nat.reduceEqDiff, reduceIte, Int.reduceEq, reduceCtorEq, g0, g4, g11, g13, g15, fx, List.length_map, h1, lw, AL, hA1, d5, lw5, hA2, d6, lx, ly, hS, e5, hw1]
         exact ⟨y - 1, by omega, i + 1, x, by omega, H6, rfl⟩
       · have h1 : ((i : Int) < (l.length : Int)) = False := by simp only [eq_iff_iff, iff_false]; omega
         simp only [go_sem, AD, AA, AC, AB, KB_n, KB_x, Nat.reduceBEq, Nat.reduceAdd, Nat.reduceLT, Nat.reduceLeDiff, Nat.reduceEqDiff, reduceIte, Int.reduceEq, reduceCtorEq, g0, g15, fx, List.length_map, h1]
         exact AM H.over rfl rfl
     · simp only [go_sem, AD, AA, AC, AB, KB_n, KB_x, Nat.reduceBEq, Nat.reduceAdd, Nat.reduceLT, Nat.reduceLeDiff, Nat.reduceEqDiff, reduceIte, Int.reduceEq, reduceCtorEq]
       exact ⟨0, x, by omega, H3, rfl, rfl⟩
end Go.Proofs.Ytgloinighjdhlaa
