/-
  il.Show: one round of its loop.
-/
import Derived.Test.YtmnbfgfgjmmhfaaGreatDoorLRowN
set_option linter.all false
set_option linter.unusedVariables false
set_option linter.unusedSimpArgs false
set_option linter.unusedSectionVars false
set_option maxRecDepth 100000
set_option maxHeartbeats 8000000
namespace Go.Proofs.YtmnbfgfgjmmhfaaGreatDoor
open Go.Proofs.YtmnbfgfgjmmhfaaGreatDoor.Am
attribute [local irreducible] W WO WE WQ WD Tr.get Tr.set
def Uv (σ : Self) (e : Tr) (tr : List St) (op : AOp) (v : AV) : List Nat → Prop
 | [] => True
 | k :: ks => (∃ q s', tr[k]? = some q ∧ CM e q op = true ∧ evOp σ e q op = some (v, s')) ∧ Uv σ e tr op v ks
theorem Mr {σ : Self} {e : Tr} {tr : List St} {op : AOp} {v : AV} : ∀ {ks : List Nat}, Uv σ e tr op v ks → ∀ k ∈ ks, ∃ q s', tr[k]? = some q ∧ CM e q op = true ∧ evOp σ e q op = some (v, s')
 | k :: ks, h, j, hj => by
   rcases List.mem_cons.1 hj with rfl | hj
   · exact h.1
   · exact Mr h.2 j hj
theorem KW_op {σ : Self} {e : Tr} {s : St} {Q : Ex → Tr → St → Prop} {ops : List Am.Op} {tr : List St} {l : List (Nat × Nat × Nat)} {i lo hi : Nat} {d : Option Nat} {op : AOp} {v : AV} {g : Option (Nat × Bool)} (ho : ops[i]? = some ⟨d, op, g⟩) (hb : beqA v v = true)
    (h : Uv σ e tr op v (i :: List.range' lo (hi + 1 - lo))) (h2 : KW σ ops l Q tr e s) : KW σ ops ((i, lo, hi) :: l) Q tr e s := by
 refine ⟨?_, h2.2⟩
 obtain ⟨⟨q, s', h3, _, h4⟩, h5⟩ := h
 simp only [chkS, Bool.and_eq_true, ho, h3]
 refine ⟨?_, h2.1⟩
 simp only [h4, Bool.or_eq_true, List.all_eq_true]
 refine .inr fun k hk => ?_
 obtain ⟨q', s2, h6, h7, h8⟩ := Mr h5 k hk
 simp only [SU, h6, h7, h8, hb, Bool.and_self]
theorem RK {a : AV} {L : List (List Nat)} (h : DX 1 a (L.map .s)) (hne : L ≠ []) : N5 a = some L := by
 have hn : L.map AV.s ≠ [] := by simpa using hne
 rcases h with ⟨_, h⟩ | ⟨_, h⟩ | h | h | h | h
 · exact absurd h hn
 · exact absurd h hn
 · rw [h]; exact Gk L
 · rw [h]; exact Gk L
 · rw [h]; exact Gk L
 · rw [h]; exact Gk L
theorem Sq {b1 b2 b3 b4 b5 b6 b7 b8 : Nat} {r : Rule} {f : AV} (h : KidF (BLs b1 b2 b3 b4 b5 b6 b7 b8) f r.kids) : beqA (rlV r.word r.named r.least r.most f) (rlV r.word r.named r.least r.most f) = true := by
 rcases h with ⟨rfl, _⟩ | ⟨_, b, _, _, _, rfl, _⟩ <;> simp [rlV, beqA, Dh, FJ]
abbrev wA : C := subC CA.body [1, 1, 1, 1, 0, 1, 0, 0]
abbrev wC : C := subC CA.body [1, 1, 1, 1, 0, 1, 0, 1]
theorem cut_rl (w : List Nat) (nm : Bool) (lo hi : Int) (f : AV) : cut [.s w, .b nm, .i .i64 lo, .i .i64 hi, f] 0 1 = some [.s w] := rfl
theorem Uw (x : Nat × IN) {r : Rule} (hr : Fn x.2.kind = some r) : joinN [32] ((List.replicate x.1 32 ++ r.word) :: ((if x.2.name = [] then [] else [x.2.name]) ++ x.2.items.map Ch)) = Cy x := by
 unfold Cy OS
 rw [hr, GG, GG, List.append_assoc]
theorem Sr {s q : St} {n : En} {a w : AV} {ob nx i : Nat} {W0 xs : List (List Nat)} {B : List (Nat × Box)} {x : IN} (H : Hp s q n [⟨1, 9, w, W0.map .s, true⟩, ⟨1, 9, a, xs.map .s, true⟩] ((ob, .cells 26 [a]) :: B)) (hB : B[i]? = some (nx, .cells 25 x.cells)) (hxo : x.Ok)
    (hxi : ∀ y ∈ x.items, (y.parts.flatMap CV).length < 2 ^ 59) (hne : W0 ≠ []) (hW : W0.length ≤ 4) (hlen : (joinN [32] (W0 ++ x.items.map Ch)).length ≤ 2 ^ 47) (hsz : xs.length < 2 ^ 36) {e : Tr} {Q : Ex → Tr → St → Prop} (g5 : e.get 5 = .p ob 0) (g7 : e.get 7 = .p nx 0) (g8 : e.get 8 = w)
    (k : ∀ (e' : Tr) (q' : St) (a' : AV), Hp s q' n [⟨1, 9, a', (xs ++ [joinN [32] (W0 ++ x.items.map Ch)]).map .s, true⟩] ((ob, .cells 26 [a']) :: B) → q.nb ≤ q'.nb → A7 a' ≠ none → (a'.refs = true → q'.lo ≤ ob) → Q .n e' q') :
    W (lim prog) (subC CA.body [1, 1, 1, 1, 0, 1, 0, 1, 0, 1, 1]) e q Q := by
 have hil := hxo.items.2
 have ldi := H.ld (i + 1) (off := 2) (v := .ws false 2 (x.items.map IT.av)) (by simpa using hB) rfl
 simp only [CA, subC, go_sem, AF, AA, AC, AB, KB_n, KB_x, Nat.reduceBEq, Nat.reduceAdd, Nat.reduceLT, Nat.reduceLeDiff, Nat.reduceEqDiff, reduceIte, Int.reduceEq, reduceCtorEq, g7, ldi, List.length_map]
 refine DH (fun y e q' => ∃ (j : Nat) (w : AV), j + y = x.items.length ∧ Hp s q' n [⟨1, 9, w, (W0 ++ (x.items.take j).map Ch).map .s, true⟩, ⟨1, 9, a, xs.map .s, true⟩] ((ob, .cells 26 [a]) :: B) ∧ q.nb ≤ q'.nb ∧ e.get 5 = .p ob 0 ∧ e.get 8 = w ∧ e.get 37 = .ws false 2 (x.items.map IT.av) ∧ e.get 38 = .i .i64 (x.items.length : Nat) ∧ e.get 39 = .i .i64 (j : Nat)) ?_ x.items.length _ _ ?_
 · clear g5 g7 g8
   rintro y e q1 ⟨j, w, hjy, H, hq1, g5, g8, g37, g38, g39⟩
   by_cases h : j < x.items.length
   · have h1 : ((j : Int) < (x.items.length : Int)) = True := eq_true (by omega)
     obtain ⟨z, hz⟩ : ∃ z, x.items[j]? = some z := ⟨_, List.getElem?_eq_getElem h⟩
     have hgz := Me hz
     have hzm := List.mem_of_getElem? hz
     have hw1 := BI (show j + 1 < 2 ^ 63 by omega)
     obtain ⟨q2, d2, H2, n2⟩ := H.adp (T := 78) (m := 2) (z := [.nsl, .b false]) (v := .agg z.cells) rfl ⟨ic2 z, io2 z⟩
     have lz := H2.ldw (m := 2) 0 rfl (ic2 z)
     have ht := Uu z (hxo.items.1 z hzm) (hxi z hzm) q2 H2.wf
     have hal : Aj 1 [AV.s (Ch z)] = true := rfl
     obtain ⟨w', q3, d3, H3, n3, _⟩ := H2.app 0 (y := .sl 1 [.s (Ch z)] .full) (ys := [.s (Ch z)]) rfl (by simp [elems, St.ok]) (by simp; omega)
     have hcl : (AV.agg z.cells).cells = z.cells := rfl
     rw [hcl] at lz
     simp only [go_sem, AF, AA, AC, AB, KB_n, KB_x, Nat.reduceBEq, Nat.reduceAdd, Nat.reduceLT, Nat.reduceLeDiff, Nat.reduceEqDiff, reduceIte, Int.reduceEq, reduceCtorEq, g5, g8, g37, g38, g39, h1, AM, hgz, ild, PH, ic2, d2, lz, ht, hal, d3, hw1]
     refine ⟨y - 1, by omega, j + 1, w', by omega, ?_, by omega, rfl, rfl⟩
     have hD := H3.dropB
     rw [List.take_add_one, hz]
     simp only [List.set_cons_zero] at hD
     have : (W0 ++ (x.items.take j ++ (some z).toList).map Ch).map AV.s = (W0 ++ (x.items.take j).map Ch).map .s ++ [.s (Ch z)] := by simp
     rw [this]
     exact hD
   · have h1 : ((j : Int) < (x.items.length : Int)) = False := eq_false (by omega)
     rw [List.take_of_length_le (by omega)] at H
     obtain ⟨w', q2, d2, t2, H2, n2⟩ := H.pub 0 rfl
     have la := H.ld 0 (off := 0) (v := a) rfl rfl
     have la2 := H2.ld 0 (off := 0) (v := a) rfl rfl
     have hLL : W0.length + x.items.length ≤ 2 ^ 47 := by omega
     have hj : (lim prog).call Ez [w', .s [32]] q2 = some (.s (joinN [32] (W0 ++ x.items.map Ch)), q2) := by
      refine HU J6 rfl ?_
      simp only [HH, RK t2 (by simp [hne])]
      rw [if_pos ⟨by simp; omega, hlen⟩]
     have hal : Aj 1 [AV.s (joinN [32] (W0 ++ x.items.map Ch))] = true := rfl
     have ha := H.rows (i := 1) rfl
     have hlr : ∀ u, ldR u (some a) = some (a, u) := fun u => by
      rcases ha with (⟨h, _⟩ | ⟨h, _⟩ | h | h) | ⟨k, v, t, h, _⟩ <;> simp only at h <;> rw [h] <;> rfl
     have hlq : ldQ (some a) = true := by
      rcases ha with (⟨h, _⟩ | ⟨h, _⟩ | h | h) | ⟨k, v, t, h, _⟩ <;> simp only at h <;> rw [h] <;> rfl
     have hsh : ∀ (l : List Nat) u, Rc false u (.s l) = some (.s l, u) := fun _ _ => rfl
     obtain ⟨a', q3, d3, H3, n3, ht3⟩ := H2.app 1 (y := .sl 1 [.s (joinN [32] (W0 ++ x.items.map Ch))] .full) (ys := [.s (joinN [32] (W0 ++ x.items.map Ch))]) rfl (by simp [elems, St.ok]) (by simp; omega)
     have rc := H3.rcells 1 rfl
     obtain ⟨q4, d4, H4, n4, lo4⟩ := H3.st 0 (off := 0) (v := a') rfl (by simp) ⟨rc.1, rc.2.1⟩
     simp only [go_sem, AF, AA, AC, AB, KB_n, KB_x, Nat.reduceBEq, Nat.reduceAdd, Nat.reduceLT, Nat.reduceLeDiff, Nat.reduceEqDiff, reduceIte, Int.reduceEq, reduceCtorEq, g5, g8, g37, g38, g39, h1]
     refine Kf rfl ?_
     simp only [go_sem, AF, AA, AC, AB, KB_n, KB_x, Nat.reduceBEq, Nat.reduceAdd, Nat.reduceLT, Nat.reduceLeDiff, Nat.reduceEqDiff, reduceIte, Int.reduceEq, reduceCtorEq, g5, g8, la, hlr, d2, hj, hsh, hal, d3, d4]
     refine ⟨hlq, Ld rfl (by simp only [go_sem, AF, AA, AC, AB, KB_n, KB_x, Nat.reduceBEq, Nat.reduceAdd, Nat.reduceLT, Nat.reduceLeDiff, Nat.reduceEqDiff, reduceIte, Int.reduceEq, reduceCtorEq, g5]) (RF ha) ⟨⟨_, rfl, la⟩, ⟨_, rfl, la⟩, ⟨_, rfl, la⟩, ⟨_, rfl, la⟩, ⟨_, rfl, la2⟩, trivial⟩ (Kg ?_)⟩
     refine k _ _ a' ?_ (by omega) (ht3 (by simp)).1 lo4
     have hD := H4.dropR
     simp only [List.set_cons_zero, List.set_cons_succ] at hD
     have : (xs ++ [joinN [32] (W0 ++ x.items.map Ch)]).map AV.s = xs.map .s ++ [.s (joinN [32] (W0 ++ x.items.map Ch))] := by simp
     rw [this]
     exact hD
 · simp only [go_sem, AF, AA, AC, AB, KB_n, KB_x, Nat.reduceBEq, Nat.reduceAdd, Nat.reduceLT, Nat.reduceLeDiff, Nat.reduceEqDiff, reduceIte, Int.reduceEq, reduceCtorEq, g5, g8]
   exact ⟨0, w, by omega, by simpa using H, by omega, rfl, rfl⟩
theorem Ss {s : St} {L : List (Nat × IN)} {ob mb mid b1 b2 b3 b4 b5 b6 b7 b8 : Nat} {O : Nat → Prop} {k1 : Nat} {e : Tr} (hx : ob < k1) (hy : mb < k1) (hz : mid < k1) (hne : ob ≠ mb ∧ ob ≠ mid ∧ mb ≠ mid) (hs : s.nb ≤ ob) (hs2 : s.nb ≤ mb) (hs3 : s.nb ≤ mid) (g4 : e.get 4 = .p mb 0) (g5 : e.get 5 = .p ob 0)
    (hL : ∀ x ∈ L, x.2.Ok ∧ NU x.2 ∧ x.1 < 2 ^ 30 ∧ (∀ y ∈ x.2.items, (y.parts.flatMap CV).length < 2 ^ 59) ∧ (Cy x).length ≤ 2 ^ 47) (hsz : L.length < 2 ^ 36) (hO : ∀ j, O j → j < k1 ∧ j ≠ ob ∧ j ≠ mb ∧ j ≠ mid) (hO2 : ∀ j, O j → s.nb ≤ j) :
    BodyG prog O s (k1 + 1) (k1 + 1) (.yld k1) (alV L) (fun C j q => q.box? k1 = some (.loop 0 none e [17, 18] wA wC) ∧ q.box? mb = some (.cells 73 [.m mid]) ∧ q.box? mid = some (.map (ES b1 b2 b3 b4 b5 b6 b7 b8)) ∧ RN s.nt 26 ob ((L.take j).map Cy) C q) (fun _ => False) where
 stab := fun C j q q' hC ⟨h1, h2, h4, h3⟩ fq => ⟨by rw [fq.box _ (by omega) fun h => by have := (hO _ h).1; omega]; exact h1, by rw [fq.box _ (by omega) fun h => (hO _ h).2.2.1 rfl]; exact h2, by rw [fq.box _ (by omega) fun h => (hO _ h).2.2.2 rfl]; exact h4, h3.stab hC (by omega) (fun h => (hO _ h).2.1 rfl) (Nat.le_refl _) fq⟩
 enter := fun C j q _ ⟨h1, h2, h4, h3⟩ _ => ⟨h1, h2, h4, h3.enter⟩
 leave := fun C j s q v hC ⟨h1, h2, h4, h3⟩ hs hn ht hw hv => ⟨by rw [C3 hw hn (by omega)]; exact h1, by rw [C3 hw hn (by omega)]; exact h2, by rw [C3 hw hn (by omega)]; exact h4, h3.leave hC (by omega) hs hn ht hw hv⟩
 stabR := fun q q' h _ => h.elim
 leaveR := fun s q v h _ _ _ _ _ => h.elim
 step := by
  intro C j hj q hC ⟨hk, hmb, hmp, hrn⟩ hov hw hh
  have hj' : j < L.length := by simpa [alV] using hj
  obtain ⟨x, hx'⟩ : ∃ x, L[j]? = some x := ⟨_, List.getElem?_eq_getElem hj'⟩
  have hxm := List.mem_of_getElem? hx'
  obtain ⟨hxo, hxt, hxd, hxi, hxl⟩ := hL x hxm
  have hLj : (alV L)[j] = [.i .i64 (x.1 : Nat), .agg x.2.cells] := by
   rw [List.getElem?_eq_getElem hj'] at hx'
   simp only [alV, List.getElem_map]
   rw [Option.some.inj hx']
  have htk : (L.take (j + 1)).map Cy = ((L.take j).map Cy) ++ [Cy x] := by
   rw [List.getElem?_eq_some_iff] at hx'
   obtain ⟨_, rfl⟩ := hx'
   rw [List.take_succ_eq_append_getElem hj', List.map_append]
   rfl
  rw [hLj]
  obtain ⟨q0, st0, w0, nb0, nt0, bx0n, bx0, ov0, fr0⟩ := P9 (q := q) hw (T := 25) (m := 4) (z := zI) (v := .agg x.2.cells) rfl ⟨nc4 _, no4 _⟩ (NT x.2)
  obtain ⟨q1, hq1⟩ : ∃ q1, q0.setBox k1 (.loop 1 none e [17, 18] wA wC) = q1 := ⟨_, rfl⟩
  have w1 : Wf q1 := by rw [← hq1]; exact w0.setBox _ _
  have nb1 : q1.nb = q.nb + 1 ∧ q1.nt = q.nt := by rw [← hq1]; exact ⟨nb0, nt0⟩
  have bx1 : ∀ i, q1.box? i = if i = k1 then some (.loop 1 none e [17, 18] wA wC) else q0.box? i := fun i => by rw [← hq1]; exact setBox_box? w0.b (by omega) i
  have ov0 := ov0 s hov
  have ov1 : Over s q1 := by rw [← hq1]; exact Over.setBox ov0 (by omega) (by omega) _
  have b1k := bx1 k1
  rw [if_pos rfl] at b1k
  have fr1 : Fq (fun _ => False) k1 q q1 := by
   have f3 : Fq (fun _ => False) k1 q0 q1 := by rw [← hq1]; exact Fq.setBox w0 (by omega) (.inl (Nat.le_refl _)) (by omega) _
   exact (fr0 _ k1 (by omega)).trans f3
  have b1m : q1.box? mb = some (.cells 73 [.m mid]) := by rw [bx1, if_neg (by omega), bx0 _ (by omega)]; exact hmb
  have b1p : q1.box? mid = some (.map (ES b1 b2 b3 b4 b5 b6 b7 b8)) := by rw [bx1, if_neg (by omega), bx0 _ (by omega)]; exact hmp
  have hrn1 := hrn.stab (hC.weaken (by omega : k1 ≤ k1 + 1)) hx (fun h => h) (Nat.le_refl _) fr1
  obtain ⟨a, ha1, ha2, ha3, ha4⟩ := hrn1
  have b1n : q1.box? q.nb = some (.cells 25 x.2.cells) := by rw [bx1, if_neg (by omega)]; exact bx0n
  have hkO : ¬ O k1 := fun h => by have := (hO _ h).1; omega
  obtain ⟨rest, H, hrest⟩ := TE w1 ov1 [(ob, .cells 26 [a]), (mb, .cells 73 [.m mid]), (k1, .loop 1 none e [17, 18] wA wC), (q.nb, .cells 25 x.2.cells), (mid, .map (ES b1 b2 b3 b4 b5 b6 b7 b8))] (by
   intro p hp
   simp only [List.mem_cons, List.not_mem_nil, or_false] at hp
   rcases hp with rfl | rfl | rfl | rfl | rfl
   · exact ⟨ha1, hs⟩
   · exact ⟨b1m, hs2⟩
   · exact ⟨b1k, by simp only; omega⟩
   · exact ⟨b1n, by simp only; omega⟩
   · exact ⟨b1p, hs3⟩) (by simp; omega)
  have H := H.addRow ha2
  obtain ⟨r, hr, hnm, hvar⟩ := hxt
  obtain ⟨f, hf, hkf⟩ := Mk (b1 := b1) (b2 := b2) (b3 := b3) (b4 := b4) (b5 := b5) (b6 := b6) (b7 := b7) (b8 := b8) hr
  have ldm := ET (s := q1) (v := .m mid) (off := 0) b1m rfl
  have ldk := ET (s := q1) (v := .i .u8 (x.2.kind : Nat)) (off := 0) b1n rfl
  have hrp : (lim prog).call D6 [.s [32], .i .i64 (x.1 : Nat)] q1 = some (.s (List.replicate x.1 32), q1) := by
   refine HU Ir rfl ?_
   show (if x.1 ≤ 9223372036854775807 ∧ [32].length * x.1 ≤ 140737488355328 then some (AV.s (repN [32] x.1)) else none) = _
   rw [if_pos (by simp; omega), OA]
  refine ID ?_
  refine NI (t := (e.set 10 17 (.i .i64 (x.1 : Nat))).set 10 18 (.agg x.2.cells)) hk rfl ?_
  simp only [wA, CA, subC, go_sem, AF, AA, AC, AB, KB_n, KB_x, Nat.reduceBEq, Nat.reduceAdd, Nat.reduceLT, Nat.reduceLeDiff, Nat.reduceEqDiff, reduceIte, Int.reduceEq, reduceCtorEq, st0]
  refine ⟨_, _, _, _, by rw [bx0 k1 (by omega)]; exact hk, ?_⟩
  rw [hq1]
  simp only [wC, CA, subC, go_sem, AF, AA, AC, AB, KB_n, KB_x, Nat.reduceBEq, Nat.reduceAdd, Nat.reduceLT, Nat.reduceLeDiff, Nat.reduceEqDiff, reduceIte, Int.reduceEq, reduceCtorEq]
  refine Kf rfl ?_
  have hw0 : r.word.length ≤ 6 := by
   unfold Fn at hr
   split at hr <;> (try cases hr) <;> decide
  have c1 : Am.binOp .add (.s (List.replicate x.1 32)) (.s r.word) = some (.s (List.replicate x.1 32 ++ r.word)) := Jq (by simp; omega)
  have hal : ∀ w : List Nat, Aj 1 [AV.s w] = true := fun _ => rfl
  have ldn := ET (s := q1) (v := .s x.2.name) (off := 1) b1n rfl
  have ldi := ET (s := q1) (v := .ws false 2 (x.2.items.map IT.av)) (off := 2) b1n rfl
  have hrs := Sq hkf
  simp only [rlV] at hf hrs
  simp only [go_sem, AF, AA, AC, AB, KB_n, KB_x, Nat.reduceBEq, Nat.reduceAdd, Nat.reduceLT, Nat.reduceLeDiff, Nat.reduceEqDiff, reduceIte, Int.reduceEq, reduceCtorEq, g4, g5, hrp, ldm, ldk, b1p, hf, cut_rl, c1, hal]
  refine Ld rfl (by simp only [go_sem, AF, AA, AC, AB, KB_n, KB_x, Nat.reduceBEq, Nat.reduceAdd, Nat.reduceLT, Nat.reduceLeDiff, Nat.reduceEqDiff, reduceIte, Int.reduceEq, reduceCtorEq, g4]) (by simp [still, beqA]) ⟨⟨_, rfl, ldm⟩, ⟨_, rfl, ldm⟩, ⟨_, rfl, ldm⟩, trivial⟩ ?_
  refine Ld rfl (by simp only [go_sem, AF, AA, AC, AB, KB_n, KB_x, Nat.reduceBEq, Nat.reduceAdd, Nat.reduceLT, Nat.reduceLeDiff, Nat.reduceEqDiff, reduceIte, Int.reduceEq, reduceCtorEq]) (NP _ _) ⟨⟨_, rfl, ldk⟩, ⟨_, rfl, ldk⟩, ⟨_, rfl, ldk⟩, ⟨_, rfl, ldk⟩, ⟨_, rfl, ldk⟩, trivial⟩ ?_
  have hlook : ∀ e' : Tr, e'.get 21 = .m mid → e'.get 23 = .i .u8 (x.2.kind : Nat) → evOp (lim prog) e' q1 (.look 0 (.agg [.s [], .b false, .i .i64 0, .i .i64 0, .nf]) false (.t 21) (.t 23)) = some (.agg [.s r.word, .b r.named, .i .i64 r.least, .i .i64 r.most, f], q1) := fun e' h1 h2 => by
   simp only [evOp, X.ev, h1, h2, b1p, hf, Bool.false_eq_true, if_false]
  have hop : ∀ e' : Tr, e'.get 21 = .m mid → e'.get 23 = .i .u8 (x.2.kind : Nat) → ∃ q s', some q1 = some q ∧ CM e' q (.look 0 (.agg [.s [], .b false, .i .i64 0, .i .i64 0, .nf]) false (.t 21) (.t 23)) = true ∧ evOp (lim prog) e' q (.look 0 (.agg [.s [], .b false, .i .i64 0, .i .i64 0, .nf]) false (.t 21) (.t 23)) = some (.agg [.s r.word, .b r.named, .i .i64 r.least, .i .i64 r.most, f], s') := fun e' h1 h2 => ⟨q1, q1, rfl, rfl, hlook e' h1 h2⟩
  refine KW_op rfl hrs ⟨hop _ (by simp only [go_sem, AF, AA, AC, AB, KB_n, KB_x, Nat.reduceBEq, Nat.reduceAdd, Nat.reduceLT, Nat.reduceLeDiff, Nat.reduceEqDiff, reduceIte, Int.reduceEq, reduceCtorEq]) (by simp only [go_sem, AF, AA, AC, AB, KB_n, KB_x, Nat.reduceBEq, Nat.reduceAdd, Nat.reduceLT, Nat.reduceLeDiff, Nat.reduceEqDiff, reduceIte, Int.reduceEq, reduceCtorEq]), hop _ (by simp only [go_sem, AF, AA, AC, AB, KB_n, KB_x, Nat.reduceBEq, Nat.reduceAdd, Nat.reduceLT, Nat.reduceLeDiff, Nat.reduceEqDiff, reduceIte, Int.reduceEq, reduceCtorEq]) (by simp only [go_sem, AF, AA, AC, AB, KB_n, KB_x, Nat.reduceBEq, Nat.reduceAdd, Nat.reduceLT, Nat.reduceLeDiff, Nat.reduceEqDiff, reduceIte, Int.reduceEq, reduceCtorEq]), hop _ (by simp only [go_sem, AF, AA, AC, AB, KB_n, KB_x, Nat.reduceBEq, Nat.reduceAdd, Nat.reduceLT, Nat.reduceLeDiff, Nat.reduceEqDiff, reduceIte, Int.reduceEq, reduceCtorEq]) (by simp only [go_sem, AF, AA, AC, AB, KB_n, KB_x, Nat.reduceBEq, Nat.reduceAdd, Nat.reduceLT, Nat.reduceLeDiff, Nat.reduceEqDiff, reduceIte, Int.reduceEq, reduceCtorEq]), hop _ (by simp only [go_sem, AF, AA, AC, AB, KB_n, KB_x, Nat.reduceBEq, Nat.reduceAdd, Nat.reduceLT, Nat.reduceLeDiff, Nat.reduceEqDiff, reduceIte, Int.reduceEq, reduceCtorEq]) (by simp only [go_sem, AF, AA, AC, AB, KB_n, KB_x, Nat.reduceBEq, Nat.reduceAdd, Nat.reduceLT, Nat.reduceLeDiff, Nat.reduceEqDiff, reduceIte, Int.reduceEq, reduceCtorEq]), hop _ (by simp only [go_sem, AF, AA, AC, AB, KB_n, KB_x, Nat.reduceBEq, Nat.reduceAdd, Nat.reduceLT, Nat.reduceLeDiff, Nat.reduceEqDiff, reduceIte, Int.reduceEq, reduceCtorEq]) (by simp only [go_sem, AF, AA, AC, AB, KB_n, KB_x, Nat.reduceBEq, Nat.reduceAdd, Nat.reduceLT, Nat.reduceLeDiff, Nat.reduceEqDiff, reduceIte, Int.reduceEq, reduceCtorEq]), hop _ (by simp only [go_sem, AF, AA, AC, AB, KB_n, KB_x, Nat.reduceBEq, Nat.reduceAdd, Nat.reduceLT, Nat.reduceLeDiff, Nat.reduceEqDiff, reduceIte, Int.reduceEq, reduceCtorEq]) (by simp only [go_sem, AF, AA, AC, AB, KB_n, KB_x, Nat.reduceBEq, Nat.reduceAdd, Nat.reduceLT, Nat.reduceLeDiff, Nat.reduceEqDiff, reduceIte, Int.reduceEq, reduceCtorEq]), trivial⟩ (Kg ?_)
  have hline := Uw x hr
  obtain ⟨W1, hW1⟩ : ∃ W1, (List.replicate x.1 32 ++ r.word) :: (if x.2.name = [] then [] else [x.2.name]) = W1 := ⟨_, rfl⟩
  have hline : joinN [32] (W1 ++ x.2.items.map Ch) = Cy x := by rw [← hW1, ← hline]; rfl
  have hW1n : W1 ≠ [] := by rw [← hW1]; simp
  have hW1l : W1.length ≤ 4 := by rw [← hW1]; split <;> simp
  have Hw := H.addFull 1 9 (a := .sl 1 [.s (List.replicate x.1 32 ++ r.word)] .full) (xs := [.s (List.replicate x.1 32 ++ r.word)]) true G5.full
  refine (KS_n _ _).2 ?_
  refine P8 (fun e' q' => ∃ w, Hp s q' ⟨q1.lo, q1.nb, q1.nt⟩ [⟨1, 9, w, W1.map .s, true⟩, ⟨1, 9, a, ((L.take j).map Cy).map .s, true⟩] ((ob, .cells 26 [a]) :: ([(mb, .cells 73 [.m mid]), (k1, .loop 1 none e [17, 18] wA wC), (q.nb, .cells 25 x.2.cells), (mid, .map (ES b1 b2 b3 b4 b5 b6 b7 b8))] ++ rest)) ∧ q1.nb ≤ q'.nb ∧ e'.get 5 = .p ob 0 ∧ e'.get 7 = .p q.nb 0 ∧ e'.get 8 = w) ?_ ?_
  · by_cases hnn : x.2.name = []
    · have e1 : (x.2.name ≠ []) = False := eq_false (fun h => h hnn)
      simp only [go_sem, AF, AA, AC, AB, KB_n, KB_x, Nat.reduceBEq, Nat.reduceAdd, Nat.reduceLT, Nat.reduceLeDiff, Nat.reduceEqDiff, reduceIte, Int.reduceEq, reduceCtorEq, ldn, e1, g5]
      rw [if_pos hnn] at hW1
      rw [← hW1]
      exact ⟨_, Hw, Nat.le_refl _, rfl⟩
    · have e1 : (x.2.name ≠ []) = True := eq_true hnn
      obtain ⟨w', q2, d2, H2, n2, _⟩ := Hw.app 0 (y := .sl 1 [.s x.2.name] .full) (ys := [.s x.2.name]) rfl (by simp [elems, St.ok]) (by simp)
      simp only [go_sem, AF, AA, AC, AB, KB_n, KB_x, Nat.reduceBEq, Nat.reduceAdd, Nat.reduceLT, Nat.reduceLeDiff, Nat.reduceEqDiff, reduceIte, Int.reduceEq, reduceCtorEq, ldn, e1, g5, hal, d2]
      rw [if_neg hnn] at hW1
      rw [← hW1]
      exact ⟨_, H2, by omega, rfl⟩
  · rintro e' q' ⟨w, Hq, hnb, h5, h7, h8⟩
    refine Sr Hq (i := 2) (nx := q.nb) (x := x.2) rfl hxo hxi hW1n hW1l (by rw [hline]; exact hxl) (by rw [List.length_map, List.length_take]; omega) h5 h7 h8 ?_
    intro e2 q3 a' H3 hnb3 hrt hlo3
    rw [hline] at H3
    have H5 := H3.setBox (i := 2) rfl (.loop 0 none e [17, 18] wA wC)
    simp only [List.set_cons_zero, List.set_cons_succ, List.cons_append, List.nil_append] at H5
    simp only [KB_n]
    have nt3 : q1.nt ≤ q3.nt := H3.nt
    have z1 : k1 < q3.nb := by omega
    have z2 : s.nb ≤ k1 := by omega
    have z3 : q.nb ≤ q3.nb := by omega
    have z4 : q.nt ≤ q3.nt := by omega
    have z5 : q3.box? k1 = some (.loop 1 none e [17, 18] wA wC) := (H3.box (i := 2) rfl).1
    refine HL z5 z1 H3.wf H3.over z2 z3 z4 hkO (fun i hi hlt => ?_) (fun _ => ⟨(H5.box (i := 2) rfl).1, (H5.box (i := 1) rfl).1, (H5.box (i := 4) rfl).1, ⟨a', (H5.box (i := 0) rfl).1, by rw [htk]; exact H5.rows (i := 0) rfl, fun k hk => ?_, .inl hrt⟩⟩) (fun hh => by simp at hh) (fun i hh => by simp at hh)
    · have h1 : i ≠ k1 := by
       rintro rfl
       rcases hi with hi | hi
       · exact hkO hi
       · omega
      have h2 : i ≠ ob ∧ i ≠ mb ∧ i ≠ mid := by
       rcases hi with hi | hi
       · exact (hO _ hi).2
       · omega
      rw [Hp.keep (M := [_, _, _, _, _]) hrest w1 H3 (by rcases hi with hi | hi; exact hO2 _ hi; omega) (by omega) (fun p hp => by
       simp only [List.mem_cons, List.not_mem_nil, or_false] at hp
       rcases hp with rfl | rfl | rfl | rfl | rfl <;> simp only <;> omega), bx1, if_neg h1, bx0 i hlt]
    · have h1 := hlo3 (Sn (H3.rows (i := 0) rfl) hk)
      refine hC.low k _ ?_
      show q3.lo < k1 + 1
      omega

def Ux (n : IN) : AV := if mayI n then .tup [tx ((allL n 0).map Cy), .i .i64 0] else .tup [tx [], .i .i64 4]
theorem RL (n : IN) (ho : n.Ok) (hb : nodesI n < 2 ^ 36) (hL : mayI n = true → ∀ x ∈ allL n 0, x.2.Ok ∧ NU x.2 ∧ x.1 < 2 ^ 30 ∧ (∀ y ∈ x.2.items, (y.parts.flatMap CV).length < 2 ^ 59) ∧ (Cy x).length ≤ 2 ^ 47) (s : St) (hw : Wf s) :
    (lim prog).call FK [.agg n.cells] s = some (Ux n, s) := by
 refine fn_W Qj rfl rfl ?_
 have hz0 : wkZ CA.cin [.agg n.cells] = [.agg n.cells] := by simp [CA, wkZ, wk, IN.cells, itx]
 rw [hz0]
 have e0 : s.enter.nb = s.nb := rfl
 have H1 := (Hp.begin hw).new (.cells 25 n.cells)
 obtain ⟨q1, hq1⟩ : ∃ q1, s.enter.new (.cells 25 n.cells) = q1 := ⟨_, rfl⟩
 have nb1 : q1.nb = s.nb + 1 := by rw [← hq1]; rfl
 rw [hq1, e0] at H1
 have lw := H1.ldw (m := 4) 0 rfl rfl
 have hm := TK n ho q1 H1.wf
 unfold Ux
 cases hmay : mayI n with
 | false =>
   rw [hmay] at hm
   simp only [CA, go_sem, AF, AA, AC, AB, KB_n, KB_x, Nat.reduceBEq, Nat.reduceAdd, Nat.reduceLT, Nat.reduceLeDiff, Nat.reduceEqDiff, reduceIte, Int.reduceEq, reduceCtorEq, nc4, e0, hq1, lw, Ec, hm]
   exact AN H1.over rfl rfl
 | true =>
   rw [hmay] at hm
   have hL := hL hmay
   obtain ⟨_, q2, d2, m, b1, b2, b3, b4, b5, b6, b7, b8, rfl, H2⟩ := OZ H1
   simp only [List.cons_append, List.nil_append] at H2
   have e2 : (if true = true then AV.tup [tx ((allL n 0).map Cy), .i .i64 0] else .tup [tx [], .i .i64 4]) = .tup [tx ((allL n 0).map Cy), .i .i64 0] := rfl
   rw [e2]
   have hml := (H2.box (i := 8) rfl).2
   have hmb := (H2.box (i := 8) rfl).1
   have hsl := (H2.box (i := 9) rfl).2
   have hms := H2.bapart (i := 8) (j := 9) (by omega) rfl rfl
   simp only at hml hmb hsl hms
   have H3 := (H2.sel [] [8, 9] (by simp) (by simp)).new (.cells 73 [.nm])
   obtain ⟨q3, hq3⟩ : ∃ q3, q2.new (.cells 73 [.nm]) = q3 := ⟨_, rfl⟩
   have nb3 : q3.nb = q2.nb + 1 := by rw [← hq3]; rfl
   rw [hq3] at H3
   simp only [pick, List.getElem?_cons_succ, List.getElem?_cons_zero] at H3
   obtain ⟨q4, d4, H4, n4, _⟩ := H3.st 0 (off := 0) (v := .m m) rfl (by simp) ⟨rfl, rfl⟩
   simp only [List.set_cons_zero] at H4
   have H5 := H4.new (.cells 26 [.nsl])
   obtain ⟨q5, hq5⟩ : ∃ q5, q4.new (.cells 26 [.nsl]) = q5 := ⟨_, rfl⟩
   have nb5 : q5.nb = q2.nb + 2 := by rw [← hq5]; show q4.nb + 1 = _; omega
   have e4 : q4.nb = q2.nb + 1 := by omega
   rw [hq5, e4] at H5
   have lw5 := H5.ldw (m := 4) 3 rfl rfl
   obtain ⟨q6, d6, w6, nb6, nt6, bl6, bt6, bx6, ov6, fq6⟩ := Qn (n := n) (d := 0) H5.wf
   have ov6 := ov6 s H5.over
   simp only [Int.natCast_zero] at d6
   simp only [CA, go_sem, AF, AA, AC, AB, KB_n, KB_x, Nat.reduceBEq, Nat.reduceAdd, Nat.reduceLT, Nat.reduceLeDiff, Nat.reduceEqDiff, reduceIte, Int.reduceEq, reduceCtorEq, nc4, e0, hq1, lw, Ec, hm, d2, hq3, d4, hq5, e4, lw5, d6]
   refine Tt (g := Ci) (caps := [.p (q5.nb + 1) 0, .p q5.nb 0]) (by simp only [go_sem, AF, AA, AC, AB, KB_n, KB_x, Nat.reduceBEq, Nat.reduceAdd, Nat.reduceLT, Nat.reduceLeDiff, Nat.reduceEqDiff, reduceIte, Int.reduceEq, reduceCtorEq]) fun e' he' => ?_
   have z4 : e'.get 4 = .p q2.nb 0 := by rw [he']; simp only [go_sem, AF, AA, AC, AB, KB_n, KB_x, Nat.reduceBEq, Nat.reduceAdd, Nat.reduceLT, Nat.reduceLeDiff, Nat.reduceEqDiff, reduceIte, Int.reduceEq, reduceCtorEq]
   have z5 : e'.get 5 = .p (q2.nb + 1) 0 := by rw [he']; simp only [go_sem, AF, AA, AC, AB, KB_n, KB_x, Nat.reduceBEq, Nat.reduceAdd, Nat.reduceLT, Nat.reduceLeDiff, Nat.reduceEqDiff, reduceIte, Int.reduceEq, reduceCtorEq]
   clear he'
   obtain ⟨q7, hq7⟩ : ∃ q7, q6.new (.loop 0 none e' [17, 18] wA wC) = q7 := ⟨_, rfl⟩
   have w7 : Wf q7 := by rw [← hq7]; exact w6.new _
   have nb7 : q7.nb = q6.nb + 1 := by rw [← hq7]; rfl
   have ov7 : Over s q7 := by rw [← hq7]; exact ov6.new _
   have bx7 : ∀ i, i < q6.nb → q7.box? i = q6.box? i := fun i hi => by rw [← hq7]; exact B7 hi
   have bk7 : q7.box? q6.nb = some (.loop 0 none e' [17, 18] wA wC) := by rw [← hq7]; exact BF q6 _
   have hsn : s.nb < q2.nb := by omega
   have B := Ss (s := s) (L := allL n 0) (ob := q2.nb + 1) (mb := q2.nb) (mid := m) (b1 := b1) (b2 := b2) (b3 := b3) (b4 := b4) (b5 := b5) (b6 := b6) (b7 := b7) (b8 := b8) (k1 := q6.nb) (e := e') (O := fun j => j = q5.nb + 1 ∨ j = q5.nb) (by omega) (by omega) (by omega) (by omega) (by omega) (by omega) (by omega) z4 z5 hL (by rw [Fm]; exact hb) (fun j hj => by omega) (fun j hj => by omega)
   have c0 := (H5.box (i := 0) rfl).1
   have c1 := (H5.box (i := 1) rfl).1
   have c2 := (H5.box (i := 2) rfl).1
   simp only at c0 c1 c2
   obtain ⟨q8, d8, ov8, w8, nb8, nt8, hres8⟩ := Qp n ho 0 (by omega) (s := q7) (xb := q5.nb + 1) (lb := q5.nb) (by rw [bx7 _ (by omega)]; exact bt6) (by rw [bx7 _ (by omega)]; exact bl6) (by omega) (by omega)
    s (q6.nb + 1) (q6.nb + 1) q6.nb _ _ (C0 (q6.nb + 1) 0) (C0.safe _ _) (Nat.le_refl _) B ⟨bk7, by rw [bx7 _ (by omega), bx6 _ (by omega)]; exact c1, by rw [bx7 _ (by omega), bx6 _ (by omega)]; exact c2, .nsl, by rw [bx7 _ (by omega), bx6 _ (by omega)]; exact c0, .inl .nil, (fun k hk => by simp [A7] at hk), .inr ⟨rfl, rfl⟩⟩ ov7 w7 (by omega) (by omega)
   rw [← hq7] at d8
   rcases hres8 with ⟨hk8, _, _, hrn⟩ | h
   case inr => exact h.elim
   refine ⟨_, q8, d8, _, _, _, _, _, _, hk8, by decide, ?_⟩
   have hlen : (alV (allL n 0)).length = (allL n 0).length := by simp [alV]
   rw [hlen, List.take_length] at hrn
   have fq8 : Fq (fun _ => False) q6.nb q8 (q8.setBox q6.nb .used) := Fq.setBox w8 (by omega) (.inl (Nat.le_refl _)) (by omega) _
   obtain ⟨q9, hq9⟩ : ∃ q9, q8.setBox q6.nb .used = q9 := ⟨_, rfl⟩
   rw [hq9] at fq8
   have w9 : Wf q9 := by rw [← hq9]; exact w8.setBox _ _
   have ov9 : Over s q9 := by rw [← hq9]; exact Over.setBox ov8 (by omega) (by omega) _
   obtain ⟨a, k1, k2, _, k4⟩ := hrn
   have k1 : q9.box? (q2.nb + 1) = some (.cells 26 [a]) := by rw [fq8.box _ (by omega) (fun h => h)]; exact k1
   have k2 := k2.mono fq8.tok.1 fun k hk => fq8.tok.2 k (k2.tok_lt hk)
   obtain ⟨rest, H9, _⟩ := TE w9 ov9 [(q2.nb + 1, .cells 26 [a])] (by
    intro p hp
    simp only [List.mem_cons, List.not_mem_nil, or_false] at hp
    subst hp
    exact ⟨k1, by simp only; omega⟩) (by simp)
   have H9 := H9.addRow k2
   have la := ET (s := q9) (v := a) (off := 0) k1 rfl
   have hlr : ∀ u, ldR u (some a) = some (a, u) := fun u => by
    rcases k2 with (⟨h, _⟩ | ⟨h, _⟩ | h | h) | ⟨k, v, t, h, _⟩ <;> simp only at h <;> rw [h] <;> rfl
   obtain ⟨a', q10, d10, t10, H10, _⟩ := H9.pub 0 rfl
   have dA : pubA q9 a = some (a', q10) := by
    rw [Rj (H9.rows (i := 0) rfl)]; exact d10
   simp only [hq9, go_sem, AF, AA, AC, AB, KB_n, KB_x, Nat.reduceBEq, Nat.reduceAdd, Nat.reduceLT, Nat.reduceLeDiff, Nat.reduceEqDiff, reduceIte, Int.reduceEq, reduceCtorEq, z5, la, hlr, dA]
   refine AN H10.over ?_ ?_
   · have href : a'.refs = false := t10.refs (No _)
     simp only [Bf, AV.refs, AV.refs.go, href, Bool.or_self]
   · simp only [Bf, wkZ, wk, t10.wk (Rk _)]

theorem eqG_pt (p q : PT) : ∃ r, eqG [0, 2, 0] (.agg p.cells) (.agg q.cells) = some r ∧ (r = true ↔ p = q) := by
 refine ⟨_, rfl, ?_⟩
 obtain ⟨a, b, c⟩ := p
 obtain ⟨a', b', c'⟩ := q
 simp [HQ]
theorem Jr {α : Type} {a b : List α} (hl : a.length = b.length) {i : Nat} (hi : i = a.length) (h : a.take i = b.take i) : a = b := by
 subst hi
 rw [List.take_length, hl, List.take_length] at h
 exact h
theorem Js {α : Type} {a b : List α} {i : Nat} {x y : α} (hx : a[i]? = some x) (hy : b[i]? = some y) (h : x ≠ y) : a ≠ b := fun hh => by
 subst hh
 rw [hx] at hy
 exact h (Option.some.inj hy)
theorem IR {α : Type} {a b : List α} {i : Nat} {x : α} (hx : a[i]? = some x) (hy : b[i]? = some x) (h : a.take i = b.take i) : a.take (i + 1) = b.take (i + 1) := by
 rw [List.take_add_one, List.take_add_one, hx, hy, h]
theorem PL (a b : List PT) (ha : a.length < 2 ^ 34) (hb : b.length < 2 ^ 34) (s : St) (hw : Wf s) : ∃ r, (lim prog).call Ay [ptx a, ptx b] s = some (.b r, s) ∧ (r = true ↔ a = b) := by
 suffices h : ∃ r s', (lim prog).call Ay [ptx a, ptx b] s = some (r, s') ∧ ∃ x, r = .b x ∧ s' = s ∧ (x = true ↔ a = b) by
  obtain ⟨r, s', h1, x, rfl, rfl, h2⟩ := h
  exact ⟨x, h1, h2⟩
 refine fn_G DY rfl rfl ?_
 have hz0 : wkZ AZ.cin [ptx a, ptx b] = [ptx a, ptx b] := by simp [AZ, wkZ, wk, ptx]
 rw [hz0]
 have H1 := Hp.begin hw
 generalize hq : s.enter = q at H1
 have fin : ∀ x : Bool, (x = true ↔ a = b) → ∃ vs s2, (some ([AV.b x], q) : Option (List AV × St)) = some (vs, s2) ∧ ∃ x', Bf (wkZ [.id] vs) = .b x' ∧ leave s s2 (Bf vs) = s ∧ (x' = true ↔ a = b) := fun x hx => ⟨_, _, rfl, x, rfl, H1.over.leave rfl, hx⟩
 by_cases hlen : a.length = b.length
 · have e0 : ((a.length : Int) ≠ (b.length : Int)) = False := eq_false (by omega)
   simp only [AZ, go_sem, AF, AA, AC, AB, KB_n, KB_x, Nat.reduceBEq, Nat.reduceAdd, Nat.reduceLT, Nat.reduceLeDiff, Nat.reduceEqDiff, reduceIte, Int.reduceEq, reduceCtorEq, ptx, List.length_map, e0]
   refine DH (fun x e q' => ∃ i : Nat, i + x = a.length ∧ a.take i = b.take i ∧ q' = q ∧ e.get 0 = ptx a ∧ e.get 1 = ptx b ∧ e.get 12 = .i .i64 (a.length : Nat) ∧ e.get 13 = .i .i64 (i : Nat)) ?_ a.length _ _ ?_
   · rintro x e q' ⟨i, hix, heq, hqq, g0, g1, g12, g13⟩
     subst q'
     by_cases h : i < a.length
     · have h1 : ((i : Int) < (a.length : Int)) = True := eq_true (by omega)
       obtain ⟨y, hy⟩ : ∃ y, a[i]? = some y := ⟨_, List.getElem?_eq_getElem h⟩
       obtain ⟨z, hz⟩ : ∃ z, b[i]? = some z := ⟨_, List.getElem?_eq_getElem (by omega)⟩
       have hy2 := Km hy
       have hz2 := Km hz
       have hw1 := BI (show i + 1 < 2 ^ 63 by omega)
       obtain ⟨r, hr, hyz⟩ := eqG_pt y z
       cases r with
       | true =>
         have hyz := hyz.1 rfl
         simp only [go_sem, AF, AA, AC, AB, KB_n, KB_x, Nat.reduceBEq, Nat.reduceAdd, Nat.reduceLT, Nat.reduceLeDiff, Nat.reduceEqDiff, reduceIte, Int.reduceEq, reduceCtorEq, g0, g1, g12, g13, h1, ptx, AM, hy2, hz2, pld, E4, hr, hw1]
         refine ⟨rfl, rfl, x - 1, by omega, i + 1, by omega, ?_, rfl⟩
         subst hyz
         exact IR hy hz heq
       | false =>
         have hne : y ≠ z := fun hh => by have := hyz.2 hh; cases this
         simp only [go_sem, AF, AA, AC, AB, KB_n, KB_x, Nat.reduceBEq, Nat.reduceAdd, Nat.reduceLT, Nat.reduceLeDiff, Nat.reduceEqDiff, reduceIte, Int.reduceEq, reduceCtorEq, g0, g1, g12, g13, h1, ptx, AM, hy2, hz2, pld, E4, hr]
         exact ⟨rfl, rfl, fin false ⟨fun hh => (by cases hh), fun hh => absurd hh (Js hy hz hne)⟩⟩
     · have h1 : ((i : Int) < (a.length : Int)) = False := eq_false (by omega)
       simp only [go_sem, AF, AA, AC, AB, KB_n, KB_x, Nat.reduceBEq, Nat.reduceAdd, Nat.reduceLT, Nat.reduceLeDiff, Nat.reduceEqDiff, reduceIte, Int.reduceEq, reduceCtorEq, g0, g1, g12, g13, h1]
       exact fin true ⟨fun _ => Jr hlen (by omega) heq, fun _ => rfl⟩
   · simp only [go_sem, AF, AA, AC, AB, KB_n, KB_x, Nat.reduceBEq, Nat.reduceAdd, Nat.reduceLT, Nat.reduceLeDiff, Nat.reduceEqDiff, reduceIte, Int.reduceEq, reduceCtorEq]
     exact ⟨0, by omega, by simp, rfl, rfl, rfl⟩
 · have e0 : ((a.length : Int) ≠ (b.length : Int)) = True := eq_true (by omega)
   simp only [AZ, go_sem, AF, AA, AC, AB, KB_n, KB_x, Nat.reduceBEq, Nat.reduceAdd, Nat.reduceLT, Nat.reduceLeDiff, Nat.reduceEqDiff, reduceIte, Int.reduceEq, reduceCtorEq, ptx, List.length_map, e0]
   exact fin false ⟨fun hh => (by cases hh), fun hh => absurd (congrArg List.length hh) hlen⟩
theorem Jt {f : Nat} (a b : List IT) (ha : a.length < 2 ^ 34) (hb : b.length < 2 ^ 34) (hf : ∀ x ∈ a, ∀ y ∈ b, ∀ q, Wf q → ∃ r, (lim prog).call f [.agg x.cells, .agg y.cells] q = some (.b r, q) ∧ (r = true ↔ x = y)) (s : St) (hw : Wf s) :
    ∃ r, (lim prog).call AU [itx a, itx b, .fn f []] s = some (.b r, s) ∧ (r = true ↔ a = b) := by
 suffices h : ∃ r s', (lim prog).call AU [itx a, itx b, .fn f []] s = some (r, s') ∧ ∃ x, r = .b x ∧ s' = s ∧ (x = true ↔ a = b) by
  obtain ⟨r, s', h1, x, rfl, rfl, h2⟩ := h
  exact ⟨x, h1, h2⟩
 refine fn_G Bg rfl rfl ?_
 have hz0 : wkZ AI.cin [itx a, itx b, .fn f []] = [itx a, itx b, .fn f []] := by simp [AI, wkZ, wk, itx]
 rw [hz0]
 have H1 := Hp.begin hw
 generalize hq : s.enter = q at H1
 have fin : ∀ (q : St), Over s q → ∀ x : Bool, (x = true ↔ a = b) → ∃ vs s2, (some ([AV.b x], q) : Option (List AV × St)) = some (vs, s2) ∧ ∃ x', Bf (wkZ [.id] vs) = .b x' ∧ leave s s2 (Bf vs) = s ∧ (x' = true ↔ a = b) := fun q ho x hx => ⟨_, _, rfl, x, rfl, ho.leave rfl, hx⟩
 by_cases hlen : a.length = b.length
 · have e0 : ((a.length : Int) ≠ (b.length : Int)) = False := eq_false (by omega)
   simp only [AI, go_sem, AF, AA, AC, AB, KB_n, KB_x, Nat.reduceBEq, Nat.reduceAdd, Nat.reduceLT, Nat.reduceLeDiff, Nat.reduceEqDiff, reduceIte, Int.reduceEq, reduceCtorEq, itx, List.length_map, e0]
   refine DH (fun x e q' => ∃ i : Nat, i + x = a.length ∧ a.take i = b.take i ∧ Hp s q' s.en [] [] ∧ e.get 1 = itx b ∧ e.get 2 = .fn f [] ∧ e.get 15 = itx a ∧ e.get 16 = .i .i64 (a.length : Nat) ∧ e.get 17 = .i .i64 (i : Nat)) ?_ a.length _ _ ?_
   · rintro x e q' ⟨i, hix, heq, H, g1, g2, g15, g16, g17⟩
     by_cases h : i < a.length
     · have h1 : ((i : Int) < (a.length : Int)) = True := eq_true (by omega)
       obtain ⟨y, hy⟩ : ∃ y, a[i]? = some y := ⟨_, List.getElem?_eq_getElem h⟩
       obtain ⟨z, hz⟩ : ∃ z, b[i]? = some z := ⟨_, List.getElem?_eq_getElem (by omega)⟩
       have hy2 := Me hy
       have hz2 := Me hz
       have hw1 := BI (show i + 1 < 2 ^ 63 by omega)
       have cl : ∀ y : IT, (AV.agg y.cells).cells = y.cells := fun _ => rfl
       obtain ⟨q1, d1, K1, n1⟩ := H.adp (T := 78) (m := 2) (z := [.nsl, .b false]) (v := .agg y.cells) rfl ⟨ic2 y, io2 y⟩
       obtain ⟨q2, d2, K2, n2⟩ := K1.adp (T := 78) (m := 2) (z := [.nsl, .b false]) (v := .agg z.cells) rfl ⟨ic2 z, io2 z⟩
       rw [cl] at K1 K2
       rw [cl] at K2
       have l1 := K2.ldw (m := 2) 1 rfl (ic2 y)
       have l2 := K2.ldw (m := 2) 0 rfl (ic2 z)
       obtain ⟨r, hr, hyz⟩ := hf y (List.mem_of_getElem? hy) z (List.mem_of_getElem? hz) q2 K2.wf
       have hcv : Di (lim prog) (.fn f []) [.agg y.cells, .agg z.cells] q2 = some (.b r, q2) := hr
       have npy := PH y
       have npz := PH z
       cases r with
       | true =>
         have hyz := hyz.1 rfl
         simp only [go_sem, AF, AA, AC, AB, KB_n, KB_x, Nat.reduceBEq, Nat.reduceAdd, Nat.reduceLT, Nat.reduceLeDiff, Nat.reduceEqDiff, reduceIte, Int.reduceEq, reduceCtorEq, g1, g2, g15, g16, g17, h1, itx, AM, hy2, hz2, ild, npy, npz, ic2, d1, d2, l1, l2, hcv, hw1]
         refine ⟨x - 1, by omega, i + 1, by omega, ?_, K2.dropB.dropB, rfl⟩
         subst hyz
         exact IR hy hz heq
       | false =>
         have hne : y ≠ z := fun hh => by have := hyz.2 hh; cases this
         simp only [go_sem, AF, AA, AC, AB, KB_n, KB_x, Nat.reduceBEq, Nat.reduceAdd, Nat.reduceLT, Nat.reduceLeDiff, Nat.reduceEqDiff, reduceIte, Int.reduceEq, reduceCtorEq, g1, g2, g15, g16, g17, h1, itx, AM, hy2, hz2, ild, npy, npz, ic2, d1, d2, l1, l2, hcv]
         exact fin _ K2.over false ⟨fun hh => (by cases hh), fun hh => absurd hh (Js hy hz hne)⟩
     · have h1 : ((i : Int) < (a.length : Int)) = False := eq_false (by omega)
       simp only [go_sem, AF, AA, AC, AB, KB_n, KB_x, Nat.reduceBEq, Nat.reduceAdd, Nat.reduceLT, Nat.reduceLeDiff, Nat.reduceEqDiff, reduceIte, Int.reduceEq, reduceCtorEq, g1, g2, g15, g16, g17, h1]
       exact fin _ H.over true ⟨fun _ => Jr hlen (by omega) heq, fun _ => rfl⟩
   · simp only [go_sem, AF, AA, AC, AB, KB_n, KB_x, Nat.reduceBEq, Nat.reduceAdd, Nat.reduceLT, Nat.reduceLeDiff, Nat.reduceEqDiff, reduceIte, Int.reduceEq, reduceCtorEq]
     exact ⟨0, by omega, by simp, H1, rfl, rfl, rfl⟩
 · have e0 : ((a.length : Int) ≠ (b.length : Int)) = True := eq_true (by omega)
   simp only [AI, go_sem, AF, AA, AC, AB, KB_n, KB_x, Nat.reduceBEq, Nat.reduceAdd, Nat.reduceLT, Nat.reduceLeDiff, Nat.reduceEqDiff, reduceIte, Int.reduceEq, reduceCtorEq, itx, List.length_map, e0]
   exact fin _ H1.over false ⟨fun hh => (by cases hh), fun hh => absurd (congrArg List.length hh) hlen⟩
theorem KI {f : Nat} (a b : List IN) (ha : a.length < 2 ^ 34) (hb : b.length < 2 ^ 34) (hf : ∀ x ∈ a, ∀ y ∈ b, ∀ q, Wf q → ∃ r, (lim prog).call f [.agg x.cells, .agg y.cells] q = some (.b r, q) ∧ (r = true ↔ x = y)) (s : St) (hw : Wf s) :
    ∃ r, (lim prog).call AY [inx a, inx b, .fn f []] s = some (.b r, s) ∧ (r = true ↔ a = b) := by
 suffices h : ∃ r s', (lim prog).call AY [inx a, inx b, .fn f []] s = some (r, s') ∧ ∃ x, r = .b x ∧ s' = s ∧ (x = true ↔ a = b) by
  obtain ⟨r, s', h1, x, rfl, rfl, h2⟩ := h
  exact ⟨x, h1, h2⟩
 refine fn_G Bz rfl rfl ?_
 have hz0 : wkZ AJ.cin [inx a, inx b, .fn f []] = [inx a, inx b, .fn f []] := by simp [AJ, wkZ, wk, inx]
 rw [hz0]
 have H1 := Hp.begin hw
 generalize hq : s.enter = q at H1
 have fin : ∀ (q : St), Over s q → ∀ x : Bool, (x = true ↔ a = b) → ∃ vs s2, (some ([AV.b x], q) : Option (List AV × St)) = some (vs, s2) ∧ ∃ x', Bf (wkZ [.id] vs) = .b x' ∧ leave s s2 (Bf vs) = s ∧ (x' = true ↔ a = b) := fun q ho x hx => ⟨_, _, rfl, x, rfl, ho.leave rfl, hx⟩
 by_cases hlen : a.length = b.length
 · have e0 : ((a.length : Int) ≠ (b.length : Int)) = False := eq_false (by omega)
   simp only [AJ, go_sem, AF, AA, AC, AB, KB_n, KB_x, Nat.reduceBEq, Nat.reduceAdd, Nat.reduceLT, Nat.reduceLeDiff, Nat.reduceEqDiff, reduceIte, Int.reduceEq, reduceCtorEq, inx, List.length_map, e0]
   refine DH (fun x e q' => ∃ i : Nat, i + x = a.length ∧ a.take i = b.take i ∧ Hp s q' s.en [] [] ∧ e.get 1 = inx b ∧ e.get 2 = .fn f [] ∧ e.get 15 = inx a ∧ e.get 16 = .i .i64 (a.length : Nat) ∧ e.get 17 = .i .i64 (i : Nat)) ?_ a.length _ _ ?_
   · rintro x e q' ⟨i, hix, heq, H, g1, g2, g15, g16, g17⟩
     by_cases h : i < a.length
     · have h1 : ((i : Int) < (a.length : Int)) = True := eq_true (by omega)
       obtain ⟨y, hy⟩ : ∃ y, a[i]? = some y := ⟨_, List.getElem?_eq_getElem h⟩
       obtain ⟨z, hz⟩ : ∃ z, b[i]? = some z := ⟨_, List.getElem?_eq_getElem (by omega)⟩
       have hy2 := Mf hy
       have hz2 := Mf hz
       have hw1 := BI (show i + 1 < 2 ^ 63 by omega)
       have cl : ∀ y : IN, (AV.agg y.cells).cells = y.cells := fun _ => rfl
       obtain ⟨q1, d1, K1, n1⟩ := H.adp (T := 25) (m := 4) (z := [.i .u8 0, .s [], .nsl, .nsl]) (v := .agg y.cells) rfl ⟨nc4 y, no4 y⟩
       obtain ⟨q2, d2, K2, n2⟩ := K1.adp (T := 25) (m := 4) (z := [.i .u8 0, .s [], .nsl, .nsl]) (v := .agg z.cells) rfl ⟨nc4 z, no4 z⟩
       rw [cl] at K1 K2
       rw [cl] at K2
       have l1 := K2.ldw (m := 4) 1 rfl (nc4 y)
       have l2 := K2.ldw (m := 4) 0 rfl (nc4 z)
       obtain ⟨r, hr, hyz⟩ := hf y (List.mem_of_getElem? hy) z (List.mem_of_getElem? hz) q2 K2.wf
       have hcv : Di (lim prog) (.fn f []) [.agg y.cells, .agg z.cells] q2 = some (.b r, q2) := hr
       have npy := Ec y
       have npz := Ec z
       cases r with
       | true =>
         have hyz := hyz.1 rfl
         simp only [go_sem, AF, AA, AC, AB, KB_n, KB_x, Nat.reduceBEq, Nat.reduceAdd, Nat.reduceLT, Nat.reduceLeDiff, Nat.reduceEqDiff, reduceIte, Int.reduceEq, reduceCtorEq, g1, g2, g15, g16, g17, h1, inx, AM, hy2, hz2, nld, npy, npz, nc4, d1, d2, l1, l2, hcv, hw1]
         refine ⟨x - 1, by omega, i + 1, by omega, ?_, K2.dropB.dropB, rfl⟩
         subst hyz
         exact IR hy hz heq
       | false =>
         have hne : y ≠ z := fun hh => by have := hyz.2 hh; cases this
         simp only [go_sem, AF, AA, AC, AB, KB_n, KB_x, Nat.reduceBEq, Nat.reduceAdd, Nat.reduceLT, Nat.reduceLeDiff, Nat.reduceEqDiff, reduceIte, Int.reduceEq, reduceCtorEq, g1, g2, g15, g16, g17, h1, inx, AM, hy2, hz2, nld, npy, npz, nc4, d1, d2, l1, l2, hcv]
         exact fin _ K2.over false ⟨fun hh => (by cases hh), fun hh => absurd hh (Js hy hz hne)⟩
     · have h1 : ((i : Int) < (a.length : Int)) = False := eq_false (by omega)
       simp only [go_sem, AF, AA, AC, AB, KB_n, KB_x, Nat.reduceBEq, Nat.reduceAdd, Nat.reduceLT, Nat.reduceLeDiff, Nat.reduceEqDiff, reduceIte, Int.reduceEq, reduceCtorEq, g1, g2, g15, g16, g17, h1]
       exact fin _ H.over true ⟨fun _ => Jr hlen (by omega) heq, fun _ => rfl⟩
   · simp only [go_sem, AF, AA, AC, AB, KB_n, KB_x, Nat.reduceBEq, Nat.reduceAdd, Nat.reduceLT, Nat.reduceLeDiff, Nat.reduceEqDiff, reduceIte, Int.reduceEq, reduceCtorEq]
     exact ⟨0, by omega, by simp, H1, rfl, rfl, rfl⟩
 · have e0 : ((a.length : Int) ≠ (b.length : Int)) = True := eq_true (by omega)
   simp only [AJ, go_sem, AF, AA, AC, AB, KB_n, KB_x, Nat.reduceBEq, Nat.reduceAdd, Nat.reduceLT, Nat.reduceLeDiff, Nat.reduceEqDiff, reduceIte, Int.reduceEq, reduceCtorEq, inx, List.length_map, e0]
   exact fin _ H1.over false ⟨fun hh => (by cases hh), fun hh => absurd (congrArg List.length hh) hlen⟩
theorem So (x y : IT) (hx : x.parts.length < 2 ^ 34) (hy : y.parts.length < 2 ^ 34) (s : St) (hw : Wf s) : ∃ r, (lim prog).call EU [.agg x.cells, .agg y.cells] s = some (.b r, s) ∧ (r = true ↔ x = y) := by
 suffices h : ∃ r s', (lim prog).call EU [.agg x.cells, .agg y.cells] s = some (r, s') ∧ ∃ z, r = .b z ∧ s' = s ∧ (z = true ↔ x = y) by
  obtain ⟨r, s', h1, z, rfl, rfl, h2⟩ := h
  exact ⟨z, h1, h2⟩
 refine fn_G NR rfl rfl ?_
 have hz0 : wkZ DB.cin [.agg x.cells, .agg y.cells] = [.agg x.cells, .agg y.cells] := by simp [DB, wkZ, wk, IT.cells, ptx]
 rw [hz0]
 have e0 : s.enter.nb = s.nb := rfl
 have H1 := ((Hp.begin hw).new (.cells 78 x.cells)).new (.cells 78 y.cells)
 have e1 : (s.enter.new (.cells 78 x.cells)).nb = s.nb + 1 := rfl
 obtain ⟨q, hq⟩ : ∃ q, (s.enter.new (.cells 78 x.cells)).new (.cells 78 y.cells) = q := ⟨_, rfl⟩
 rw [hq, e1, e0] at H1
 have fin : ∀ z : Bool, (z = true ↔ x = y) → ∃ vs s2, (some ([AV.b z], q) : Option (List AV × St)) = some (vs, s2) ∧ ∃ z', Bf (wkZ [.id] vs) = .b z' ∧ leave s s2 (Bf vs) = s ∧ (z' = true ↔ x = y) := fun z hz => ⟨_, _, rfl, z, rfl, H1.over.leave rfl, hz⟩
 have a0 := H1.ld 1 (off := 0) (v := ptx x.parts) rfl rfl
 have a1 := H1.ld 1 (off := 1) (v := .b x.split) rfl rfl
 have b0 := H1.ld 0 (off := 0) (v := ptx y.parts) rfl rfl
 have b1 := H1.ld 0 (off := 1) (v := .b y.split) rfl rfl
 obtain ⟨r, hr, hrr⟩ := PL x.parts y.parts hx hy q H1.wf
 obtain ⟨px, sx⟩ := x
 obtain ⟨py, sy⟩ := y
 simp only at *
 have hpx : ∀ u, Am.pub u (ptx px) = some (ptx px, u) := fun _ => rfl
 have hpy : ∀ u, Am.pub u (ptx py) = some (ptx py, u) := fun _ => rfl
 have hlx : ∀ u, ldR u (some (ptx px)) = some (ptx px, u) := fun _ => rfl
 have hly : ∀ u, ldR u (some (ptx py)) = some (ptx py, u) := fun _ => rfl
 by_cases hs : sx = sy
 · subst hs
   have e2 : (sx == sx) = true := by simp
   simp only [DB, go_sem, AF, AA, AC, AB, KB_n, KB_x, Nat.reduceBEq, Nat.reduceAdd, Nat.reduceLT, Nat.reduceLeDiff, Nat.reduceEqDiff, reduceIte, Int.reduceEq, reduceCtorEq, ic2, e0, e1, hq, a0, a1, b0, b1, e2, hlx, hly, hpx, hpy, hr]
   exact fin r (by rw [hrr]; simp)
 · have e2 : (sx == sy) = false := by simpa using hs
   simp only [DB, go_sem, AF, AA, AC, AB, KB_n, KB_x, Nat.reduceBEq, Nat.reduceAdd, Nat.reduceLT, Nat.reduceLeDiff, Nat.reduceEqDiff, reduceIte, Int.reduceEq, reduceCtorEq, ic2, e0, e1, hq, a0, a1, b0, b1, e2, hlx, hly, hpx, hpy, hr]
   exact fin false ⟨fun hh => (by cases hh), fun hh => absurd (congrArg IT.split hh) hs⟩
theorem RH : ∀ a : IN, a.Ok → ∀ b : IN, b.Ok → ∀ s, Wf s → ∃ r, (lim prog).call FL [.agg a.cells, .agg b.cells] s = some (.b r, s) ∧ (r = true ↔ a = b) := by
 refine IN.ind fun a ih ha b hb s hw => ?_
 suffices h : ∃ r s', (lim prog).call FL [.agg a.cells, .agg b.cells] s = some (r, s') ∧ ∃ z, r = .b z ∧ s' = s ∧ (z = true ↔ a = b) by
  obtain ⟨r, s', h1, z, rfl, rfl, h2⟩ := h
  exact ⟨z, h1, h2⟩
 refine fn_G Qk rfl rfl ?_
 have hz0 : wkZ DV.cin [.agg a.cells, .agg b.cells] = [.agg a.cells, .agg b.cells] := by simp [DV, wkZ, wk, IN.cells, itx]
 rw [hz0]
 have e0 : s.enter.nb = s.nb := rfl
 have H1 := ((Hp.begin hw).new (.cells 25 a.cells)).new (.cells 25 b.cells)
 have e1 : (s.enter.new (.cells 25 a.cells)).nb = s.nb + 1 := rfl
 obtain ⟨q, hq⟩ : ∃ q, (s.enter.new (.cells 25 a.cells)).new (.cells 25 b.cells) = q := ⟨_, rfl⟩
 rw [hq, e1, e0] at H1
 have fin : ∀ z : Bool, (z = true ↔ a = b) → ∃ vs s2, (some ([AV.b z], q) : Option (List AV × St)) = some (vs, s2) ∧ ∃ z', Bf (wkZ [.id] vs) = .b z' ∧ leave s s2 (Bf vs) = s ∧ (z' = true ↔ a = b) := fun z hz => ⟨_, _, rfl, z, rfl, H1.over.leave rfl, hz⟩
 have a0 := H1.ld 1 (off := 0) (v := .i .u8 (a.kind : Nat)) rfl rfl
 have a1 := H1.ld 1 (off := 1) (v := .s a.name) rfl rfl
 have a2 := H1.ld 1 (off := 2) (v := itx a.items) rfl rfl
 have a3 := H1.ld 1 (off := 3) (v := inx a.kids) rfl rfl
 have b0 := H1.ld 0 (off := 0) (v := .i .u8 (b.kind : Nat)) rfl rfl
 have b1 := H1.ld 0 (off := 1) (v := .s b.name) rfl rfl
 have b2 := H1.ld 0 (off := 2) (v := itx b.items) rfl rfl
 have b3 := H1.ld 0 (off := 3) (v := inx b.kids) rfl rfl
 obtain ⟨r, hr, hrr⟩ := Jt (f := EU) a.items b.items ha.items.2 hb.items.2 (fun x hx y hy q hq => So x y (ha.items.1 x hx).len (hb.items.1 y hy).len q hq) q H1.wf
 obtain ⟨r2, hr2, hrr2⟩ := KI (f := FL) a.kids b.kids ha.kids.2 hb.kids.2 (fun x hx y hy q hq => ih x hx (ha.kids.1 x hx) y (hb.kids.1 y hy) q hq) q H1.wf
 have hpi : ∀ (l : List IT) u, Am.pub u (itx l) = some (itx l, u) := fun _ _ => rfl
 have hpn : ∀ (l : List IN) u, Am.pub u (inx l) = some (inx l, u) := fun _ _ => rfl
 have hli : ∀ (l : List IT) u, ldR u (some (itx l)) = some (itx l, u) := fun _ _ => rfl
 have hln : ∀ (l : List IN) u, ldR u (some (inx l)) = some (inx l, u) := fun _ _ => rfl
 have hall : a = b ↔ a.kind = b.kind ∧ a.name = b.name ∧ a.items = b.items ∧ a.kids = b.kids := by
  cases a; cases b; simp [IN.kind, IN.name, IN.items, IN.kids]
 by_cases hk : a.kind = b.kind
 · have f1 : ((a.kind : Int) = (b.kind : Int)) = True := eq_true (by rw [hk])
   by_cases hn : a.name = b.name
   · have f2 : (a.name = b.name) = True := eq_true hn
     cases r with
     | true =>
       simp only [DV, go_sem, AF, AA, AC, AB, KB_n, KB_x, Nat.reduceBEq, Nat.reduceAdd, Nat.reduceLT, Nat.reduceLeDiff, Nat.reduceEqDiff, reduceIte, Int.reduceEq, reduceCtorEq, nc4, e0, e1, hq, a0, a1, a2, a3, b0, b1, b2, b3, f1, f2, hpi, hpn, hli, hln, hr, hr2]
       exact fin r2 (by rw [hrr2, hall]; simp [hk, hn, hrr.1 rfl])
     | false =>
       have hne : ¬ a.items = b.items := fun hh => by have := hrr.2 hh; cases this
       simp only [DV, go_sem, AF, AA, AC, AB, KB_n, KB_x, Nat.reduceBEq, Nat.reduceAdd, Nat.reduceLT, Nat.reduceLeDiff, Nat.reduceEqDiff, reduceIte, Int.reduceEq, reduceCtorEq, nc4, e0, e1, hq, a0, a1, a2, a3, b0, b1, b2, b3, f1, f2, hpi, hpn, hli, hln, hr]
       exact fin false ⟨fun hh => (by cases hh), fun hh => absurd (hall.1 hh).2.2.1 hne⟩
   · have f2 : (a.name = b.name) = False := eq_false hn
     simp only [DV, go_sem, AF, AA, AC, AB, KB_n, KB_x, Nat.reduceBEq, Nat.reduceAdd, Nat.reduceLT, Nat.reduceLeDiff, Nat.reduceEqDiff, reduceIte, Int.reduceEq, reduceCtorEq, nc4, e0, e1, hq, a0, a1, b0, b1, f1, f2]
     exact fin false ⟨fun hh => (by cases hh), fun hh => absurd (hall.1 hh).2.1 hn⟩
 · have f1 : ((a.kind : Int) = (b.kind : Int)) = False := eq_false (by omega)
   simp only [DV, go_sem, AF, AA, AC, AB, KB_n, KB_x, Nat.reduceBEq, Nat.reduceAdd, Nat.reduceLT, Nat.reduceLeDiff, Nat.reduceEqDiff, reduceIte, Int.reduceEq, reduceCtorEq, nc4, e0, e1, hq, a0, b0, f1]
   exact fin false ⟨fun hh => (by cases hh), fun hh => absurd (hall.1 hh).1 hk⟩

theorem t_get {L : List (List Nat)} {i : Nat} {x : List Nat} (h : L[i]? = some x) : (L.map AV.s)[i]? = some (.s x) := by rw [List.getElem?_map, h]; rfl
theorem RI (M N : List (List Nat)) (hM : M.length < 2 ^ 37) (hN : N.length < 2 ^ 37) (s : St) (hw : Wf s) : (lim prog).call CY [tx M, tx N] s = some (.b (decide (M = N.take M.length)), s) := by
 refine fn_W Fk rfl rfl ?_
 have hz0 : wkZ Ai.cin [tx M, tx N] = [tx M, tx N] := by simp [Ai, wkZ, wk, Rk]
 rw [hz0]
 have H1 := Hp.begin hw
 generalize hq : s.enter = q at H1
 by_cases hlen : N.length < M.length
 · have e0 : ((N.length : Int) < (M.length : Int)) = True := eq_true (by omega)
   have hne : ¬ M = N.take M.length := fun h => by have := congrArg List.length h; rw [List.length_take] at this; omega
   simp only [Ai, go_sem, AF, AA, AC, AB, KB_n, KB_x, Nat.reduceBEq, Nat.reduceAdd, Nat.reduceLT, Nat.reduceLeDiff, Nat.reduceEqDiff, reduceIte, Int.reduceEq, reduceCtorEq, List.length_map, e0]
   rw [decide_eq_false hne]
   exact AN H1.over rfl rfl
 have e0 : ((N.length : Int) < (M.length : Int)) = False := eq_false (by omega)
 simp only [Ai, go_sem, AF, AA, AC, AB, KB_n, KB_x, Nat.reduceBEq, Nat.reduceAdd, Nat.reduceLT, Nat.reduceLeDiff, Nat.reduceEqDiff, reduceIte, Int.reduceEq, reduceCtorEq, List.length_map, e0]
 refine DH (fun x e q' => ∃ i : Nat, i + x = M.length ∧ M.take i = N.take i ∧ q' = q ∧ e.get 0 = tx M ∧ e.get 1 = tx N ∧ e.get 5 = .i .i64 (i : Nat)) ?_ M.length _ _ ?_
 · rintro x e q' ⟨i, hix, heq, rfl, g0, g1, g5⟩
   by_cases h : i < M.length
   · have h1 : ((i : Int) < (M.length : Int)) = True := eq_true (by omega)
     obtain ⟨y, hy⟩ : ∃ y, M[i]? = some y := ⟨_, List.getElem?_eq_getElem h⟩
     obtain ⟨z, hz⟩ : ∃ z, N[i]? = some z := ⟨_, List.getElem?_eq_getElem (by omega)⟩
     have hy2 := t_get hy
     have hz2 := t_get hz
     have hw1 := BI (show i + 1 < 2 ^ 63 by omega)
     by_cases hyz : y = z
     · have e2 : (y ≠ z) = False := eq_false (fun h => h hyz)
       simp only [go_sem, AF, AA, AC, AB, KB_n, KB_x, Nat.reduceBEq, Nat.reduceAdd, Nat.reduceLT, Nat.reduceLeDiff, Nat.reduceEqDiff, reduceIte, Int.reduceEq, reduceCtorEq, g0, g1, g5, List.length_map, h1, AM, hy2, hz2, Q5, ldA_1, e2, hw1]
       refine ⟨x - 1, by omega, i + 1, by omega, ?_, rfl⟩
       rw [List.take_add_one, List.take_add_one, hy, hz, heq, hyz]
     · have e2 : (y ≠ z) = True := eq_true hyz
       have hne : ¬ M = N.take M.length := fun hh => by
        have : M[i]? = (N.take M.length)[i]? := by rw [← hh]
        rw [hy, List.getElem?_take, if_pos h, hz] at this
        exact hyz (Option.some.inj this)
       simp only [go_sem, AF, AA, AC, AB, KB_n, KB_x, Nat.reduceBEq, Nat.reduceAdd, Nat.reduceLT, Nat.reduceLeDiff, Nat.reduceEqDiff, reduceIte, Int.reduceEq, reduceCtorEq, g0, g1, g5, List.length_map, h1, AM, hy2, hz2, Q5, ldA_1, e2]
       rw [decide_eq_false hne]
       exact AN H1.over rfl rfl
   · have h1 : ((i : Int) < (M.length : Int)) = False := eq_false (by omega)
     have hi : i = M.length := by omega
     subst hi
     have hyes : M = N.take M.length := by rw [← heq, List.take_length]
     simp only [go_sem, AF, AA, AC, AB, KB_n, KB_x, Nat.reduceBEq, Nat.reduceAdd, Nat.reduceLT, Nat.reduceLeDiff, Nat.reduceEqDiff, reduceIte, Int.reduceEq, reduceCtorEq, g0, g1, g5, List.length_map, h1]
     rw [decide_eq_true hyes]
     exact AN H1.over rfl rfl
 · simp only [go_sem, AF, AA, AC, AB, KB_n, KB_x, Nat.reduceBEq, Nat.reduceAdd, Nat.reduceLT, Nat.reduceLeDiff, Nat.reduceEqDiff, reduceIte, Int.reduceEq, reduceCtorEq]
   exact ⟨0, by omega, by simp, rfl⟩
theorem Sp (M N : List (List Nat)) (hM : M.length < 2 ^ 37) (hN : N.length < 2 ^ 37) (s : St) (hw : Wf s) : (lim prog).call Bw [tx M, tx N] s = some (.b (decide (M = N)), s) := by
 refine fn_W Fv rfl rfl ?_
 have hz0 : wkZ Ao.cin [tx M, tx N] = [tx M, tx N] := by simp [Ao, wkZ, wk, Rk]
 rw [hz0]
 have H1 := Hp.begin hw
 generalize hq : s.enter = q at H1
 by_cases hlen : M.length = N.length
 · have e0 : ((M.length : Int) = (N.length : Int)) = True := eq_true (by omega)
   have hu := RI M N hM hN q H1.wf
   have hd : decide (M = N.take M.length) = decide (M = N) := by rw [hlen, List.take_length]
   rw [hd] at hu
   simp only [Ao, go_sem, AF, AA, AC, AB, KB_n, KB_x, Nat.reduceBEq, Nat.reduceAdd, Nat.reduceLT, Nat.reduceLeDiff, Nat.reduceEqDiff, reduceIte, Int.reduceEq, reduceCtorEq, List.length_map, e0, Ec, hu]
   exact AN H1.over rfl rfl
 · have e0 : ((M.length : Int) = (N.length : Int)) = False := eq_false (by omega)
   have hne : ¬ M = N := fun h => hlen (by rw [h])
   simp only [Ao, go_sem, AF, AA, AC, AB, KB_n, KB_x, Nat.reduceBEq, Nat.reduceAdd, Nat.reduceLT, Nat.reduceLeDiff, Nat.reduceEqDiff, reduceIte, Int.reduceEq, reduceCtorEq, List.length_map, e0]
   rw [decide_eq_false hne]
   exact AN H1.over rfl rfl

theorem RM (a : Int) : Am.binOp .quo (.i .i64 a) (.i .i64 100) = some (.i .i64 (IntKind.i64.wrap (a.tdiv 100))) := rfl
theorem ild0 (y : IT) (s : St) : ldA s false 1 (.ep y.cells 0 .shut) = some (.ws false 3 (y.parts.map PT.av)) := rfl
theorem pld1 (p : PT) (s : St) : ldA s false 1 (.ep p.cells 1 .shut) = some (.s p.text) := rfl
theorem Ks : ∀ n : IN, n.Ok → ∀ s, Wf s → ∃ z : Int, (lim prog).call BA [.agg n.cells] s = some (.i .i64 z, s) := by
 refine IN.ind fun n ih ho s hw => ?_
 suffices h : ∃ r s', (lim prog).call BA [.agg n.cells] s = some (r, s') ∧ ∃ z : Int, r = .i .i64 z ∧ s' = s by
  obtain ⟨r, s', h1, z, rfl, rfl⟩ := h
  exact ⟨z, h1⟩
 refine fn_G Fu rfl rfl ?_
 have hz0 : wkZ Af.cin [.agg n.cells] = [.agg n.cells] := by simp [Af, wkZ, wk, IN.cells, itx]
 rw [hz0]
 have e0 : s.enter.nb = s.nb := rfl
 have H1 := (Hp.begin hw).new (.cells 25 n.cells)
 obtain ⟨q1, hq1⟩ : ∃ q1, s.enter.new (.cells 25 n.cells) = q1 := ⟨_, rfl⟩
 rw [hq1, e0] at H1
 have l1 := H1.ld 0 (off := 1) (v := .s n.name) rfl rfl
 have l2 := H1.ld 0 (off := 2) (v := .ws false 2 (n.items.map IT.av)) rfl rfl
 have l3 := H1.ld 0 (off := 3) (v := .ws false 4 (n.kids.map IN.av)) rfl rfl
 have hil := ho.items.2
 have hkl := ho.kids.2
 have hlv : ∀ v : AV, v.refs = false → leave s q1 v = s := fun v hv => H1.over.leave hv
 have fin : ∀ z : Int, ∃ vs s2, (some ([AV.i .i64 z], q1) : Option (List AV × St)) = some (vs, s2) ∧ ∃ z' : Int, Bf (wkZ [.id] vs) = .i .i64 z' ∧ leave s s2 (Bf vs) = s := fun z => ⟨_, _, rfl, z, rfl, hlv _ rfl⟩
 by_cases hi : 300 < n.items.length
 · have e1 : ((300 : Int) < (n.items.length : Int)) = True := eq_true (by omega)
   simp only [Af, go_sem, AF, AA, AC, AB, KB_n, KB_x, Nat.reduceBEq, Nat.reduceAdd, Nat.reduceLT, Nat.reduceLeDiff, Nat.reduceEqDiff, reduceIte, Int.reduceEq, reduceCtorEq, nc4, hq1, e0, l1, l2, l3, List.length_map, e1]
   exact fin 1000
 have e1 : ((300 : Int) < (n.items.length : Int)) = False := eq_false (by omega)
 by_cases hk : 300 < n.kids.length
 · have e2 : ((300 : Int) < (n.kids.length : Int)) = True := eq_true (by omega)
   simp only [Af, go_sem, AF, AA, AC, AB, KB_n, KB_x, Nat.reduceBEq, Nat.reduceAdd, Nat.reduceLT, Nat.reduceLeDiff, Nat.reduceEqDiff, reduceIte, Int.reduceEq, reduceCtorEq, nc4, hq1, e0, l1, l2, l3, List.length_map, e1, e2]
   exact fin 1000
 have e2 : ((300 : Int) < (n.kids.length : Int)) = False := eq_false (by omega)
 by_cases hn : 300 < n.name.length
 · have e3 : ((300 : Int) < (n.name.length : Int)) = True := eq_true (by omega)
   simp only [Af, go_sem, AF, AA, AC, AB, KB_n, KB_x, Nat.reduceBEq, Nat.reduceAdd, Nat.reduceLT, Nat.reduceLeDiff, Nat.reduceEqDiff, reduceIte, Int.reduceEq, reduceCtorEq, nc4, hq1, e0, l1, l2, l3, List.length_map, e1, e2, e3]
   exact fin 1000
 have e3 : ((300 : Int) < (n.name.length : Int)) = False := eq_false (by omega)
 simp only [Af, go_sem, AF, AA, AC, AB, KB_n, KB_x, Nat.reduceBEq, Nat.reduceAdd, Nat.reduceLT, Nat.reduceLeDiff, Nat.reduceEqDiff, reduceIte, Int.reduceEq, reduceCtorEq, nc4, hq1, e0, l1, l2, l3, List.length_map, e1, e2, e3]
 refine DH (fun x e q' => ∃ (i : Nat) (z : Int), i + x = n.items.length ∧ q' = q1 ∧ e.get 1 = .p s.nb 0 ∧ e.get 3 = .i .i64 z ∧ e.get 4 = .i .i64 (i : Nat)) ?_ n.items.length _ _ ?_
 · rintro x e q' ⟨i, z, hix, hqq, g1, g3, g4⟩
   subst q'
   by_cases h : i < n.items.length
   · have h1 : ((i : Int) < (n.items.length : Int)) = True := eq_true (by omega)
     obtain ⟨y, hy⟩ : ∃ y, n.items[i]? = some y := ⟨_, List.getElem?_eq_getElem h⟩
     have hg := Me hy
     have hyl := (ho.items.1 y (List.mem_of_getElem? hy)).len
     have hw1 := BI (show i + 1 < 2 ^ 63 by omega)
     by_cases hp : 100 < y.parts.length
     · have f1 : ((100 : Int) < (y.parts.length : Int)) = True := eq_true (by omega)
       simp only [go_sem, AF, AA, AC, AB, KB_n, KB_x, Nat.reduceBEq, Nat.reduceAdd, Nat.reduceLT, Nat.reduceLeDiff, Nat.reduceEqDiff, reduceIte, Int.reduceEq, reduceCtorEq, g1, g3, g4, l2, List.length_map, h1, AM, hg, ild0, f1]
       exact fin 1000
     have f1 : ((100 : Int) < (y.parts.length : Int)) = False := eq_false (by omega)
     simp only [go_sem, AF, AA, AC, AB, KB_n, KB_x, Nat.reduceBEq, Nat.reduceAdd, Nat.reduceLT, Nat.reduceLeDiff, Nat.reduceEqDiff, reduceIte, Int.reduceEq, reduceCtorEq, g1, g3, g4, l2, List.length_map, h1, AM, hg, ild0, f1]
     refine DH (fun u e q' => ∃ (j : Nat) (z : Int), j + u = y.parts.length ∧ q' = q1 ∧ e.get 1 = .p s.nb 0 ∧ e.get 3 = .i .i64 z ∧ e.get 4 = .i .i64 (i : Nat) ∧ e.get 5 = .i .i64 (j : Nat)) ?_ y.parts.length _ _ ?_
     · clear g1 g3 g4
       rintro u e q' ⟨j, z, hju, hqq, g1, g3, g4, g5⟩
       subst q'
       by_cases hj : j < y.parts.length
       · have h2 : ((j : Int) < (y.parts.length : Int)) = True := eq_true (by omega)
         obtain ⟨p, hp⟩ : ∃ p, y.parts[j]? = some p := ⟨_, List.getElem?_eq_getElem hj⟩
         have hgp := Km hp
         have hwj := BI (show j + 1 < 2 ^ 63 by omega)
         by_cases ht : 2000 < p.text.length
         · have f2 : ((2000 : Int) < (p.text.length : Int)) = True := eq_true (by omega)
           simp only [go_sem, AF, AA, AC, AB, KB_n, KB_x, Nat.reduceBEq, Nat.reduceAdd, Nat.reduceLT, Nat.reduceLeDiff, Nat.reduceEqDiff, reduceIte, Int.reduceEq, reduceCtorEq, g1, g3, g4, g5, l2, List.length_map, h2, AM, hg, ild0, hgp, pld1, f2]
           exact fin 1000
         have f2 : ((2000 : Int) < (p.text.length : Int)) = False := eq_false (by omega)
         simp only [go_sem, AF, AA, AC, AB, KB_n, KB_x, Nat.reduceBEq, Nat.reduceAdd, Nat.reduceLT, Nat.reduceLeDiff, Nat.reduceEqDiff, reduceIte, Int.reduceEq, reduceCtorEq, g1, g3, g4, g5, l2, List.length_map, h2, AM, hg, ild0, hgp, pld1, f2, RM, hwj]
         exact ⟨u - 1, by omega, j + 1, _, by omega, rfl, rfl⟩
       · have h2 : ((j : Int) < (y.parts.length : Int)) = False := eq_false (by omega)
         simp only [go_sem, AF, AA, AC, AB, KB_n, KB_x, Nat.reduceBEq, Nat.reduceAdd, Nat.reduceLT, Nat.reduceLeDiff, Nat.reduceEqDiff, reduceIte, Int.reduceEq, reduceCtorEq, g1, g3, g4, g5, l2, List.length_map, h2, AM, hg, ild0, hw1]
         exact ⟨x - 1, by omega, i + 1, z, by omega, rfl, rfl⟩
     · simp only [go_sem, AF, AA, AC, AB, KB_n, KB_x, Nat.reduceBEq, Nat.reduceAdd, Nat.reduceLT, Nat.reduceLeDiff, Nat.reduceEqDiff, reduceIte, Int.reduceEq, reduceCtorEq, g1, g3, g4]
       exact ⟨0, _, by omega, rfl, rfl⟩
   · have h1 : ((i : Int) < (n.items.length : Int)) = False := eq_false (by omega)
     simp only [go_sem, AF, AA, AC, AB, KB_n, KB_x, Nat.reduceBEq, Nat.reduceAdd, Nat.reduceLT, Nat.reduceLeDiff, Nat.reduceEqDiff, reduceIte, Int.reduceEq, reduceCtorEq, g1, g3, g4, l2, List.length_map, h1]
     refine DH (fun x e q' => ∃ (k : Nat) (z : Int), k + x = n.kids.length ∧ q' = q1 ∧ e.get 1 = .p s.nb 0 ∧ e.get 3 = .i .i64 z ∧ e.get 6 = .i .i64 (k : Nat)) ?_ n.kids.length _ _ ?_
     · clear g1 g3 g4
       rintro u e q' ⟨k, z, hku, hqq, g1, g3, g6⟩
       subst q'
       by_cases hk2 : k < n.kids.length
       · have h2 : ((k : Int) < (n.kids.length : Int)) = True := eq_true (by omega)
         obtain ⟨c, hc⟩ : ∃ c, n.kids[k]? = some c := ⟨_, List.getElem?_eq_getElem hk2⟩
         have hcm := List.mem_of_getElem? hc
         have hgc := Mf hc
         have hwk := BI (show k + 1 < 2 ^ 63 by omega)
         by_cases hz : z ≤ 400
         · have f2 : (z ≤ 400) = True := eq_true hz
           obtain ⟨z2, hc2⟩ := ih c hcm (ho.kids.1 c hcm) q1 H1.wf
           simp only [go_sem, AF, AA, AC, AB, KB_n, KB_x, Nat.reduceBEq, Nat.reduceAdd, Nat.reduceLT, Nat.reduceLeDiff, Nat.reduceEqDiff, reduceIte, Int.reduceEq, reduceCtorEq, g1, g3, g6, l3, List.length_map, h2, f2, AM, hgc, nld, Ec, nc4, hc2, hwk]
           exact ⟨u - 1, by omega, k + 1, _, by omega, rfl, rfl⟩
         · have f2 : (z ≤ 400) = False := eq_false hz
           simp only [go_sem, AF, AA, AC, AB, KB_n, KB_x, Nat.reduceBEq, Nat.reduceAdd, Nat.reduceLT, Nat.reduceLeDiff, Nat.reduceEqDiff, reduceIte, Int.reduceEq, reduceCtorEq, g1, g3, g6, l3, List.length_map, h2, f2]
           exact fin z
       · have h2 : ((k : Int) < (n.kids.length : Int)) = False := eq_false (by omega)
         simp only [go_sem, AF, AA, AC, AB, KB_n, KB_x, Nat.reduceBEq, Nat.reduceAdd, Nat.reduceLT, Nat.reduceLeDiff, Nat.reduceEqDiff, reduceIte, Int.reduceEq, reduceCtorEq, g1, g3, g6, l3, List.length_map, h2]
         exact fin z
     · simp only [go_sem, AF, AA, AC, AB, KB_n, KB_x, Nat.reduceBEq, Nat.reduceAdd, Nat.reduceLT, Nat.reduceLeDiff, Nat.reduceEqDiff, reduceIte, Int.reduceEq, reduceCtorEq, g1, g3]
       exact ⟨0, z, by omega, rfl, rfl⟩
 · simp only [go_sem, AF, AA, AC, AB, KB_n, KB_x, Nat.reduceBEq, Nat.reduceAdd, Nat.reduceLT, Nat.reduceLeDiff, Nat.reduceEqDiff, reduceIte, Int.reduceEq, reduceCtorEq]
   exact ⟨0, 1, by omega, rfl, rfl⟩

theorem Hg {α : Type} (f : α → AV) : ∀ l : List α, (∀ x ∈ l, beqA (f x) (f x) = true) → Dh (l.map f) (l.map f) = true
 | [], _ => rfl
 | x :: l, h => by simp only [List.map_cons, Dh, h x (by simp), Hg f l fun y hy => h y (by simp [hy]), Bool.and_self]
theorem Ul (p : PT) : beqA p.av p.av = true := by
 simp [PT.av, PT.cells, beqA, Dh, FJ]
theorem Um (y : IT) : beqA y.av y.av = true := by
 have := Hg PT.av y.parts fun p _ => Ul p
 simp [IT.av, IT.cells, ptx, beqA, Dh, this]
theorem Un : ∀ n : IN, beqA n.av n.av = true := by
 refine IN.ind fun n ih => ?_
 have h1 := Hg IT.av n.items fun p _ => Um p
 have h2 := Hg IN.av n.kids ih
 rw [IN.av_eq]
 simp [IN.cells, itx, beqA, Dh, h1, h2, FJ]
theorem nnt (n : IN) : n.cells.all noTok = true := rfl
theorem Q4 (n : IN) : Dh n.cells n.cells = true := by
 have := Un n
 rw [IN.av_eq] at this
 simpa only [beqA] using this
theorem Oc (n : IN) : still (.agg n.cells) = true := by
 simp only [still, Ec, nnt, Q4, Bool.and_self]
def NY (n : IN) : Prop := mayI n = true → ∀ x ∈ allL n 0, x.2.Ok ∧ NU x.2 ∧ x.1 < 2 ^ 30 ∧ (∀ y ∈ x.2.items, (y.parts.flatMap CV).length < 2 ^ 59) ∧ (Cy x).length ≤ 2 ^ 47
theorem PJ (a b : IN) (ha : a.Ok) (hb : b.Ok) (na : nodesI a < 2 ^ 30) (nb : nodesI b < 2 ^ 30) (la : NY a) (lb : NY b) (s : St) (hw : Wf s) : (lim prog).call CH [.agg a.cells, .agg b.cells] s = some (.b true, s) := by
 refine fn_W E3 rfl rfl ?_
 have hz0 : wkZ AX.cin [.agg a.cells, .agg b.cells] = [.agg a.cells, .agg b.cells] := by simp [AX, wkZ, wk, IN.cells, itx]
 rw [hz0]
 have e0 : s.enter.nb = s.nb := rfl
 have H := ((Hp.begin hw).new (.cells 25 a.cells)).new (.cells 25 b.cells)
 have e1 : (s.enter.new (.cells 25 a.cells)).nb = s.nb + 1 := rfl
 obtain ⟨q, hq1⟩ : ∃ q, (s.enter.new (.cells 25 a.cells)).new (.cells 25 b.cells) = q := ⟨_, rfl⟩
 rw [hq1, e1, e0] at H
 have lA := H.ldw (m := 4) 1 rfl rfl
 have lB := H.ldw (m := 4) 0 rfl rfl
 have hawk : ∀ q : St, (lim prog).call Bl [] q = some (.b true, q) := fun q => HU Fj rfl rfl
 obtain ⟨za, hsa⟩ := Ks a ha q H.wf
 obtain ⟨zb, hsb⟩ := Ks b hb q H.wf
 by_cases hza : 400 < za
 · have f1 : (400 < za) = True := eq_true hza
   simp only [AX, go_sem, AF, AA, AC, AB, KB_n, KB_x, Nat.reduceBEq, Nat.reduceAdd, Nat.reduceLT, Nat.reduceLeDiff, Nat.reduceEqDiff, reduceIte, Int.reduceEq, reduceCtorEq, nc4, e0, e1, hq1, lA, lB, Ec, hsa, f1, hawk]
   exact AN H.over rfl rfl
 have f1 : (400 < za) = False := eq_false hza
 by_cases hzb : 400 < zb
 · have f2 : (400 < zb) = True := eq_true hzb
   simp only [AX, go_sem, AF, AA, AC, AB, KB_n, KB_x, Nat.reduceBEq, Nat.reduceAdd, Nat.reduceLT, Nat.reduceLeDiff, Nat.reduceEqDiff, reduceIte, Int.reduceEq, reduceCtorEq, nc4, e0, e1, hq1, lA, lB, Ec, hsa, hsb, f1, f2, hawk]
   exact AN H.over rfl rfl
 have f2 : (400 < zb) = False := eq_false hzb
 have sA := RL a ha (by omega) la q H.wf
 have sB := RL b hb (by omega) lb q H.wf
 have mA := TK a ha q H.wf
 have zA := Ug a ha (by omega) q H.wf
 have hlA : ((allL a 0).map Cy).length = nodesI a := by rw [List.length_map, Fm]
 have hlB : ((allL b 0).map Cy).length = nodesI b := by rw [List.length_map, Fm]
 have f3 : ((4 : Int) = 0) = False := eq_false (by omega)
 have f4 : ((4 : Int) ≠ 0) = True := eq_true (by omega)
 have f5 : ((0 : Int) = 0) = True := eq_true rfl
 have f6 : ((0 : Int) ≠ 0) = False := eq_false (by omega)
 have f7 : (((nodesI a : Nat) : Int) ≠ ((nodesI a : Nat) : Int)) = False := eq_false (fun h => h rfl)
 unfold Ux at sA sB
 cases hma : mayI a with
 | false =>
   rw [hma] at sA mA
   simp only [Bool.false_eq_true, if_false] at sA
   cases hmb : mayI b <;> rw [hmb] at sB <;> simp only [Bool.false_eq_true, if_false, if_true] at sB <;>
    simp only [AX, go_sem, AF, AA, AC, AB, KB_n, KB_x, Nat.reduceBEq, Nat.reduceAdd, Nat.reduceLT, Nat.reduceLeDiff, Nat.reduceEqDiff, reduceIte, Int.reduceEq, reduceCtorEq, nc4, e0, e1, hq1, lA, lB, Ec, hsa, hsb, f1, f2, hawk, sA, sB, mA, f3, f4, f5, f6]
   all_goals exact AN H.over rfl rfl
 | true =>
   rw [hma] at sA mA
   simp only [if_true] at sA
   cases hmb : mayI b with
   | false =>
     rw [hmb] at sB
     simp only [Bool.false_eq_true, if_false] at sB
     simp only [AX, go_sem, AF, AA, AC, AB, KB_n, KB_x, Nat.reduceBEq, Nat.reduceAdd, Nat.reduceLT, Nat.reduceLeDiff, Nat.reduceEqDiff, reduceIte, Int.reduceEq, reduceCtorEq, nc4, e0, e1, hq1, lA, lB, Ec, hsa, hsb, f1, f2, hawk, sA, sB, mA, zA, f3, f4, f5, f6, List.length_map, Fm, f7]
     exact AN H.over rfl rfl
   | true =>
     rw [hmb] at sB
     simp only [if_true] at sB
     obtain ⟨r, hr, hrr⟩ := RH a ha b hb q H.wf
     have hS := Sp ((allL a 0).map Cy) ((allL b 0).map Cy) (by omega) (by omega) q H.wf
     have hd : decide ((allL a 0).map Cy = (allL b 0).map Cy) = r := by
      have h1 := Sf hma hmb
      cases r with
      | true => exact decide_eq_true (h1.2 (hrr.1 rfl))
      | false => exact decide_eq_false fun h => by have := hrr.2 (h1.1 h); cases this
     rw [hd] at hS
     have hpt : ∀ (l : List (List Nat)) u, Am.pub u (tx l) = some (tx l, u) := fun _ _ => rfl
     have hrf : (r == r) = true := by simp
     simp only [AX, go_sem, AF, AA, AC, AB, KB_n, KB_x, Nat.reduceBEq, Nat.reduceAdd, Nat.reduceLT, Nat.reduceLeDiff, Nat.reduceEqDiff, reduceIte, Int.reduceEq, reduceCtorEq, nc4, e0, e1, hq1, lA, lB, Ec, hsa, hsb, f1, f2, hawk, sA, sB, mA, zA, f3, f4, f5, f6, List.length_map, Fm, f7]
     refine Kf rfl ?_
     simp only [go_sem, AF, AA, AC, AB, KB_n, KB_x, Nat.reduceBEq, Nat.reduceAdd, Nat.reduceLT, Nat.reduceLeDiff, Nat.reduceEqDiff, reduceIte, Int.reduceEq, reduceCtorEq, lA, lB, nnt, Ec, hpt, hS, hr, hrf]
     refine Ld rfl (by simp only [go_sem, AF, AA, AC, AB, KB_n, KB_x, Nat.reduceBEq, Nat.reduceAdd, Nat.reduceLT, Nat.reduceLeDiff, Nat.reduceEqDiff, reduceIte, Int.reduceEq, reduceCtorEq]) (Oc a) ⟨⟨_, rfl, lA⟩, ⟨_, rfl, lA⟩, ⟨_, rfl, lA⟩, trivial⟩ ?_
     refine Ld rfl (by simp only [go_sem, AF, AA, AC, AB, KB_n, KB_x, Nat.reduceBEq, Nat.reduceAdd, Nat.reduceLT, Nat.reduceLeDiff, Nat.reduceEqDiff, reduceIte, Int.reduceEq, reduceCtorEq]) (Oc b) ⟨⟨_, rfl, lB⟩, ⟨_, rfl, lB⟩, ⟨_, rfl, lB⟩, ⟨_, rfl, lB⟩, trivial⟩ (Kg ?_)
     simp only [go_sem, AF, AA, AC, AB, KB_n, KB_x, Nat.reduceBEq, Nat.reduceAdd, Nat.reduceLT, Nat.reduceLeDiff, Nat.reduceEqDiff, reduceIte, Int.reduceEq, reduceCtorEq]
     exact AN H.over rfl rfl
end Go.Proofs.YtmnbfgfgjmmhfaaGreatDoor
