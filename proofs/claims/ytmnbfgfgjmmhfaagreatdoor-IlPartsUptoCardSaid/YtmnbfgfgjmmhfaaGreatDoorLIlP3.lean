/-
  word.May.
-/
import Derived.Test.YtmnbfgfgjmmhfaaGreatDoorLIlP1
set_option linter.all false
set_option linter.unusedVariables false
set_option linter.unusedSimpArgs false
set_option linter.unusedSectionVars false
set_option maxRecDepth 100000
set_option maxHeartbeats 4000000
namespace Go.Proofs.YtmnbfgfgjmmhfaaGreatDoor
open Go.Proofs.YtmnbfgfgjmmhfaaGreatDoor.Am
attribute [local irreducible] W WO WE WQ WD Tr.get Tr.set
abbrev K19 : List Nat := [32, 9, 10, 39, 34, 92, 36, 59, 38, 124, 60, 62, 40, 41, 42, 63, 91, 96, 0]
theorem asK19 : AsK K19 := ⟨by decide, by decide, by decide⟩
def JO (c : Nat) : List Nat → Bool
 | [] => false
 | a :: _ => decide (a = c)
def R6 (l : List Nat) (first : Bool) : Bool := decide (l ≠ []) && (!Mw K19 l && !(first && (JO 35 l || JO 126 l)))
theorem Pe (l : List Nat) (hl : Txt l) (first : Bool) (s : St) (hw : Wf s) : (lim prog).call G6 [.s l, .b first] s = some (.b (R6 l first), s) := by
 refine fn_W Nl rfl rfl ?_
 have hz0 : wkZ Bi.cin [.s l, .b first] = [.s l, .b first] := by simp [Bi, wkZ, wk]
 rw [hz0]
 have hb : ∀ b, KR s [.id] (.b b) (some ([.b b], s.enter)) := fun b => AM (Over.enter s) rfl rfl
 have hC := K8 asK19 l hl s.enter hw.enter
 unfold R6
 cases l with
 | nil =>
   have e3 : (([] : List Nat) ≠ []) = False := by simp
   simp only [Bi, go_sem, AE, AA, AC, AB, KB_n, KB_x, Nat.reduceBEq, Nat.reduceAdd, Nat.reduceLT, Nat.reduceLeDiff, Nat.reduceEqDiff, reduceIte, Int.reduceEq, reduceCtorEq, e3, decide_false, Bool.false_and]
   exact hb _
 | cons c t =>
   have e3 : ((c :: t) ≠ []) = True := by simp
   have n0 : CI (.i .i64 0) = some 0 := rfl
   have g0' : (c :: t)[0]? = some c := rfl
   cases ha : Mw K19 (c :: t) with
   | true =>
     rw [ha] at hC
     simp only [Bi, go_sem, AE, AA, AC, AB, KB_n, KB_x, Nat.reduceBEq, Nat.reduceAdd, Nat.reduceLT, Nat.reduceLeDiff, Nat.reduceEqDiff, reduceIte, Int.reduceEq, reduceCtorEq, e3, hC, Bool.not_true, Bool.false_and, Bool.and_false]
     exact hb _
   | false =>
     rw [ha] at hC
     cases first with
     | false =>
       simp only [Bi, go_sem, AE, AA, AC, AB, KB_n, KB_x, Nat.reduceBEq, Nat.reduceAdd, Nat.reduceLT, Nat.reduceLeDiff, Nat.reduceEqDiff, reduceIte, Int.reduceEq, reduceCtorEq, e3, hC, decide_true, Bool.not_false, Bool.false_and, Bool.and_self]
       exact hb _
     | true =>
       simp only [JO]
       by_cases h1 : c = 35
       · have e1 : ((c : Int) = 35) = True := eq_true (by omega)
         simp only [Bi, go_sem, AE, AA, AC, AB, KB_n, KB_x, Nat.reduceBEq, Nat.reduceAdd, Nat.reduceLT, Nat.reduceLeDiff, Nat.reduceEqDiff, reduceIte, Int.reduceEq, reduceCtorEq, e3, hC, n0, g0', e1, decide_true, Bool.not_false, Bool.true_and, decide_eq_true h1, Bool.true_or]
         exact hb _
       · have e1 : ((c : Int) = 35) = False := eq_false (by omega)
         have e2 : decide ((c : Int) = 126) = decide (c = 126) := by simp only [decide_eq_decide]; omega
         simp only [Bi, go_sem, AE, AA, AC, AB, KB_n, KB_x, Nat.reduceBEq, Nat.reduceAdd, Nat.reduceLT, Nat.reduceLeDiff, Nat.reduceEqDiff, reduceIte, Int.reduceEq, reduceCtorEq, e3, hC, n0, g0', e1, e2, decide_true, Bool.not_false, Bool.true_and, decide_eq_false h1, Bool.false_or]
         exact hb _
def Jb (first : Bool) (p : PT) : Bool := if p.var then Ja p.text else if p.quoted then !decide (0 ∈ p.text) else R6 p.text first
def GC (p q : PT) : Bool := decide (p.quoted = q.quoted) && ((!p.var && !q.var) || (p.quoted && (decide (p.text = []) || decide (q.text = []))))
def HB : Option PT → List PT → Bool
 | _, [] => true
 | prev, p :: t => Jb prev.isNone p && ((match prev with | none => true | some q => !GC p q) && HB (some p) t)
def Gk (l : List PT) : Bool := HB none l && decide (0 < l.length)
def HX (l : List PT) (i : Nat) : Option PT := if i = 0 then none else l[i - 1]?
theorem Pf : ∀ L : List PT, wkM (.agg [.id, .id, .id]) (L.map PT.av) = L.map PT.av
 | [] => by simp [wkM]
 | p :: L => by
   have h : wk (.agg [.id, .id, .id]) p.av = p.av := by simp [wk, PT.av, PT.cells, wkZ]
   rw [List.map_cons, wkM, h, Pf L]
theorem Lu : ∀ o : Option PT, HB o [] = true
 | none => rfl
 | some _ => rfl
theorem K6 (o : Option PT) (p : PT) (t : List PT) : HB o (p :: t) = (Jb o.isNone p && ((match o with | none => true | some q => !GC p q) && HB (some p) t)) := by cases o <;> rfl
theorem Vm {p r : PT} {q : St} {a b : Nat} {e : Tr} {Q : Ex → Tr → St → Prop} (g4 : e.get 4 = .p a 0) (g6 : e.get 6 = .p b 0)
    (j0 : ldA q false 1 (.p a 0) = some (.b p.var)) (j1 : ldA q false 1 (.p a 1) = some (.s p.text)) (j2 : ldA q false 1 (.p a 2) = some (.b p.quoted))
    (m0 : ldA q false 1 (.p b 0) = some (.b r.var)) (m1 : ldA q false 1 (.p b 1) = some (.s r.text)) (m2 : ldA q false 1 (.p b 2) = some (.b r.quoted))
    (k : ∀ e', Sm 43 e e' → e'.get 71 = .b (GC p r) → Q .n e' q) :
    W (lim prog) (.reg [⟨(some 43), .fa 2 (.t 4), none⟩, ⟨(some 44), .ld false 1 (.t 43), none⟩, ⟨(some 45), .fa 2 (.t 6), none⟩, ⟨(some 46), .ld false 1 (.t 45), none⟩, ⟨(some 47), .eq .bool false (.t 44) (.t 46), none⟩, ⟨(some 48), .mv (.t 47), none⟩, ⟨(some 49), .fa 0 (.t 4), (some (48, true))⟩, ⟨(some 50), .ld false 1 (.t 49), (some (48, true))⟩, ⟨(some 51), .un .not (.t 50), (some (48, true))⟩, ⟨(some 52), .mv (.t 51), (some (48, true))⟩, ⟨(some 53), .fa 0 (.t 6), (some (52, true))⟩, ⟨(some 54), .ld false 1 (.t 53), (some (52, true))⟩, ⟨(some 55), .un .not (.t 54), (some (52, true))⟩, ⟨(some 56), .pick (.t 52) (.t 55) (.c (.b false)), (some (48, true))⟩, ⟨(some 57), .mv (.t 56), (some (48, true))⟩, ⟨(some 58), .fa 2 (.t 4), (some (57, false))⟩, ⟨(some 59), .ld false 1 (.t 58), (some (57, false))⟩, ⟨(some 60), .mv (.t 59), (some (57, false))⟩, ⟨(some 61), .fa 1 (.t 4), (some (60, true))⟩, ⟨(some 62), .ld false 1 (.t 61), (some (60, true))⟩, ⟨(some 63), .bin .eql (.t 62) (.c (.s [])), (some (60, true))⟩, ⟨(some 64), .mv (.t 63), (some (60, true))⟩, ⟨(some 65), .fa 1 (.t 6), (some (64, false))⟩, ⟨(some 66), .ld false 1 (.t 65), (some (64, false))⟩, ⟨(some 67), .bin .eql (.t 66) (.c (.s [])), (some (64, false))⟩, ⟨(some 68), .pick (.t 64) (.c (.b true)) (.t 67), (some (60, true))⟩, ⟨(some 69), .pick (.t 60) (.t 68) (.c (.b false)), (some (57, false))⟩, ⟨(some 70), .pick (.t 57) (.c (.b true)) (.t 69), (some (48, true))⟩, ⟨(some 71), .pick (.t 48) (.t 70) (.c (.b false)), none⟩]) e q Q := by
 have sm : ∀ e', Sm 43 e e' → e'.get 71 = .b (GC p r) → Q .n e' q := k
 obtain ⟨bt, hbt⟩ : ∃ bt, GC p r = bt := ⟨_, rfl⟩
 rw [hbt] at k
 unfold GC at hbt
 cases hpq : p.quoted <;> cases hrq : r.quoted <;> cases hpv : p.var <;> cases hrv : r.var <;> rcases Classical.propComplete (p.text = []) with hpt | hpt <;> rcases Classical.propComplete (r.text = []) with hrt | hrt <;>
  (rw [hpq] at j2 hbt; rw [hrq] at m2 hbt; rw [hpv] at j0 hbt; rw [hrv] at m0 hbt
   simp only [hpt, hrt, decide_true, decide_false, Bool.not_true, Bool.not_false, Bool.and_true, Bool.and_false, Bool.true_and, Bool.false_and, Bool.or_true, Bool.or_false, Bool.true_or, Bool.false_or, reduceCtorEq] at hbt
   subst hbt
   simp only [go_sem, AE, AA, AC, AB, KB_n, KB_x, Nat.reduceBEq, Nat.reduceAdd, Nat.reduceLT, Nat.reduceLeDiff, Nat.reduceEqDiff, reduceIte, Int.reduceEq, reduceCtorEq, g4, g6, j0, j1, j2, m0, m1, m2, hpt, hrt, Nat.zero_add]
   refine k _ ?_ ?_
   · repeat (first | exact Sm.refl _ _ | refine Sm.put ?_ (by decide) (by decide))
   · simp only [go_sem, AE, AA, AC, AB, KB_n, KB_x, Nat.reduceBEq, Nat.reduceAdd, Nat.reduceLT, Nat.reduceLeDiff, Nat.reduceEqDiff, reduceIte, Int.reduceEq, reduceCtorEq])
theorem HV {p r : PT} {q : St} {a b : Nat} {e : Tr} {Q : Ex → Tr → St → Prop} (g4 : e.get 4 = .p a 0) (g6 : e.get 6 = .p b 0)
    (j0 : ldA q false 1 (.p a 0) = some (.b p.var)) (j1 : ldA q false 1 (.p a 1) = some (.s p.text)) (j2 : ldA q false 1 (.p a 2) = some (.b p.quoted))
    (m0 : ldA q false 1 (.p b 0) = some (.b r.var)) (m1 : ldA q false 1 (.p b 1) = some (.s r.text)) (m2 : ldA q false 1 (.p b 2) = some (.b r.quoted))
    (k : ∀ e', Sm 43 e e' → e'.get 71 = .b (GC p r) → Q .n e' q) :
    WS (ldR q (ldA q false 1 (.p a 2))) (KO (lim prog) (some 44) [⟨(some 45), .fa 2 (.t 6), none⟩, ⟨(some 46), .ld false 1 (.t 45), none⟩, ⟨(some 47), .eq .bool false (.t 44) (.t 46), none⟩, ⟨(some 48), .mv (.t 47), none⟩, ⟨(some 49), .fa 0 (.t 4), (some (48, true))⟩, ⟨(some 50), .ld false 1 (.t 49), (some (48, true))⟩, ⟨(some 51), .un .not (.t 50), (some (48, true))⟩, ⟨(some 52), .mv (.t 51), (some (48, true))⟩, ⟨(some 53), .fa 0 (.t 6), (some (52, true))⟩, ⟨(some 54), .ld false 1 (.t 53), (some (52, true))⟩, ⟨(some 55), .un .not (.t 54), (some (52, true))⟩, ⟨(some 56), .pick (.t 52) (.t 55) (.c (.b false)), (some (48, true))⟩, ⟨(some 57), .mv (.t 56), (some (48, true))⟩, ⟨(some 58), .fa 2 (.t 4), (some (57, false))⟩, ⟨(some 59), .ld false 1 (.t 58), (some (57, false))⟩, ⟨(some 60), .mv (.t 59), (some (57, false))⟩, ⟨(some 61), .fa 1 (.t 4), (some (60, true))⟩, ⟨(some 62), .ld false 1 (.t 61), (some (60, true))⟩, ⟨(some 63), .bin .eql (.t 62) (.c (.s [])), (some (60, true))⟩, ⟨(some 64), .mv (.t 63), (some (60, true))⟩, ⟨(some 65), .fa 1 (.t 6), (some (64, false))⟩, ⟨(some 66), .ld false 1 (.t 65), (some (64, false))⟩, ⟨(some 67), .bin .eql (.t 66) (.c (.s [])), (some (64, false))⟩, ⟨(some 68), .pick (.t 64) (.c (.b true)) (.t 67), (some (60, true))⟩, ⟨(some 69), .pick (.t 60) (.t 68) (.c (.b false)), (some (57, false))⟩, ⟨(some 70), .pick (.t 57) (.c (.b true)) (.t 69), (some (48, true))⟩, ⟨(some 71), .pick (.t 48) (.t 70) (.c (.b false)), none⟩] (e.set 10 43 (.p a 2)) (KN Q)) := by
 have h := Vm g4 g6 j0 j1 j2 m0 m1 m2 k
 simp only [go_sem, AE, AA, AC, AB, KB_n, KB_x, Nat.reduceBEq, Nat.reduceAdd, Nat.reduceLT, Nat.reduceLeDiff, Nat.reduceEqDiff, reduceIte, Int.reduceEq, reduceCtorEq, g4, Nat.zero_add] at h
 exact h
theorem CL {l : List PT} {i : Nat} {p : PT} (h : l[i]? = some p) : HX l (i + 1) = some p := by simp [HX, h]
def SlP (s : St) (a : AV) (l : List PT) : Prop := a = .ws false 3 (l.map PT.av) ∨ ∃ id T rm fz x, a = .bl id 3 0 l.length x ∧ id < s.nb ∧ s.box? id = some (.row T (l.map PT.cells).flatten fz rm)
theorem flat3 : ∀ {l : List PT} {i : Nat} {p : PT}, l[i]? = some p → ((l.map PT.cells).flatten.drop (i * 3)).take 3 = p.cells
 | [], _, _, h => by simp at h
 | q :: l, 0, p, h => by
   simp only [List.getElem?_cons_zero, Option.some.injEq] at h
   subst h; rfl
 | q :: l, i + 1, p, h => by
   rw [List.getElem?_cons_succ] at h
   have := flat3 h
   rw [List.map_cons, List.flatten_cons, show (i + 1) * 3 = i * 3 + 3 by omega, Nat.add_comm, ← List.drop_drop]
   exact this
theorem R7 {q : St} {id T rm i : Nat} {fz : Bool} {l : List PT} {p : PT} (hb : q.box? id = some (.row T (l.map PT.cells).flatten fz rm)) (h : l[i]? = some p) : ldA q true 3 (.p id (i * 3)) = some (.agg p.cells) := by
 have hcut : cut (l.map PT.cells).flatten (i * 3) 3 = some p.cells := by
  unfold cut
  rw [flat3 h]
  rfl
 simp only [ldA, St.cells?, hb, hcut]
 rfl
theorem Lv (l : List PT) (hl : ∀ p ∈ l, Txt p.text) (hn : l.length < 2 ^ 40) (s : St) {a : AV} (ha : SlP s a l) (hw : Wf s) : (lim prog).call JJ [.agg [a, .i .i64 0]] s = some (.b (Gk l), s) := by
 refine fn_W QG rfl rfl ?_
 have hz0 : wkZ DL.cin [.agg [a, .i .i64 0]] = [.agg [a, .i .i64 0]] := by
  rcases ha with rfl | ⟨id, T, rm, fz, x, rfl, _, _⟩
  · simp only [DL, wkZ, wk, Pf]
  · simp only [DL, wkZ, wk]
 have hac : a.cells = [a] ∧ ones [a] = true := by
  rcases ha with rfl | ⟨id, T, rm, fz, x, rfl, _, _⟩ <;> exact ⟨rfl, rfl⟩
 rw [hz0]
 have e0 : s.enter.nb = s.nb := rfl
 have H1 := (Hp.begin hw).new (.cells 102 [a, .i .i64 0])
 obtain ⟨q1, hq1⟩ : ∃ q1, s.enter.new (.cells 102 [a, .i .i64 0]) = q1 := ⟨_, rfl⟩
 rw [hq1, e0] at H1
 have c2 : ∀ x y : AV, [x, y].length = 2 := fun _ _ => rfl
 have l7 := H1.ld 0 (off := 0) (v := a) rfl rfl
 have l11 : ∀ v : AV, ([v].length = 1) = True := fun _ => eq_true rfl
 rcases ha with rfl | ⟨id, T, rm, fz, xx, rfl, hid, hbx⟩
 · simp only [DL, go_sem, AE, AA, AC, AB, KB_n, KB_x, Nat.reduceBEq, Nat.reduceAdd, Nat.reduceLT, Nat.reduceLeDiff, Nat.reduceEqDiff, reduceIte, Int.reduceEq, reduceCtorEq, c2, hq1, e0, l7, List.length_map]
   refine DN (fun x e q => ∃ i : Nat, i + x = l.length ∧ Hp s q s.en [] [(s.nb, .cells 102 [AV.ws false 3 (l.map PT.av), .i .i64 0])] ∧ HB (HX l i) (l.drop i) = HB none l ∧ e.get 1 = .p s.nb 0 ∧ e.get 8 = AV.ws false 3 (l.map PT.av) ∧ e.get 9 = .i .i64 (l.length : Nat) ∧ e.get 10 = .i .i64 (i : Nat)) ?_ l.length _ _ ?_
   · rintro x e q ⟨i, hix, H, hinv, g1, g8, g9, g10⟩
     by_cases hi : i < l.length
     · have h1 : ((i : Int) < (l.length : Int)) = True := eq_true (by omega)
       obtain ⟨p, hp⟩ : ∃ p, l[i]? = some p := ⟨_, List.getElem?_eq_getElem hi⟩
       have hpo := hl p (List.mem_of_getElem? hp)
       have hg := Pc hp
       have hdr : l.drop i = p :: l.drop (i + 1) := by
        rw [List.getElem?_eq_some_iff] at hp
        obtain ⟨h, rfl⟩ := hp
        exact List.drop_eq_getElem_cons h
       have H2 := H.new (.cells 85 [.b false, .s [], .b false])
       obtain ⟨q2, hq2⟩ : ∃ q2, q.new (.cells 85 [.b false, .s [], .b false]) = q2 := ⟨_, rfl⟩
       rw [hq2] at H2
       obtain ⟨q3, d3, H3, n3, _⟩ := H2.stw 0 (m := 3) (v := .agg p.cells) rfl rfl ⟨pc3 p, po3 p⟩
       have k0 := H3.ld 0 (off := 0) (v := .b p.var) rfl rfl
       have k1 := H3.ld 0 (off := 1) (v := .s p.text) rfl rfl
       have k2 := H3.ld 0 (off := 2) (v := .b p.quoted) rfl rfl
       have hP := Mu p.text hpo q3
       have hC := Ei p.text 0 (by omega) q3
       have hL := Pe p.text hpo (decide ((i : Int) = 0)) q3 H3.wf
       have hdc : decide ((i : Int) = 0) = decide (i = 0) := by simp only [decide_eq_decide]; omega
       rw [hdc] at hL
       rw [hdr, K6] at hinv
       have hpn : (HX l i).isNone = decide (i = 0) := by
        unfold HX
        by_cases h0 : i = 0
        · simp [h0]
        · rw [if_neg h0, List.getElem?_eq_getElem (by omega)]; simp [h0]
       rw [hpn] at hinv
       have hw1 := BO (show i + 1 < 2 ^ 63 by omega)
       have hD : Hp s q3 s.en [] [(s.nb, .cells 102 [AV.ws false 3 (l.map PT.av), .i .i64 0])] := H3.dropB
       cases hb : Jb (decide (i = 0)) p with
       | false =>
         rw [hb, Bool.false_and] at hinv
         have hwf : Gk l = false := by unfold Gk; rw [← hinv]; rfl
         rw [hwf]
         have hfin : KR s [.id] (.b false) (some ([.b false], q3)) := AM H3.over rfl rfl
         unfold Jb at hb
         cases hv : p.var with
         | true =>
           rw [hv, if_pos rfl] at hb
           rw [hv] at k0
           rw [hb] at hP
           simp only [go_sem, AE, AA, AC, AB, KB_n, KB_x, Nat.reduceBEq, Nat.reduceAdd, Nat.reduceLT, Nat.reduceLeDiff, Nat.reduceEqDiff, reduceIte, Int.reduceEq, reduceCtorEq, g1, g8, g9, g10, h1, AI, hg, pld, FY, pc3, hq2, d3, k0, k1, hP]
           exact hfin
         | false =>
           rw [hv, if_neg (by simp)] at hb
           rw [hv] at k0
           cases hqq : p.quoted with
           | true =>
             rw [hqq, if_pos rfl] at hb
             rw [hqq] at k2
             have hc0 : decide (0 ∈ p.text) = true := by simpa using hb
             rw [hc0] at hC
             simp only [go_sem, AE, AA, AC, AB, KB_n, KB_x, Nat.reduceBEq, Nat.reduceAdd, Nat.reduceLT, Nat.reduceLeDiff, Nat.reduceEqDiff, reduceIte, Int.reduceEq, reduceCtorEq, g1, g8, g9, g10, h1, AI, hg, pld, FY, pc3, hq2, d3, k0, k1, k2, hC]
             exact hfin
           | false =>
             rw [hqq, if_neg (by simp)] at hb
             rw [hqq] at k2
             rw [hb] at hL
             simp only [go_sem, AE, AA, AC, AB, KB_n, KB_x, Nat.reduceBEq, Nat.reduceAdd, Nat.reduceLT, Nat.reduceLeDiff, Nat.reduceEqDiff, reduceIte, Int.reduceEq, reduceCtorEq, g1, g8, g9, g10, h1, AI, hg, pld, FY, pc3, hq2, d3, k0, k1, k2, hdc, hL]
             exact hfin
       | true =>
         rw [hb, Bool.true_and] at hinv
         unfold Jb at hb
         by_cases h0 : i = 0
         · have e0' : ((i : Int) = 0) = True := eq_true (by omega)
           have hpv0 : HX l i = none := by simp [HX, h0]
           rw [hpv0] at hinv
           simp only [Bool.true_and] at hinv
           cases hv : p.var with
           | true =>
             rw [hv, if_pos rfl] at hb
             rw [hv] at k0
             rw [hb] at hP
             simp only [go_sem, AE, AA, AC, AB, KB_n, KB_x, Nat.reduceBEq, Nat.reduceAdd, Nat.reduceLT, Nat.reduceLeDiff, Nat.reduceEqDiff, reduceIte, Int.reduceEq, reduceCtorEq, g1, g8, g9, g10, h1, AI, hg, pld, FY, pc3, hq2, d3, k0, k1, hP, e0', hw1]
             exact ⟨x - 1, by omega, i + 1, by omega, hD, by rw [CL hp]; exact hinv, rfl⟩
           | false =>
             rw [hv, if_neg (by simp)] at hb
             rw [hv] at k0
             cases hqq : p.quoted with
             | true =>
               rw [hqq, if_pos rfl] at hb
               rw [hqq] at k2
               have hc0 : decide (0 ∈ p.text) = false := by simpa using hb
               rw [hc0] at hC
               simp only [go_sem, AE, AA, AC, AB, KB_n, KB_x, Nat.reduceBEq, Nat.reduceAdd, Nat.reduceLT, Nat.reduceLeDiff, Nat.reduceEqDiff, reduceIte, Int.reduceEq, reduceCtorEq, g1, g8, g9, g10, h1, AI, hg, pld, FY, pc3, hq2, d3, k0, k1, k2, hC, e0', hw1]
               exact ⟨x - 1, by omega, i + 1, by omega, hD, by rw [CL hp]; exact hinv, rfl⟩
             | false =>
               rw [hqq, if_neg (by simp)] at hb
               rw [hqq] at k2
               rw [hb] at hL
               rw [decide_eq_true h0] at hL
               simp only [go_sem, AE, AA, AC, AB, KB_n, KB_x, Nat.reduceBEq, Nat.reduceAdd, Nat.reduceLT, Nat.reduceLeDiff, Nat.reduceEqDiff, reduceIte, Int.reduceEq, reduceCtorEq, g1, g8, g9, g10, h1, AI, hg, pld, FY, pc3, hq2, d3, k0, k1, k2, e0', decide_true, hL, hw1]
               exact ⟨x - 1, by omega, i + 1, by omega, hD, by rw [CL hp]; exact hinv, rfl⟩
         · have e0' : ((i : Int) = 0) = False := eq_false (by omega)
           obtain ⟨r, hr⟩ : ∃ r, l[i - 1]? = some r := ⟨_, List.getElem?_eq_getElem (by omega)⟩
           have hpv0 : HX l i = some r := by simp [HX, h0, hr]
           rw [hpv0] at hinv
           simp only at hinv
           have hgr := Pc hr
           have hws : IntKind.i64.wrap ((i : Int) - 1) = ((i - 1 : Nat) : Int) := by
            rw [show (i : Int) - 1 = ((i - 1 : Nat) : Int) by omega]; exact EV (by omega)
           have l7' := H3.ld 1 (off := 0) (v := AV.ws false 3 (l.map PT.av)) rfl rfl
           have H4 := H3.new (.cells 85 [.b false, .s [], .b false])
           obtain ⟨q4, hq4⟩ : ∃ q4, q3.new (.cells 85 [.b false, .s [], .b false]) = q4 := ⟨_, rfl⟩
           rw [hq4] at H4
           obtain ⟨q5, d5, H5, n5, _⟩ := H4.stw 0 (m := 3) (v := .agg r.cells) rfl rfl ⟨pc3 r, po3 r⟩
           have m0 := H5.ld 0 (off := 0) (v := .b r.var) rfl rfl
           have m1 := H5.ld 0 (off := 1) (v := .s r.text) rfl rfl
           have m2 := H5.ld 0 (off := 2) (v := .b r.quoted) rfl rfl
           have j0 := H5.ld 1 (off := 0) (v := .b p.var) rfl rfl
           have j1 := H5.ld 1 (off := 1) (v := .s p.text) rfl rfl
           have j2 := H5.ld 1 (off := 2) (v := .b p.quoted) rfl rfl
           have hD5 : Hp s q5 s.en [] [(s.nb, .cells 102 [AV.ws false 3 (l.map PT.av), .i .i64 0])] := H5.dropB.dropB
           have hF : Gk l = false → KR s [.id] (.b (Gk l)) (some ([.b false], q5)) := fun h => AM H5.over rfl (by rw [h]; rfl)
           have hW : false = HB none l → Gk l = false := fun h => by unfold Gk; rw [← h]; rfl
           have hdc0 : decide (i = 0) = false := decide_eq_false h0
           rw [hdc0] at hL hb
           cases hv : p.var with
           | true =>
             rw [hv, if_pos rfl] at hb
             rw [hv] at k0
             rw [hb] at hP
             simp only [go_sem, AE, AA, AC, AB, KB_n, KB_x, Nat.reduceBEq, Nat.reduceAdd, Nat.reduceLT, Nat.reduceLeDiff, Nat.reduceEqDiff, reduceIte, Int.reduceEq, reduceCtorEq, g1, g8, g9, g10, h1, AI, hg, pld, hgr, FY, pc3, hq2, d3, k0, k1, hP, e0', l7', hws, hq4, d5]
             refine HV (p := p) (r := r) (by simp only [go_sem, AE, AA, AC, AB, KB_n, KB_x, Nat.reduceBEq, Nat.reduceAdd, Nat.reduceLT, Nat.reduceLeDiff, Nat.reduceEqDiff, reduceIte, Int.reduceEq, reduceCtorEq]) (by simp only [go_sem, AE, AA, AC, AB, KB_n, KB_x, Nat.reduceBEq, Nat.reduceAdd, Nat.reduceLT, Nat.reduceLeDiff, Nat.reduceEqDiff, reduceIte, Int.reduceEq, reduceCtorEq]) j0 j1 j2 m0 m1 m2 fun e' hsm hbt => ?_
             have y1 := hsm 1 (by decide)
             have y8 := hsm 8 (by decide)
             have y9 := hsm 9 (by decide)
             have y10 := hsm 10 (by decide)
             simp only [go_sem, AE, AA, AC, AB, KB_n, KB_x, Nat.reduceBEq, Nat.reduceAdd, Nat.reduceLT, Nat.reduceLeDiff, Nat.reduceEqDiff, reduceIte, Int.reduceEq, reduceCtorEq, g1, g8, g9, g10] at y1 y8 y9 y10
             cases hb2 : GC p r with
             | true =>
               rw [hb2] at hbt hinv
               simp only [go_sem, AE, AA, AC, AB, KB_n, KB_x, Nat.reduceBEq, Nat.reduceAdd, Nat.reduceLT, Nat.reduceLeDiff, Nat.reduceEqDiff, reduceIte, Int.reduceEq, reduceCtorEq, hbt]
               exact hF (hW hinv)
             | false =>
               rw [hb2] at hbt hinv
               simp only [go_sem, AE, AA, AC, AB, KB_n, KB_x, Nat.reduceBEq, Nat.reduceAdd, Nat.reduceLT, Nat.reduceLeDiff, Nat.reduceEqDiff, reduceIte, Int.reduceEq, reduceCtorEq, hbt, y1, y8, y9, y10, hw1]
               exact ⟨x - 1, by omega, i + 1, by omega, hD5, by rw [CL hp]; exact hinv, rfl⟩
           | false =>
             rw [hv, if_neg (by simp)] at hb
             rw [hv] at k0
             cases hpq : p.quoted with
             | true =>
               rw [hpq, if_pos rfl] at hb
               rw [hpq] at k2
               have hc0 : decide (0 ∈ p.text) = false := by simpa using hb
               rw [hc0] at hC
               simp only [go_sem, AE, AA, AC, AB, KB_n, KB_x, Nat.reduceBEq, Nat.reduceAdd, Nat.reduceLT, Nat.reduceLeDiff, Nat.reduceEqDiff, reduceIte, Int.reduceEq, reduceCtorEq, g1, g8, g9, g10, h1, AI, hg, pld, hgr, FY, pc3, hq2, d3, k0, k1, k2, hC, e0', l7', hws, hq4, d5]
               refine HV (p := p) (r := r) (by simp only [go_sem, AE, AA, AC, AB, KB_n, KB_x, Nat.reduceBEq, Nat.reduceAdd, Nat.reduceLT, Nat.reduceLeDiff, Nat.reduceEqDiff, reduceIte, Int.reduceEq, reduceCtorEq]) (by simp only [go_sem, AE, AA, AC, AB, KB_n, KB_x, Nat.reduceBEq, Nat.reduceAdd, Nat.reduceLT, Nat.reduceLeDiff, Nat.reduceEqDiff, reduceIte, Int.reduceEq, reduceCtorEq]) j0 j1 j2 m0 m1 m2 fun e' hsm hbt => ?_
               have y1 := hsm 1 (by decide)
               have y8 := hsm 8 (by decide)
               have y9 := hsm 9 (by decide)
               have y10 := hsm 10 (by decide)
               simp only [go_sem, AE, AA, AC, AB, KB_n, KB_x, Nat.reduceBEq, Nat.reduceAdd, Nat.reduceLT, Nat.reduceLeDiff, Nat.reduceEqDiff, reduceIte, Int.reduceEq, reduceCtorEq, g1, g8, g9, g10] at y1 y8 y9 y10
               cases hb2 : GC p r with
               | true =>
                 rw [hb2] at hbt hinv
                 simp only [go_sem, AE, AA, AC, AB, KB_n, KB_x, Nat.reduceBEq, Nat.reduceAdd, Nat.reduceLT, Nat.reduceLeDiff, Nat.reduceEqDiff, reduceIte, Int.reduceEq, reduceCtorEq, hbt]
                 exact hF (hW hinv)
               | false =>
                 rw [hb2] at hbt hinv
                 simp only [go_sem, AE, AA, AC, AB, KB_n, KB_x, Nat.reduceBEq, Nat.reduceAdd, Nat.reduceLT, Nat.reduceLeDiff, Nat.reduceEqDiff, reduceIte, Int.reduceEq, reduceCtorEq, hbt, y1, y8, y9, y10, hw1]
                 exact ⟨x - 1, by omega, i + 1, by omega, hD5, by rw [CL hp]; exact hinv, rfl⟩
             | false =>
               rw [hpq, if_neg (by simp)] at hb
               rw [hpq] at k2
               rw [hb] at hL
               simp only [go_sem, AE, AA, AC, AB, KB_n, KB_x, Nat.reduceBEq, Nat.reduceAdd, Nat.reduceLT, Nat.reduceLeDiff, Nat.reduceEqDiff, reduceIte, Int.reduceEq, reduceCtorEq, g1, g8, g9, g10, h1, AI, hg, pld, hgr, FY, pc3, hq2, d3, k0, k1, k2, e0', decide_false, hL, l7', hws, hq4, d5]
               refine HV (p := p) (r := r) (by simp only [go_sem, AE, AA, AC, AB, KB_n, KB_x, Nat.reduceBEq, Nat.reduceAdd, Nat.reduceLT, Nat.reduceLeDiff, Nat.reduceEqDiff, reduceIte, Int.reduceEq, reduceCtorEq]) (by simp only [go_sem, AE, AA, AC, AB, KB_n, KB_x, Nat.reduceBEq, Nat.reduceAdd, Nat.reduceLT, Nat.reduceLeDiff, Nat.reduceEqDiff, reduceIte, Int.reduceEq, reduceCtorEq]) j0 j1 j2 m0 m1 m2 fun e' hsm hbt => ?_
               have y1 := hsm 1 (by decide)
               have y8 := hsm 8 (by decide)
               have y9 := hsm 9 (by decide)
               have y10 := hsm 10 (by decide)
               simp only [go_sem, AE, AA, AC, AB, KB_n, KB_x, Nat.reduceBEq, Nat.reduceAdd, Nat.reduceLT, Nat.reduceLeDiff, Nat.reduceEqDiff, reduceIte, Int.reduceEq, reduceCtorEq, g1, g8, g9, g10] at y1 y8 y9 y10
               cases hb2 : GC p r with
               | true =>
                 rw [hb2] at hbt hinv
                 simp only [go_sem, AE, AA, AC, AB, KB_n, KB_x, Nat.reduceBEq, Nat.reduceAdd, Nat.reduceLT, Nat.reduceLeDiff, Nat.reduceEqDiff, reduceIte, Int.reduceEq, reduceCtorEq, hbt]
                 exact hF (hW hinv)
               | false =>
                 rw [hb2] at hbt hinv
                 simp only [go_sem, AE, AA, AC, AB, KB_n, KB_x, Nat.reduceBEq, Nat.reduceAdd, Nat.reduceLT, Nat.reduceLeDiff, Nat.reduceEqDiff, reduceIte, Int.reduceEq, reduceCtorEq, hbt, y1, y8, y9, y10, hw1]
                 exact ⟨x - 1, by omega, i + 1, by omega, hD5, by rw [CL hp]; exact hinv, rfl⟩
     · have h1 : ((i : Int) < (l.length : Int)) = False := eq_false (by omega)
       have l7 := H.ld 0 (off := 0) (v := AV.ws false 3 (l.map PT.av)) rfl rfl
       rw [List.drop_of_length_le (by omega), Lu] at hinv
       have hwf : Gk l = decide ((0 : Int) < (l.length : Int)) := by
        unfold Gk; rw [← hinv, Bool.true_and]; simp only [decide_eq_decide]; omega
       rw [hwf]
       simp only [go_sem, AE, AA, AC, AB, KB_n, KB_x, Nat.reduceBEq, Nat.reduceAdd, Nat.reduceLT, Nat.reduceLeDiff, Nat.reduceEqDiff, reduceIte, Int.reduceEq, reduceCtorEq, g1, g8, g9, g10, h1, l7, List.length_map]
       exact AM H.over rfl rfl
   · simp only [go_sem, AE, AA, AC, AB, KB_n, KB_x, Nat.reduceBEq, Nat.reduceAdd, Nat.reduceLT, Nat.reduceLeDiff, Nat.reduceEqDiff, reduceIte, Int.reduceEq, reduceCtorEq]
     exact ⟨0, by omega, H1, rfl, rfl⟩
 · simp only [DL, go_sem, AE, AA, AC, AB, KB_n, KB_x, Nat.reduceBEq, Nat.reduceAdd, Nat.reduceLT, Nat.reduceLeDiff, Nat.reduceEqDiff, reduceIte, Int.reduceEq, reduceCtorEq, c2, hq1, e0, l7, List.length_map]
   refine DN (fun x e q => ∃ i : Nat, i + x = l.length ∧ Hp s q s.en [] [(s.nb, .cells 102 [AV.bl id 3 0 l.length xx, .i .i64 0])] ∧ HB (HX l i) (l.drop i) = HB none l ∧ e.get 1 = .p s.nb 0 ∧ e.get 8 = AV.bl id 3 0 l.length xx ∧ e.get 9 = .i .i64 (l.length : Nat) ∧ e.get 10 = .i .i64 (i : Nat)) ?_ l.length _ _ ?_
   · rintro x e q ⟨i, hix, H, hinv, g1, g8, g9, g10⟩
     by_cases hi : i < l.length
     · have h1 : ((i : Int) < (l.length : Int)) = True := eq_true (by omega)
       obtain ⟨p, hp⟩ : ∃ p, l[i]? = some p := ⟨_, List.getElem?_eq_getElem hi⟩
       have hpo := hl p (List.mem_of_getElem? hp)
       have hlt0 : (i < l.length) = True := eq_true hi
       have lp : ldA q true 3 (.p id (i * 3)) = some (.agg p.cells) := R7 (by rw [Mt H.over hid]; exact hbx) hp
       have hdr : l.drop i = p :: l.drop (i + 1) := by
        rw [List.getElem?_eq_some_iff] at hp
        obtain ⟨h, rfl⟩ := hp
        exact List.drop_eq_getElem_cons h
       have H2 := H.new (.cells 85 [.b false, .s [], .b false])
       obtain ⟨q2, hq2⟩ : ∃ q2, q.new (.cells 85 [.b false, .s [], .b false]) = q2 := ⟨_, rfl⟩
       rw [hq2] at H2
       obtain ⟨q3, d3, H3, n3, _⟩ := H2.stw 0 (m := 3) (v := .agg p.cells) rfl rfl ⟨pc3 p, po3 p⟩
       have k0 := H3.ld 0 (off := 0) (v := .b p.var) rfl rfl
       have k1 := H3.ld 0 (off := 1) (v := .s p.text) rfl rfl
       have k2 := H3.ld 0 (off := 2) (v := .b p.quoted) rfl rfl
       have hP := Mu p.text hpo q3
       have hC := Ei p.text 0 (by omega) q3
       have hL := Pe p.text hpo (decide ((i : Int) = 0)) q3 H3.wf
       have hdc : decide ((i : Int) = 0) = decide (i = 0) := by simp only [decide_eq_decide]; omega
       rw [hdc] at hL
       rw [hdr, K6] at hinv
       have hpn : (HX l i).isNone = decide (i = 0) := by
        unfold HX
        by_cases h0 : i = 0
        · simp [h0]
        · rw [if_neg h0, List.getElem?_eq_getElem (by omega)]; simp [h0]
       rw [hpn] at hinv
       have hw1 := BO (show i + 1 < 2 ^ 63 by omega)
       have hD : Hp s q3 s.en [] [(s.nb, .cells 102 [AV.bl id 3 0 l.length xx, .i .i64 0])] := H3.dropB
       cases hb : Jb (decide (i = 0)) p with
       | false =>
         rw [hb, Bool.false_and] at hinv
         have hwf : Gk l = false := by unfold Gk; rw [← hinv]; rfl
         rw [hwf]
         have hfin : KR s [.id] (.b false) (some ([.b false], q3)) := AM H3.over rfl rfl
         unfold Jb at hb
         cases hv : p.var with
         | true =>
           rw [hv, if_pos rfl] at hb
           rw [hv] at k0
           rw [hb] at hP
           simp only [go_sem, AE, AA, AC, AB, KB_n, KB_x, Nat.reduceBEq, Nat.reduceAdd, Nat.reduceLT, Nat.reduceLeDiff, Nat.reduceEqDiff, reduceIte, Int.reduceEq, reduceCtorEq, g1, g8, g9, g10, h1, AI, hlt0, lp, Nat.zero_add, FY, pc3, hq2, d3, k0, k1, hP]
           exact hfin
         | false =>
           rw [hv, if_neg (by simp)] at hb
           rw [hv] at k0
           cases hqq : p.quoted with
           | true =>
             rw [hqq, if_pos rfl] at hb
             rw [hqq] at k2
             have hc0 : decide (0 ∈ p.text) = true := by simpa using hb
             rw [hc0] at hC
             simp only [go_sem, AE, AA, AC, AB, KB_n, KB_x, Nat.reduceBEq, Nat.reduceAdd, Nat.reduceLT, Nat.reduceLeDiff, Nat.reduceEqDiff, reduceIte, Int.reduceEq, reduceCtorEq, g1, g8, g9, g10, h1, AI, hlt0, lp, Nat.zero_add, FY, pc3, hq2, d3, k0, k1, k2, hC]
             exact hfin
           | false =>
             rw [hqq, if_neg (by simp)] at hb
             rw [hqq] at k2
             rw [hb] at hL
             simp only [go_sem, AE, AA, AC, AB, KB_n, KB_x, Nat.reduceBEq, Nat.reduceAdd, Nat.reduceLT, Nat.reduceLeDiff, Nat.reduceEqDiff, reduceIte, Int.reduceEq, reduceCtorEq, g1, g8, g9, g10, h1, AI, hlt0, lp, Nat.zero_add, FY, pc3, hq2, d3, k0, k1, k2, hdc, hL]
             exact hfin
       | true =>
         rw [hb, Bool.true_and] at hinv
         unfold Jb at hb
         by_cases h0 : i = 0
         · have e0' : ((i : Int) = 0) = True := eq_true (by omega)
           have hpv0 : HX l i = none := by simp [HX, h0]
           rw [hpv0] at hinv
           simp only [Bool.true_and] at hinv
           cases hv : p.var with
           | true =>
             rw [hv, if_pos rfl] at hb
             rw [hv] at k0
             rw [hb] at hP
             simp only [go_sem, AE, AA, AC, AB, KB_n, KB_x, Nat.reduceBEq, Nat.reduceAdd, Nat.reduceLT, Nat.reduceLeDiff, Nat.reduceEqDiff, reduceIte, Int.reduceEq, reduceCtorEq, g1, g8, g9, g10, h1, AI, hlt0, lp, Nat.zero_add, FY, pc3, hq2, d3, k0, k1, hP, e0', hw1]
             exact ⟨x - 1, by omega, i + 1, by omega, hD, by rw [CL hp]; exact hinv, rfl⟩
           | false =>
             rw [hv, if_neg (by simp)] at hb
             rw [hv] at k0
             cases hqq : p.quoted with
             | true =>
               rw [hqq, if_pos rfl] at hb
               rw [hqq] at k2
               have hc0 : decide (0 ∈ p.text) = false := by simpa using hb
               rw [hc0] at hC
               simp only [go_sem, AE, AA, AC, AB, KB_n, KB_x, Nat.reduceBEq, Nat.reduceAdd, Nat.reduceLT, Nat.reduceLeDiff, Nat.reduceEqDiff, reduceIte, Int.reduceEq, reduceCtorEq, g1, g8, g9, g10, h1, AI, hlt0, lp, Nat.zero_add, FY, pc3, hq2, d3, k0, k1, k2, hC, e0', hw1]
               exact ⟨x - 1, by omega, i + 1, by omega, hD, by rw [CL hp]; exact hinv, rfl⟩
             | false =>
               rw [hqq, if_neg (by simp)] at hb
               rw [hqq] at k2
               rw [hb] at hL
               rw [decide_eq_true h0] at hL
               simp only [go_sem, AE, AA, AC, AB, KB_n, KB_x, Nat.reduceBEq, Nat.reduceAdd, Nat.reduceLT, Nat.reduceLeDiff, Nat.reduceEqDiff, reduceIte, Int.reduceEq, reduceCtorEq, g1, g8, g9, g10, h1, AI, hlt0, lp, Nat.zero_add, FY, pc3, hq2, d3, k0, k1, k2, e0', decide_true, hL, hw1]
               exact ⟨x - 1, by omega, i + 1, by omega, hD, by rw [CL hp]; exact hinv, rfl⟩
         · have e0' : ((i : Int) = 0) = False := eq_false (by omega)
           obtain ⟨r, hr⟩ : ∃ r, l[i - 1]? = some r := ⟨_, List.getElem?_eq_getElem (by omega)⟩
           have hpv0 : HX l i = some r := by simp [HX, h0, hr]
           rw [hpv0] at hinv
           simp only at hinv
           have hltr : (i - 1 < l.length) = True := eq_true (by omega)
           have lrr : ldA q3 true 3 (.p id ((i - 1) * 3)) = some (.agg r.cells) := R7 (by rw [Mt H3.over hid]; exact hbx) hr
           have hws : IntKind.i64.wrap ((i : Int) - 1) = ((i - 1 : Nat) : Int) := by
            rw [show (i : Int) - 1 = ((i - 1 : Nat) : Int) by omega]; exact EV (by omega)
           have l7' := H3.ld 1 (off := 0) (v := AV.bl id 3 0 l.length xx) rfl rfl
           have H4 := H3.new (.cells 85 [.b false, .s [], .b false])
           obtain ⟨q4, hq4⟩ : ∃ q4, q3.new (.cells 85 [.b false, .s [], .b false]) = q4 := ⟨_, rfl⟩
           rw [hq4] at H4
           obtain ⟨q5, d5, H5, n5, _⟩ := H4.stw 0 (m := 3) (v := .agg r.cells) rfl rfl ⟨pc3 r, po3 r⟩
           have m0 := H5.ld 0 (off := 0) (v := .b r.var) rfl rfl
           have m1 := H5.ld 0 (off := 1) (v := .s r.text) rfl rfl
           have m2 := H5.ld 0 (off := 2) (v := .b r.quoted) rfl rfl
           have j0 := H5.ld 1 (off := 0) (v := .b p.var) rfl rfl
           have j1 := H5.ld 1 (off := 1) (v := .s p.text) rfl rfl
           have j2 := H5.ld 1 (off := 2) (v := .b p.quoted) rfl rfl
           have hD5 : Hp s q5 s.en [] [(s.nb, .cells 102 [AV.bl id 3 0 l.length xx, .i .i64 0])] := H5.dropB.dropB
           have hF : Gk l = false → KR s [.id] (.b (Gk l)) (some ([.b false], q5)) := fun h => AM H5.over rfl (by rw [h]; rfl)
           have hW : false = HB none l → Gk l = false := fun h => by unfold Gk; rw [← h]; rfl
           have hdc0 : decide (i = 0) = false := decide_eq_false h0
           rw [hdc0] at hL hb
           cases hv : p.var with
           | true =>
             rw [hv, if_pos rfl] at hb
             rw [hv] at k0
             rw [hb] at hP
             simp only [go_sem, AE, AA, AC, AB, KB_n, KB_x, Nat.reduceBEq, Nat.reduceAdd, Nat.reduceLT, Nat.reduceLeDiff, Nat.reduceEqDiff, reduceIte, Int.reduceEq, reduceCtorEq, g1, g8, g9, g10, h1, AI, hlt0, lp, Nat.zero_add, hltr, lrr, FY, pc3, hq2, d3, k0, k1, hP, e0', l7', hws, hq4, d5]
             refine HV (p := p) (r := r) (by simp only [go_sem, AE, AA, AC, AB, KB_n, KB_x, Nat.reduceBEq, Nat.reduceAdd, Nat.reduceLT, Nat.reduceLeDiff, Nat.reduceEqDiff, reduceIte, Int.reduceEq, reduceCtorEq]) (by simp only [go_sem, AE, AA, AC, AB, KB_n, KB_x, Nat.reduceBEq, Nat.reduceAdd, Nat.reduceLT, Nat.reduceLeDiff, Nat.reduceEqDiff, reduceIte, Int.reduceEq, reduceCtorEq]) j0 j1 j2 m0 m1 m2 fun e' hsm hbt => ?_
             have y1 := hsm 1 (by decide)
             have y8 := hsm 8 (by decide)
             have y9 := hsm 9 (by decide)
             have y10 := hsm 10 (by decide)
             simp only [go_sem, AE, AA, AC, AB, KB_n, KB_x, Nat.reduceBEq, Nat.reduceAdd, Nat.reduceLT, Nat.reduceLeDiff, Nat.reduceEqDiff, reduceIte, Int.reduceEq, reduceCtorEq, g1, g8, g9, g10] at y1 y8 y9 y10
             cases hb2 : GC p r with
             | true =>
               rw [hb2] at hbt hinv
               simp only [go_sem, AE, AA, AC, AB, KB_n, KB_x, Nat.reduceBEq, Nat.reduceAdd, Nat.reduceLT, Nat.reduceLeDiff, Nat.reduceEqDiff, reduceIte, Int.reduceEq, reduceCtorEq, hbt]
               exact hF (hW hinv)
             | false =>
               rw [hb2] at hbt hinv
               simp only [go_sem, AE, AA, AC, AB, KB_n, KB_x, Nat.reduceBEq, Nat.reduceAdd, Nat.reduceLT, Nat.reduceLeDiff, Nat.reduceEqDiff, reduceIte, Int.reduceEq, reduceCtorEq, hbt, y1, y8, y9, y10, hw1]
               exact ⟨x - 1, by omega, i + 1, by omega, hD5, by rw [CL hp]; exact hinv, rfl⟩
           | false =>
             rw [hv, if_neg (by simp)] at hb
             rw [hv] at k0
             cases hpq : p.quoted with
             | true =>
               rw [hpq, if_pos rfl] at hb
               rw [hpq] at k2
               have hc0 : decide (0 ∈ p.text) = false := by simpa using hb
               rw [hc0] at hC
               simp only [go_sem, AE, AA, AC, AB, KB_n, KB_x, Nat.reduceBEq, Nat.reduceAdd, Nat.reduceLT, Nat.reduceLeDiff, Nat.reduceEqDiff, reduceIte, Int.reduceEq, reduceCtorEq, g1, g8, g9, g10, h1, AI, hlt0, lp, Nat.zero_add, hltr, lrr, FY, pc3, hq2, d3, k0, k1, k2, hC, e0', l7', hws, hq4, d5]
               refine HV (p := p) (r := r) (by simp only [go_sem, AE, AA, AC, AB, KB_n, KB_x, Nat.reduceBEq, Nat.reduceAdd, Nat.reduceLT, Nat.reduceLeDiff, Nat.reduceEqDiff, reduceIte, Int.reduceEq, reduceCtorEq]) (by simp only [go_sem, AE, AA, AC, AB, KB_n, KB_x, Nat.reduceBEq, Nat.reduceAdd, Nat.reduceLT, Nat.reduceLeDiff, Nat.reduceEqDiff, reduceIte, Int.reduceEq, reduceCtorEq]) j0 j1 j2 m0 m1 m2 fun e' hsm hbt => ?_
               have y1 := hsm 1 (by decide)
               have y8 := hsm 8 (by decide)
               have y9 := hsm 9 (by decide)
               have y10 := hsm 10 (by decide)
               simp only [go_sem, AE, AA, AC, AB, KB_n, KB_x, Nat.reduceBEq, Nat.reduceAdd, Nat.reduceLT, Nat.reduceLeDiff, Nat.reduceEqDiff, reduceIte, Int.reduceEq, reduceCtorEq, g1, g8, g9, g10] at y1 y8 y9 y10
               cases hb2 : GC p r with
               | true =>
                 rw [hb2] at hbt hinv
                 simp only [go_sem, AE, AA, AC, AB, KB_n, KB_x, Nat.reduceBEq, Nat.reduceAdd, Nat.reduceLT, Nat.reduceLeDiff, Nat.reduceEqDiff, reduceIte, Int.reduceEq, reduceCtorEq, hbt]
                 exact hF (hW hinv)
               | false =>
                 rw [hb2] at hbt hinv
                 simp only [go_sem, AE, AA, AC, AB, KB_n, KB_x, Nat.reduceBEq, Nat.reduceAdd, Nat.reduceLT, Nat.reduceLeDiff, Nat.reduceEqDiff, reduceIte, Int.reduceEq, reduceCtorEq, hbt, y1, y8, y9, y10, hw1]
                 exact ⟨x - 1, by omega, i + 1, by omega, hD5, by rw [CL hp]; exact hinv, rfl⟩
             | false =>
               rw [hpq, if_neg (by simp)] at hb
               rw [hpq] at k2
               rw [hb] at hL
               simp only [go_sem, AE, AA, AC, AB, KB_n, KB_x, Nat.reduceBEq, Nat.reduceAdd, Nat.reduceLT, Nat.reduceLeDiff, Nat.reduceEqDiff, reduceIte, Int.reduceEq, reduceCtorEq, g1, g8, g9, g10, h1, AI, hlt0, lp, Nat.zero_add, hltr, lrr, FY, pc3, hq2, d3, k0, k1, k2, e0', decide_false, hL, l7', hws, hq4, d5]
               refine HV (p := p) (r := r) (by simp only [go_sem, AE, AA, AC, AB, KB_n, KB_x, Nat.reduceBEq, Nat.reduceAdd, Nat.reduceLT, Nat.reduceLeDiff, Nat.reduceEqDiff, reduceIte, Int.reduceEq, reduceCtorEq]) (by simp only [go_sem, AE, AA, AC, AB, KB_n, KB_x, Nat.reduceBEq, Nat.reduceAdd, Nat.reduceLT, Nat.reduceLeDiff, Nat.reduceEqDiff, reduceIte, Int.reduceEq, reduceCtorEq]) j0 j1 j2 m0 m1 m2 fun e' hsm hbt => ?_
               have y1 := hsm 1 (by decide)
               have y8 := hsm 8 (by decide)
               have y9 := hsm 9 (by decide)
               have y10 := hsm 10 (by decide)
               simp only [go_sem, AE, AA, AC, AB, KB_n, KB_x, Nat.reduceBEq, Nat.reduceAdd, Nat.reduceLT, Nat.reduceLeDiff, Nat.reduceEqDiff, reduceIte, Int.reduceEq, reduceCtorEq, g1, g8, g9, g10] at y1 y8 y9 y10
               cases hb2 : GC p r with
               | true =>
                 rw [hb2] at hbt hinv
                 simp only [go_sem, AE, AA, AC, AB, KB_n, KB_x, Nat.reduceBEq, Nat.reduceAdd, Nat.reduceLT, Nat.reduceLeDiff, Nat.reduceEqDiff, reduceIte, Int.reduceEq, reduceCtorEq, hbt]
                 exact hF (hW hinv)
               | false =>
                 rw [hb2] at hbt hinv
                 simp only [go_sem, AE, AA, AC, AB, KB_n, KB_x, Nat.reduceBEq, Nat.reduceAdd, Nat.reduceLT, Nat.reduceLeDiff, Nat.reduceEqDiff, reduceIte, Int.reduceEq, reduceCtorEq, hbt, y1, y8, y9, y10, hw1]
                 exact ⟨x - 1, by omega, i + 1, by omega, hD5, by rw [CL hp]; exact hinv, rfl⟩
     · have h1 : ((i : Int) < (l.length : Int)) = False := eq_false (by omega)
       have l7 := H.ld 0 (off := 0) (v := AV.bl id 3 0 l.length xx) rfl rfl
       rw [List.drop_of_length_le (by omega), Lu] at hinv
       have hwf : Gk l = decide ((0 : Int) < (l.length : Int)) := by
        unfold Gk; rw [← hinv, Bool.true_and]; simp only [decide_eq_decide]; omega
       rw [hwf]
       simp only [go_sem, AE, AA, AC, AB, KB_n, KB_x, Nat.reduceBEq, Nat.reduceAdd, Nat.reduceLT, Nat.reduceLeDiff, Nat.reduceEqDiff, reduceIte, Int.reduceEq, reduceCtorEq, g1, g8, g9, g10, h1, l7, List.length_map]
       exact AM H.over rfl rfl
   · simp only [go_sem, AE, AA, AC, AB, KB_n, KB_x, Nat.reduceBEq, Nat.reduceAdd, Nat.reduceLT, Nat.reduceLeDiff, Nat.reduceEqDiff, reduceIte, Int.reduceEq, reduceCtorEq]
     exact ⟨0, by omega, H1, rfl, rfl⟩

theorem Nr (c : Nat) (l : List Nat) (s : St) : (lim prog).call Ar [.s l, .s [c]] s = some (.b (JO c l), s) := by
 refine fn_W Ho rfl rfl ?_
 have h : (lim prog).call BX [.s l, .s [c]] s.enter = some (.b (JO c l), s.enter) := by
  refine fn_W D6 rfl rfl ?_
  have hz0 : wkZ AQ.cin [.s l, .s [c]] = [.s l, .s [c]] := by simp [AQ, wkZ, wk]
  rw [hz0]
  cases l with
  | nil =>
    have e1 : (((([c] : List Nat).length : Nat) : Int) ≤ ((([] : List Nat).length : Nat) : Int)) = False := eq_false (by simp)
    simp only [AQ, go_sem, AE, AA, AC, AB, KB_n, KB_x, Nat.reduceBEq, Nat.reduceAdd, Nat.reduceLT, Nat.reduceLeDiff, Nat.reduceEqDiff, reduceIte, Int.reduceEq, reduceCtorEq, e1]
    exact AM (Over.enter _) rfl rfl
  | cons a t =>
    have e1 : (((([c] : List Nat).length : Nat) : Int) ≤ (((a :: t).length : Nat) : Int)) = True := eq_true (by simp; omega)
    have hb : Bl (a :: t).length none (some (.i .i64 (((([c] : List Nat).length : Nat) : Int)))) = some (0, 1) := by
     simp only [Bl, AI, List.length_cons, List.length_nil, Nat.zero_add]
     rw [if_pos ⟨by omega, by omega⟩]
    have hd : (((a :: t).drop 0).take (1 - 0)) = [a] := rfl
    have e2 : decide (([a] : List Nat) = [c]) = JO c (a :: t) := by simp [JO]
    simp only [AQ, go_sem, AE, AA, AC, AB, KB_n, KB_x, Nat.reduceBEq, Nat.reduceAdd, Nat.reduceLT, Nat.reduceLeDiff, Nat.reduceEqDiff, reduceIte, Int.reduceEq, reduceCtorEq, e1, hb, hd, e2]
    exact AM (Over.enter _) rfl rfl
 simp only [CA, go_sem, AE, AA, AC, AB, KB_n, KB_x, Nat.reduceBEq, Nat.reduceAdd, Nat.reduceLT, Nat.reduceLeDiff, Nat.reduceEqDiff, reduceIte, Int.reduceEq, reduceCtorEq, h]
 exact AM (Over.enter s) rfl rfl
theorem le13 : (1 ≤ 3) = True := by simp
theorem Ns (x : PT) (L : List PT) (hL : (x :: L).length < 2 ^ 36) (s : St) :
    (lim prog).call Az [ptx (x :: L)] s = some (.sl 3 ((x :: L).map PT.av) (.tok s.nt 0), { s.newTok (x :: L).length (some 85) with lo := min s.lo s.nb }) := by
 have h1 : wkZ AY.cin [ptx (x :: L)] = [ptx (x :: L)] := by
  simp only [AY, wkZ, ptx, wk, Pf]
 obtain ⟨r, s', hc, rfl, rfl⟩ := fn_K (t := 2) (s := s) (args := [ptx (x :: L)]) (Post := fun r s' => r = .sl 3 ((x :: L).map PT.av) (.tok s.nt 0) ∧ s' = { s.newTok (x :: L).length (some 85) with lo := min s.lo s.nb }) D5 rfl rfl rfl (by rw [h1]; rfl) (by
  rw [h1]
  have heq : eqS (ptx (x :: L)) .nsl = some false := rfl
  have ha : appA s.enter 3 85 (.sl 3 [] .full) (ptx (x :: L)) = some (.sl 3 ((x :: L).map PT.av) (.tok s.nt 0), s.enter.newTok (x :: L).length (some 85)) := by
   simp only [ptx, List.map_cons, appA, elems, if_true, List.nil_append, List.length_nil, Nat.zero_add, true_and]
   rw [if_pos (by simp only [List.length_cons, List.length_map] at hL ⊢; omega)]
   simp [St.enter]
  have hal : Af 3 [] = true := rfl
  simp only [AY, go_sem, B8, Ac, Ab, Ad, Bw, KB_n, KB_x, Nat.reduceBEq, Nat.reduceAdd, Nat.reduceLT, Nat.reduceLeDiff, Nat.reduceEqDiff, reduceIte, Int.reduceEq, reduceCtorEq, heq, hal, le13, ha, KK_n, KK_r]
  rfl)
 exact hc
theorem QL {s0 s : St} {n : En} {R : List RA} {B : List (Nat × Box)} (H : Hp s0 s n R B) (x : PT) (L : List PT) (hL : (x :: L).length < 2 ^ 36) :
    ∃ r s', (lim prog).call Az [ptx (x :: L)] s = some (r, s') ∧ Hp s0 s' n (⟨3, 85, r, (x :: L).map PT.av, true⟩ :: R) B ∧ s'.nb = s.nb ∧ BA r ≠ none := by
 have hlo := H.lo
 have h1 := H.over.lo
 have h2 := H.over.nb
 refine ⟨_, _, Ns x L hL s, ?_, rfl, by simp [BA]⟩
 have := H.newTok 3 85 ((x :: L).map PT.av)
 rw [List.length_map] at this
 exact this.setLo (m := min s.lo s.nb) (by omega) (by omega)
def fixP : List PT → List PT
 | [] => []
 | p :: t => (if !p.var && (!p.quoted && (JO 35 p.text || JO 126 p.text)) then { p with text := 95 :: p.text } else p) :: t
def Ju (x : IT) : Bool := decide (x.parts.length = 0) || Gk (fixP x.parts)
theorem Pg : ∀ L : List PT, Dr (L.map PT.av) = (L.map PT.cells).flatten
 | [] => rfl
 | p :: L => by
   rw [List.map_cons, Dr, Pg L, List.map_cons, List.flatten_cons]; rfl
theorem Ti (x : IT) (hx : x.Ok) (s : St) (hw : Wf s) : (lim prog).call Mj [.agg x.cells] s = some (.b (Ju x), s) := by
 refine fn_W TW rfl rfl ?_
 have hz0 : wkZ DX.cin [.agg x.cells] = [.agg x.cells] := by simp [DX, wkZ, wk, IT.cells, ptx, Pf]
 rw [hz0]
 have e0 : s.enter.nb = s.nb := rfl
 have H1 := (Hp.begin hw).new (.cells 78 x.cells)
 obtain ⟨q1, hq1⟩ : ∃ q1, s.enter.new (.cells 78 x.cells) = q1 := ⟨_, rfl⟩
 rw [hq1, e0] at H1
 have l6 := H1.ld 0 (off := 0) (v := .ws false 3 (x.parts.map PT.av)) rfl rfl
 unfold Ju
 cases hps : x.parts with
 | nil =>
   rw [hps] at l6
   have c0 : (((([] : List PT).length : Nat) : Int) = 0) = True := eq_true (by simp)
   simp only [DX, go_sem, AE, AA, AC, AB, KB_n, KB_x, Nat.reduceBEq, Nat.reduceAdd, Nat.reduceLT, Nat.reduceLeDiff, Nat.reduceEqDiff, reduceIte, Int.reduceEq, reduceCtorEq, ic2, hq1, e0, l6, List.length_map, c0]
   exact AM H1.over rfl rfl
 | cons p t =>
   rw [hps] at l6
   have hpl : (p :: t).length < 2 ^ 34 := by rw [← hps]; exact hx.len
   have hpo : p.Ok := hx.parts p (by rw [hps]; simp)
   have c0 : ((((p :: t).length : Nat) : Int) = 0) = False := eq_false (by simp; omega)
   obtain ⟨r, q2, dc, H2, n2, hrt⟩ := QL H1 p t (by omega)
   obtain ⟨q3, dt, H3, n3⟩ := H2.thaw 0 rfl hrt [] (by simp) (by simp)
   rw [List.length_map] at dt
   rw [Pg] at H3
   have k0 := H3.ldr 0 (off := 0) (v := .b p.var) rfl rfl
   have k1 := H3.ldr 0 (off := 1) (v := .s p.text) rfl rfl
   have k2 := H3.ldr 0 (off := 2) (v := .b p.quoted) rfl rfl
   simp only [ptx] at dc
   have n0 : CI (.i .i64 0) = some 0 := rfl
   have c1 : (0 < (p :: t).length) = True := eq_true (by simp)
   have cbl : ∀ a b c d e, (AV.bl a b c d e).cells = [AV.bl a b c d e] := fun _ _ _ _ _ => rfl
   have hov : ∀ v : AV, over [.nsl, .i .i64 0] 0 [v] = some [v, .i .i64 0] := fun _ => rfl
   have l11 : ∀ v : AV, ([v].length = 1) = True := fun _ => eq_true rfl
   have w35 := Nr 35 p.text q3
   have w126 := Nr 126 p.text q3
   have hto : ∀ z ∈ t, Txt z.text := fun z hz => (hx.parts z (by rw [hps]; simp [hz])).text
   have hS : SlP q3 (.bl q2.nb 3 0 (p :: t).length ((p :: t).length * 3, false)) (p :: t) := .inr ⟨_, _, _, _, _, rfl, by omega, (H3.box (i := 0) rfl).1⟩
   have hM := Lv (p :: t) (fun z hz => by rcases List.mem_cons.1 hz with rfl | hz; exact hpo.text; exact hto z hz) (by omega) q3 hS H3.wf
   have hb : ∀ b, KR s [.id] (.b b) (some ([.b b], q3)) := fun b => AM H3.over rfl rfl
   have hd0 : decide ((p :: t).length = 0) = false := by simp
   rw [hd0, Bool.false_or]
   let p' : PT := { p with text := 95 :: p.text }
   obtain ⟨q4, d4, H4, n4⟩ := H3.strw 0 (off := 1) (m := 1) (v := .s (95 :: p.text)) rfl (by simp [PT.cells]) ⟨rfl, rfl⟩
   have hcs : ((p :: t).map PT.cells).flatten.take 1 ++ ((AV.s (95 :: p.text)).cells ++ ((p :: t).map PT.cells).flatten.drop (1 + (AV.s (95 :: p.text)).cells.length)) = ((p' :: t).map PT.cells).flatten := rfl
   rw [hcs] at H4
   have hS4 : SlP q4 (.bl q2.nb 3 0 (p :: t).length ((p :: t).length * 3, false)) (p' :: t) := .inr ⟨_, _, _, _, _, rfl, by omega, (H4.box (i := 0) rfl).1⟩
   have htx' : Txt p'.text := ⟨fun z hz => by
    rcases List.mem_cons.1 hz with rfl | hz
    · omega
    · exact hpo.text.lt z hz, by have := hpo.len; show (95 :: p.text).length < 2 ^ 63; rw [List.length_cons]; omega⟩
   have hM4 := Lv (p' :: t) (fun z hz => by rcases List.mem_cons.1 hz with rfl | hz; exact htx'; exact hto z hz) (by simp only [List.length_cons] at hpl ⊢; omega) q4 hS4 H4.wf
   have hb4 : ∀ b, KR s [.id] (.b b) (some ([.b b], q4)) := fun b => AM H4.over rfl rfl
   have hadd : Am.binOp .add (.s [95]) (.s p.text) = some (.s (95 :: p.text)) := by
    show (if [95].length + p.text.length < 2 ^ 62 then some (AV.s ([95] ++ p.text)) else none) = _
    rw [if_pos (by have := hpo.len; simp only [List.length_cons, List.length_nil]; omega)]; rfl
   have hsel : ∀ {b : Bool}, (!p.var && (!p.quoted && (JO 35 p.text || JO 126 p.text))) = b → fixP (p :: t) = (if b then p' else p) :: t := fun h => by
    subst h; rfl
   cases hv : p.var with
   | true =>
     rw [hsel (b := false) (by rw [hv]; rfl)]
     rw [hv] at k0
     simp only [DX, go_sem, AE, AA, AC, AB, KB_n, KB_x, Nat.reduceBEq, Nat.reduceAdd, Nat.reduceLT, Nat.reduceLeDiff, Nat.reduceEqDiff, reduceIte, Int.reduceEq, reduceCtorEq, ic2, hq1, e0, l6, List.length_map, c0, dc, dt, n0, c1, Nat.zero_mul, Nat.zero_add, Nat.add_zero, k0, cbl, hov, l11, hM]
     exact hb _
   | false =>
     rw [hv] at k0
     cases hqq : p.quoted with
     | true =>
       rw [hsel (b := false) (by rw [hv, hqq]; rfl)]
       rw [hqq] at k2
       simp only [DX, go_sem, AE, AA, AC, AB, KB_n, KB_x, Nat.reduceBEq, Nat.reduceAdd, Nat.reduceLT, Nat.reduceLeDiff, Nat.reduceEqDiff, reduceIte, Int.reduceEq, reduceCtorEq, ic2, hq1, e0, l6, List.length_map, c0, dc, dt, n0, c1, Nat.zero_mul, Nat.zero_add, Nat.add_zero, k0, k2, cbl, hov, l11, hM]
       exact hb _
     | false =>
       rw [hqq] at k2
       cases h35 : JO 35 p.text with
       | true =>
         rw [h35] at w35
         rw [hsel (b := true) (by rw [hv, hqq, h35]; rfl)]
         simp only [DX, go_sem, AE, AA, AC, AB, KB_n, KB_x, Nat.reduceBEq, Nat.reduceAdd, Nat.reduceLT, Nat.reduceLeDiff, Nat.reduceEqDiff, reduceIte, Int.reduceEq, reduceCtorEq, ic2, hq1, e0, l6, List.length_map, c0, dc, dt, n0, c1, Nat.zero_mul, Nat.zero_add, Nat.add_zero, k0, k1, k2, w35, hadd, d4, cbl, hov, l11, hM4]
         exact hb4 _
       | false =>
         rw [h35] at w35
         cases h126 : JO 126 p.text with
         | true =>
           rw [h126] at w126
           rw [hsel (b := true) (by rw [hv, hqq, h35, h126]; rfl)]
           simp only [DX, go_sem, AE, AA, AC, AB, KB_n, KB_x, Nat.reduceBEq, Nat.reduceAdd, Nat.reduceLT, Nat.reduceLeDiff, Nat.reduceEqDiff, reduceIte, Int.reduceEq, reduceCtorEq, ic2, hq1, e0, l6, List.length_map, c0, dc, dt, n0, c1, Nat.zero_mul, Nat.zero_add, Nat.add_zero, k0, k1, k2, w35, w126, hadd, d4, cbl, hov, l11, hM4]
           exact hb4 _
         | false =>
           rw [h126] at w126
           rw [hsel (b := false) (by rw [hv, hqq, h35, h126]; rfl)]
           simp only [DX, go_sem, AE, AA, AC, AB, KB_n, KB_x, Nat.reduceBEq, Nat.reduceAdd, Nat.reduceLT, Nat.reduceLeDiff, Nat.reduceEqDiff, reduceIte, Int.reduceEq, reduceCtorEq, ic2, hq1, e0, l6, List.length_map, c0, dc, dt, n0, c1, Nat.zero_mul, Nat.zero_add, Nat.add_zero, k0, k1, k2, w35, w126, cbl, hov, l11, hM]
           exact hb _

def idxG {α : Type} (P : α → Bool) (L : List α) : Int := match L.findIdx? P with
 | some i => (i : Int)
 | none => -1
theorem Ph {α : Type} (P : α → Bool) (L : List α) : (0 ≤ idxG P L) = (L.any P = true) := by
 unfold idxG
 cases h : L.findIdx? P with
 | none =>
   rw [List.findIdx?_eq_none_iff] at h
   simp only [eq_iff_iff, List.any_eq_true]
   constructor
   · intro hh; simp at hh
   · rintro ⟨x, hx, hp⟩; rw [h x hx] at hp; cases hp
 | some i =>
   rw [List.findIdx?_eq_some_iff_getElem] at h
   obtain ⟨h1, h2, _⟩ := h
   simp only [eq_iff_iff, List.any_eq_true]
   exact ⟨fun _ => ⟨L[i], List.getElem_mem h1, h2⟩, fun _ => by omega⟩
theorem R8 {α : Type} {P : α → Bool} {L : List α} {i : Nat} {z : α} (h : L[i]? = some z) (hz : P z = true) (hb : ∀ j, j < i → ∀ y, L[j]? = some y → P y = false) : idxG P L = (i : Int) := by
 have : L.findIdx? P = some i := by
  rw [List.findIdx?_eq_some_iff_getElem]
  obtain ⟨h1, h2⟩ := List.getElem?_eq_some_iff.1 h
  refine ⟨h1, by rw [h2]; exact hz, fun j hj => ?_⟩
  rw [hb j hj L[j] (List.getElem?_eq_getElem (by omega))]
  simp
 unfold idxG
 rw [this]
theorem R9 {α : Type} {P : α → Bool} {L : List α} (hb : ∀ j, j < L.length → ∀ y, L[j]? = some y → P y = false) : idxG P L = -1 := by
 have : L.findIdx? P = none := by
  rw [List.findIdx?_eq_none_iff]
  intro x hx
  obtain ⟨j, hj, rfl⟩ := List.mem_iff_getElem.1 hx
  exact hb j hj _ (List.getElem?_eq_getElem hj)
 unfold idxG
 rw [this]
theorem Oc (L : List IT) (hL : L.length < 2 ^ 62) (g : Nat) (caps : List AV) (P : IT → Bool) (s : St) (hw : Wf s) (hP : ∀ z ∈ L, EZ (lim prog) (.fn g caps) [.agg z.cells] s.enter = some (.b (P z), s.enter)) :
    (lim prog).call BH [itx L, .fn g caps] s = some (.i .i64 (idxG P L), s) := by
 refine fn_W DT rfl rfl ?_
 have hz0 : wkZ AP.cin [itx L, .fn g caps] = [itx L, .fn g caps] := by simp [AP, wkZ, wk, itx, itx]
 rw [hz0]
 simp only [AP, go_sem, AE, AA, AC, AB, KB_n, KB_x, Nat.reduceBEq, Nat.reduceAdd, Nat.reduceLT, Nat.reduceLeDiff, Nat.reduceEqDiff, reduceIte, Int.reduceEq, reduceCtorEq, itx, List.length_map]
 refine DN (fun x e q => ∃ i : Nat, i + x = L.length ∧ q = s.enter ∧ (∀ j, j < i → ∀ y, L[j]? = some y → P y = false) ∧ e.get 0 = itx L ∧ e.get 1 = .fn g caps ∧ e.get 7 = .i .i64 (L.length : Nat) ∧ e.get 8 = .i .i64 (i : Nat)) ?_ L.length _ _ ?_
 · rintro x e q ⟨i, hi, rfl, hb, g0, g1, g7, g8⟩
   by_cases h : i < L.length
   · have h1 : ((i : Int) < (L.length : Int)) = True := eq_true (by omega)
     obtain ⟨z, hz⟩ : ∃ z, L[i]? = some z := ⟨_, List.getElem?_eq_getElem h⟩
     have hz2 := R3 hz
     have hc := hP z (List.mem_of_getElem? hz)
     have hw1 := BO (show i + 1 < 2 ^ 63 by omega)
     cases hp : P z with
     | true =>
       rw [hp] at hc
       rw [R8 hz hp hb]
       simp only [go_sem, AE, AA, AC, AB, KB_n, KB_x, Nat.reduceBEq, Nat.reduceAdd, Nat.reduceLT, Nat.reduceLeDiff, Nat.reduceEqDiff, reduceIte, Int.reduceEq, reduceCtorEq, g0, g1, g7, g8, itx, h1, AI, hz2, IX, ic2, ild, Tg, hc]
       exact AM (Over.enter s) rfl rfl
     | false =>
       rw [hp] at hc
       simp only [go_sem, AE, AA, AC, AB, KB_n, KB_x, Nat.reduceBEq, Nat.reduceAdd, Nat.reduceLT, Nat.reduceLeDiff, Nat.reduceEqDiff, reduceIte, Int.reduceEq, reduceCtorEq, g0, g1, g7, g8, itx, h1, AI, hz2, IX, ic2, ild, Tg, hc, hw1]
       refine ⟨x - 1, by omega, i + 1, by omega, fun j hj y hy => ?_, rfl⟩
       rcases Nat.lt_or_ge j i with hlt | hge
       · exact hb j hlt y hy
       · obtain rfl : j = i := by omega
         rw [hz] at hy; cases hy; exact hp
   · have h1 : ((i : Int) < (L.length : Int)) = False := eq_false (by omega)
     rw [R9 fun j hj => hb j (by omega)]
     simp only [go_sem, AE, AA, AC, AB, KB_n, KB_x, Nat.reduceBEq, Nat.reduceAdd, Nat.reduceLT, Nat.reduceLeDiff, Nat.reduceEqDiff, reduceIte, Int.reduceEq, reduceCtorEq, g0, g1, g7, g8, h1]
     exact AM (Over.enter s) rfl rfl
 · simp only [go_sem, AE, AA, AC, AB, KB_n, KB_x, Nat.reduceBEq, Nat.reduceAdd, Nat.reduceLT, Nat.reduceLeDiff, Nat.reduceEqDiff, reduceIte, Int.reduceEq, reduceCtorEq]
   exact ⟨0, by omega, fun j hj => by omega, rfl, rfl⟩
theorem LU (L : List IT) (hL : L.length < 2 ^ 62) (g : Nat) (caps : List AV) (P : IT → Bool) (s : St) (hw : Wf s) (hP : ∀ z ∈ L, EZ (lim prog) (.fn g caps) [.agg z.cells] s.enter = some (.b (P z), s.enter)) :
    (lim prog).call A2 [itx L, .fn g caps] s = some (.b (L.any P), s) := by
 refine fn_W DF rfl rfl ?_
 have hz0 : wkZ AK.cin [itx L, .fn g caps] = [itx L, .fn g caps] := by simp [AK, wkZ, wk, itx, itx]
 have h1 := Oc L hL g caps P s.enter hw.enter hP
 rw [hz0]
 unfold itx at h1
 simp only [AK, go_sem, AE, AA, AC, AB, KB_n, KB_x, Nat.reduceBEq, Nat.reduceAdd, Nat.reduceLT, Nat.reduceLeDiff, Nat.reduceEqDiff, reduceIte, Int.reduceEq, reduceCtorEq, h1, itx, Ph]
 exact AM (Over.enter s) rfl (by cases h : L.any P <;> rfl)
theorem Od (L : List IN) (hL : L.length < 2 ^ 62) (g : Nat) (caps : List AV) (P : IN → Bool) (s : St) (hw : Wf s) (hP : ∀ z ∈ L, EZ (lim prog) (.fn g caps) [.agg z.cells] s.enter = some (.b (P z), s.enter)) :
    (lim prog).call BP [inx L, .fn g caps] s = some (.i .i64 (idxG P L), s) := by
 refine fn_W Dm rfl rfl ?_
 have hz0 : wkZ AW.cin [inx L, .fn g caps] = [inx L, .fn g caps] := by simp [AW, wkZ, wk, inx, inx]
 rw [hz0]
 simp only [AW, go_sem, AE, AA, AC, AB, KB_n, KB_x, Nat.reduceBEq, Nat.reduceAdd, Nat.reduceLT, Nat.reduceLeDiff, Nat.reduceEqDiff, reduceIte, Int.reduceEq, reduceCtorEq, inx, List.length_map]
 refine DN (fun x e q => ∃ i : Nat, i + x = L.length ∧ q = s.enter ∧ (∀ j, j < i → ∀ y, L[j]? = some y → P y = false) ∧ e.get 0 = inx L ∧ e.get 1 = .fn g caps ∧ e.get 7 = .i .i64 (L.length : Nat) ∧ e.get 8 = .i .i64 (i : Nat)) ?_ L.length _ _ ?_
 · rintro x e q ⟨i, hi, rfl, hb, g0, g1, g7, g8⟩
   by_cases h : i < L.length
   · have h1 : ((i : Int) < (L.length : Int)) = True := eq_true (by omega)
     obtain ⟨z, hz⟩ : ∃ z, L[i]? = some z := ⟨_, List.getElem?_eq_getElem h⟩
     have hz2 := R4 hz
     have hc := hP z (List.mem_of_getElem? hz)
     have hw1 := BO (show i + 1 < 2 ^ 63 by omega)
     cases hp : P z with
     | true =>
       rw [hp] at hc
       rw [R8 hz hp hb]
       simp only [go_sem, AE, AA, AC, AB, KB_n, KB_x, Nat.reduceBEq, Nat.reduceAdd, Nat.reduceLT, Nat.reduceLeDiff, Nat.reduceEqDiff, reduceIte, Int.reduceEq, reduceCtorEq, g0, g1, g7, g8, inx, h1, AI, hz2, IX, nc4, nld, E1, hc]
       exact AM (Over.enter s) rfl rfl
     | false =>
       rw [hp] at hc
       simp only [go_sem, AE, AA, AC, AB, KB_n, KB_x, Nat.reduceBEq, Nat.reduceAdd, Nat.reduceLT, Nat.reduceLeDiff, Nat.reduceEqDiff, reduceIte, Int.reduceEq, reduceCtorEq, g0, g1, g7, g8, inx, h1, AI, hz2, IX, nc4, nld, E1, hc, hw1]
       refine ⟨x - 1, by omega, i + 1, by omega, fun j hj y hy => ?_, rfl⟩
       rcases Nat.lt_or_ge j i with hlt | hge
       · exact hb j hlt y hy
       · obtain rfl : j = i := by omega
         rw [hz] at hy; cases hy; exact hp
   · have h1 : ((i : Int) < (L.length : Int)) = False := eq_false (by omega)
     rw [R9 fun j hj => hb j (by omega)]
     simp only [go_sem, AE, AA, AC, AB, KB_n, KB_x, Nat.reduceBEq, Nat.reduceAdd, Nat.reduceLT, Nat.reduceLeDiff, Nat.reduceEqDiff, reduceIte, Int.reduceEq, reduceCtorEq, g0, g1, g7, g8, h1]
     exact AM (Over.enter s) rfl rfl
 · simp only [go_sem, AE, AA, AC, AB, KB_n, KB_x, Nat.reduceBEq, Nat.reduceAdd, Nat.reduceLT, Nat.reduceLeDiff, Nat.reduceEqDiff, reduceIte, Int.reduceEq, reduceCtorEq]
   exact ⟨0, by omega, fun j hj => by omega, rfl, rfl⟩
theorem LV (L : List IN) (hL : L.length < 2 ^ 62) (g : Nat) (caps : List AV) (P : IN → Bool) (s : St) (hw : Wf s) (hP : ∀ z ∈ L, EZ (lim prog) (.fn g caps) [.agg z.cells] s.enter = some (.b (P z), s.enter)) :
    (lim prog).call BC [inx L, .fn g caps] s = some (.b (L.any P), s) := by
 refine fn_W DQ rfl rfl ?_
 have hz0 : wkZ AN.cin [inx L, .fn g caps] = [inx L, .fn g caps] := by simp [AN, wkZ, wk, inx, inx]
 have h1 := Od L hL g caps P s.enter hw.enter hP
 rw [hz0]
 unfold inx at h1
 simp only [AN, go_sem, AE, AA, AC, AB, KB_n, KB_x, Nat.reduceBEq, Nat.reduceAdd, Nat.reduceLT, Nat.reduceLeDiff, Nat.reduceEqDiff, reduceIte, Int.reduceEq, reduceCtorEq, h1, inx, Ph]
 exact AM (Over.enter s) rfl (by cases h : L.any P <;> rfl)
def HC (l : List Nat) : Bool := Ja l && (match l with | [c] => !decide (c ∈ K11) | _ => true)
theorem Oe (l : List Nat) (hl : Txt l) (s : St) (hw : Wf s) : (lim prog).call GX [.s l] s = some (.b (HC l), s) := by
 refine fn_W Ml rfl rfl ?_
 have hz0 : wkZ Bv.cin [.s l] = [.s l] := by simp [Bv, wkZ, wk]
 rw [hz0]
 have hb : ∀ b, KR s [.id] (.b b) (some ([.b b], s.enter)) := fun b => AM (Over.enter s) rfl rfl
 have hP := Mu l hl s.enter
 unfold HC
 cases hp : Ja l with
 | false =>
   rw [hp] at hP
   simp only [Bv, go_sem, AE, AA, AC, AB, KB_n, KB_x, Nat.reduceBEq, Nat.reduceAdd, Nat.reduceLT, Nat.reduceLeDiff, Nat.reduceEqDiff, reduceIte, Int.reduceEq, reduceCtorEq, hP, Bool.false_and]
   exact hb _
 | true =>
   rw [hp] at hP
   match l, hp with
   | [], hp => simp [Ja] at hp
   | [c], _ =>
     have e1 : ((1 : Int) < ((([c] : List Nat).length : Nat) : Int)) = False := eq_false (by simp)
     have hC := Ei K11 c (hl.lt c (by simp)) s.enter
     simp only [Bv, go_sem, AE, AA, AC, AB, KB_n, KB_x, Nat.reduceBEq, Nat.reduceAdd, Nat.reduceLT, Nat.reduceLeDiff, Nat.reduceEqDiff, reduceIte, Int.reduceEq, reduceCtorEq, hP, e1, hC, Bool.true_and]
     exact hb _
   | a :: b :: t, _ =>
     have e1 : ((1 : Int) < (((a :: b :: t).length : Nat) : Int)) = True := eq_true (by simp only [List.length_cons]; omega)
     simp only [Bv, go_sem, AE, AA, AC, AB, KB_n, KB_x, Nat.reduceBEq, Nat.reduceAdd, Nat.reduceLT, Nat.reduceLeDiff, Nat.reduceEqDiff, reduceIte, Int.reduceEq, reduceCtorEq, hP, e1, Bool.true_and]
     exact hb _
def JB (n : Int) : Box := .cells 3 [.i .i64 n]
section
variable {s0 s : St} {en : En} {R : List RA} {B : List (Nat × Box)}
theorem Ff (H : Hp s0 s en R B) (n : Int) : ∃ r s', (lim prog).call BM [.i .i64 n] s = some (r, s') ∧ ∃ j, r = .fn AD [.p j 0] ∧ Hp s0 s' en R ((j, JB n) :: B) := by
 refine fn_G (Post := fun r s' => ∃ j, r = .fn AD [.p j 0] ∧ Hp s0 s' en R ((j, JB n) :: B)) Ni rfl rfl ?_
 have H1 := H.enter.new (JB n)
 unfold JB at H1 ⊢
 generalize hq : s.enter.new (.cells 3 [.i .i64 n]) = q at H1
 generalize hm : s.enter.nb = m at H1
 have hz0 : wkZ DA.cin [.i .i64 n] = [.i .i64 n] := by simp [DA, wkZ, wk]
 rw [hz0]
 simp only [DA, go_sem, AE, AA, AC, AB, KB_n, KB_x, Nat.reduceBEq, Nat.reduceAdd, Nat.reduceLT, Nat.reduceLeDiff, Nat.reduceEqDiff, reduceIte, Int.reduceEq, reduceCtorEq, hq, hm]
 exact ⟨_, _, rfl, m, rfl, H.leaveR (n1 := s.en) H1 rfl⟩
theorem _root_.Go.Proofs.YtmnbfgfgjmmhfaaGreatDoor.Am.Hp.ins (H : Hp s0 s en R B) (i : Nat) {m : Nat} {es : List (AV × AV)} (h : B[i]? = some (m, .map es)) (es' : List (AV × AV)) (v : AV) : ∃ s', Am.esc (s.setBox m (.map es')) m v = s' ∧ Hp s0 s' en R (B.set i (m, .map es')) ∧ s.box? m = some (.map es) := by
 have H1 := H.setBox h (.map es')
 have hb : (B.set i (m, Box.map es'))[i]? = some (m, .map es') := by
  rw [List.getElem?_set, if_pos rfl, if_pos (by rw [List.getElem?_eq_some_iff] at h; exact h.1)]
 exact ⟨_, rfl, (H1.esc hb v).1, (H.box h).1⟩
end
def rlV (w : List Nat) (nm : Bool) (lo hi : Int) (f : AV) : AV := .agg [.s w, .b nm, .i .i64 lo, .i .i64 hi, f]
end Go.Proofs.YtmnbfgfgjmmhfaaGreatDoor

namespace Go.Proofs.YtmnbfgfgjmmhfaaGreatDoor
open Go.Proofs.YtmnbfgfgjmmhfaaGreatDoor.Am
attribute [local irreducible] W WO WE WQ WD Tr.get Tr.set
def ES (b1 b2 b3 b4 b5 b6 b7 b8 : Nat) : List (AV × AV) := [(.i .u8 1, rlV [115, 107, 105, 112] false 0 0 (.fn AD [.p b1 0])), (.i .u8 4, rlV [99, 104, 101, 99, 107] false 0 0 (.fn AD [.p b2 0])), (.i .u8 6, rlV [110, 111, 116] false 0 0 (.fn AD [.p b3 0])), (.i .u8 2, rlV [97, 115, 115, 105, 103, 110] true 1 1 (.fn AD [.p b4 0])), (.i .u8 3, rlV [99, 97, 108, 108] false 1 64 (.fn AD [.p b5 0])), (.i .u8 5, rlV [115, 101, 113] false 0 0 (.fn Ah [])), (.i .u8 7, rlV [105, 102] false 0 0 (.fn AD [.p b6 0])), (.i .u8 8, rlV [108, 111, 111, 112] false 0 0 (.fn AD [.p b7 0])), (.i .u8 9, rlV [101, 97, 99, 104] true 0 64 (.fn AD [.p b8 0]))]
def UH (s0 : St) (en : En) (R : List RA) (B : List (Nat × Box)) (r : AV) (s' : St) : Prop := ∃ m b1 b2 b3 b4 b5 b6 b7 b8, r = .m m ∧ Hp s0 s' en R ([(b8, JB 1), (b7, JB 2), (b6, JB 3), (b5, JB 0), (b4, JB 0), (b3, JB 0), (b2, JB 0), (b1, JB 0), (m, .map (ES b1 b2 b3 b4 b5 b6 b7 b8))] ++ B)
section
variable {s0 s : St} {en : En} {R : List RA} {B : List (Nat × Box)}
theorem Tj (H : Hp s0 s en R B) : ∃ r s', (lim prog).call HQ [] s = some (r, s') ∧ UH s0 en R B r s' := by
 refine fn_G (Post := UH s0 en R B) QC rfl rfl ?_
 have cv : ∀ f c l s, EZ (lim prog) (.fn f c) l s = (lim prog).call f (l ++ c) s := fun f c l s => rfl
 have H1 := H.enter.new (.map [])
 obtain ⟨q, hq⟩ : ∃ q, s.enter.new (.map []) = q := ⟨_, rfl⟩
 obtain ⟨m, hm⟩ : ∃ m, s.enter.nb = m := ⟨_, rfl⟩
 rw [hq, hm] at H1
 obtain ⟨_, q1a, da1, b1, rfl, Ha1⟩ := Ff H1 0
 have da1 : (lim prog).call BM ([.i .i64 0] ++ []) q = _ := da1
 obtain ⟨q1, e1, H2, x1⟩ := Ha1.ins 1 rfl [(.i .u8 1, rlV [115, 107, 105, 112] false 0 0 (.fn AD [.p b1 0]))] (rlV [115, 107, 105, 112] false 0 0 (.fn AD [.p b1 0]))
 have u1 : updM 0 (.i .u8 1) (rlV [115, 107, 105, 112] false 0 0 (.fn AD [.p b1 0])) [] = some [(.i .u8 1, rlV [115, 107, 105, 112] false 0 0 (.fn AD [.p b1 0]))] := rfl
 obtain ⟨_, q2a, da2, b2, rfl, Ha2⟩ := Ff H2 0
 have da2 : (lim prog).call BM ([.i .i64 0] ++ []) q1 = _ := da2
 obtain ⟨q2, e2, H3, x2⟩ := Ha2.ins 2 rfl [(.i .u8 1, rlV [115, 107, 105, 112] false 0 0 (.fn AD [.p b1 0])), (.i .u8 4, rlV [99, 104, 101, 99, 107] false 0 0 (.fn AD [.p b2 0]))] (rlV [99, 104, 101, 99, 107] false 0 0 (.fn AD [.p b2 0]))
 have u2 : updM 0 (.i .u8 4) (rlV [99, 104, 101, 99, 107] false 0 0 (.fn AD [.p b2 0])) [(.i .u8 1, rlV [115, 107, 105, 112] false 0 0 (.fn AD [.p b1 0]))] = some [(.i .u8 1, rlV [115, 107, 105, 112] false 0 0 (.fn AD [.p b1 0])), (.i .u8 4, rlV [99, 104, 101, 99, 107] false 0 0 (.fn AD [.p b2 0]))] := rfl
 obtain ⟨_, q3a, da3, b3, rfl, Ha3⟩ := Ff H3 0
 have da3 : (lim prog).call BM ([.i .i64 0] ++ []) q2 = _ := da3
 obtain ⟨q3, e3, H4, x3⟩ := Ha3.ins 3 rfl [(.i .u8 1, rlV [115, 107, 105, 112] false 0 0 (.fn AD [.p b1 0])), (.i .u8 4, rlV [99, 104, 101, 99, 107] false 0 0 (.fn AD [.p b2 0])), (.i .u8 6, rlV [110, 111, 116] false 0 0 (.fn AD [.p b3 0]))] (rlV [110, 111, 116] false 0 0 (.fn AD [.p b3 0]))
 have u3 : updM 0 (.i .u8 6) (rlV [110, 111, 116] false 0 0 (.fn AD [.p b3 0])) [(.i .u8 1, rlV [115, 107, 105, 112] false 0 0 (.fn AD [.p b1 0])), (.i .u8 4, rlV [99, 104, 101, 99, 107] false 0 0 (.fn AD [.p b2 0]))] = some [(.i .u8 1, rlV [115, 107, 105, 112] false 0 0 (.fn AD [.p b1 0])), (.i .u8 4, rlV [99, 104, 101, 99, 107] false 0 0 (.fn AD [.p b2 0])), (.i .u8 6, rlV [110, 111, 116] false 0 0 (.fn AD [.p b3 0]))] := rfl
 obtain ⟨_, q4a, da4, b4, rfl, Ha4⟩ := Ff H4 0
 have da4 : (lim prog).call BM ([.i .i64 0] ++ []) q3 = _ := da4
 obtain ⟨q4, e4, H5, x4⟩ := Ha4.ins 4 rfl [(.i .u8 1, rlV [115, 107, 105, 112] false 0 0 (.fn AD [.p b1 0])), (.i .u8 4, rlV [99, 104, 101, 99, 107] false 0 0 (.fn AD [.p b2 0])), (.i .u8 6, rlV [110, 111, 116] false 0 0 (.fn AD [.p b3 0])), (.i .u8 2, rlV [97, 115, 115, 105, 103, 110] true 1 1 (.fn AD [.p b4 0]))] (rlV [97, 115, 115, 105, 103, 110] true 1 1 (.fn AD [.p b4 0]))
 have u4 : updM 0 (.i .u8 2) (rlV [97, 115, 115, 105, 103, 110] true 1 1 (.fn AD [.p b4 0])) [(.i .u8 1, rlV [115, 107, 105, 112] false 0 0 (.fn AD [.p b1 0])), (.i .u8 4, rlV [99, 104, 101, 99, 107] false 0 0 (.fn AD [.p b2 0])), (.i .u8 6, rlV [110, 111, 116] false 0 0 (.fn AD [.p b3 0]))] = some [(.i .u8 1, rlV [115, 107, 105, 112] false 0 0 (.fn AD [.p b1 0])), (.i .u8 4, rlV [99, 104, 101, 99, 107] false 0 0 (.fn AD [.p b2 0])), (.i .u8 6, rlV [110, 111, 116] false 0 0 (.fn AD [.p b3 0])), (.i .u8 2, rlV [97, 115, 115, 105, 103, 110] true 1 1 (.fn AD [.p b4 0]))] := rfl
 obtain ⟨_, q5a, da5, b5, rfl, Ha5⟩ := Ff H5 0
 have da5 : (lim prog).call BM ([.i .i64 0] ++ []) q4 = _ := da5
 obtain ⟨q5, e5, H6, x5⟩ := Ha5.ins 5 rfl [(.i .u8 1, rlV [115, 107, 105, 112] false 0 0 (.fn AD [.p b1 0])), (.i .u8 4, rlV [99, 104, 101, 99, 107] false 0 0 (.fn AD [.p b2 0])), (.i .u8 6, rlV [110, 111, 116] false 0 0 (.fn AD [.p b3 0])), (.i .u8 2, rlV [97, 115, 115, 105, 103, 110] true 1 1 (.fn AD [.p b4 0])), (.i .u8 3, rlV [99, 97, 108, 108] false 1 64 (.fn AD [.p b5 0]))] (rlV [99, 97, 108, 108] false 1 64 (.fn AD [.p b5 0]))
 have u5 : updM 0 (.i .u8 3) (rlV [99, 97, 108, 108] false 1 64 (.fn AD [.p b5 0])) [(.i .u8 1, rlV [115, 107, 105, 112] false 0 0 (.fn AD [.p b1 0])), (.i .u8 4, rlV [99, 104, 101, 99, 107] false 0 0 (.fn AD [.p b2 0])), (.i .u8 6, rlV [110, 111, 116] false 0 0 (.fn AD [.p b3 0])), (.i .u8 2, rlV [97, 115, 115, 105, 103, 110] true 1 1 (.fn AD [.p b4 0]))] = some [(.i .u8 1, rlV [115, 107, 105, 112] false 0 0 (.fn AD [.p b1 0])), (.i .u8 4, rlV [99, 104, 101, 99, 107] false 0 0 (.fn AD [.p b2 0])), (.i .u8 6, rlV [110, 111, 116] false 0 0 (.fn AD [.p b3 0])), (.i .u8 2, rlV [97, 115, 115, 105, 103, 110] true 1 1 (.fn AD [.p b4 0])), (.i .u8 3, rlV [99, 97, 108, 108] false 1 64 (.fn AD [.p b5 0]))] := rfl
 obtain ⟨q6, e6, H7, x6⟩ := H6.ins 5 rfl [(.i .u8 1, rlV [115, 107, 105, 112] false 0 0 (.fn AD [.p b1 0])), (.i .u8 4, rlV [99, 104, 101, 99, 107] false 0 0 (.fn AD [.p b2 0])), (.i .u8 6, rlV [110, 111, 116] false 0 0 (.fn AD [.p b3 0])), (.i .u8 2, rlV [97, 115, 115, 105, 103, 110] true 1 1 (.fn AD [.p b4 0])), (.i .u8 3, rlV [99, 97, 108, 108] false 1 64 (.fn AD [.p b5 0])), (.i .u8 5, rlV [115, 101, 113] false 0 0 (.fn Ah []))] (rlV [115, 101, 113] false 0 0 (.fn Ah []))
 have u6 : updM 0 (.i .u8 5) (rlV [115, 101, 113] false 0 0 (.fn Ah [])) [(.i .u8 1, rlV [115, 107, 105, 112] false 0 0 (.fn AD [.p b1 0])), (.i .u8 4, rlV [99, 104, 101, 99, 107] false 0 0 (.fn AD [.p b2 0])), (.i .u8 6, rlV [110, 111, 116] false 0 0 (.fn AD [.p b3 0])), (.i .u8 2, rlV [97, 115, 115, 105, 103, 110] true 1 1 (.fn AD [.p b4 0])), (.i .u8 3, rlV [99, 97, 108, 108] false 1 64 (.fn AD [.p b5 0]))] = some [(.i .u8 1, rlV [115, 107, 105, 112] false 0 0 (.fn AD [.p b1 0])), (.i .u8 4, rlV [99, 104, 101, 99, 107] false 0 0 (.fn AD [.p b2 0])), (.i .u8 6, rlV [110, 111, 116] false 0 0 (.fn AD [.p b3 0])), (.i .u8 2, rlV [97, 115, 115, 105, 103, 110] true 1 1 (.fn AD [.p b4 0])), (.i .u8 3, rlV [99, 97, 108, 108] false 1 64 (.fn AD [.p b5 0])), (.i .u8 5, rlV [115, 101, 113] false 0 0 (.fn Ah []))] := rfl
 obtain ⟨_, q7a, da7, b6, rfl, Ha7⟩ := Ff H7 3
 have da7 : (lim prog).call BM ([.i .i64 3] ++ []) q6 = _ := da7
 obtain ⟨q7, e7, H8, x7⟩ := Ha7.ins 6 rfl [(.i .u8 1, rlV [115, 107, 105, 112] false 0 0 (.fn AD [.p b1 0])), (.i .u8 4, rlV [99, 104, 101, 99, 107] false 0 0 (.fn AD [.p b2 0])), (.i .u8 6, rlV [110, 111, 116] false 0 0 (.fn AD [.p b3 0])), (.i .u8 2, rlV [97, 115, 115, 105, 103, 110] true 1 1 (.fn AD [.p b4 0])), (.i .u8 3, rlV [99, 97, 108, 108] false 1 64 (.fn AD [.p b5 0])), (.i .u8 5, rlV [115, 101, 113] false 0 0 (.fn Ah [])), (.i .u8 7, rlV [105, 102] false 0 0 (.fn AD [.p b6 0]))] (rlV [105, 102] false 0 0 (.fn AD [.p b6 0]))
 have u7 : updM 0 (.i .u8 7) (rlV [105, 102] false 0 0 (.fn AD [.p b6 0])) [(.i .u8 1, rlV [115, 107, 105, 112] false 0 0 (.fn AD [.p b1 0])), (.i .u8 4, rlV [99, 104, 101, 99, 107] false 0 0 (.fn AD [.p b2 0])), (.i .u8 6, rlV [110, 111, 116] false 0 0 (.fn AD [.p b3 0])), (.i .u8 2, rlV [97, 115, 115, 105, 103, 110] true 1 1 (.fn AD [.p b4 0])), (.i .u8 3, rlV [99, 97, 108, 108] false 1 64 (.fn AD [.p b5 0])), (.i .u8 5, rlV [115, 101, 113] false 0 0 (.fn Ah []))] = some [(.i .u8 1, rlV [115, 107, 105, 112] false 0 0 (.fn AD [.p b1 0])), (.i .u8 4, rlV [99, 104, 101, 99, 107] false 0 0 (.fn AD [.p b2 0])), (.i .u8 6, rlV [110, 111, 116] false 0 0 (.fn AD [.p b3 0])), (.i .u8 2, rlV [97, 115, 115, 105, 103, 110] true 1 1 (.fn AD [.p b4 0])), (.i .u8 3, rlV [99, 97, 108, 108] false 1 64 (.fn AD [.p b5 0])), (.i .u8 5, rlV [115, 101, 113] false 0 0 (.fn Ah [])), (.i .u8 7, rlV [105, 102] false 0 0 (.fn AD [.p b6 0]))] := rfl
 obtain ⟨_, q8a, da8, b7, rfl, Ha8⟩ := Ff H8 2
 have da8 : (lim prog).call BM ([.i .i64 2] ++ []) q7 = _ := da8
 obtain ⟨q8, e8, H9, x8⟩ := Ha8.ins 7 rfl [(.i .u8 1, rlV [115, 107, 105, 112] false 0 0 (.fn AD [.p b1 0])), (.i .u8 4, rlV [99, 104, 101, 99, 107] false 0 0 (.fn AD [.p b2 0])), (.i .u8 6, rlV [110, 111, 116] false 0 0 (.fn AD [.p b3 0])), (.i .u8 2, rlV [97, 115, 115, 105, 103, 110] true 1 1 (.fn AD [.p b4 0])), (.i .u8 3, rlV [99, 97, 108, 108] false 1 64 (.fn AD [.p b5 0])), (.i .u8 5, rlV [115, 101, 113] false 0 0 (.fn Ah [])), (.i .u8 7, rlV [105, 102] false 0 0 (.fn AD [.p b6 0])), (.i .u8 8, rlV [108, 111, 111, 112] false 0 0 (.fn AD [.p b7 0]))] (rlV [108, 111, 111, 112] false 0 0 (.fn AD [.p b7 0]))
 have u8 : updM 0 (.i .u8 8) (rlV [108, 111, 111, 112] false 0 0 (.fn AD [.p b7 0])) [(.i .u8 1, rlV [115, 107, 105, 112] false 0 0 (.fn AD [.p b1 0])), (.i .u8 4, rlV [99, 104, 101, 99, 107] false 0 0 (.fn AD [.p b2 0])), (.i .u8 6, rlV [110, 111, 116] false 0 0 (.fn AD [.p b3 0])), (.i .u8 2, rlV [97, 115, 115, 105, 103, 110] true 1 1 (.fn AD [.p b4 0])), (.i .u8 3, rlV [99, 97, 108, 108] false 1 64 (.fn AD [.p b5 0])), (.i .u8 5, rlV [115, 101, 113] false 0 0 (.fn Ah [])), (.i .u8 7, rlV [105, 102] false 0 0 (.fn AD [.p b6 0]))] = some [(.i .u8 1, rlV [115, 107, 105, 112] false 0 0 (.fn AD [.p b1 0])), (.i .u8 4, rlV [99, 104, 101, 99, 107] false 0 0 (.fn AD [.p b2 0])), (.i .u8 6, rlV [110, 111, 116] false 0 0 (.fn AD [.p b3 0])), (.i .u8 2, rlV [97, 115, 115, 105, 103, 110] true 1 1 (.fn AD [.p b4 0])), (.i .u8 3, rlV [99, 97, 108, 108] false 1 64 (.fn AD [.p b5 0])), (.i .u8 5, rlV [115, 101, 113] false 0 0 (.fn Ah [])), (.i .u8 7, rlV [105, 102] false 0 0 (.fn AD [.p b6 0])), (.i .u8 8, rlV [108, 111, 111, 112] false 0 0 (.fn AD [.p b7 0]))] := rfl
 obtain ⟨_, q9a, da9, b8, rfl, Ha9⟩ := Ff H9 1
 have da9 : (lim prog).call BM ([.i .i64 1] ++ []) q8 = _ := da9
 obtain ⟨q9, e9, H10, x9⟩ := Ha9.ins 8 rfl [(.i .u8 1, rlV [115, 107, 105, 112] false 0 0 (.fn AD [.p b1 0])), (.i .u8 4, rlV [99, 104, 101, 99, 107] false 0 0 (.fn AD [.p b2 0])), (.i .u8 6, rlV [110, 111, 116] false 0 0 (.fn AD [.p b3 0])), (.i .u8 2, rlV [97, 115, 115, 105, 103, 110] true 1 1 (.fn AD [.p b4 0])), (.i .u8 3, rlV [99, 97, 108, 108] false 1 64 (.fn AD [.p b5 0])), (.i .u8 5, rlV [115, 101, 113] false 0 0 (.fn Ah [])), (.i .u8 7, rlV [105, 102] false 0 0 (.fn AD [.p b6 0])), (.i .u8 8, rlV [108, 111, 111, 112] false 0 0 (.fn AD [.p b7 0])), (.i .u8 9, rlV [101, 97, 99, 104] true 0 64 (.fn AD [.p b8 0]))] (rlV [101, 97, 99, 104] true 0 64 (.fn AD [.p b8 0]))
 have u9 : updM 0 (.i .u8 9) (rlV [101, 97, 99, 104] true 0 64 (.fn AD [.p b8 0])) [(.i .u8 1, rlV [115, 107, 105, 112] false 0 0 (.fn AD [.p b1 0])), (.i .u8 4, rlV [99, 104, 101, 99, 107] false 0 0 (.fn AD [.p b2 0])), (.i .u8 6, rlV [110, 111, 116] false 0 0 (.fn AD [.p b3 0])), (.i .u8 2, rlV [97, 115, 115, 105, 103, 110] true 1 1 (.fn AD [.p b4 0])), (.i .u8 3, rlV [99, 97, 108, 108] false 1 64 (.fn AD [.p b5 0])), (.i .u8 5, rlV [115, 101, 113] false 0 0 (.fn Ah [])), (.i .u8 7, rlV [105, 102] false 0 0 (.fn AD [.p b6 0])), (.i .u8 8, rlV [108, 111, 111, 112] false 0 0 (.fn AD [.p b7 0]))] = some [(.i .u8 1, rlV [115, 107, 105, 112] false 0 0 (.fn AD [.p b1 0])), (.i .u8 4, rlV [99, 104, 101, 99, 107] false 0 0 (.fn AD [.p b2 0])), (.i .u8 6, rlV [110, 111, 116] false 0 0 (.fn AD [.p b3 0])), (.i .u8 2, rlV [97, 115, 115, 105, 103, 110] true 1 1 (.fn AD [.p b4 0])), (.i .u8 3, rlV [99, 97, 108, 108] false 1 64 (.fn AD [.p b5 0])), (.i .u8 5, rlV [115, 101, 113] false 0 0 (.fn Ah [])), (.i .u8 7, rlV [105, 102] false 0 0 (.fn AD [.p b6 0])), (.i .u8 8, rlV [108, 111, 111, 112] false 0 0 (.fn AD [.p b7 0])), (.i .u8 9, rlV [101, 97, 99, 104] true 0 64 (.fn AD [.p b8 0]))] := rfl
 have hbl : ∀ (w : List Nat) (nm : Bool) (lo hi : Int) (f : AV), AV.agg [.s w, .b nm, .i .i64 lo, .i .i64 hi, f] = rlV w nm lo hi f := fun _ _ _ _ _ => rfl
 have hpv : ∀ (w : List Nat) (nm : Bool) (lo hi : Int) (g : Nat) (c : List AV) (u : St), Am.pub u (rlV w nm lo hi (.fn g c)) = some (rlV w nm lo hi (.fn g c), u) := fun _ _ _ _ _ _ _ => rfl
 have m1 : ∀ a b : AV, (lim prog).call BM [a] = (lim prog).call BM ([a] ++ []) := fun _ _ => rfl
 simp only [F7, go_sem, AE, AA, AC, AB, KB_n, KB_x, Nat.reduceBEq, Nat.reduceAdd, Nat.reduceLT, Nat.reduceLeDiff, Nat.reduceEqDiff, reduceIte, Int.reduceEq, reduceCtorEq, hq, hm, cv, hbl, hpv, da1, x1, u1, e1, da2, x2, u2, e2, da3, x3, u3, e3, da4, x4, u4, e4, da5, x5, u5, e5, x6, u6, e6, da7, x7, u7, e7, da8, x8, u8, e8, da9, x9, u9, e9]
 exact ⟨_, _, rfl, m, b1, b2, b3, b4, b5, b6, b7, b8, rfl, H.leaveR (n1 := s.en) H10 rfl⟩
end
end Go.Proofs.YtmnbfgfgjmmhfaaGreatDoor

namespace Go.Proofs.YtmnbfgfgjmmhfaaGreatDoor
open Go.Proofs.YtmnbfgfgjmmhfaaGreatDoor.Am
attribute [local irreducible] W WO WE WQ WD Tr.get Tr.set
structure Rule where
 word : List Nat
 named : Bool
 least : Nat
 most : Nat
 kids : Nat → Bool
def Mv : Nat → Option Rule
 | 1 => some ⟨[115, 107, 105, 112], false, 0, 0, fun n => decide (n = 0)⟩
 | 2 => some ⟨[97, 115, 115, 105, 103, 110], true, 1, 1, fun n => decide (n = 0)⟩
 | 3 => some ⟨[99, 97, 108, 108], false, 1, 64, fun n => decide (n = 0)⟩
 | 4 => some ⟨[99, 104, 101, 99, 107], false, 0, 0, fun n => decide (n = 0)⟩
 | 5 => some ⟨[115, 101, 113], false, 0, 0, fun _ => true⟩
 | 6 => some ⟨[110, 111, 116], false, 0, 0, fun n => decide (n = 0)⟩
 | 7 => some ⟨[105, 102], false, 0, 0, fun n => decide (n = 3)⟩
 | 8 => some ⟨[108, 111, 111, 112], false, 0, 0, fun n => decide (n = 2)⟩
 | 9 => some ⟨[101, 97, 99, 104], true, 0, 64, fun n => decide (n = 1)⟩
 | _ => none
def Im : List IT → Bool
 | [] => false
 | x :: _ => x.split
mutual
def mayI : IN → Bool
 | .mk k n is ks => match Mv k with
   | none => false
   | some r => r.kids ks.length && (decide (r.least ≤ is.length) && (decide (is.length ≤ r.most) && ((r.named == decide (n ≠ [])) && ((!r.named || HC n) && (!(decide (k = 2) && Im is) && (is.all Ju && SA ks))))))
def SA : List IN → Bool
 | [] => true
 | k :: ks => mayI k && SA ks
end
theorem Nt : ∀ l : List IN, SA l = l.all mayI
 | [] => by simp [SA]
 | k :: l => by simp only [SA, Nt l, List.all_cons]
theorem SB (n : IN) : mayI n = match Mv n.kind with
    | none => false
    | some r => r.kids n.kids.length && (decide (r.least ≤ n.items.length) && (decide (n.items.length ≤ r.most) && ((r.named == decide (n.name ≠ [])) && ((!r.named || HC n.name) && (!(decide (n.kind = 2) && Im n.items) && (n.items.all Ju && n.kids.all mayI)))))) := by
 cases n with
 | mk k nm is ks =>
   simp only [mayI, Nt, IN.kind, IN.name, IN.items, IN.kids]
   cases Mv k <;> rfl
theorem Vn {b n : Nat} {u : St} (hw : Wf u) {m : Nat} (hb : u.box? b = some (JB (m : Nat))) (lb : b < u.nb) : EZ (lim prog) (.fn AD [.p b 0]) [.i .i64 (n : Nat)] u = some (.b (decide (n = m)), u) := by
 show (lim prog).call AD [.i .i64 (n : Nat), .p b 0] u = _
 refine fn_W LQ rfl rfl ?_
 have hz0 : wkZ CV.cin [.i .i64 (n : Nat), .p b 0] = [.i .i64 (n : Nat), .p b 0] := by simp only [CV, wkZ, wk]
 rw [hz0]
 have l0 := Vk (Over.enter u) (off := 0) (v := .i .i64 (m : Nat)) lb hb rfl
 have e : decide ((n : Int) = (m : Int)) = decide (n = m) := by simp only [decide_eq_decide]; omega
 simp only [CV, go_sem, AE, AA, AC, AB, KB_n, KB_x, Nat.reduceBEq, Nat.reduceAdd, Nat.reduceLT, Nat.reduceLeDiff, Nat.reduceEqDiff, reduceIte, Int.reduceEq, reduceCtorEq, Nat.zero_add, l0, e]
 exact AM (Over.enter u) rfl rfl
theorem any_ok {n : Nat} {u : St} (hw : Wf u) : EZ (lim prog) (.fn Ah []) [.i .i64 (n : Nat)] u = some (.b true, u) := by
 show (lim prog).call Ah ([.i .i64 (n : Nat)] ++ []) u = _
 refine fn_W Nj rfl rfl ?_
 simp only [Ef, go_sem, AE, AA, AC, AB, KB_n, KB_x, Nat.reduceBEq, Nat.reduceAdd, Nat.reduceLT, Nat.reduceLeDiff, Nat.reduceEqDiff, reduceIte, Int.reduceEq, reduceCtorEq]
 exact AM (Over.enter u) rfl rfl
theorem SC {k b1 b2 b3 b4 b5 b6 b7 b8 : Nat} (h : Mv k = none) : LG 0 (.i .u8 (k : Nat)) (ES b1 b2 b3 b4 b5 b6 b7 b8) = some none := by
 have h1 : k = 0 ∨ 10 ≤ k := by
  rcases Nat.lt_or_ge k 10 with hk | hk
  · left
    match k, hk, h with
    | 0, _, _ => rfl
    | 1, _, h | 2, _, h | 3, _, h | 4, _, h | 5, _, h | 6, _, h | 7, _, h | 8, _, h | 9, _, h => simp [Mv] at h
  · exact .inr hk
 have e : ∀ c : Int, 1 ≤ c → c ≤ 9 → Jl 0 (.i .u8 (k : Nat)) (.i .u8 c) = some false := fun c h2 h3 => by
  unfold Jl
  simp
  omega
 unfold ES
 simp only [LG, e 1 (by omega) (by omega), e 2 (by omega) (by omega), e 3 (by omega) (by omega), e 4 (by omega) (by omega), e 5 (by omega) (by omega), e 6 (by omega) (by omega), e 7 (by omega) (by omega), e 8 (by omega) (by omega), e 9 (by omega) (by omega)]
def BLs (b1 b2 b3 b4 b5 b6 b7 b8 : Nat) : List (Nat × Box) := [(b8, JB 1), (b7, JB 2), (b6, JB 3), (b5, JB 0), (b4, JB 0), (b3, JB 0), (b2, JB 0), (b1, JB 0)]
def KidF (BL : List (Nat × Box)) (f : AV) (P : Nat → Bool) : Prop := (f = .fn Ah [] ∧ P = fun _ => true) ∨ ∃ i b, ∃ j : Nat, BL[i]? = some (b, JB (j : Nat)) ∧ i < 8 ∧ f = .fn AD [.p b 0] ∧ P = fun n => decide (n = j)
theorem SD {k b1 b2 b3 b4 b5 b6 b7 b8 : Nat} {r : Rule} (h : Mv k = some r) : ∃ f, LG 0 (.i .u8 (k : Nat)) (ES b1 b2 b3 b4 b5 b6 b7 b8) = some (some (rlV r.word r.named r.least r.most f)) ∧ KidF (BLs b1 b2 b3 b4 b5 b6 b7 b8) f r.kids := by
 unfold Mv at h
 split at h
 · cases h; exact ⟨_, rfl, .inr ⟨7, b1, 0, rfl, by omega, rfl, rfl⟩⟩
 · cases h; exact ⟨_, rfl, .inr ⟨4, b4, 0, rfl, by omega, rfl, rfl⟩⟩
 · cases h; exact ⟨_, rfl, .inr ⟨3, b5, 0, rfl, by omega, rfl, rfl⟩⟩
 · cases h; exact ⟨_, rfl, .inr ⟨6, b2, 0, rfl, by omega, rfl, rfl⟩⟩
 · cases h; exact ⟨_, rfl, .inl ⟨rfl, rfl⟩⟩
 · cases h; exact ⟨_, rfl, .inr ⟨5, b3, 0, rfl, by omega, rfl, rfl⟩⟩
 · cases h; exact ⟨_, rfl, .inr ⟨2, b6, 3, rfl, by omega, rfl, rfl⟩⟩
 · cases h; exact ⟨_, rfl, .inr ⟨1, b7, 2, rfl, by omega, rfl, rfl⟩⟩
 · cases h; exact ⟨_, rfl, .inr ⟨0, b8, 1, rfl, by omega, rfl, rfl⟩⟩
 · cases h
theorem SE : ∀ n : IN, n.Ok → ∀ s, Wf s → (lim prog).call Fc [.agg n.cells] s = some (.b (mayI n), s) := by
 refine IN.ind fun n ih ho s hw => ?_
 refine fn_W PU rfl rfl ?_
 have hz0 : wkZ D0.cin [.agg n.cells] = [.agg n.cells] := by simp [D0, wkZ, wk, IN.cells, itx]
 rw [hz0]
 have e0 : s.enter.nb = s.nb := rfl
 have H1 := (Hp.begin hw).new (.cells 25 n.cells)
 obtain ⟨q1, hq1⟩ : ∃ q1, s.enter.new (.cells 25 n.cells) = q1 := ⟨_, rfl⟩
 rw [hq1, e0] at H1
 obtain ⟨_, q2, d2, m, b1, b2, b3, b4, b5, b6, b7, b8, rfl, H2⟩ := Tj H1
 simp only [List.cons_append, List.nil_append] at H2
 have lk := H2.ld 9 (off := 0) (v := .i .u8 (n.kind : Nat)) rfl rfl
 have lk1 := H1.ld 0 (off := 0) (v := .i .u8 (n.kind : Nat)) rfl rfl
 have hmb := (H2.box (i := 8) rfl).1
 have lk1 := H1.ld 0 (off := 0) (v := .i .u8 (n.kind : Nat)) rfl rfl
 have hzr : ∀ u : St, Am.pub u (.agg [.s [], .b false, .i .i64 0, .i .i64 0, .nf]) = some (.agg [.s [], .b false, .i .i64 0, .i .i64 0, .nf], u) := fun _ => rfl
 rw [SB]
 cases hr : Mv n.kind with
 | none =>
   have hf := SC (b1 := b1) (b2 := b2) (b3 := b3) (b4 := b4) (b5 := b5) (b6 := b6) (b7 := b7) (b8 := b8) hr
   obtain ⟨q3, d3, H3, n3⟩ := H2.adp (T := 71) (m := 5) (z := [.s [], .b false, .i .i64 0, .i .i64 0, .nf]) (v := .agg [.s [], .b false, .i .i64 0, .i .i64 0, .nf]) rfl ⟨rfl, rfl⟩
   simp only [D0, go_sem, AE, AA, AC, AB, KB_n, KB_x, Nat.reduceBEq, Nat.reduceAdd, Nat.reduceLT, Nat.reduceLeDiff, Nat.reduceEqDiff, reduceIte, Int.reduceEq, reduceCtorEq, nc4, hq1, e0]
   refine PS rfl ?_
   simp only [go_sem, AE, AA, AC, AB, KB_n, KB_x, Nat.reduceBEq, Nat.reduceAdd, Nat.reduceLT, Nat.reduceLeDiff, Nat.reduceEqDiff, reduceIte, Int.reduceEq, reduceCtorEq, d2, lk, hmb, hf, d3]
   refine QB rfl (by simp only [go_sem, AE, AA, AC, AB, KB_n, KB_x, Nat.reduceBEq, Nat.reduceAdd, Nat.reduceLT, Nat.reduceLeDiff, Nat.reduceEqDiff, reduceIte, Int.reduceEq, reduceCtorEq]) (Rg _ _) ⟨⟨_, rfl, lk⟩, ⟨_, rfl, lk1⟩, ⟨_, rfl, lk⟩, ⟨_, rfl, lk⟩, trivial⟩ (Lq ?_)
   simp only [go_sem, AE, AA, AC, AB, KB_n, KB_x, Nat.reduceBEq, Nat.reduceAdd, Nat.reduceLT, Nat.reduceLeDiff, Nat.reduceEqDiff, reduceIte, Int.reduceEq, reduceCtorEq]
   exact AM H3.over rfl rfl
 | some r =>
   obtain ⟨f, hf, hk⟩ := SD (b1 := b1) (b2 := b2) (b3 := b3) (b4 := b4) (b5 := b5) (b6 := b6) (b7 := b7) (b8 := b8) hr
   obtain ⟨g, c, rfl⟩ : ∃ g c, f = .fn g c := by
    rcases hk with ⟨rfl, _⟩ | ⟨_, _, _, _, _, rfl, _⟩
    · exact ⟨_, _, rfl⟩
    · exact ⟨_, _, rfl⟩
   obtain ⟨q3, d3, H3, n3⟩ := H2.adp (T := 71) (m := 5) (z := [.s [], .b false, .i .i64 0, .i .i64 0, .nf]) (v := rlV r.word r.named r.least r.most (.fn g c)) rfl ⟨rfl, rfl⟩
   have hcall : EZ (lim prog) (.fn g c) [.i .i64 (n.kids.length : Nat)] q3 = some (.b (r.kids n.kids.length), q3) := by
    rcases hk with ⟨h1, h2⟩ | ⟨i, b, j, hi, h8, h1, h2⟩
    · rw [h1, h2]; exact any_ok H3.wf
    · rw [h1, h2]
      have hb : ((q2.nb, Box.cells 71 (rlV r.word r.named r.least r.most (.fn g c)).cells) :: (BLs b1 b2 b3 b4 b5 b6 b7 b8 ++ [(m, .map (ES b1 b2 b3 b4 b5 b6 b7 b8)), (s.nb, .cells 25 n.cells)]))[i + 1]? = some (b, JB (j : Nat)) := by
       rw [List.getElem?_cons_succ, List.getElem?_append_left (by rw [List.getElem?_eq_some_iff] at hi; exact hi.1)]
       exact hi
      have := H3.box (i := i + 1) hb
      exact Vn H3.wf this.1 this.2.2
   have r0 := H3.ld 0 (off := 1) (v := .b r.named) rfl rfl
   have r2 := H3.ld 0 (off := 2) (v := .i .i64 (r.least : Nat)) rfl rfl
   have r3 := H3.ld 0 (off := 3) (v := .i .i64 (r.most : Nat)) rfl rfl
   have r4 := H3.ld 0 (off := 4) (v := .fn g c) rfl rfl
   have i0 := H3.ld 10 (off := 0) (v := .i .u8 (n.kind : Nat)) rfl rfl
   have i1 := H3.ld 10 (off := 1) (v := .s n.name) rfl rfl
   have i2 := H3.ld 10 (off := 2) (v := .ws false 2 (n.items.map IT.av)) rfl rfl
   have i3 := H3.ld 10 (off := 3) (v := .ws false 4 (n.kids.map IN.av)) rfl rfl
   have hV := Oe n.name ho.name q3 H3.wf
   have hI : ∀ x ∈ n.items, EZ (lim prog) (.fn F4 []) [.agg x.cells] q3.enter = some (.b (!Ju x), q3.enter) := by
    intro x hx
    show (lim prog).call F4 ([.agg x.cells] ++ []) q3.enter = _
    refine fn_W QD rfl rfl ?_
    have K1 := (Hp.begin H3.wf.enter).new (.cells 78 x.cells)
    generalize hu : q3.enter.enter.new (.cells 78 x.cells) = u at K1
    generalize hv : q3.enter.enter.nb = v at K1
    have lw := K1.ldw 0 (m := 2) rfl rfl
    have hc := Ti x (ho.items.1 x hx) u K1.wf
    have hz1 : wkZ EP.cin ([.agg x.cells] ++ []) = [.agg x.cells] := by simp [EP, wkZ, wk, IT.cells, ptx]
    rw [hz1]
    simp only [EP, go_sem, AE, AA, AC, AB, KB_n, KB_x, Nat.reduceBEq, Nat.reduceAdd, Nat.reduceLT, Nat.reduceLeDiff, Nat.reduceEqDiff, reduceIte, Int.reduceEq, reduceCtorEq, ic2, hu, hv, lw, Tg, hc]
    exact AM K1.over rfl rfl
   have hK : ∀ k ∈ n.kids, EZ (lim prog) (.fn F5 []) [.agg k.cells] q3.enter = some (.b (!mayI k), q3.enter) := by
    intro k hk
    show (lim prog).call F5 ([.agg k.cells] ++ []) q3.enter = _
    refine fn_W QE rfl rfl ?_
    have K1 := (Hp.begin H3.wf.enter).new (.cells 25 k.cells)
    generalize hu : q3.enter.enter.new (.cells 25 k.cells) = u at K1
    generalize hv : q3.enter.enter.nb = v at K1
    have lw := K1.ldw 0 (m := 4) rfl rfl
    have hc := ih k hk (ho.kids.1 k hk) u K1.wf
    have hz1 : wkZ EQ.cin ([.agg k.cells] ++ []) = [.agg k.cells] := by simp [EQ, wkZ, wk, IN.cells, itx]
    rw [hz1]
    simp only [EQ, go_sem, AE, AA, AC, AB, KB_n, KB_x, Nat.reduceBEq, Nat.reduceAdd, Nat.reduceLT, Nat.reduceLeDiff, Nat.reduceEqDiff, reduceIte, Int.reduceEq, reduceCtorEq, nc4, hu, hv, lw, E1, hc]
    exact AM K1.over rfl rfl
   have hil := ho.items.2
   have hkl := ho.kids.2
   have hCI := LU n.items (by omega) F4 [] (fun x => !Ju x) q3 H3.wf hI
   have hCK := LV n.kids (by omega) F5 [] (fun k => !mayI k) q3 H3.wf hK
   have hai : (n.items.any fun x => !Ju x) = !(n.items.all Ju) := by rw [List.not_all_eq_any_not]
   have hak : (n.kids.any fun x => !mayI x) = !(n.kids.all mayI) := by rw [List.not_all_eq_any_not]
   rw [hai] at hCI; rw [hak] at hCK
   unfold itx at hCI; unfold inx at hCK
   have hpv : ∀ (u : St), Am.pub u (rlV r.word r.named r.least r.most (.fn g c)) = some (rlV r.word r.named r.least r.most (.fn g c), u) := fun _ => rfl
   have hbr : ∀ b, KR s [.id] (.b b) (some ([.b b], q3)) := fun b => AM H3.over rfl rfl
   have eq2 : ((n.kind : Int) = 2) = (n.kind = 2) := by simp only [eq_iff_iff]; omega
   simp only [D0, go_sem, AE, AA, AC, AB, KB_n, KB_x, Nat.reduceBEq, Nat.reduceAdd, Nat.reduceLT, Nat.reduceLeDiff, Nat.reduceEqDiff, reduceIte, Int.reduceEq, reduceCtorEq, nc4, hq1, e0]
   refine PS rfl ?_
   simp only [go_sem, AE, AA, AC, AB, KB_n, KB_x, Nat.reduceBEq, Nat.reduceAdd, Nat.reduceLT, Nat.reduceLeDiff, Nat.reduceEqDiff, reduceIte, Int.reduceEq, reduceCtorEq, d2, lk, hmb, hf, d3]
   refine QB rfl (by simp only [go_sem, AE, AA, AC, AB, KB_n, KB_x, Nat.reduceBEq, Nat.reduceAdd, Nat.reduceLT, Nat.reduceLeDiff, Nat.reduceEqDiff, reduceIte, Int.reduceEq, reduceCtorEq]) (Rg _ _) ⟨⟨_, rfl, lk⟩, ⟨_, rfl, lk1⟩, ⟨_, rfl, lk⟩, ⟨_, rfl, lk⟩, trivial⟩ (Lq ?_)
   cases hkd : r.kids n.kids.length with
   | false =>
     rw [hkd] at hcall
     simp only [go_sem, AE, AA, AC, AB, KB_n, KB_x, Nat.reduceBEq, Nat.reduceAdd, Nat.reduceLT, Nat.reduceLeDiff, Nat.reduceEqDiff, reduceIte, Int.reduceEq, reduceCtorEq, r4, i3, List.length_map, hcall, Bool.false_and]
     exact hbr _
   | true =>
   rw [hkd] at hcall
   by_cases c1 : r.least ≤ n.items.length
   case neg =>
    have f1 : ((n.items.length : Int) < (r.least : Int)) = True := eq_true (by omega)
    simp only [go_sem, AE, AA, AC, AB, KB_n, KB_x, Nat.reduceBEq, Nat.reduceAdd, Nat.reduceLT, Nat.reduceLeDiff, Nat.reduceEqDiff, reduceIte, Int.reduceEq, reduceCtorEq, r2, r4, i2, i3, List.length_map, hcall, f1, decide_eq_false c1, Bool.false_and, Bool.true_and]
    exact hbr _
   have f1 : ((n.items.length : Int) < (r.least : Int)) = False := eq_false (by omega)
   by_cases c2 : n.items.length ≤ r.most
   case neg =>
    have f2 : ((r.most : Int) < (n.items.length : Int)) = True := eq_true (by omega)
    simp only [go_sem, AE, AA, AC, AB, KB_n, KB_x, Nat.reduceBEq, Nat.reduceAdd, Nat.reduceLT, Nat.reduceLeDiff, Nat.reduceEqDiff, reduceIte, Int.reduceEq, reduceCtorEq, r2, r3, r4, i2, i3, List.length_map, hcall, f1, f2, decide_eq_true c1, decide_eq_false c2, Bool.false_and, Bool.true_and]
    exact hbr _
   have f2 : ((r.most : Int) < (n.items.length : Int)) = False := eq_false (by omega)
   simp only [go_sem, AE, AA, AC, AB, KB_n, KB_x, Nat.reduceBEq, Nat.reduceAdd, Nat.reduceLT, Nat.reduceLeDiff, Nat.reduceEqDiff, reduceIte, Int.reduceEq, reduceCtorEq, r2, r3, r4, i2, i3, List.length_map, hcall, f1, f2, decide_eq_true c1, decide_eq_true c2, Bool.true_and]
   have n0 : CI (.i .i64 0) = some 0 := rfl
   by_cases hne : n.name = []
   · have en : (n.name ≠ []) = False := by simp [hne]
     cases hn : r.named with
     | true =>
       rw [hn] at r0
       simp only [go_sem, AE, AA, AC, AB, KB_n, KB_x, Nat.reduceBEq, Nat.reduceAdd, Nat.reduceLT, Nat.reduceLeDiff, Nat.reduceEqDiff, reduceIte, Int.reduceEq, reduceCtorEq, r0, i1, en, decide_false, Bool.true_beq, Bool.false_and]
       exact hbr _
     | false =>
       rw [hn] at r0
       simp only [go_sem, AE, AA, AC, AB, KB_n, KB_x, Nat.reduceBEq, Nat.reduceAdd, Nat.reduceLT, Nat.reduceLeDiff, Nat.reduceEqDiff, reduceIte, Int.reduceEq, reduceCtorEq, r0, i1, en, decide_false, Bool.not_false, Bool.true_or, BEq.rfl, Bool.true_and]
       by_cases k2 : n.kind = 2
       · obtain ⟨x, t, hxt⟩ : ∃ x t, n.items = x :: t := by
          rw [k2] at hr
          cases hr
          cases hii : n.items with
          | nil => rw [hii] at c1; simp at c1
          | cons x t => exact ⟨x, t, rfl⟩
         have hx0 : (n.items.map IT.av)[0]? = some (.agg x.cells) := by rw [hxt]; rfl
         have hsh : Im n.items = x.split := by rw [hxt]; rfl
         have ls : ∀ u : St, ldA u false 1 (.ep x.cells 1 .shut) = some (.b x.split) := fun _ => rfl
         have e2 : ((n.kind : Int) = 2) = True := eq_true (by omega)
         rw [hsh, decide_eq_true k2]
         cases hsp : x.split with
         | true =>
           rw [hsp] at ls
           simp only [go_sem, AE, AA, AC, AB, KB_n, KB_x, Nat.reduceBEq, Nat.reduceAdd, Nat.reduceLT, Nat.reduceLeDiff, Nat.reduceEqDiff, reduceIte, Int.reduceEq, reduceCtorEq, i0, e2, i2, hx0, n0, IX, Nat.zero_add, ls, Bool.not_true, Bool.false_and, Bool.and_self]
           exact hbr _
         | false =>
           rw [hsp] at ls
           simp only [go_sem, AE, AA, AC, AB, KB_n, KB_x, Nat.reduceBEq, Nat.reduceAdd, Nat.reduceLT, Nat.reduceLeDiff, Nat.reduceEqDiff, reduceIte, Int.reduceEq, reduceCtorEq, i0, e2, i2, hx0, n0, IX, Nat.zero_add, ls, Bool.not_false, Bool.and_false, Bool.true_and]
           cases hai2 : n.items.all Ju with
           | false =>
             rw [hai2] at hCI
             simp only [go_sem, AE, AA, AC, AB, KB_n, KB_x, Nat.reduceBEq, Nat.reduceAdd, Nat.reduceLT, Nat.reduceLeDiff, Nat.reduceEqDiff, reduceIte, Int.reduceEq, reduceCtorEq, i2, hCI, Bool.not_false, Bool.false_and]
             exact hbr _
           | true =>
             rw [hai2] at hCI
             simp only [go_sem, AE, AA, AC, AB, KB_n, KB_x, Nat.reduceBEq, Nat.reduceAdd, Nat.reduceLT, Nat.reduceLeDiff, Nat.reduceEqDiff, reduceIte, Int.reduceEq, reduceCtorEq, i2, i3, hCI, hCK, Bool.not_true, Bool.not_not, Bool.true_and]
             exact hbr _
       · have e2 : ((n.kind : Int) = 2) = False := eq_false (by omega)
         rw [decide_eq_false k2]
         simp only [go_sem, AE, AA, AC, AB, KB_n, KB_x, Nat.reduceBEq, Nat.reduceAdd, Nat.reduceLT, Nat.reduceLeDiff, Nat.reduceEqDiff, reduceIte, Int.reduceEq, reduceCtorEq, i0, e2, Bool.false_and, Bool.not_false, Bool.true_and]
         cases hai2 : n.items.all Ju with
         | false =>
           rw [hai2] at hCI
           simp only [go_sem, AE, AA, AC, AB, KB_n, KB_x, Nat.reduceBEq, Nat.reduceAdd, Nat.reduceLT, Nat.reduceLeDiff, Nat.reduceEqDiff, reduceIte, Int.reduceEq, reduceCtorEq, i2, hCI, Bool.not_false, Bool.false_and]
           exact hbr _
         | true =>
           rw [hai2] at hCI
           simp only [go_sem, AE, AA, AC, AB, KB_n, KB_x, Nat.reduceBEq, Nat.reduceAdd, Nat.reduceLT, Nat.reduceLeDiff, Nat.reduceEqDiff, reduceIte, Int.reduceEq, reduceCtorEq, i2, i3, hCI, hCK, Bool.not_true, Bool.not_not, Bool.true_and]
           exact hbr _
   · have en : (n.name ≠ []) = True := by simp [hne]
     cases hn : r.named with
     | false =>
       rw [hn] at r0
       simp only [go_sem, AE, AA, AC, AB, KB_n, KB_x, Nat.reduceBEq, Nat.reduceAdd, Nat.reduceLT, Nat.reduceLeDiff, Nat.reduceEqDiff, reduceIte, Int.reduceEq, reduceCtorEq, r0, i1, en, decide_true, Bool.false_beq, Bool.not_true, Bool.false_and]
       exact hbr _
     | true =>
       rw [hn] at r0
       cases hv : HC n.name with
       | false =>
         rw [hv] at hV
         simp only [go_sem, AE, AA, AC, AB, KB_n, KB_x, Nat.reduceBEq, Nat.reduceAdd, Nat.reduceLT, Nat.reduceLeDiff, Nat.reduceEqDiff, reduceIte, Int.reduceEq, reduceCtorEq, r0, i1, en, hV, decide_true, BEq.rfl, Bool.not_true, Bool.or_self, Bool.false_and, Bool.and_false]
         exact hbr _
       | true =>
         rw [hv] at hV
         simp only [go_sem, AE, AA, AC, AB, KB_n, KB_x, Nat.reduceBEq, Nat.reduceAdd, Nat.reduceLT, Nat.reduceLeDiff, Nat.reduceEqDiff, reduceIte, Int.reduceEq, reduceCtorEq, r0, i1, en, hV, decide_true, BEq.rfl, Bool.not_true, Bool.false_or, Bool.true_and]
         by_cases k2 : n.kind = 2
         · obtain ⟨x, t, hxt⟩ : ∃ x t, n.items = x :: t := by
            rw [k2] at hr
            cases hr
            cases hii : n.items with
            | nil => rw [hii] at c1; simp at c1
            | cons x t => exact ⟨x, t, rfl⟩
           have hx0 : (n.items.map IT.av)[0]? = some (.agg x.cells) := by rw [hxt]; rfl
           have hsh : Im n.items = x.split := by rw [hxt]; rfl
           have ls : ∀ u : St, ldA u false 1 (.ep x.cells 1 .shut) = some (.b x.split) := fun _ => rfl
           have e2 : ((n.kind : Int) = 2) = True := eq_true (by omega)
           rw [hsh, decide_eq_true k2]
           cases hsp : x.split with
           | true =>
             rw [hsp] at ls
             simp only [go_sem, AE, AA, AC, AB, KB_n, KB_x, Nat.reduceBEq, Nat.reduceAdd, Nat.reduceLT, Nat.reduceLeDiff, Nat.reduceEqDiff, reduceIte, Int.reduceEq, reduceCtorEq, i0, e2, i2, hx0, n0, IX, Nat.zero_add, ls, Bool.not_true, Bool.false_and, Bool.and_self]
             exact hbr _
           | false =>
             rw [hsp] at ls
             simp only [go_sem, AE, AA, AC, AB, KB_n, KB_x, Nat.reduceBEq, Nat.reduceAdd, Nat.reduceLT, Nat.reduceLeDiff, Nat.reduceEqDiff, reduceIte, Int.reduceEq, reduceCtorEq, i0, e2, i2, hx0, n0, IX, Nat.zero_add, ls, Bool.not_false, Bool.and_false, Bool.true_and]
             cases hai2 : n.items.all Ju with
             | false =>
               rw [hai2] at hCI
               simp only [go_sem, AE, AA, AC, AB, KB_n, KB_x, Nat.reduceBEq, Nat.reduceAdd, Nat.reduceLT, Nat.reduceLeDiff, Nat.reduceEqDiff, reduceIte, Int.reduceEq, reduceCtorEq, i2, hCI, Bool.not_false, Bool.false_and]
               exact hbr _
             | true =>
               rw [hai2] at hCI
               simp only [go_sem, AE, AA, AC, AB, KB_n, KB_x, Nat.reduceBEq, Nat.reduceAdd, Nat.reduceLT, Nat.reduceLeDiff, Nat.reduceEqDiff, reduceIte, Int.reduceEq, reduceCtorEq, i2, i3, hCI, hCK, Bool.not_true, Bool.not_not, Bool.true_and]
               exact hbr _
         · have e2 : ((n.kind : Int) = 2) = False := eq_false (by omega)
           rw [decide_eq_false k2]
           simp only [go_sem, AE, AA, AC, AB, KB_n, KB_x, Nat.reduceBEq, Nat.reduceAdd, Nat.reduceLT, Nat.reduceLeDiff, Nat.reduceEqDiff, reduceIte, Int.reduceEq, reduceCtorEq, i0, e2, Bool.false_and, Bool.not_false, Bool.true_and]
           cases hai2 : n.items.all Ju with
           | false =>
             rw [hai2] at hCI
             simp only [go_sem, AE, AA, AC, AB, KB_n, KB_x, Nat.reduceBEq, Nat.reduceAdd, Nat.reduceLT, Nat.reduceLeDiff, Nat.reduceEqDiff, reduceIte, Int.reduceEq, reduceCtorEq, i2, hCI, Bool.not_false, Bool.false_and]
             exact hbr _
           | true =>
             rw [hai2] at hCI
             simp only [go_sem, AE, AA, AC, AB, KB_n, KB_x, Nat.reduceBEq, Nat.reduceAdd, Nat.reduceLT, Nat.reduceLeDiff, Nat.reduceEqDiff, reduceIte, Int.reduceEq, reduceCtorEq, i2, i3, hCI, hCK, Bool.not_true, Bool.not_not, Bool.true_and]
             exact hbr _
end Go.Proofs.YtmnbfgfgjmmhfaaGreatDoor

namespace Go.Proofs.YtmnbfgfgjmmhfaaGreatDoor
open Go.Proofs.YtmnbfgfgjmmhfaaGreatDoor.Am
theorem Oa (F : IN → List (List Nat)) : ∀ (n : IN) (d : Nat), (allL n d).flatMap (fun x => F x.2) = F n ++ (n.kids.map fun k => (allL k 0).flatMap fun x => F x.2).flatten := by
 refine IN.ind fun n ih d => ?_
 rw [Mn, List.flatMap_cons, List.flatMap_def, List.map_flatten, List.map_map, List.flatten_flatten, List.map_map]
 congr 2
 refine List.map_congr_left fun k hk => ?_
 have h1 := ih k hk (d + 1)
 have h2 := ih k hk 0
 rw [← h2] at h1
 simp only [Function.comp]
 rw [← h1, List.flatMap_def]
def rdA (n : IN) : List (List Nat) := (allL n 0).flatMap fun x => Bn x.2.items
def stA' (n : IN) : List (List Nat) := (allL n 0).flatMap fun x => Js x.2
theorem Rx : ∀ n : IN, n.Ok → ∀ d, ∀ x ∈ allL n d, x.2.Ok := by
 refine IN.ind fun n ih ho d x hx => ?_
 rw [Mn, List.mem_cons] at hx
 rcases hx with rfl | hx
 · exact ho
 · rw [List.mem_flatten] at hx
   obtain ⟨l, hl, hx⟩ := hx
   obtain ⟨k, hk, rfl⟩ := List.mem_map.1 hl
   exact ih k hk (ho.kids.1 k hk) (d + 1) x hx
theorem rd_lt {n : IN} (ho : n.Ok) : ∀ l ∈ rdA n, ∀ c ∈ l, c < 256 := by
 intro l hl c hc
 unfold rdA at hl
 rw [List.mem_flatMap] at hl
 obtain ⟨x, hx, hl⟩ := hl
 have hx := Rx n ho 0 x hx
 unfold Bn at hl
 rw [List.mem_flatMap] at hl
 obtain ⟨y, hy, hl⟩ := hl
 obtain ⟨p, hp, hpl⟩ := List.mem_filterMap.1 hl
 have hpo := (hx.items.1 y hy).parts p hp
 have : p.text = l := by
  unfold HA at hpl
  generalize (p.var && !(match p.text with | [c] => decide (c ∈ K11) | _ => false)) = b at hpl
  cases b with
  | true => exact Option.some.inj hpl
  | false => cases hpl
 rw [← this] at hc
 exact hpo.text.lt c hc
theorem st_lt {n : IN} (ho : n.Ok) : ∀ l ∈ stA' n, ∀ c ∈ l, c < 256 := by
 intro l hl c hc
 unfold stA' at hl
 rw [List.mem_flatMap] at hl
 obtain ⟨x, hx, hl⟩ := hl
 have hx := Rx n ho 0 x hx
 unfold Js at hl
 split at hl
 · rw [List.mem_singleton] at hl; subst hl; exact hx.name.lt c hc
 · cases hl
theorem Ry (n : IN) : (stA' n).length ≤ nodesI n := by
 rw [← Mo n 0]
 unfold stA'
 generalize allL n 0 = l
 induction l with
 | nil => simp
 | cons x l ih =>
   rw [List.flatMap_cons, List.length_append, List.length_cons]
   have : (Js x.2).length ≤ 1 := by unfold Js; split <;> simp
   omega
theorem Rz {L : List (List Nat)} : (Hu L).length ≤ L.length := Mp L
theorem Mr {L : List (List Nat)} (hL : ∀ l ∈ L, ∀ n ∈ l, n < 256) (x : List Nat) : x ∈ Hu L ↔ x ∈ L := TJ hL x
theorem Pa (L : List (List Nat)) : (Hu L).Pairwise fun x y => ltN x y = true := TK L
def seqI (a b : IN) : IN := .mk 5 [] [] [a, b]
theorem Vg (a b : IN) : mayI (seqI a b) = (mayI a && mayI b) := by
 rw [SB]
 simp [seqI, Mv, IN.kind, IN.name, IN.items, IN.kids]
theorem R0 (a b : IN) : nodesI (seqI a b) = 1 + nodesI a + nodesI b := by
 rw [Ii]
 simp [seqI, IN.kids]
 omega
theorem seq_rd (a b : IN) : rdA (seqI a b) = rdA a ++ rdA b := by
 unfold rdA
 rw [Oa (fun i => Bn i.items)]
 simp [seqI, IN.kids, IN.items, Bn]
theorem seq_st (a b : IN) : stA' (seqI a b) = stA' a ++ stA' b := by
 unfold stA'
 rw [Oa Js]
 simp [seqI, IN.kids, Js, IN.kind]
theorem seq_ok {a b : IN} (ha : a.Ok) (hb : b.Ok) : (seqI a b).Ok := by
 refine .mk (by decide) ?_ (by decide) (by simp) (by decide) ?_ (by simp)
 · exact ⟨by simp, by simp⟩
 · intro x hx
   simp only [List.mem_cons, List.not_mem_nil, or_false] at hx
   rcases hx with rfl | rfl
   · exact ha
   · exact hb
theorem Pb {A B : List (List Nat)} (hA : ∀ l ∈ A, ∀ n ∈ l, n < 256) (hB : ∀ l ∈ B, ∀ n ∈ l, n < 256) (x : List Nat) : x ∈ Hu (A ++ B) ↔ x ∈ Hu A ++ Hu B := by
 rw [Mr (fun l hl => by rcases List.mem_append.1 hl with h | h; exact hA l h; exact hB l h), List.mem_append, List.mem_append, Mr hA, Mr hB]

set_option maxHeartbeats 8000000
attribute [local irreducible] W WO WE WQ WD Tr.get Tr.set
theorem Il {α : Type} (f : α → AV) : ∀ l : List α, (∀ x ∈ l, beqA (f x) (f x) = true) → EY (l.map f) (l.map f) = true
 | [], _ => rfl
 | x :: l, h => by simp only [List.map_cons, EY, h x (by simp), Il f l fun y hy => h y (by simp [hy]), Bool.and_self]
theorem Vh (p : PT) : beqA p.av p.av = true := by
 simp [PT.av, PT.cells, beqA, EY, Ic]
theorem Vi (y : IT) : beqA y.av y.av = true := by
 have := Il PT.av y.parts fun p _ => Vh p
 simp [IT.av, IT.cells, ptx, beqA, EY, this]
theorem Vj : ∀ n : IN, beqA n.av n.av = true := by
 refine IN.ind fun n ih => ?_
 have h1 := Il IT.av n.items fun p _ => Vi p
 have h2 := Il IN.av n.kids ih
 rw [IN.av_eq]
 simp [IN.cells, itx, beqA, EY, h1, h2, Ic]
theorem nnt (n : IN) : n.cells.all noTok = true := rfl
theorem R2 (n : IN) : EY n.cells n.cells = true := by
 have := Vj n
 rw [IN.av_eq] at this
 simpa only [beqA] using this
theorem Bf (n : IN) : still (.agg n.cells) = true := by
 simp only [still, E1, nnt, R2, Bool.and_self]
def seqC (a b : IN) : List AV := [.i .u8 5, .s [], .nsl, .sl 4 [.agg a.cells, .agg b.cells] .full]
theorem Ms (a b : IN) (s : St) : pubL s (seqC a b) = some (seqC a b, s) := rfl
theorem Ob (a b : IN) : (seqC a b).all noTok = true := rfl
theorem QK (a b : IN) (ha : a.Ok) (hb : b.Ok) (na : nodesI a < 2 ^ 30) (nb : nodesI b < 2 ^ 30) (ra : (rdA a).length < 2 ^ 32) (rb : (rdA b).length < 2 ^ 32) (ra1 : ∀ x ∈ allL a 0, (Bn x.2.items).length < 2 ^ 36) (rb1 : ∀ x ∈ allL b 0, (Bn x.2.items).length < 2 ^ 36)
    (s : St) (hw : Wf s) : (lim prog).call CU [.agg a.cells, .agg b.cells] s = some (.b true, s) := by
 refine fn_W Fl rfl rfl ?_
 have hz0 : wkZ AX.cin [.agg a.cells, .agg b.cells] = [.agg a.cells, .agg b.cells] := by simp [AX, wkZ, wk, IN.cells, itx]
 rw [hz0]
 have e0 : s.enter.nb = s.nb := rfl
 have H1 := ((Hp.begin hw).new (.cells 25 a.cells)).new (.cells 25 b.cells)
 have e1 : (s.enter.new (.cells 25 a.cells)).nb = s.nb + 1 := rfl
 obtain ⟨q1, hq1⟩ : ∃ q1, (s.enter.new (.cells 25 a.cells)).new (.cells 25 b.cells) = q1 := ⟨_, rfl⟩
 have nb1 : q1.nb = s.nb + 2 := by rw [← hq1]; rfl
 rw [hq1, e1, e0] at H1
 have la := H1.ldw (m := 4) 1 rfl rfl
 have lb := H1.ldw (m := 4) 0 rfl rfl
 have hawk : ∀ q : St, (lim prog).call Bs [] q = some (.b true, q) := fun q => Rc Ga rfl rfl
 obtain ⟨za, hsa⟩ := Lx a ha q1 H1.wf
 obtain ⟨zb, hsb⟩ := Lx b hb q1 H1.wf
 by_cases hza : 400 < za
 · have f1 : (400 < za) = True := eq_true hza
   simp only [AX, go_sem, AE, AA, AC, AB, KB_n, KB_x, Nat.reduceBEq, Nat.reduceAdd, Nat.reduceLT, Nat.reduceLeDiff, Nat.reduceEqDiff, reduceIte, Int.reduceEq, reduceCtorEq, nc4, e0, e1, hq1, la, lb, E1, hsa, f1, hawk]
   exact AM H1.over rfl rfl
 have f1 : (400 < za) = False := eq_false hza
 by_cases hzb : 400 < zb
 · have f2 : (400 < zb) = True := eq_true hzb
   simp only [AX, go_sem, AE, AA, AC, AB, KB_n, KB_x, Nat.reduceBEq, Nat.reduceAdd, Nat.reduceLT, Nat.reduceLeDiff, Nat.reduceEqDiff, reduceIte, Int.reduceEq, reduceCtorEq, nc4, e0, e1, hq1, la, lb, E1, hsa, hsb, f1, f2, hawk]
   exact AM H1.over rfl rfl
 have f2 : (400 < zb) = False := eq_false hzb
 obtain ⟨q, d3, H, nb3⟩ := H1.adp (T := 25) (m := 4) (z := [.i .u8 0, .s [], .nsl, .nsl]) (v := .agg (seqC a b)) rfl ⟨rfl, rfl⟩
 rw [nb1] at d3 H
 have hc : (AV.agg (seqC a b)).cells = seqC a b := rfl
 rw [hc] at H
 have hal : Af 4 [.agg a.cells, .agg b.cells] = true := rfl
 have lS := H.ldw (m := 4) 0 rfl rfl
 have lA := H.ldw (m := 4) 2 rfl rfl
 have lB := H.ldw (m := 4) 1 rfl rfl
 have hSok := seq_ok ha hb
 have nS := R0 a b
 have wkS : ∀ cin : List CT, cin = D0.cin → wkZ cin [.agg (seqC a b)] = wkZ cin [.agg (seqI a b).cells] := fun cin h => by
  subst h
  simp [D0, wkZ, wk, wkM, seqC, seqI, IN.cells, itx, IN.kind, IN.name, IN.items, IN.kids, IN.av_eq]
 have mS : (lim prog).call Fc [.agg (seqC a b)] q = some (.b (mayI (seqI a b)), q) := by
  rw [HU (args := [.agg (seqC a b)]) (args' := [.agg (seqI a b).cells]) PU rfl rfl (wkS D0.cin rfl)]; exact SE _ hSok q H.wf
 have mA := SE a ha q H.wf
 have mB := SE b hb q H.wf
 rw [Vg] at mS
 have zS : (lim prog).call FK [.agg (seqC a b)] q = some (.i .i64 (nodesI (seqI a b) : Nat), q) := by
  rw [HU (args := [.agg (seqC a b)]) (args' := [.agg (seqI a b).cells]) Nf rfl rfl (wkS DR.cin rfl)]; exact OZ _ hSok (by omega) q H.wf
 have zA := OZ a ha (by omega) q H.wf
 have zB := OZ b hb (by omega) q H.wf
 have w1 : IntKind.i64.wrap (1 + (nodesI a : Int)) = ((1 + nodesI a : Nat) : Int) := by
  rw [show (1 : Int) + (nodesI a : Int) = ((1 + nodesI a : Nat) : Int) by omega]; exact EV (by omega)
 have w2 : IntKind.i64.wrap (((1 + nodesI a : Nat) : Int) + (nodesI b : Int)) = ((nodesI (seqI a b) : Nat) : Int) := by
  rw [show ((1 + nodesI a : Nat) : Int) + (nodesI b : Int) = ((nodesI (seqI a b) : Nat) : Int) by omega]; exact EV (by omega)
 have hzz : (((nodesI (seqI a b) : Nat) : Int) = ((nodesI (seqI a b) : Nat) : Int)) = True := eq_true rfl
 have rS := seq_rd a b
 have tS := seq_st a b
 have hrS : (rdA (seqI a b)).length < 2 ^ 33 := by rw [rS, List.length_append]; omega
 have htA := Ry a
 have htB := Ry b
 have hrS1 : ∀ x ∈ allL (seqI a b) 0, (Bn x.2.items).length < 2 ^ 36 := fun x hx => by
  have : (Bn x.2.items).length ≤ (rdA (seqI a b)).length := by
   unfold rdA
   rw [List.length_flatMap]
   exact HS (List.mem_map.2 ⟨x, hx, rfl⟩)
  omega
 have rk : ∀ n : IN, n.Ok → nodesI n < 2 ^ 32 → (rdA n).length < 2 ^ 33 → (∀ x ∈ allL n 0, (Bn x.2.items).length < 2 ^ 36) → ∀ u, Wf u → ∃ v s', (lim prog).call De [.agg n.cells] u = some (v, s') ∧ Ht u s' v (PY n) := fun n hn h1 h2 h3 u hu =>
  Vf n hn (by omega) (fun x hx q hq => Rn x.2 (Rx n hn 0 x hx) (h3 x hx) q hq) (show (rdA n).length < 2 ^ 36 by omega) u hu
 have sk : ∀ n : IN, n.Ok → nodesI n < 2 ^ 32 → ∀ u, Wf u → ∃ v s', (lim prog).call Ec [.agg n.cells] u = some (v, s') ∧ Ht u s' v (Te n) := fun n hn h1 u hu =>
  sets_K n hn (by omega) (fun x hx q hq => Ta x.2 q hq) (show (stA' n).length < 2 ^ 36 by have := Ry n; omega) u hu
 have rkS : ∀ u, Wf u → ∃ v s', (lim prog).call De [.agg (seqC a b)] u = some (v, s') ∧ Ht u s' v (PY (seqI a b)) := fun u hu => by
  rw [HU (args := [.agg (seqC a b)]) (args' := [.agg (seqI a b).cells]) Lr rfl rfl (wkS Df.cin rfl)]; exact rk _ hSok (by omega) hrS hrS1 u hu
 have skS : ∀ u, Wf u → ∃ v s', (lim prog).call Ec [.agg (seqC a b)] u = some (v, s') ∧ Ht u s' v (Te (seqI a b)) := fun u hu => by
  rw [HU (args := [.agg (seqC a b)]) (args' := [.agg (seqI a b).cells]) Ng rfl rfl (wkS Ee.cin rfl)]; exact sk _ hSok (by omega) u hu
 have o1 : ∀ n : IN, (PY n).length ≤ (rdA n).length := fun n => Rz
 have o2 : ∀ n : IN, (Te n).length ≤ (stA' n).length := fun n => Rz
 obtain ⟨v1, q1, v2, q2, v3, q3, a4, q4, a5, q5, r5, c1, c2, c3, c4, c5, c6, c7, c8, c9, G1, G2, G3, G4, G5⟩ := PZ H rkS (rk a ha (by omega) (by omega) ra1) (rk b hb (by omega) (by omega) rb1) (by have := o1 (seqI a b); omega) (by have := o1 a; omega) (by have := o1 b; omega)
  (Pa _) (fun x => by show x ∈ Hu (rdA (seqI a b)) ↔ _; rw [rS]; exact Pb (rd_lt ha) (rd_lt hb) x)
 obtain ⟨u1, p1, u2, p2, u3, p3, b4, p4, b5, p5, t5, k1, k2, k3, k4, k5, k6, k7, k8, k9, K1, K2, K3, K4, K5⟩ := PZ G5 skS (sk a ha (by omega)) (sk b hb (by omega)) (by have := o2 (seqI a b); rw [tS, List.length_append] at this; omega) (by have := o2 a; omega) (by have := o2 b; omega)
  (Pa _) (fun x => by show x ∈ Hu (stA' (seqI a b)) ↔ _; rw [tS]; exact Pb (st_lt ha) (st_lt hb) x)
 have A1 := G1.ldw (m := 4) 2 rfl rfl
 have B1 := G1.ldw (m := 4) 1 rfl rfl
 have B2 := G2.ldw (m := 4) 1 rfl rfl
 have S5 := G5.ldw (m := 4) 0 rfl rfl
 have A5 := G5.ldw (m := 4) 2 rfl rfl
 have B5 := G5.ldw (m := 4) 1 rfl rfl
 have A6 := K1.ldw (m := 4) 2 rfl rfl
 have B6 := K1.ldw (m := 4) 1 rfl rfl
 have B7 := K2.ldw (m := 4) 1 rfl rfl
 have hsC : AV.agg [.i .u8 5, .s [], .nsl, .sl 4 [.agg a.cells, .agg b.cells] .full] = .agg (seqC a b) := rfl
 have hblk : ∀ (Q : Ex → Tr → St → Prop) (e : Tr), e.get 2 = .p s.nb 0 → e.get 3 = .p (s.nb + 1) 0 → e.get 5 = .p (s.nb + 2) 0 → (∀ e' : Tr, e'.get 4 = .b true → Q .n e' p5) → W (lim prog) (subC AX.body [1, 1, 1, 0]) e q Q := by
  intro Q e g2 g3 g5 hQ
  simp only [AX, subC]
  refine PS rfl ?_
  cases hma : mayI a with
  | false =>
    rw [hma] at mS mA
    simp only [Bool.false_and] at mS
    simp only [go_sem, AE, AA, AC, AB, KB_n, KB_x, Nat.reduceBEq, Nat.reduceAdd, Nat.reduceLT, Nat.reduceLeDiff, Nat.reduceEqDiff, reduceIte, Int.reduceEq, reduceCtorEq, g2, g3, g5, lS, lA, lB, nnt, E1, Ms, Ob, mS, mA, mB, zS, zA, zB, w1, w2, hzz, c1, c2, c3, c4, c5, c6, c7, c8, c9, A1, B1, B2, S5, A5, B5, k1, k2, k3, k4, k5, k6, k7, k8, k9, A6, B6, B7]
    refine QB rfl (by simp only [go_sem, AE, AA, AC, AB, KB_n, KB_x, Nat.reduceBEq, Nat.reduceAdd, Nat.reduceLT, Nat.reduceLeDiff, Nat.reduceEqDiff, reduceIte, Int.reduceEq, reduceCtorEq, g2]) (Bf a) ⟨⟨_, rfl, lA⟩, ⟨_, rfl, lA⟩, ⟨_, rfl, lA⟩, trivial⟩ ?_
    refine Dy rfl (by simp only [go_sem, AE, AA, AC, AB, KB_n, KB_x, Nat.reduceBEq, Nat.reduceAdd, Nat.reduceLT, Nat.reduceLeDiff, Nat.reduceEqDiff, reduceIte, Int.reduceEq, reduceCtorEq, g2]) (Bf a) ⟨⟨_, rfl, lA⟩, ⟨_, rfl, lA⟩, ⟨_, rfl, lA⟩, trivial⟩ ?_
    refine Dy rfl (by simp only [go_sem, AE, AA, AC, AB, KB_n, KB_x, Nat.reduceBEq, Nat.reduceAdd, Nat.reduceLT, Nat.reduceLeDiff, Nat.reduceEqDiff, reduceIte, Int.reduceEq, reduceCtorEq, g3]) (Bf b) ⟨⟨_, rfl, lB⟩, ⟨_, rfl, lB⟩, ⟨_, rfl, lB⟩, ⟨_, rfl, lB⟩, ⟨_, rfl, lB⟩, ⟨_, rfl, lB⟩, trivial⟩ ?_
    refine Dy rfl (by simp only [go_sem, AE, AA, AC, AB, KB_n, KB_x, Nat.reduceBEq, Nat.reduceAdd, Nat.reduceLT, Nat.reduceLeDiff, Nat.reduceEqDiff, reduceIte, Int.reduceEq, reduceCtorEq, g2]) (Bf a) ⟨⟨_, rfl, A1⟩, ⟨_, rfl, lA⟩, ⟨_, rfl, A1⟩, trivial⟩ ?_
    refine Dy rfl (by simp only [go_sem, AE, AA, AC, AB, KB_n, KB_x, Nat.reduceBEq, Nat.reduceAdd, Nat.reduceLT, Nat.reduceLeDiff, Nat.reduceEqDiff, reduceIte, Int.reduceEq, reduceCtorEq, g3]) (Bf b) ⟨⟨_, rfl, B2⟩, ⟨_, rfl, lB⟩, ⟨_, rfl, B1⟩, ⟨_, rfl, B1⟩, ⟨_, rfl, B2⟩, trivial⟩ ?_
    refine Dy rfl (by simp only [go_sem, AE, AA, AC, AB, KB_n, KB_x, Nat.reduceBEq, Nat.reduceAdd, Nat.reduceLT, Nat.reduceLeDiff, Nat.reduceEqDiff, reduceIte, Int.reduceEq, reduceCtorEq, g2]) (Bf a) ⟨⟨_, rfl, A6⟩, ⟨_, rfl, A5⟩, ⟨_, rfl, A6⟩, trivial⟩ ?_
    refine Dy rfl (by simp only [go_sem, AE, AA, AC, AB, KB_n, KB_x, Nat.reduceBEq, Nat.reduceAdd, Nat.reduceLT, Nat.reduceLeDiff, Nat.reduceEqDiff, reduceIte, Int.reduceEq, reduceCtorEq, g3]) (Bf b) ⟨⟨_, rfl, B7⟩, ⟨_, rfl, B5⟩, ⟨_, rfl, B6⟩, ⟨_, rfl, B6⟩, ⟨_, rfl, B7⟩, trivial⟩ ?_
    exact Lq (hQ _ (by simp only [go_sem, AE, AA, AC, AB, KB_n, KB_x, Nat.reduceBEq, Nat.reduceAdd, Nat.reduceLT, Nat.reduceLeDiff, Nat.reduceEqDiff, reduceIte, Int.reduceEq, reduceCtorEq]))
  | true =>
    rw [hma] at mS mA
    simp only [Bool.true_and] at mS
    cases hmb : mayI b with
    | false =>
      rw [hmb] at mS mB
      simp only [go_sem, AE, AA, AC, AB, KB_n, KB_x, Nat.reduceBEq, Nat.reduceAdd, Nat.reduceLT, Nat.reduceLeDiff, Nat.reduceEqDiff, reduceIte, Int.reduceEq, reduceCtorEq, g2, g3, g5, lS, lA, lB, nnt, E1, Ms, Ob, mS, mA, mB, zS, zA, zB, w1, w2, hzz, c1, c2, c3, c4, c5, c6, c7, c8, c9, A1, B1, B2, S5, A5, B5, k1, k2, k3, k4, k5, k6, k7, k8, k9, A6, B6, B7]
      refine QB rfl (by simp only [go_sem, AE, AA, AC, AB, KB_n, KB_x, Nat.reduceBEq, Nat.reduceAdd, Nat.reduceLT, Nat.reduceLeDiff, Nat.reduceEqDiff, reduceIte, Int.reduceEq, reduceCtorEq, g2]) (Bf a) ⟨⟨_, rfl, lA⟩, ⟨_, rfl, lA⟩, ⟨_, rfl, lA⟩, trivial⟩ ?_
      refine Dy rfl (by simp only [go_sem, AE, AA, AC, AB, KB_n, KB_x, Nat.reduceBEq, Nat.reduceAdd, Nat.reduceLT, Nat.reduceLeDiff, Nat.reduceEqDiff, reduceIte, Int.reduceEq, reduceCtorEq, g2]) (Bf a) ⟨⟨_, rfl, lA⟩, ⟨_, rfl, lA⟩, ⟨_, rfl, lA⟩, trivial⟩ ?_
      refine Dy rfl (by simp only [go_sem, AE, AA, AC, AB, KB_n, KB_x, Nat.reduceBEq, Nat.reduceAdd, Nat.reduceLT, Nat.reduceLeDiff, Nat.reduceEqDiff, reduceIte, Int.reduceEq, reduceCtorEq, g3]) (Bf b) ⟨⟨_, rfl, lB⟩, ⟨_, rfl, lB⟩, ⟨_, rfl, lB⟩, ⟨_, rfl, lB⟩, ⟨_, rfl, lB⟩, ⟨_, rfl, lB⟩, trivial⟩ ?_
      refine Dy rfl (by simp only [go_sem, AE, AA, AC, AB, KB_n, KB_x, Nat.reduceBEq, Nat.reduceAdd, Nat.reduceLT, Nat.reduceLeDiff, Nat.reduceEqDiff, reduceIte, Int.reduceEq, reduceCtorEq, g2]) (Bf a) ⟨⟨_, rfl, A1⟩, ⟨_, rfl, lA⟩, ⟨_, rfl, A1⟩, trivial⟩ ?_
      refine Dy rfl (by simp only [go_sem, AE, AA, AC, AB, KB_n, KB_x, Nat.reduceBEq, Nat.reduceAdd, Nat.reduceLT, Nat.reduceLeDiff, Nat.reduceEqDiff, reduceIte, Int.reduceEq, reduceCtorEq, g3]) (Bf b) ⟨⟨_, rfl, B2⟩, ⟨_, rfl, lB⟩, ⟨_, rfl, B1⟩, ⟨_, rfl, B1⟩, ⟨_, rfl, B2⟩, trivial⟩ ?_
      refine Dy rfl (by simp only [go_sem, AE, AA, AC, AB, KB_n, KB_x, Nat.reduceBEq, Nat.reduceAdd, Nat.reduceLT, Nat.reduceLeDiff, Nat.reduceEqDiff, reduceIte, Int.reduceEq, reduceCtorEq, g2]) (Bf a) ⟨⟨_, rfl, A6⟩, ⟨_, rfl, A5⟩, ⟨_, rfl, A6⟩, trivial⟩ ?_
      refine Dy rfl (by simp only [go_sem, AE, AA, AC, AB, KB_n, KB_x, Nat.reduceBEq, Nat.reduceAdd, Nat.reduceLT, Nat.reduceLeDiff, Nat.reduceEqDiff, reduceIte, Int.reduceEq, reduceCtorEq, g3]) (Bf b) ⟨⟨_, rfl, B7⟩, ⟨_, rfl, B5⟩, ⟨_, rfl, B6⟩, ⟨_, rfl, B6⟩, ⟨_, rfl, B7⟩, trivial⟩ ?_
      exact Lq (hQ _ (by simp only [go_sem, AE, AA, AC, AB, KB_n, KB_x, Nat.reduceBEq, Nat.reduceAdd, Nat.reduceLT, Nat.reduceLeDiff, Nat.reduceEqDiff, reduceIte, Int.reduceEq, reduceCtorEq]))
    | true =>
      rw [hmb] at mS mB
      simp only [go_sem, AE, AA, AC, AB, KB_n, KB_x, Nat.reduceBEq, Nat.reduceAdd, Nat.reduceLT, Nat.reduceLeDiff, Nat.reduceEqDiff, reduceIte, Int.reduceEq, reduceCtorEq, g2, g3, g5, lS, lA, lB, nnt, E1, Ms, Ob, mS, mA, mB, zS, zA, zB, w1, w2, hzz, c1, c2, c3, c4, c5, c6, c7, c8, c9, A1, B1, B2, S5, A5, B5, k1, k2, k3, k4, k5, k6, k7, k8, k9, A6, B6, B7]
      refine QB rfl (by simp only [go_sem, AE, AA, AC, AB, KB_n, KB_x, Nat.reduceBEq, Nat.reduceAdd, Nat.reduceLT, Nat.reduceLeDiff, Nat.reduceEqDiff, reduceIte, Int.reduceEq, reduceCtorEq, g2]) (Bf a) ⟨⟨_, rfl, lA⟩, ⟨_, rfl, lA⟩, ⟨_, rfl, lA⟩, trivial⟩ ?_
      refine Dy rfl (by simp only [go_sem, AE, AA, AC, AB, KB_n, KB_x, Nat.reduceBEq, Nat.reduceAdd, Nat.reduceLT, Nat.reduceLeDiff, Nat.reduceEqDiff, reduceIte, Int.reduceEq, reduceCtorEq, g2]) (Bf a) ⟨⟨_, rfl, lA⟩, ⟨_, rfl, lA⟩, ⟨_, rfl, lA⟩, trivial⟩ ?_
      refine Dy rfl (by simp only [go_sem, AE, AA, AC, AB, KB_n, KB_x, Nat.reduceBEq, Nat.reduceAdd, Nat.reduceLT, Nat.reduceLeDiff, Nat.reduceEqDiff, reduceIte, Int.reduceEq, reduceCtorEq, g3]) (Bf b) ⟨⟨_, rfl, lB⟩, ⟨_, rfl, lB⟩, ⟨_, rfl, lB⟩, ⟨_, rfl, lB⟩, ⟨_, rfl, lB⟩, ⟨_, rfl, lB⟩, trivial⟩ ?_
      refine Dy rfl (by simp only [go_sem, AE, AA, AC, AB, KB_n, KB_x, Nat.reduceBEq, Nat.reduceAdd, Nat.reduceLT, Nat.reduceLeDiff, Nat.reduceEqDiff, reduceIte, Int.reduceEq, reduceCtorEq, g2]) (Bf a) ⟨⟨_, rfl, A1⟩, ⟨_, rfl, lA⟩, ⟨_, rfl, A1⟩, trivial⟩ ?_
      refine Dy rfl (by simp only [go_sem, AE, AA, AC, AB, KB_n, KB_x, Nat.reduceBEq, Nat.reduceAdd, Nat.reduceLT, Nat.reduceLeDiff, Nat.reduceEqDiff, reduceIte, Int.reduceEq, reduceCtorEq, g3]) (Bf b) ⟨⟨_, rfl, B2⟩, ⟨_, rfl, lB⟩, ⟨_, rfl, B1⟩, ⟨_, rfl, B1⟩, ⟨_, rfl, B2⟩, trivial⟩ ?_
      refine Dy rfl (by simp only [go_sem, AE, AA, AC, AB, KB_n, KB_x, Nat.reduceBEq, Nat.reduceAdd, Nat.reduceLT, Nat.reduceLeDiff, Nat.reduceEqDiff, reduceIte, Int.reduceEq, reduceCtorEq, g2]) (Bf a) ⟨⟨_, rfl, A6⟩, ⟨_, rfl, A5⟩, ⟨_, rfl, A6⟩, trivial⟩ ?_
      refine Dy rfl (by simp only [go_sem, AE, AA, AC, AB, KB_n, KB_x, Nat.reduceBEq, Nat.reduceAdd, Nat.reduceLT, Nat.reduceLeDiff, Nat.reduceEqDiff, reduceIte, Int.reduceEq, reduceCtorEq, g3]) (Bf b) ⟨⟨_, rfl, B7⟩, ⟨_, rfl, B5⟩, ⟨_, rfl, B6⟩, ⟨_, rfl, B6⟩, ⟨_, rfl, B7⟩, trivial⟩ ?_
      exact Lq (hQ _ (by simp only [go_sem, AE, AA, AC, AB, KB_n, KB_x, Nat.reduceBEq, Nat.reduceAdd, Nat.reduceLT, Nat.reduceLeDiff, Nat.reduceEqDiff, reduceIte, Int.reduceEq, reduceCtorEq]))
 simp only [AX, go_sem, AE, AA, AC, AB, KB_n, KB_x, Nat.reduceBEq, Nat.reduceAdd, Nat.reduceLT, Nat.reduceLeDiff, Nat.reduceEqDiff, reduceIte, Int.reduceEq, reduceCtorEq, nc4, e0, e1, hq1, la, lb, E1, hsa, hsb, f1, f2, hawk, hal, nb1, hsC, d3]
 refine hblk _ _ ?_ ?_ ?_ fun e' h4 => ?_
 · simp only [go_sem, AE, AA, AC, AB, KB_n, KB_x, Nat.reduceBEq, Nat.reduceAdd, Nat.reduceLT, Nat.reduceLeDiff, Nat.reduceEqDiff, reduceIte, Int.reduceEq, reduceCtorEq]
 · simp only [go_sem, AE, AA, AC, AB, KB_n, KB_x, Nat.reduceBEq, Nat.reduceAdd, Nat.reduceLT, Nat.reduceLeDiff, Nat.reduceEqDiff, reduceIte, Int.reduceEq, reduceCtorEq]
 · simp only [go_sem, AE, AA, AC, AB, KB_n, KB_x, Nat.reduceBEq, Nat.reduceAdd, Nat.reduceLT, Nat.reduceLeDiff, Nat.reduceEqDiff, reduceIte, Int.reduceEq, reduceCtorEq]
 · simp only [go_sem, AE, AA, AC, AB, KB_n, KB_x, Nat.reduceBEq, Nat.reduceAdd, Nat.reduceLT, Nat.reduceLeDiff, Nat.reduceEqDiff, reduceIte, Int.reduceEq, reduceCtorEq, h4]
   exact AM K5.over rfl rfl
end Go.Proofs.YtmnbfgfgjmmhfaaGreatDoor
