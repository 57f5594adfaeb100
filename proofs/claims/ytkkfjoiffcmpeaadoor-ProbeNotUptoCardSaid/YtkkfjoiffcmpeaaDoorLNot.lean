/-
  The walker goes a name.
-/
import Derived.Test.YtkkfjoiffcmpeaaDoorLWalk2
set_option linter.all false
set_option linter.unusedVariables false
set_option linter.unusedSimpArgs false
set_option linter.unusedSectionVars false
set_option maxRecDepth 100000
set_option maxHeartbeats 2000000
set_option linter.unusedSimpArgs false
set_option linter.constructorNameAsVariable false
namespace Go.Proofs.YtkkfjoiffcmpeaaDoor
open Go.Proofs.YtkkfjoiffcmpeaaDoor.Am
attribute [local irreducible] W WO WE WQ WD Tr.get Tr.set
def Gone (s0 s' : St) (en : En) : Prop := ∃ R B, Hp s0 s' en R B
def NamP (n : ND) (id : Nat) (s0 : St) (en : En) (iw : Nat) (find : Bool) (b : Nat) (left at_ : List (List Nat)) (nm : List Nat) (into : Bool) (r : AV) (s' : St) : Prop :=
  if kindP n (at_ ++ [nm]) = 3 ∧ (left ≠ [] ∨ into = true ∨ find = true) then ∃ x, r = .tup [.i .u8 0, .b false, x] ∧ FolP n id s0 en iw find b left at_ (at_ ++ [nm]) into x s'
  else if kindP n (at_ ++ [nm]) = 2 then r = .tup [.i .u8 (kindP n (at_ ++ [nm]) : Nat), .b (decide (left = [])), .i .i64 0] ∧ Wk id s0 s' en iw find b left (at_ ++ [nm]) into
  else if kindP n (at_ ++ [nm]) = 1 ∧ (left ≠ [] ∨ into = true) then r = .tup [.i .u8 0, .b false, .i .i64 55] ∧ Gone s0 s' en
  else if kindP n (at_ ++ [nm]) = 0 ∧ left ≠ [] then r = .tup [.i .u8 0, .b false, .i .i64 5] ∧ Gone s0 s' en
  else r = .tup [.i .u8 (kindP n (at_ ++ [nm]) : Nat), .b true, .i .i64 0] ∧ Wk id s0 s' en iw find b left (at_ ++ [nm]) into
section
variable {n : ND} {id : Nat} {s0 : St} {en : En} {iw : Nat} {find : Bool} {b : Nat} {left at_ : List (List Nat)} {nm : List Nat} {into : Bool} {s' : St}
theorem NamP.l {x : AV} (h : kindP n (at_ ++ [nm]) = 3 ∧ (left ≠ [] ∨ into = true ∨ find = true)) (k : FolP n id s0 en iw find b left at_ (at_ ++ [nm]) into x s') : NamP n id s0 en iw find b left at_ nm into (.tup [.i .u8 0, .b false, x]) s' := by
  unfold NamP; rw [if_pos h]; exact ⟨x, rfl, k⟩
theorem NamP.d (h : kindP n (at_ ++ [nm]) = 2) (k : Wk id s0 s' en iw find b left (at_ ++ [nm]) into) : NamP n id s0 en iw find b left at_ nm into (.tup [.i .u8 (kindP n (at_ ++ [nm]) : Nat), .b (decide (left = [])), .i .i64 0]) s' := by
  unfold NamP; rw [if_neg (by omega), if_pos h]; exact ⟨rfl, k⟩
theorem NamP.f (h : kindP n (at_ ++ [nm]) = 1 ∧ (left ≠ [] ∨ into = true)) (k : Gone s0 s' en) : NamP n id s0 en iw find b left at_ nm into (.tup [.i .u8 0, .b false, .i .i64 55]) s' := by
  unfold NamP; rw [if_neg (by omega), if_neg (by omega), if_pos h]; exact ⟨rfl, k⟩
theorem NamP.no (h : kindP n (at_ ++ [nm]) = 0 ∧ left ≠ []) (k : Gone s0 s' en) : NamP n id s0 en iw find b left at_ nm into (.tup [.i .u8 0, .b false, .i .i64 5]) s' := by
  unfold NamP; rw [if_neg (by omega), if_neg (by omega), if_neg (by omega), if_pos h]; exact ⟨rfl, k⟩
theorem NamP.e (h3 : ¬ (kindP n (at_ ++ [nm]) = 3 ∧ (left ≠ [] ∨ into = true ∨ find = true))) (h2 : kindP n (at_ ++ [nm]) ≠ 2) (h1 : ¬ (kindP n (at_ ++ [nm]) = 1 ∧ (left ≠ [] ∨ into = true))) (h0 : ¬ (kindP n (at_ ++ [nm]) = 0 ∧ left ≠ [])) (k : Wk id s0 s' en iw find b left (at_ ++ [nm]) into) :
    NamP n id s0 en iw find b left at_ nm into (.tup [.i .u8 (kindP n (at_ ++ [nm]) : Nat), .b true, .i .i64 0]) s' := by
  unfold NamP; rw [if_neg h3, if_neg h2, if_neg h1, if_neg h0]; exact ⟨rfl, k⟩
end
theorem FolP.leave {n : ND} {id : Nat} {s0 s s1 : St} {en : En} {R : List RA} {B : List (Nat × Box)} {iw b : Nat} {find into : Bool} {left at_ pl : List (List Nat)} {r : AV} (H : Hp s0 s en R B) (hiw : iw < s.nb) (h : FolP n id s0 s.en iw find b left at_ pl into r s1) (v : AV) (hB : ∀ {R B}, Hp s0 s1 s.en R B → Gone s0 (Am.leave s s1 v) en) : FolP n id s0 en iw find b left at_ pl into r (Am.leave s s1 v) := by
  rcases h with ⟨h1, h2, R1, B1, K⟩ | ⟨c, h1, h2, h3⟩
  · exact .inl ⟨h1, h2, hB K⟩
  · exact .inr ⟨c, h1, h2, h3.leave H hiw v⟩
theorem gone_leave {s0 s s1 : St} {en : En} {R R1 : List RA} {B B1 : List (Nat × Box)} (H : Hp s0 s en R B) (K : Hp s0 s1 s.en R1 B1) (v : AV) : Gone s0 (Am.leave s s1 v) en :=
  ⟨[], [], H.leave (n1 := s.en) (K.sel [] [] (by simp) (by simp)) v (fun h => by simp [pick] at h) (.inr fun h => by simp [pick] at h)⟩
theorem leave_le (s s1 : St) (v : AV) : (Am.leave s s1 v).lo ≤ s.lo := by
  unfold Am.leave
  split
  · exact Nat.le_refl _
  · exact Nat.min_le_left _ _
theorem wk_same {id : Nat} {s0 s s1 : St} {en : En} {R : List RA} {B : List (Nat × Box)} {iw b : Nat} {find into : Bool} {left at_ : List (List Nat)} {a lf : AV} (H : Hp s0 s en R B) (hiw : iw < s.nb) (K : Hp s0 s1 s.en R [(iw, wkB id a lf into find (8 - b))]) (ha : Told1 1 a (at_.map .s)) (hl : LfIs R lf left) (hlo : rowTok lf = none ∨ s.lo ≤ iw) (v : AV) :
    Wk id s0 (Am.leave s s1 v) en iw find b left at_ into := by
  refine ⟨R, a, lf, H.leave (n1 := s.en) K v (@fun i p hp => ?_) (.inr fun hr hk => (H.rows hr).tok_lt hk), ha, hl, hlo.imp_right fun h => Nat.le_trans (leave_le s s1 v) h⟩
  cases i with
  | zero => simp only [List.getElem?_cons_zero, Option.some.injEq] at hp; subst hp; exact hiw
  | succ i => simp at hp
theorem name_hp {n : ND} {id : Nat} {s0 s : St} {en : En} {iw b : Nat} {find into : Bool} {left at_ : List (List Nat)} {nm : List Nat} (ht : Tre n id s0) (hwk : Wk id s0 s en iw find b left at_ into) (hb : b ≤ 8) (hat : at_.length < 2 ^ 36)
    (htx : Txt (textP n (at_ ++ [nm])) ∧ (textP n (at_ ++ [nm])).length < 2 ^ 30) (hlf : left.length < 2 ^ 36) :
    ∃ r s', (lim prog).call f_walk_walker_name [.p iw 0, .s nm] s = some (r, s') ∧ NamP n id s0 en iw find b left at_ nm into r s' := by
  have hwk0 := hwk
  obtain ⟨R, a, lf, H, ha, hl, hlo⟩ := hwk
  refine fn_G (Post := NamP n id s0 en iw find b left at_ nm into) p_walk_walker_name rfl rfl ?_
  have H0 := H.enter
  have hiw : iw < s.nb := H.boxLt (i := 0) rfl
  have k1 := below_ok (s := s.enter) H0.wf (H0.boxLt (i := 0) rfl) (H0.box (i := 0) rfl).1 ha (by omega) nm
  have k2 := ht.kind H0.over H0.wf (pl := at_ ++ [nm]) (by simp; omega)
  have l1 := H0.ld 0 (off := 0) (v := .ifc 28 (.p id 0)) rfl rfl
  have l2 := H0.ld 0 (off := 2) (v := lf) rfl rfl
  have l3 := H0.ld 0 (off := 3) (v := .b into) rfl rfl
  have l4 := H0.ld 0 (off := 4) (v := .b find) rfl rfl
  obtain ⟨b1, b2, b3, b4⟩ := hl.ok H0
  have hz0 : wkZ c_walk_walker_name.cin [.p iw 0, .s nm] = [.p iw 0, .s nm] := by simp [c_walk_walker_name, wkZ, wk]
  rw [hz0]
  have lk2 : ∀ f g : Nat, List.lookup 28 [(17, f), (28, g)] = some g := fun f g => by simp [List.lookup]
  obtain ⟨q1, d1, H1, n1, p1⟩ := H0.st 0 (off := 1) (v := tx (at_ ++ [nm])) rfl (by simp) ⟨rfl, rfl⟩
  have wk1 : ∀ v, Wk id s0 (Am.leave s q1 v) en iw find b left (at_ ++ [nm]) into := fun v => wk_same H hiw H1 .ws hl hlo v
  have go : ∀ v, Gone s0 (Am.leave s s.enter v) en := fun v => gone_leave H H0 v
  have dl : ∀ l : List (List Nat), l ≠ [] → ((l.length : Int) = 0) = False := fun l h => by
    have := List.length_pos_iff.2 h
    simp only [eq_iff_iff, iff_false]; omega
  have dl0 : ((([] : List (List Nat)).length : Int) = 0) = True := by simp
  have E : ∀ m : Nat, kindP n (at_ ++ [nm]) = m → ((kindP n (at_ ++ [nm]) : Int) = (m : Int)) = True := fun m h => by rw [h]; simp
  have F : ∀ m : Nat, kindP n (at_ ++ [nm]) ≠ m → ((kindP n (at_ ++ [nm]) : Int) = (m : Int)) = False := fun m h => by simp only [eq_iff_iff, iff_false]; omega
  have fin : (h3 : ¬ (kindP n (at_ ++ [nm]) = 3 ∧ (left ≠ [] ∨ into = true ∨ find = true))) → (h2 : kindP n (at_ ++ [nm]) ≠ 2) → (h1 : ¬ (kindP n (at_ ++ [nm]) = 1 ∧ (left ≠ [] ∨ into = true))) → (h0 : ¬ (kindP n (at_ ++ [nm]) = 0 ∧ left ≠ [])) →
      KH s [.id, .id, .id] (NamP n id s0 en iw find b left at_ nm into) (some ([.i .u8 (kindP n (at_ ++ [nm]) : Nat), .b true, .i .i64 0], q1)) := fun h3 h2 h1 h0 => ⟨_, _, rfl, .e h3 h2 h1 h0 (wk1 _)⟩
  by_cases h3 : kindP n (at_ ++ [nm]) = 3
  · have e3 : ((kindP n (at_ ++ [nm]) : Int) = 3) = True := by simp only [eq_iff_iff, iff_true]; omega
    have e2 : ((kindP n (at_ ++ [nm]) : Int) = 2) = False := by simp only [eq_iff_iff, iff_false]; omega
    have e1 : ((kindP n (at_ ++ [nm]) : Int) = 1) = False := by simp only [eq_iff_iff, iff_false]; omega
    have e0 : ((kindP n (at_ ++ [nm]) : Int) = 0) = False := by simp only [eq_iff_iff, iff_false]; omega
    obtain ⟨r, q2, d2, hf⟩ := follow_hp ht H0 ha hl hb (pl := at_ ++ [nm]) (by simp; omega) htx hlf
    have hr : wk .id r = r := by rcases hf with ⟨_, h, _⟩ | ⟨_, _, h, _⟩ <;> rw [h] <;> simp [wk]
    have hpa : pubA q2 r = some (r, q2) := by rcases hf with ⟨_, h, _⟩ | ⟨_, _, h, _⟩ <;> rw [h] <;> rfl
    have hfin : (left ≠ [] ∨ into = true ∨ find = true) → KH s [.id, .id, .id] (NamP n id s0 en iw find b left at_ nm into) (some ([.i .u8 0, .b false, r], q2)) := fun hc => ⟨_, _, rfl, by simp only [tupOf, wkZ, hr]; exact .l ⟨h3, hc⟩ (hf.leave H hiw _ fun K => gone_leave H K _)⟩
    by_cases c1 : left = []
    · subst c1
      cases c2 : into with
      | true =>
        rw [c2] at l3 hfin
        simp only [c_walk_walker_name, go_sem, W_cond2, WO_guard3, WE_guard3, WQ_guard3, KB_n, KB_x, Nat.reduceBEq, Nat.reduceAdd, Nat.reduceLT, Nat.reduceLeDiff, Nat.reduceEqDiff, reduceIte, Int.reduceEq, reduceCtorEq, k1, k2, lk2, l1, l2, l3, l4, b2, b3, b4, d1, e3, e2, e1, e0, dl0, d2, hpa, Nat.zero_add]
        exact hfin (.inr (.inl rfl))
      | false =>
        rw [c2] at l3 hfin fin
        cases c3 : find with
        | true =>
          rw [c3] at l4 hfin
          simp only [c_walk_walker_name, go_sem, W_cond2, WO_guard3, WE_guard3, WQ_guard3, KB_n, KB_x, Nat.reduceBEq, Nat.reduceAdd, Nat.reduceLT, Nat.reduceLeDiff, Nat.reduceEqDiff, reduceIte, Int.reduceEq, reduceCtorEq, k1, k2, lk2, l1, l2, l3, l4, b2, b3, b4, d1, e3, e2, e1, e0, dl0, d2, hpa, Nat.zero_add]
          exact hfin (.inr (.inr rfl))
        | false =>
          rw [c3] at l4 fin
          simp only [c_walk_walker_name, go_sem, W_cond2, WO_guard3, WE_guard3, WQ_guard3, KB_n, KB_x, Nat.reduceBEq, Nat.reduceAdd, Nat.reduceLT, Nat.reduceLeDiff, Nat.reduceEqDiff, reduceIte, Int.reduceEq, reduceCtorEq, k1, k2, lk2, l1, l2, l3, l4, b2, b3, b4, d1, e3, e2, e1, e0, dl0, Nat.zero_add]
          exact fin (by simp) (by omega) (by simp) (by simp)
    · have c1' := dl _ c1
      simp only [c_walk_walker_name, go_sem, W_cond2, WO_guard3, WE_guard3, WQ_guard3, KB_n, KB_x, Nat.reduceBEq, Nat.reduceAdd, Nat.reduceLT, Nat.reduceLeDiff, Nat.reduceEqDiff, reduceIte, Int.reduceEq, reduceCtorEq, k1, k2, lk2, l1, l2, l3, l4, b2, b3, b4, d1, e3, e2, e1, e0, c1', d2, hpa, Nat.zero_add]
      exact hfin (.inl c1)
  by_cases h2 : kindP n (at_ ++ [nm]) = 2
  · have e3 : ((kindP n (at_ ++ [nm]) : Int) = 3) = False := by simp only [eq_iff_iff, iff_false]; omega
    have e2 : ((kindP n (at_ ++ [nm]) : Int) = 2) = True := by simp only [eq_iff_iff, iff_true]; omega
    have e1 : ((kindP n (at_ ++ [nm]) : Int) = 1) = False := by simp only [eq_iff_iff, iff_false]; omega
    have e0 : ((kindP n (at_ ++ [nm]) : Int) = 0) = False := by simp only [eq_iff_iff, iff_false]; omega
    have hfin : KH s [.id, .id, .id] (NamP n id s0 en iw find b left at_ nm into) (some ([.i .u8 (kindP n (at_ ++ [nm]) : Nat), .b (decide (left = [])), .i .i64 0], q1)) := ⟨_, _, rfl, .d h2 (wk1 _)⟩
    by_cases c1 : left = []
    · subst c1
      simp only [c_walk_walker_name, go_sem, W_cond2, WO_guard3, WE_guard3, WQ_guard3, KB_n, KB_x, Nat.reduceBEq, Nat.reduceAdd, Nat.reduceLT, Nat.reduceLeDiff, Nat.reduceEqDiff, reduceIte, Int.reduceEq, reduceCtorEq, k1, k2, lk2, l1, l2, l3, l4, b2, b3, b4, d1, e3, e2, e1, e0, dl0, Nat.zero_add]
      exact hfin
    · have c1' := dl _ c1
      rw [decide_eq_false c1] at hfin
      simp only [c_walk_walker_name, go_sem, W_cond2, WO_guard3, WE_guard3, WQ_guard3, KB_n, KB_x, Nat.reduceBEq, Nat.reduceAdd, Nat.reduceLT, Nat.reduceLeDiff, Nat.reduceEqDiff, reduceIte, Int.reduceEq, reduceCtorEq, k1, k2, lk2, l1, l2, l3, l4, b2, b3, b4, d1, e3, e2, e1, e0, c1', Nat.zero_add]
      exact hfin
  by_cases h1 : kindP n (at_ ++ [nm]) = 1
  · have e3 : ((kindP n (at_ ++ [nm]) : Int) = 3) = False := by simp only [eq_iff_iff, iff_false]; omega
    have e2 : ((kindP n (at_ ++ [nm]) : Int) = 2) = False := by simp only [eq_iff_iff, iff_false]; omega
    have e1 : ((kindP n (at_ ++ [nm]) : Int) = 1) = True := by simp only [eq_iff_iff, iff_true]; omega
    have e0 : ((kindP n (at_ ++ [nm]) : Int) = 0) = False := by simp only [eq_iff_iff, iff_false]; omega
    have hfin : (left ≠ [] ∨ into = true) → KH s [.id, .id, .id] (NamP n id s0 en iw find b left at_ nm into) (some ([.i .u8 0, .b false, .i .i64 55], s.enter)) := fun hc => ⟨_, _, rfl, .f ⟨h1, hc⟩ (go _)⟩
    by_cases c1 : left = []
    · subst c1
      cases c2 : into with
      | true =>
        rw [c2] at l3 hfin
        simp only [c_walk_walker_name, go_sem, W_cond2, WO_guard3, WE_guard3, WQ_guard3, KB_n, KB_x, Nat.reduceBEq, Nat.reduceAdd, Nat.reduceLT, Nat.reduceLeDiff, Nat.reduceEqDiff, reduceIte, Int.reduceEq, reduceCtorEq, k1, k2, lk2, l1, l2, l3, l4, b2, b3, b4, d1, e3, e2, e1, e0, dl0, Nat.zero_add]
        exact hfin (.inr rfl)
      | false =>
        rw [c2] at l3 fin
        simp only [c_walk_walker_name, go_sem, W_cond2, WO_guard3, WE_guard3, WQ_guard3, KB_n, KB_x, Nat.reduceBEq, Nat.reduceAdd, Nat.reduceLT, Nat.reduceLeDiff, Nat.reduceEqDiff, reduceIte, Int.reduceEq, reduceCtorEq, k1, k2, lk2, l1, l2, l3, l4, b2, b3, b4, d1, e3, e2, e1, e0, dl0, Nat.zero_add]
        exact fin (fun h => by omega) (by omega) (by simp) (by simp)
    · have c1' := dl _ c1
      simp only [c_walk_walker_name, go_sem, W_cond2, WO_guard3, WE_guard3, WQ_guard3, KB_n, KB_x, Nat.reduceBEq, Nat.reduceAdd, Nat.reduceLT, Nat.reduceLeDiff, Nat.reduceEqDiff, reduceIte, Int.reduceEq, reduceCtorEq, k1, k2, lk2, l1, l2, l3, l4, b2, b3, b4, d1, e3, e2, e1, e0, c1', Nat.zero_add]
      exact hfin (.inl c1)
  by_cases h0 : kindP n (at_ ++ [nm]) = 0
  · have e3 : ((kindP n (at_ ++ [nm]) : Int) = 3) = False := by simp only [eq_iff_iff, iff_false]; omega
    have e2 : ((kindP n (at_ ++ [nm]) : Int) = 2) = False := by simp only [eq_iff_iff, iff_false]; omega
    have e1 : ((kindP n (at_ ++ [nm]) : Int) = 1) = False := by simp only [eq_iff_iff, iff_false]; omega
    have e0 : ((kindP n (at_ ++ [nm]) : Int) = 0) = True := by simp only [eq_iff_iff, iff_true]; omega
    have hfin : left ≠ [] → KH s [.id, .id, .id] (NamP n id s0 en iw find b left at_ nm into) (some ([.i .u8 0, .b false, .i .i64 5], s.enter)) := fun hc => ⟨_, _, rfl, .no ⟨h0, hc⟩ (go _)⟩
    by_cases c1 : left = []
    · subst c1
      simp only [c_walk_walker_name, go_sem, W_cond2, WO_guard3, WE_guard3, WQ_guard3, KB_n, KB_x, Nat.reduceBEq, Nat.reduceAdd, Nat.reduceLT, Nat.reduceLeDiff, Nat.reduceEqDiff, reduceIte, Int.reduceEq, reduceCtorEq, k1, k2, lk2, l1, l2, l3, l4, b2, b3, b4, d1, e3, e2, e1, e0, dl0, Nat.zero_add]
      exact fin (fun h => by omega) (by omega) (fun h => by omega) (by simp)
    · have c1' := dl _ c1
      simp only [c_walk_walker_name, go_sem, W_cond2, WO_guard3, WE_guard3, WQ_guard3, KB_n, KB_x, Nat.reduceBEq, Nat.reduceAdd, Nat.reduceLT, Nat.reduceLeDiff, Nat.reduceEqDiff, reduceIte, Int.reduceEq, reduceCtorEq, k1, k2, lk2, l1, l2, l3, l4, b2, b3, b4, d1, e3, e2, e1, e0, c1', Nat.zero_add]
      exact hfin c1
  · have e3 : ((kindP n (at_ ++ [nm]) : Int) = 3) = False := F 3 h3
    have e2 : ((kindP n (at_ ++ [nm]) : Int) = 2) = False := F 2 h2
    have e1 : ((kindP n (at_ ++ [nm]) : Int) = 1) = False := F 1 h1
    have e0 : ((kindP n (at_ ++ [nm]) : Int) = 0) = False := F 0 h0
    have f := fin (fun h => h3 h.1) h2 (fun h => h1 h.1) (fun h => h0 h.1)
    by_cases c1 : left = []
    · subst c1
      simp only [c_walk_walker_name, go_sem, W_cond2, WO_guard3, WE_guard3, WQ_guard3, KB_n, KB_x, Nat.reduceBEq, Nat.reduceAdd, Nat.reduceLT, Nat.reduceLeDiff, Nat.reduceEqDiff, reduceIte, Int.reduceEq, reduceCtorEq, k1, k2, lk2, l1, l2, l3, l4, b2, b3, b4, d1, e3, e2, e1, e0, dl0, Nat.zero_add]
      exact f
    · have c1' := dl _ c1
      simp only [c_walk_walker_name, go_sem, W_cond2, WO_guard3, WE_guard3, WQ_guard3, KB_n, KB_x, Nat.reduceBEq, Nat.reduceAdd, Nat.reduceLT, Nat.reduceLeDiff, Nat.reduceEqDiff, reduceIte, Int.reduceEq, reduceCtorEq, k1, k2, lk2, l1, l2, l3, l4, b2, b3, b4, d1, e3, e2, e1, e0, c1', Nat.zero_add]
      exact f
end Go.Proofs.YtkkfjoiffcmpeaaDoor

/-
  The walker goes a path.
-/
set_option maxRecDepth 100000
set_option maxHeartbeats 2000000
set_option linter.unusedSimpArgs false
set_option linter.constructorNameAsVariable false
namespace Go.Proofs.YtkkfjoiffcmpeaaDoor
open Go.Proofs.YtkkfjoiffcmpeaaDoor.Am
attribute [local irreducible] W WO WE WQ WD Tr.get Tr.set
theorem mem_kidN {n k : ND} {s : List Nat} (h : kidN n s = some k) : k ∈ n.kids := by
  unfold kidN at h
  split at h
  · split at h
    · exact List.mem_of_getElem? h
    · cases h
  · cases h
theorem findP_ok : ∀ {pl : List (List Nat)} {n x : ND}, n.Ok → wellN n = true → findP n pl = some x → x.Ok ∧ wellN x = true
  | [], n, x, h1, h2, h => by simp only [findP, Option.some.injEq] at h; subst h; exact ⟨h1, h2⟩
  | s :: pl, n, x, h1, h2, h => by
    simp only [findP] at h
    cases hk : kidN n s with
    | none => rw [hk] at h; cases h
    | some k =>
      rw [hk] at h
      have hm := mem_kidN hk
      obtain ⟨i, hi, he⟩ := List.mem_iff_getElem.1 hm
      have hg : n.kids[i]? = some k := by rw [List.getElem?_eq_getElem hi, he]
      exact findP_ok (h1.kids.1 k hm) ((wellD h2).kid hg) h
theorem well_text {n : ND} (h : wellN n = true) : n.text.length ≤ 256 := by
  rw [wellN_eq] at h
  split at h
  · simp only [Bool.and_eq_true, decide_eq_true_eq] at h
    exact h.2.2.1
  · split at h
    · simp only [Bool.and_eq_true, decide_eq_true_eq] at h
      rw [h.1]; simp
    · cases h
theorem well_kind {n : ND} (h : wellN n = true) : n.kind = 1 ∨ n.kind = 2 ∨ n.kind = 3 := by
  rw [wellN_eq] at h
  split at h
  · omega
  · split at h
    · omega
    · cases h
theorem text_bound {n : ND} (h1 : n.Ok) (h2 : wellN n = true) (pl : List (List Nat)) : Txt (textP n pl) ∧ (textP n pl).length ≤ 256 := by
  unfold textP foundN
  cases hf : findP n pl with
  | none => exact ⟨⟨by simp [noN, ND.text], by simp [noN, ND.text]⟩, by simp [noN, ND.text]⟩
  | some x =>
    obtain ⟨k1, k2⟩ := findP_ok h1 h2 hf
    exact ⟨k1.text.1, well_text k2⟩
theorem kind_le {n : ND} (h1 : n.Ok) (h2 : wellN n = true) (pl : List (List Nat)) : kindP n pl ≤ 3 := by
  unfold kindP foundN
  cases hf : findP n pl with
  | none => simp [noN, ND.kind]
  | some x => have := well_kind (findP_ok h1 h2 hf).2; simp only [Option.getD_some]; omega
theorem lf_head {R : List RA} {lf : AV} {nm : List Nat} {left : List (List Nat)} (h : LfIs R lf (nm :: left)) {s0 s : St} {en : En} {B : List (Nat × Box)} (H : Hp s0 s en R B) :
    ((∃ c, lf = .sl 1 (.s nm :: left.map .s) c ∧ ldA s false 1 (.ep [.s nm] 0 c) = some (.s nm)) ∨ ∃ f, lf = .ws f 1 (.s nm :: left.map .s)) ∧
    ∃ lf' q, sliceA s false 1 lf (some (.i .i64 1)) none none = some (lf', q) ∧ Hp s0 q en [] B ∧ Told1 1 lf' (left.map .s) := by
  have hb : bounds (AV.s nm :: left.map AV.s).length (some (.i .i64 1)) none = some (1, (AV.s nm :: left.map AV.s).length) := bounds_io (a := 1) (by simp)
  have hd : ((AV.s nm :: left.map AV.s).drop 1).take ((AV.s nm :: left.map AV.s).length - 1) = left.map .s := by
    simp only [List.drop_succ_cons, List.drop_zero, List.length_cons, Nat.add_sub_cancel]
    exact List.take_length
  have key : ∀ {lf : AV}, Told1 1 lf (AV.s nm :: left.map AV.s) → Hp s0 s en [] B →
      ((∃ c, lf = .sl 1 (.s nm :: left.map .s) c ∧ ldA s false 1 (.ep [.s nm] 0 c) = some (.s nm)) ∨ ∃ f, lf = .ws f 1 (.s nm :: left.map .s)) ∧
      ∃ lf' q, sliceA s false 1 lf (some (.i .i64 1)) none none = some (lf', q) ∧ Hp s0 q en [] B ∧ Told1 1 lf' (left.map .s) := by
    intro lf h H
    rcases h with ⟨_, h⟩ | ⟨_, h⟩ | rfl | rfl | rfl | rfl
    · cases h
    · cases h
    · exact ⟨.inl ⟨_, rfl, rfl⟩, .sl 1 (left.map .s) .full, s, by simp only [sliceA, if_true, hb, hd]; simp, H, .inr (.inr (.inl rfl))⟩
    · exact ⟨.inl ⟨_, rfl, rfl⟩, .sl 1 (left.map .s) .shut, s, by simp only [sliceA, if_true, hb, hd]; simp, H, .inr (.inr (.inr (.inl rfl)))⟩
    · exact ⟨.inr ⟨_, rfl⟩, .ws false 1 (left.map .s), s, by simp only [sliceA, if_true, hb, hd]; simp, H, .ws⟩
    · exact ⟨.inr ⟨_, rfl⟩, .ws false 1 (left.map .s), s, by simp only [sliceA, if_true, hb, hd]; simp, H, .ws⟩
  rcases h with ⟨rfl, h⟩ | ⟨fr, rfl⟩
  · exact key h H
  · rcases H.rows (i := 0) rfl with hf | ⟨k, v, t, e, k1, k2, k3, k4, k5, k6, k7⟩
    · exact key hf.told (H.sel [] (List.range B.length) (by simp) List.nodup_range |> fun h => by rw [pick_range] at h; exact h)
    · simp only at e k5
      subst e
      refine ⟨.inl ⟨_, rfl, ?_⟩, .sl 1 (left.map .s) .shut, s.setTok k { t with pub := max t.pub (AV.s nm :: left.map AV.s).length }, ?_, ?_, .inr (.inr (.inr (.inl rfl)))⟩
      · simp [ldA, St.ok, k3, k4, cut, scal]
      · have hne : ¬ (1 = 0 ∧ (AV.s nm :: left.map AV.s).length = (AV.s nm :: left.map AV.s).length) := by simp
        simp only [sliceA, List.map_cons, if_true, hb, hd, k3, k4]
        simp
      · have := H.setTok (i := 0) rfl rfl k3 ((nm :: left).map .s) { t with pub := max t.pub (AV.s nm :: left.map AV.s).length } v false k4 k5 rfl (fun hh => by cases hh)
        exact this.sel [] (List.range B.length) (by simp) List.nodup_range |> fun h => by rw [pick_range] at h; exact h
theorem told_pop {es m : Nat} {a : AV} {xs : List AV} (h : Told1 es a xs) (hm : m ≤ xs.length) (s : St) : ∃ a', sliceA s true es a none (some (.i .i64 (m : Int))) none = some (a', s) ∧ Told1 es a' (xs.take m) := by
  have hb : bounds xs.length none (some (.i .i64 (m : Int))) = some (0, m) := bounds_oi hm
  rcases h with ⟨rfl, rfl⟩ | ⟨rfl, rfl⟩ | rfl | rfl | rfl | rfl
  · obtain rfl : m = 0 := by simpa using hm
    exact ⟨.nsl, rfl, .inl ⟨rfl, rfl⟩⟩
  · obtain rfl : m = 0 := by simpa using hm
    exact ⟨.wz, rfl, .inr (.inl ⟨rfl, rfl⟩)⟩
  all_goals
    unfold sliceA
    simp only [if_true, hb, List.drop_zero, Nat.sub_zero]
    by_cases hx : m = xs.length
    · rw [if_pos ⟨trivial, hx⟩, hx, List.take_length]
      exact ⟨_, rfl, by first | exact .inr (.inr (.inl rfl)) | exact .inr (.inr (.inr (.inl rfl))) | exact .ws⟩
    · rw [if_neg (fun hh => hx hh.2)]
      try rw [if_neg hx]
      exact ⟨_, rfl, by first | exact .inr (.inr (.inr (.inl rfl))) | exact .ws⟩
def WR.av : WR → AV
  | .ok pl k => .tup [tx pl, .i .u8 (k : Nat), .i .i64 0]
  | .err e => .tup [tx [], .i .u8 0, .i .i64 (e : Nat)]
def RunP (s0 : St) (en : En) (w : WR) (r : AV) (s' : St) : Prop := r = w.av ∧ Gone s0 s' en
theorem n61 : ((61 : Int) ≠ 0) = True := by simp
theorem n55 : ((55 : Int) ≠ 0) = True := by simp
theorem n5 : ((5 : Int) ≠ 0) = True := by simp
theorem n0 : ((0 : Int) ≠ 0) = False := by simp
theorem run_hp {n : ND} {id : Nat} {s0 s : St} {en : En} {iw : Nat} {find into : Bool} {left at_ : List (List Nat)} {R : List RA} {a lf : AV} (ht : Tre n id s0) (H : Hp s0 s en R [(iw, wkB id a lf into find 0)]) (ha : Told1 1 a (at_.map .s)) (hl : LfIs R lf left) (hlen : at_.length + left.length < 2 ^ 34) :
    ∃ r s', (lim prog).call f_walk_walker_run [.p iw 0] s = some (r, s') ∧ RunP s0 en (walkL n find 8 left at_ into) r s' := by
  refine fn_G (Post := RunP s0 en (walkL n find 8 left at_ into)) p_walk_walker_run rfl rfl ?_
  have HH := H
  have H0 := H.enter
  have hiw : iw < s.nb := H.boxLt (i := 0) rfl
  have hz0 : wkZ c_walk_walker_run.cin [.p iw 0] = [.p iw 0] := by simp [c_walk_walker_run, wkZ, wk]
  rw [hz0]
  generalize hw : walkL n find 8 left at_ into = w
  simp only [c_walk_walker_run, go_sem, W_cond2, WO_guard3, WE_guard3, WQ_guard3, KB_n, KB_x, Nat.reduceBEq, Nat.reduceAdd, Nat.reduceLT, Nat.reduceLeDiff, Nat.reduceEqDiff, reduceIte, Int.reduceEq, reduceCtorEq]
  refine W_loop (fun x e q => ∃ (b : Nat) (left at_ : List (List Nat)) (into : Bool) (R : List RA) (a lf : AV), Hp s0 q s.en R [(iw, wkB id a lf into find (8 - b))] ∧ Told1 1 a (at_.map .s) ∧ LfIs R lf left ∧ b ≤ 8 ∧ at_.length + left.length + 300 * b < 2 ^ 35 ∧ walkL n find b left at_ into = w ∧ x = 300 * b + left.length ∧ e.get 0 = .p iw 0) ?_ (300 * 8 + left.length) _ _ ?_
  · rintro x e q ⟨b, left, at_, into, R, a, lf, H, ha, hl, hb, hlen, hw, rfl, g0⟩
    obtain ⟨b1, b2, b3, b4⟩ := hl.ok H
    have l1 := H.ld 0 (off := 2) (v := lf) rfl rfl
    cases left with
    | nil =>
      have c1 : (0 < ((([] : List (List Nat)).length : Nat) : Int)) = False := by simp
      have l2 := H.ld 0 (off := 1) (v := a) rfl rfl
      simp only [go_sem, W_cond2, WO_guard3, WE_guard3, WQ_guard3, KB_n, KB_x, Nat.reduceBEq, Nat.reduceAdd, Nat.reduceLT, Nat.reduceLeDiff, Nat.reduceEqDiff, reduceIte, Int.reduceEq, reduceCtorEq, g0, l1, b2, b3, b4, c1, l2, ha.ld, ha.pubA, Nat.zero_add]
      rw [walkN] at hw
      refine ⟨_, _, rfl, ?_, gone_leave HH H _⟩
      rw [← hw]
      simp only [tupOf, wkZ, ha.wk (wkM_s _), WR.av]
      rfl
    | cons nm left =>
      have c1 : (0 < (((nm :: left).length : Nat) : Int)) = True := by simp only [List.length_cons, eq_iff_iff, iff_true]; omega
      obtain ⟨hlf, lf', q2, d2, H2, t2⟩ := lf_head hl H
      obtain ⟨q3, d3, H3, n3, p3⟩ := H2.st 0 (off := 2) (v := lf') rfl (by simp) ⟨t2.cells.1, t2.cells.2.1⟩
      have hn0 : natOf (.i .i64 0) = some 0 := rfl
      have hg : (AV.s nm :: left.map AV.s)[0]? = some (.s nm) := rfl
      rcases hlf with ⟨c, rfl, hld⟩ | ⟨f, rfl⟩
      · simp only [go_sem, W_cond2, WO_guard3, WE_guard3, WQ_guard3, KB_n, KB_x, Nat.reduceBEq, Nat.reduceAdd, Nat.reduceLT, Nat.reduceLeDiff, Nat.reduceEqDiff, reduceIte, Int.reduceEq, reduceCtorEq, g0, l1, b2, b3, b4, c1, hn0, hg, cells_s, hld, d2, d3, Nat.zero_add]
        by_cases hd : nm = [46, 46]
        · have hd' : (nm = [46, 46]) = True := by simp [hd]
          subst hd
          rw [walk_dd] at hw
          have hw1 : IntKind.i64.wrap ((at_.length : Int) - 1) = (at_.length : Int) - 1 := by
            by_cases h0 : at_.length = 0
            · rw [h0]; rfl
            · rw [show (at_.length : Int) - 1 = ((at_.length - 1 : Nat) : Int) by omega]; exact wrap_nat (by omega)
          have hmx : (if (at_.length : Int) - 1 > 0 then (at_.length : Int) - 1 else 0) = ((at_.length - 1 : Nat) : Int) := by split <;> omega
          obtain ⟨a', d4, t4⟩ := told_pop (m := at_.length - 1) ha (by rw [List.length_map]; omega) q3
          obtain ⟨q5, d5, H5, n5, p5⟩ := H3.st 0 (off := 1) (v := a') rfl (by simp) ⟨t4.cells.1, t4.cells.2.1⟩
          have l5 := H3.ld 0 (off := 1) (v := a) rfl rfl
          have hal : ∀ q, lenA q 1 a = some (.i .i64 (at_.length : Nat)) := fun q => by have := ha.len q; rw [List.length_map] at this; exact this
          simp only [go_sem, W_cond2, WO_guard3, WE_guard3, WQ_guard3, KB_n, KB_x, Nat.reduceBEq, Nat.reduceAdd, Nat.reduceLT, Nat.reduceLeDiff, Nat.reduceEqDiff, reduceIte, Int.reduceEq, reduceCtorEq, hd', g0, l5, ha.ld, hal, hw1, d4, d5, Nat.zero_add, hmx, true_or, true_and]
          exact ⟨_, by simp only [List.length_cons]; omega, b, left, at_.dropLast, into, [], a', lf', H5, by rw [List.dropLast_eq_take, List.map_take]; exact t4, .inl ⟨rfl, t2⟩, hb, by simp only [List.length_dropLast, List.length_cons] at hlen ⊢; omega, hw, rfl⟩
        · have hd' : (nm = [46, 46]) = False := by simp [hd]
          obtain ⟨tb1, tb2⟩ := text_bound ht.ok ht.well (at_ ++ [nm])
          have hlen' : at_.length + left.length + 300 * b + 1 < 2 ^ 35 := by simp only [List.length_cons] at hlen; omega
          obtain ⟨r, q4, d4, hN⟩ := name_hp (nm := nm) ht ⟨[], a, lf', H3, ha, .inl ⟨rfl, t2⟩, .inl t2.cells.2.2⟩ hb (by omega) ⟨tb1, by omega⟩ (by omega)
          have hsl := stepsL_len (textP n (at_ ++ [nm]))
          unfold NamP at hN
          split at hN
          · rename_i hk
            obtain ⟨x, rfl, hf⟩ := hN
            rcases hf with ⟨rfl, rfl, R5, B5, H5⟩ | ⟨c', rfl, rfl, R5, a5, lf5, H5, ha5, hl5, _⟩
            · rw [walk_l0 hd hk] at hw
              simp only [go_sem, W_cond2, WO_guard3, WE_guard3, WQ_guard3, KB_n, KB_x, Nat.reduceBEq, Nat.reduceAdd, Nat.reduceLT, Nat.reduceLeDiff, Nat.reduceEqDiff, reduceIte, Int.reduceEq, reduceCtorEq, hd', g0, d4, n61, n55, n5, n0, Nat.zero_add]
              exact ⟨_, _, rfl, by rw [← hw]; rfl, gone_leave HH H5 _⟩
            · rw [walk_l1 c' hd hk] at hw
              simp only [go_sem, W_cond2, WO_guard3, WE_guard3, WQ_guard3, KB_n, KB_x, Nat.reduceBEq, Nat.reduceAdd, Nat.reduceLT, Nat.reduceLeDiff, Nat.reduceEqDiff, reduceIte, Int.reduceEq, reduceCtorEq, hd', g0, d4, n61, n55, n5, n0, Nat.zero_add]
              exact ⟨300 * c' + (stepsL (textP n (at_ ++ [nm])) ++ left).length, by simp only [List.length_cons, List.length_append]; omega, c', stepsL (textP n (at_ ++ [nm])) ++ left, if absP (textP n (at_ ++ [nm])) = true then [] else at_, _, R5, a5, lf5, H5, ha5, hl5, by omega, by simp only [List.length_append]; split <;> (try simp only [List.length_nil]) <;> omega, hw, rfl⟩
          split at hN
          · rename_i hk2
            obtain ⟨rfl, R5, a5, lf5, H5, ha5, hl5, _⟩ := hN
            rw [walk_d b hd hk2] at hw
            by_cases hle : left = []
            · subst hle
              rw [walkN] at hw
              have l5 := H5.ld 0 (off := 1) (v := a5) rfl rfl
              simp only [go_sem, W_cond2, WO_guard3, WE_guard3, WQ_guard3, KB_n, KB_x, Nat.reduceBEq, Nat.reduceAdd, Nat.reduceLT, Nat.reduceLeDiff, Nat.reduceEqDiff, reduceIte, Int.reduceEq, reduceCtorEq, hd', g0, d4, n61, n55, n5, n0, l5, ha5.ld, ha5.pubA, Nat.zero_add, decide_true]
              refine ⟨_, _, rfl, ?_, gone_leave HH H5 _⟩
              rw [← hw]
              simp only [tupOf, wkZ, ha5.wk (wkM_s _), WR.av, hk2]
              rfl
            · rw [decide_eq_false hle] at d4
              simp only [go_sem, W_cond2, WO_guard3, WE_guard3, WQ_guard3, KB_n, KB_x, Nat.reduceBEq, Nat.reduceAdd, Nat.reduceLT, Nat.reduceLeDiff, Nat.reduceEqDiff, reduceIte, Int.reduceEq, reduceCtorEq, hd', g0, d4, n61, n55, n5, n0, Nat.zero_add]
              exact ⟨_, by simp only [List.length_cons]; omega, b, left, _, into, R5, a5, lf5, H5, ha5, hl5, hb, by simp only [List.length_append, List.length_cons, List.length_nil]; omega, hw, rfl⟩
          split at hN
          · rename_i hk1
            obtain ⟨rfl, R5, B5, H5⟩ := hN
            rw [walk_f b hd hk1] at hw
            simp only [go_sem, W_cond2, WO_guard3, WE_guard3, WQ_guard3, KB_n, KB_x, Nat.reduceBEq, Nat.reduceAdd, Nat.reduceLT, Nat.reduceLeDiff, Nat.reduceEqDiff, reduceIte, Int.reduceEq, reduceCtorEq, hd', g0, d4, n61, n55, n5, n0, Nat.zero_add]
            exact ⟨_, _, rfl, by rw [← hw]; rfl, gone_leave HH H5 _⟩
          split at hN
          · rename_i hk0
            obtain ⟨rfl, R5, B5, H5⟩ := hN
            rw [walk_n b hd hk0] at hw
            simp only [go_sem, W_cond2, WO_guard3, WE_guard3, WQ_guard3, KB_n, KB_x, Nat.reduceBEq, Nat.reduceAdd, Nat.reduceLT, Nat.reduceLeDiff, Nat.reduceEqDiff, reduceIte, Int.reduceEq, reduceCtorEq, hd', g0, d4, n61, n55, n5, n0, Nat.zero_add]
            exact ⟨_, _, rfl, by rw [← hw]; rfl, gone_leave HH H5 _⟩
          · rename_i hk3 hk2 hk1 hk0
            obtain ⟨rfl, R5, a5, lf5, H5, ha5, hl5, _⟩ := hN
            rw [walk_e b hd hk3 hk2 hk1 hk0] at hw
            have l5 := H5.ld 0 (off := 1) (v := a5) rfl rfl
            simp only [go_sem, W_cond2, WO_guard3, WE_guard3, WQ_guard3, KB_n, KB_x, Nat.reduceBEq, Nat.reduceAdd, Nat.reduceLT, Nat.reduceLeDiff, Nat.reduceEqDiff, reduceIte, Int.reduceEq, reduceCtorEq, hd', g0, d4, n61, n55, n5, n0, l5, ha5.ld, ha5.pubA, Nat.zero_add]
            refine ⟨_, _, rfl, ?_, gone_leave HH H5 _⟩
            rw [← hw]
            simp only [tupOf, wkZ, ha5.wk (wkM_s _), WR.av]
            rfl
      · simp only [go_sem, W_cond2, WO_guard3, WE_guard3, WQ_guard3, KB_n, KB_x, Nat.reduceBEq, Nat.reduceAdd, Nat.reduceLT, Nat.reduceLeDiff, Nat.reduceEqDiff, reduceIte, Int.reduceEq, reduceCtorEq, g0, l1, b2, b3, b4, c1, hn0, hg, cells_s, ldA_1, d2, d3, Nat.zero_add]
        by_cases hd : nm = [46, 46]
        · have hd' : (nm = [46, 46]) = True := by simp [hd]
          subst hd
          rw [walk_dd] at hw
          have hw1 : IntKind.i64.wrap ((at_.length : Int) - 1) = (at_.length : Int) - 1 := by
            by_cases h0 : at_.length = 0
            · rw [h0]; rfl
            · rw [show (at_.length : Int) - 1 = ((at_.length - 1 : Nat) : Int) by omega]; exact wrap_nat (by omega)
          have hmx : (if (at_.length : Int) - 1 > 0 then (at_.length : Int) - 1 else 0) = ((at_.length - 1 : Nat) : Int) := by split <;> omega
          obtain ⟨a', d4, t4⟩ := told_pop (m := at_.length - 1) ha (by rw [List.length_map]; omega) q3
          obtain ⟨q5, d5, H5, n5, p5⟩ := H3.st 0 (off := 1) (v := a') rfl (by simp) ⟨t4.cells.1, t4.cells.2.1⟩
          have l5 := H3.ld 0 (off := 1) (v := a) rfl rfl
          have hal : ∀ q, lenA q 1 a = some (.i .i64 (at_.length : Nat)) := fun q => by have := ha.len q; rw [List.length_map] at this; exact this
          simp only [go_sem, W_cond2, WO_guard3, WE_guard3, WQ_guard3, KB_n, KB_x, Nat.reduceBEq, Nat.reduceAdd, Nat.reduceLT, Nat.reduceLeDiff, Nat.reduceEqDiff, reduceIte, Int.reduceEq, reduceCtorEq, hd', g0, l5, ha.ld, hal, hw1, d4, d5, Nat.zero_add, hmx, true_or, true_and]
          exact ⟨_, by simp only [List.length_cons]; omega, b, left, at_.dropLast, into, [], a', lf', H5, by rw [List.dropLast_eq_take, List.map_take]; exact t4, .inl ⟨rfl, t2⟩, hb, by simp only [List.length_dropLast, List.length_cons] at hlen ⊢; omega, hw, rfl⟩
        · have hd' : (nm = [46, 46]) = False := by simp [hd]
          obtain ⟨tb1, tb2⟩ := text_bound ht.ok ht.well (at_ ++ [nm])
          have hlen' : at_.length + left.length + 300 * b + 1 < 2 ^ 35 := by simp only [List.length_cons] at hlen; omega
          obtain ⟨r, q4, d4, hN⟩ := name_hp (nm := nm) ht ⟨[], a, lf', H3, ha, .inl ⟨rfl, t2⟩, .inl t2.cells.2.2⟩ hb (by omega) ⟨tb1, by omega⟩ (by omega)
          have hsl := stepsL_len (textP n (at_ ++ [nm]))
          unfold NamP at hN
          split at hN
          · rename_i hk
            obtain ⟨x, rfl, hf⟩ := hN
            rcases hf with ⟨rfl, rfl, R5, B5, H5⟩ | ⟨c', rfl, rfl, R5, a5, lf5, H5, ha5, hl5, _⟩
            · rw [walk_l0 hd hk] at hw
              simp only [go_sem, W_cond2, WO_guard3, WE_guard3, WQ_guard3, KB_n, KB_x, Nat.reduceBEq, Nat.reduceAdd, Nat.reduceLT, Nat.reduceLeDiff, Nat.reduceEqDiff, reduceIte, Int.reduceEq, reduceCtorEq, hd', g0, d4, n61, n55, n5, n0, Nat.zero_add]
              exact ⟨_, _, rfl, by rw [← hw]; rfl, gone_leave HH H5 _⟩
            · rw [walk_l1 c' hd hk] at hw
              simp only [go_sem, W_cond2, WO_guard3, WE_guard3, WQ_guard3, KB_n, KB_x, Nat.reduceBEq, Nat.reduceAdd, Nat.reduceLT, Nat.reduceLeDiff, Nat.reduceEqDiff, reduceIte, Int.reduceEq, reduceCtorEq, hd', g0, d4, n61, n55, n5, n0, Nat.zero_add]
              exact ⟨300 * c' + (stepsL (textP n (at_ ++ [nm])) ++ left).length, by simp only [List.length_cons, List.length_append]; omega, c', stepsL (textP n (at_ ++ [nm])) ++ left, if absP (textP n (at_ ++ [nm])) = true then [] else at_, _, R5, a5, lf5, H5, ha5, hl5, by omega, by simp only [List.length_append]; split <;> (try simp only [List.length_nil]) <;> omega, hw, rfl⟩
          split at hN
          · rename_i hk2
            obtain ⟨rfl, R5, a5, lf5, H5, ha5, hl5, _⟩ := hN
            rw [walk_d b hd hk2] at hw
            by_cases hle : left = []
            · subst hle
              rw [walkN] at hw
              have l5 := H5.ld 0 (off := 1) (v := a5) rfl rfl
              simp only [go_sem, W_cond2, WO_guard3, WE_guard3, WQ_guard3, KB_n, KB_x, Nat.reduceBEq, Nat.reduceAdd, Nat.reduceLT, Nat.reduceLeDiff, Nat.reduceEqDiff, reduceIte, Int.reduceEq, reduceCtorEq, hd', g0, d4, n61, n55, n5, n0, l5, ha5.ld, ha5.pubA, Nat.zero_add, decide_true]
              refine ⟨_, _, rfl, ?_, gone_leave HH H5 _⟩
              rw [← hw]
              simp only [tupOf, wkZ, ha5.wk (wkM_s _), WR.av, hk2]
              rfl
            · rw [decide_eq_false hle] at d4
              simp only [go_sem, W_cond2, WO_guard3, WE_guard3, WQ_guard3, KB_n, KB_x, Nat.reduceBEq, Nat.reduceAdd, Nat.reduceLT, Nat.reduceLeDiff, Nat.reduceEqDiff, reduceIte, Int.reduceEq, reduceCtorEq, hd', g0, d4, n61, n55, n5, n0, Nat.zero_add]
              exact ⟨_, by simp only [List.length_cons]; omega, b, left, _, into, R5, a5, lf5, H5, ha5, hl5, hb, by simp only [List.length_append, List.length_cons, List.length_nil]; omega, hw, rfl⟩
          split at hN
          · rename_i hk1
            obtain ⟨rfl, R5, B5, H5⟩ := hN
            rw [walk_f b hd hk1] at hw
            simp only [go_sem, W_cond2, WO_guard3, WE_guard3, WQ_guard3, KB_n, KB_x, Nat.reduceBEq, Nat.reduceAdd, Nat.reduceLT, Nat.reduceLeDiff, Nat.reduceEqDiff, reduceIte, Int.reduceEq, reduceCtorEq, hd', g0, d4, n61, n55, n5, n0, Nat.zero_add]
            exact ⟨_, _, rfl, by rw [← hw]; rfl, gone_leave HH H5 _⟩
          split at hN
          · rename_i hk0
            obtain ⟨rfl, R5, B5, H5⟩ := hN
            rw [walk_n b hd hk0] at hw
            simp only [go_sem, W_cond2, WO_guard3, WE_guard3, WQ_guard3, KB_n, KB_x, Nat.reduceBEq, Nat.reduceAdd, Nat.reduceLT, Nat.reduceLeDiff, Nat.reduceEqDiff, reduceIte, Int.reduceEq, reduceCtorEq, hd', g0, d4, n61, n55, n5, n0, Nat.zero_add]
            exact ⟨_, _, rfl, by rw [← hw]; rfl, gone_leave HH H5 _⟩
          · rename_i hk3 hk2 hk1 hk0
            obtain ⟨rfl, R5, a5, lf5, H5, ha5, hl5, _⟩ := hN
            rw [walk_e b hd hk3 hk2 hk1 hk0] at hw
            have l5 := H5.ld 0 (off := 1) (v := a5) rfl rfl
            simp only [go_sem, W_cond2, WO_guard3, WE_guard3, WQ_guard3, KB_n, KB_x, Nat.reduceBEq, Nat.reduceAdd, Nat.reduceLT, Nat.reduceLeDiff, Nat.reduceEqDiff, reduceIte, Int.reduceEq, reduceCtorEq, hd', g0, d4, n61, n55, n5, n0, l5, ha5.ld, ha5.pubA, Nat.zero_add]
            refine ⟨_, _, rfl, ?_, gone_leave HH H5 _⟩
            rw [← hw]
            simp only [tupOf, wkZ, ha5.wk (wkM_s _), WR.av]
            rfl
  · exact ⟨8, left, at_, into, R, a, lf, H0, ha, hl, Nat.le_refl _, by omega, hw, rfl, by simp only [go_sem, W_cond2, WO_guard3, WE_guard3, WQ_guard3, KB_n, KB_x, Nat.reduceBEq, Nat.reduceAdd, Nat.reduceLT, Nat.reduceLeDiff, Nat.reduceEqDiff, reduceIte, Int.reduceEq, reduceCtorEq]⟩
end Go.Proofs.YtkkfjoiffcmpeaaDoor

/-
  walk.Find and walk.Spot.
-/
set_option maxRecDepth 100000
set_option maxHeartbeats 2000000
set_option linter.unusedSimpArgs false
set_option linter.constructorNameAsVariable false
namespace Go.Proofs.YtkkfjoiffcmpeaaDoor
open Go.Proofs.YtkkfjoiffcmpeaaDoor.Am
attribute [local irreducible] W WO WE WQ WD Tr.get Tr.set
def walkP (n : ND) (find : Bool) (p : List Nat) : WR := walkL n find 8 (stepsL p) [] (dirP p)
theorem walk_len {n : ND} (ht : n.Ok) (hw : wellN n = true) (find : Bool) (b : Nat) (left at_ : List (List Nat)) (into : Bool) : ∀ {pl : List (List Nat)} {k : Nat}, walkL n find b left at_ into = .ok pl k → pl.length ≤ at_.length + left.length + 300 * b := by
  induction b, left, at_, into using walkL.induct n find with
  | case1 b at_ into => intro pl k h; rw [walkN] at h; cases h; omega
  | case2 b at_ into left ih => intro pl k h; rw [walk_dd] at h; have := ih h; simp only [List.length_dropLast, List.length_cons] at this ⊢; omega
  | case3 at_ into s left hs hk => intro pl k h; rw [walk_l0 hs hk] at h; cases h
  | case4 at_ into s left hs hk b ih =>
    intro pl k h; rw [walk_l1 b hs hk] at h
    have := ih h
    have h1 := stepsL_len (textP n (at_ ++ [s]))
    have h2 := (text_bound ht hw (at_ ++ [s])).2
    simp only [List.length_append, List.length_cons] at this ⊢
    split at this <;> (try simp only [List.length_nil] at this) <;> omega
  | case5 b at_ into s left hs hk k2 ih => intro pl k h; rw [walk_d b hs k2] at h; have := ih h; simp only [List.length_append, List.length_cons, List.length_nil] at this ⊢; omega
  | case6 b at_ into s left hs hk k2 k1 => intro pl k h; rw [walk_f b hs k1] at h; cases h
  | case7 b at_ into s left hs hk k2 k1 k0 => intro pl k h; rw [walk_n b hs k0] at h; cases h
  | case8 b at_ into s left hs hk k2 k1 k0 => intro pl k h; rw [walk_e b hs hk k2 k1 k0] at h; cases h; simp only [List.length_append, List.length_cons, List.length_nil]; omega
def WR.pl : WR → List (List Nat)
  | .ok pl _ => pl
  | .err _ => []
def WR.k : WR → Nat
  | .ok _ k => k
  | .err _ => 0
def WR.e : WR → Nat
  | .ok _ _ => 0
  | .err e => e
theorem WR.av_eq (w : WR) : w.av = .tup [tx w.pl, .i .u8 (w.k : Nat), .i .i64 (w.e : Nat)] := by cases w <;> rfl
theorem walkP_len {n : ND} (ht : n.Ok) (hw : wellN n = true) (find : Bool) {p : List Nat} (hl : p.length < 2 ^ 32) : (walkP n find p).pl.length < 2 ^ 34 := by
  have hsl := stepsL_len p
  unfold walkP
  cases h : walkL n find 8 (stepsL p) [] (dirP p) with
  | err e => simp [WR.pl]
  | ok pl k =>
    have := walk_len ht hw find 8 _ _ _ h
    simp only [WR.pl, List.length_nil] at this ⊢
    omega
theorem walk_ok {n : ND} {id : Nat} {s : St} (hw : Wf s) (ht : Tre n id s) (find : Bool) (p : List Nat) (hp : Txt p) (hl : p.length < 2 ^ 32) :
    (lim prog).call f_walk_walk [.ifc 28 (.p id 0), .s p, .b find] s = some ((walkP n find p).av, s) := by
  refine fn_W p_walk_walk rfl rfl ?_
  have H0 := Hp.begin hw
  have hsl := stepsL_len p
  have t1 := pathSteps_ok p hp (by omega) s.enter H0.wf
  have t2 := dir_ok p (by omega) s.enter
  have H1 := H0.new (wkB id .nsl (tx (stepsL p)) (dirP p) find 0)
  generalize hq : s.enter.new (wkB id .nsl (tx (stepsL p)) (dirP p) find 0) = q at H1
  generalize hm : s.enter.nb = m at H1
  obtain ⟨r, q2, d2, rfl, R2, B2, H2⟩ := run_hp (left := stepsL p) (at_ := []) (into := dirP p) ht H1 (.inl ⟨rfl, rfl⟩) (.inl ⟨rfl, .ws⟩) (by simp only [List.length_nil]; omega)
  have hpl := walkP_len ht.ok ht.well find hl
  unfold walkP at hpl ⊢
  generalize walkL n find 8 (stepsL p) [] (dirP p) = w at *
  rw [w.av_eq] at d2 ⊢
  obtain ⟨a, q3, d3, H3, n3, p3⟩ := H2.appN (es := 1) 9 (y := tx w.pl) (.mt) rfl (by simp only [List.length_nil, List.length_map]; omega)
  obtain ⟨r', q4, d4, t4, H4, _⟩ := H3.pub 0 rfl
  have d5 : pubA q3 a = some (r', q4) := by rw [pubA_row (H3.rows (i := 0) rfl)]; exact d4
  have hz0 : wkZ c_walk_walk.cin [.ifc 28 (.p id 0), .s p, .b find] = [.ifc 28 (.p id 0), .s p, .b find] := by simp [c_walk_walk, wkZ, wk]
  rw [hz0]
  have hq' : (s.enter.new (Box.cells 72 [.ifc 28 (.p id 0), .nsl, tx (stepsL p), .b (dirP p), .b find, .i .i64 0])) = q := hq
  have al0 : allLen 1 [] = true := rfl
  simp only [c_walk_walk, go_sem, W_cond2, WO_guard3, WE_guard3, WQ_guard3, KB_n, KB_x, Nat.reduceBEq, Nat.reduceAdd, Nat.reduceLT, Nat.reduceLeDiff, Nat.reduceEqDiff, reduceIte, Int.reduceEq, reduceCtorEq, t1, t2, hq', hm, d2, Nat.zero_add, al0, le11s, d3, d5]
  simp only [List.nil_append] at t4
  exact KR_some H4.over (by simp only [tupOf, AV.refs, AV.refs.go, t4.refs (refs_goS _)]; rfl) (by simp only [tupOf, wkZ, t4.wk (wkM_s _), wk])
theorem find_ok2 {n : ND} {id : Nat} {s : St} (hw : Wf s) (ht : Tre n id s) (p : List Nat) (hp : Txt p) (hl : p.length < 2 ^ 32) :
    (lim prog).call f_walk_Find [.ifc 28 (.p id 0), .s p] s = some ((walkP n true p).av, s) := by
  refine fn_W p_walk_Find rfl rfl ?_
  have h := walk_ok (s := s.enter) hw.enter ⟨ht.ok, ht.well, ht.lt, ht.box⟩ true p hp hl
  have hz0 : wkZ c_walk_Find.cin [.ifc 28 (.p id 0), .s p] = [.ifc 28 (.p id 0), .s p] := by simp [c_walk_Find, wkZ, wk]
  rw [hz0]
  rw [WR.av_eq] at h ⊢
  simp only [c_walk_Find, go_sem, W_cond2, WO_guard3, WE_guard3, WQ_guard3, KB_n, KB_x, Nat.reduceBEq, Nat.reduceAdd, Nat.reduceLT, Nat.reduceLeDiff, Nat.reduceEqDiff, reduceIte, Int.reduceEq, reduceCtorEq, h]
  exact KR_some (Over.enter s) (by simp only [tupOf, AV.refs, AV.refs.go, refs_goS]; rfl) (by simp [tupOf, wkZ, wk, wkM_s])
theorem spot_ok2 {n : ND} {id : Nat} {s : St} (hw : Wf s) (ht : Tre n id s) (p : List Nat) (hp : Txt p) (hl : p.length < 2 ^ 32) :
    (lim prog).call f_walk_Spot [.ifc 28 (.p id 0), .s p] s = some ((walkP n false p).av, s) := by
  refine fn_W p_walk_Spot rfl rfl ?_
  have h := walk_ok (s := s.enter) hw.enter ⟨ht.ok, ht.well, ht.lt, ht.box⟩ false p hp hl
  have hz0 : wkZ c_walk_Spot.cin [.ifc 28 (.p id 0), .s p] = [.ifc 28 (.p id 0), .s p] := by simp [c_walk_Spot, wkZ, wk]
  rw [hz0]
  rw [WR.av_eq] at h ⊢
  simp only [c_walk_Spot, go_sem, W_cond2, WO_guard3, WE_guard3, WQ_guard3, KB_n, KB_x, Nat.reduceBEq, Nat.reduceAdd, Nat.reduceLT, Nat.reduceLeDiff, Nat.reduceEqDiff, reduceIte, Int.reduceEq, reduceCtorEq, h]
  exact KR_some (Over.enter s) (by simp only [tupOf, AV.refs, AV.refs.go, refs_goS]; rfl) (by simp [tupOf, wkZ, wk, wkM_s])
end Go.Proofs.YtkkfjoiffcmpeaaDoor

/-
  Last names.
-/
set_option maxRecDepth 100000
set_option linter.unusedSimpArgs false
set_option linter.constructorNameAsVariable false
namespace Go.Proofs.YtkkfjoiffcmpeaaDoor
open Go.Proofs.YtkkfjoiffcmpeaaDoor.Am
end Go.Proofs.YtkkfjoiffcmpeaaDoor

/-
  What is wrong with a path.
-/
set_option maxRecDepth 100000
set_option linter.unusedSimpArgs false
set_option linter.constructorNameAsVariable false
namespace Go.Proofs.YtkkfjoiffcmpeaaDoor
open Go.Proofs.YtkkfjoiffcmpeaaDoor.Am
def ckOk (x : List Nat) : Bool := decide (x = [46, 46]) || nameP x
def checkL (l : List Nat) : Int := if l = [] ∨ 0 ∈ l then 4 else if 256 < l.length then 40 else if (stepsL l).all ckOk = true then 0 else 4
theorem contains0_ok (l : List Nat) (s : St) : (lim prog).call f_strings_Contains [.s l, .s [0]] s = some (.b (decide (0 ∈ l)), s) := by
  refine fn_W p_strings_Contains rfl rfl ?_
  have hix := index_ok l 0 (by decide) s.enter
  simp only [c_strings_Contains, go_sem, W_cond, WO_guard2, WE_guard2, WQ_guard2, W_regD, KB_n, KB_x, Nat.reduceBEq, Nat.reduceAdd, Nat.reduceLT, Nat.reduceLeDiff, Nat.reduceEqDiff, reduceIte, Int.reduceEq, reduceCtorEq, hix]
  refine KR_some (Over.enter s) rfl ?_
  have := idxB_neg (c := 0) (l := l) (n := 0)
  have h2 : (0 ≤ idxB 0 0 l) = (0 ∈ l) := by
    apply propext
    constructor
    · intro h
      by_cases hm : 0 ∈ l
      · exact hm
      · exact absurd (this.2 hm) (by omega)
    · intro h
      by_cases hn : idxB 0 0 l < 0
      · exact absurd h (this.1 hn)
      · omega
  simp [tupOf, wkZ, wk, h2]
abbrev ckA : C := subC c_path_Check.body [1, 1, 0, 1, 0, 0]
abbrev ckC : C := subC c_path_Check.body [1, 1, 0, 1, 0, 1]
def CkI (l : List Nat) (k ido : Nat) (e : Tr) (j : Nat) (q : St) : Prop :=
  q.box? k = some (.loop 0 none e [17] ckA ckC) ∧ q.box? ido = some (.cells 29 [.i .i64 0]) ∧ ((stepsL l).take j).all ckOk = true
def CkR (l : List Nat) (k ido : Nat) (q : St) : Prop :=
  (∃ tm ps a b, q.box? k = some (.loop 2 (some .ret) tm ps a b)) ∧ q.box? ido = some (.cells 29 [.i .i64 4]) ∧ (stepsL l).all ckOk = false
theorem checkBody {l : List Nat} (hl : Txt l) {s : St} {k ido tB : Nat} {e : Tr} (hido : ido < k) (hs : s.nb ≤ ido) (g2 : e.get 2 = .p ido 0) :
    Body prog (fun _ => False) s (k + 1) tB (.yld k) ((stepsL l).map .s) (CkI l k ido e) (CkR l k ido) where
  stab := fun j q q' ⟨h1, h2, h3⟩ f => ⟨by rw [f.box k (by omega) (by simp)]; exact h1, by rw [f.box ido (by omega) (by simp)]; exact h2, h3⟩
  stab0 := fun q q' ⟨h1, h2, h3⟩ f => ⟨by rw [f.box k (by omega) (by simp)]; exact h1, by rw [f.box ido (by omega) (by simp)]; exact h2, h3⟩
  stabR := fun q q' ⟨⟨tm, ps, a, b, h1⟩, h2, h3⟩ f => ⟨⟨tm, ps, a, b, by rw [f.box k (by omega) (by simp)]; exact h1⟩, by rw [f.box ido (by omega) (by simp)]; exact h2, h3⟩
  step := by
    intro j hj q ⟨hk, hI, hall⟩ hov hw hh ht
    have hj' : j < (stepsL l).length := by simpa using hj
    have hLj : ((stepsL l).map AV.s)[j] = .s (stepsL l)[j] := by simp
    rw [hLj]
    have hmem := stepsL_mem (List.getElem_mem hj')
    obtain ⟨x, hx⟩ : ∃ x, (stepsL l)[j] = x := ⟨_, rfl⟩
    rw [hx] at hmem
    rw [hx]
    have hxt : Txt x := ⟨fun n hn => hl.lt n (hmem.2.2 n hn), by have := hl.len; omega⟩
    have hst : ((stepsL l).take (j + 1)).all ckOk = (((stepsL l).take j).all ckOk && ckOk x) := by
      rw [List.take_succ_eq_append_getElem hj', List.all_append, hx]; simp
    obtain ⟨q1, hq1⟩ : ∃ q1, q.setBox k (.loop 1 none e [17] ckA ckC) = q1 := ⟨_, rfl⟩
    have w1 : Wf q1 := by rw [← hq1]; exact hw.setBox _ _
    have nb1 : q1.nb = q.nb ∧ q1.nt = q.nt := by rw [← hq1]; exact ⟨rfl, rfl⟩
    have bx1 : ∀ i, q1.box? i = if i = k then some (.loop 1 none e [17] ckA ckC) else q.box? i := fun i => by rw [← hq1]; exact setBox_box? hw.b (by omega) i
    have ov1 : Over s q1 := by rw [← hq1]; exact Over.setBox hov (by omega) (by omega) _
    have hb1 : q1.box? ido = some (.cells 29 [.i .i64 0]) := by rw [bx1, if_neg (by omega)]; exact hI
    have keep1 : ∀ i, (False ∨ k + 1 ≤ i) → i < q.nb → q1.box? i = q.box? i := fun i hi hlt => by
      have hi' : k + 1 ≤ i := hi.resolve_left id
      rw [bx1, if_neg (by omega)]
    have b1k := bx1 k
    rw [if_pos rfl] at b1k
    have hgo : ckOk x = true → ∀ e' : Tr, YK k (RoundK (fun _ => False) (k + 1) s q (CkI l k ido e (j + 1)) (CkR l k ido)) .n e' q1 := fun hs' e' => by
      refine round_end b1k (by omega) w1 ov1 (by omega) (by omega) (by omega) (by simp) keep1 (fun _ => ⟨?_, ?_, ?_⟩) (fun hh => by simp at hh) (fun i hh => by simp at hh)
      · rw [setBox_box? w1.b (by omega), if_pos rfl]
      · rw [setBox_box? w1.b (by omega), if_neg (by omega)]; exact hb1
      · rw [hst, hall, hs']; rfl
    refine round_step ?_
    refine callY_W (t := e.set 10 17 (.s x)) hk rfl ?_
    simp only [ckA, c_path_Check, subC, go_sem, W_cond, WO_guard2, WE_guard2, WQ_guard2, W_regD, KB_n, KB_x, Nat.reduceBEq, Nat.reduceAdd, Nat.reduceLT, Nat.reduceLeDiff, Nat.reduceEqDiff, reduceIte, Int.reduceEq, reduceCtorEq]
    refine ⟨_, _, _, _, hk, ?_⟩
    rw [hq1]
    by_cases hd : x = [46, 46]
    · have hd' : (x ≠ [46, 46]) = False := by simp [hd]
      simp only [ckC, c_path_Check, subC, go_sem, W_cond, WO_guard2, WE_guard2, WQ_guard2, W_regD, KB_n, KB_x, Nat.reduceBEq, Nat.reduceAdd, Nat.reduceLT, Nat.reduceLeDiff, Nat.reduceEqDiff, reduceIte, Int.reduceEq, reduceCtorEq, hd']
      exact hgo (by simp [ckOk, hd]) _
    have hd' : (x ≠ [46, 46]) = True := by simp [hd]
    have hname := name_ok x hxt q1 w1
    cases hb2 : nameP x with
    | true =>
      rw [hb2] at hname
      simp only [ckC, c_path_Check, subC, go_sem, W_cond, WO_guard2, WE_guard2, WQ_guard2, W_regD, KB_n, KB_x, Nat.reduceBEq, Nat.reduceAdd, Nat.reduceLT, Nat.reduceLeDiff, Nat.reduceEqDiff, reduceIte, Int.reduceEq, reduceCtorEq, hd', hname]
      exact hgo (by simp [ckOk, hb2]) _
    | false =>
      rw [hb2] at hname
      have est := st_box (s := q1) (v := .i .i64 4) (off := 0) hb1 rfl rfl (by simp)
      have hes : esc (q1.setBox ido (.cells 29 ([AV.i .i64 0].set 0 (.i .i64 4)))) ido (.i .i64 4) = q1.setBox ido (.cells 29 [.i .i64 4]) := rfl
      rw [hes] at est
      obtain ⟨q2, hq2⟩ : ∃ q2, q1.setBox ido (.cells 29 [.i .i64 4]) = q2 := ⟨_, rfl⟩
      rw [hq2] at est
      have w2 : Wf q2 := by rw [← hq2]; exact w1.setBox _ _
      have nb2 : q2.nb = q1.nb ∧ q2.nt = q1.nt := by rw [← hq2]; exact ⟨rfl, rfl⟩
      have bx2 : ∀ i, q2.box? i = if i = ido then some (.cells 29 [.i .i64 4]) else q1.box? i := fun i => by rw [← hq2]; exact setBox_box? w1.b (by omega) i
      have ov2 : Over s q2 := by rw [← hq2]; exact Over.setBox ov1 hs (by omega) _
      have b2k : q2.box? k = some (.loop 1 none e [17] ckA ckC) := by rw [bx2, if_neg (by omega)]; exact b1k
      have hbad : (stepsL l).all ckOk = false := by
        rw [List.all_eq_false]
        exact ⟨(stepsL l)[j], List.getElem_mem hj', by rw [hx]; simp [ckOk, hd, hb2]⟩
      have hfin : ∀ e' : Tr, YK k (RoundK (fun _ => False) (k + 1) s q (CkI l k ido e (j + 1)) (CkR l k ido)) .r e' q2 := fun e' => by
        refine round_end b2k (by omega) w2 ov2 (by omega) (by omega) (by omega) (by simp) (fun i hi hlt => by
          have hi' : k + 1 ≤ i := hi.resolve_left id
          rw [bx2, if_neg (by omega)]; exact keep1 i hi hlt) (fun hh => by simp at hh) (fun _ => ⟨⟨_, _, _, _, by rw [setBox_box? w2.b (by omega), if_pos rfl]⟩, ?_, hbad⟩) (fun i hh => by simp at hh)
        rw [setBox_box? w2.b (by omega), if_neg (by omega), bx2, if_pos rfl]
      simp only [ckC, c_path_Check, subC, go_sem, W_cond, WO_guard2, WE_guard2, WQ_guard2, W_regD, KB_n, KB_x, Nat.reduceBEq, Nat.reduceAdd, Nat.reduceLT, Nat.reduceLeDiff, Nat.reduceEqDiff, reduceIte, Int.reduceEq, reduceCtorEq, g2, hd', hname, Nat.zero_add, est]
      exact hfin _
theorem pathCheck_ok (l : List Nat) (hl : Txt l) (hlen : l.length < 2 ^ 36) (s : St) (hw : Wf s) : (lim prog).call f_path_Check [.s l] s = some (.i .i64 (checkL l), s) := by
  refine fn_W p_path_Check rfl rfl ?_
  obtain ⟨q1, hq1⟩ : ∃ q1, s.enter.new (.cells 29 [.i .i64 0]) = q1 := ⟨_, rfl⟩
  have w1 : Wf q1 := by rw [← hq1]; exact hw.enter.new _
  have n1 : q1.nb = s.nb + 1 ∧ q1.nt = s.nt ∧ q1.lo = s.nb := by rw [← hq1]; exact ⟨rfl, rfl, rfl⟩
  have ov1 : Over s q1 := by rw [← hq1]; exact (Over.enter s).new _
  have bo1 : q1.box? s.nb = some (.cells 29 [.i .i64 0]) := by rw [← hq1]; exact new_box_self s.enter _
  have hnb : s.enter.nb = s.nb := rfl
  -- a number is stored and told
  have hput : ∀ (q : St) (z y : Int), Wf q → Over s q → s.nb < q.nb → q.box? s.nb = some (.cells 29 [.i .i64 z]) → stA q 1 (.p s.nb 0) (.i .i64 y) = some (q.setBox s.nb (.cells 29 [.i .i64 y])) ∧ Over s (q.setBox s.nb (.cells 29 [.i .i64 y])) ∧ ldA (q.setBox s.nb (.cells 29 [.i .i64 y])) false 1 (.p s.nb 0) = some (.i .i64 y) := fun q z y hwq hov hlt hb => by
    refine ⟨?_, Over.setBox hov (Nat.le_refl _) hlt _, ld_box (v := .i .i64 y) (by rw [setBox_box? hwq.b hlt, if_pos rfl]) rfl⟩
    have est := st_box (s := q) (v := .i .i64 y) (off := 0) hb rfl rfl (by simp)
    exact est
  have hc0 := contains0_ok l q1
  by_cases hz : l = []
  · have hz' : (l = []) = True := by simp [hz]
    obtain ⟨e1, e2, e3⟩ := hput q1 0 4 w1 ov1 (by omega) bo1
    simp only [c_path_Check, go_sem, W_cond, WO_guard2, WE_guard2, WQ_guard2, W_regD, KB_n, KB_x, Nat.reduceBEq, Nat.reduceAdd, Nat.reduceLT, Nat.reduceLeDiff, Nat.reduceEqDiff, reduceIte, Int.reduceEq, reduceCtorEq, hnb, hq1, hz', e1, e3, frz]
    exact KR_some e2 rfl (by unfold checkL; rw [if_pos (.inl hz)]; rfl)
  have hz' : (l = []) = False := by simp [hz]
  by_cases h0 : 0 ∈ l
  · have h0' : (0 ∈ l) = True := by simp [h0]
    obtain ⟨e1, e2, e3⟩ := hput q1 0 4 w1 ov1 (by omega) bo1
    simp only [c_path_Check, go_sem, W_cond, WO_guard2, WE_guard2, WQ_guard2, W_regD, KB_n, KB_x, Nat.reduceBEq, Nat.reduceAdd, Nat.reduceLT, Nat.reduceLeDiff, Nat.reduceEqDiff, reduceIte, Int.reduceEq, reduceCtorEq, hnb, hq1, hz', hc0, h0', e1, e3, frz]
    exact KR_some e2 rfl (by unfold checkL; rw [if_pos (.inr h0)]; rfl)
  have h0' : (0 ∈ l) = False := by simp [h0]
  have hc1 : checkL l = if 256 < l.length then 40 else if (stepsL l).all ckOk = true then 0 else 4 := by unfold checkL; rw [if_neg (by simp [hz, h0])]
  by_cases h256 : (256 : Int) < (l.length : Int)
  · obtain ⟨e1, e2, e3⟩ := hput q1 0 40 w1 ov1 (by omega) bo1
    simp only [c_path_Check, go_sem, W_cond, WO_guard2, WE_guard2, WQ_guard2, W_regD, KB_n, KB_x, Nat.reduceBEq, Nat.reduceAdd, Nat.reduceLT, Nat.reduceLeDiff, Nat.reduceEqDiff, reduceIte, Int.reduceEq, reduceCtorEq, hnb, hq1, hz', hc0, h0', ofNat_len, h256, e1, e3, frz]
    exact KR_some e2 rfl (by rw [hc1, if_pos (by omega)]; rfl)
  have hc2 : checkL l = if (stepsL l).all ckOk = true then 0 else 4 := by rw [hc1, if_neg (by omega)]
  have hst := steps_ok l q1
  obtain ⟨q2, hq2⟩ : ∃ q2, ({ q1.new (.cells 9 [.s l]) with lo := min q1.lo q1.nb } : St) = q2 := ⟨_, rfl⟩
  rw [hq2] at hst
  have w2 : Wf q2 := by rw [← hq2]; exact (w1.new _).lo _
  have n2 : q2.nb = s.nb + 2 ∧ q2.nt = s.nt := by rw [← hq2]; exact ⟨by show q1.nb + 1 = _; omega, n1.2.1⟩
  have ov2 : Over s q2 := by rw [← hq2]; exact Over.setLo (ov1.new _) (by omega)
  have bo2 : q2.box? s.nb = some (.cells 29 [.i .i64 0]) := by
    rw [← hq2]
    show (q1.new _).box? s.nb = _
    rw [new_box_lt (by omega)]; exact bo1
  have bs2 : q2.box? q1.nb = some (.cells 9 [.s l]) := by rw [← hq2]; exact new_box_self q1 _
  simp only [c_path_Check, go_sem, W_cond, WO_guard2, WE_guard2, WQ_guard2, W_regD, KB_n, KB_x, Nat.reduceBEq, Nat.reduceAdd, Nat.reduceLT, Nat.reduceLeDiff, Nat.reduceEqDiff, reduceIte, Int.reduceEq, reduceCtorEq, hnb, hq1, hz', hc0, h0', ofNat_len, h256, hst]
  refine W_cut (fun e => e.get 2 = .p s.nb 0 ∧ e.get 16 = .fn f_path_steps_1 [.p q1.nb 0]) ⟨?_, ?_⟩ ?_
  · simp only [go_sem, W_cond, WO_guard2, WE_guard2, WQ_guard2, W_regD, KB_n, KB_x, Nat.reduceBEq, Nat.reduceAdd, Nat.reduceLT, Nat.reduceLeDiff, Nat.reduceEqDiff, reduceIte, Int.reduceEq, reduceCtorEq]
  · simp only [go_sem, W_cond, WO_guard2, WE_guard2, WQ_guard2, W_regD, KB_n, KB_x, Nat.reduceBEq, Nat.reduceAdd, Nat.reduceLT, Nat.reduceLeDiff, Nat.reduceEqDiff, reduceIte, Int.reduceEq, reduceCtorEq]
  rintro e ⟨g2, g16⟩
  obtain ⟨q3, hq3⟩ : ∃ q3, q2.new (.loop 0 none e [17] ckA ckC) = q3 := ⟨_, rfl⟩
  have w3 : Wf q3 := by rw [← hq3]; exact w2.new _
  have n3 : q3.nb = s.nb + 3 ∧ q3.nt = s.nt := by rw [← hq3]; exact ⟨by show q2.nb + 1 = _; omega, n2.2⟩
  have ov3 : Over s q3 := by rw [← hq3]; exact ov2.new _
  have bx3 : ∀ i, i < q2.nb → q3.box? i = q2.box? i := fun i hi => by rw [← hq3]; exact new_box_lt hi
  have bk3 : q3.box? q2.nb = some (.loop 0 none e [17] ckA ckC) := by rw [← hq3]; exact new_box_self _ _
  obtain ⟨q4, hc4, ov4, w4, n4, t4, hI4⟩ := stepsIter (O := fun _ => False) (m := q3.nb) hl (s := q3) (a := q1.nb) (by rw [bx3 _ (by omega)]; exact bs2) (by omega) s (q2.nb + 1) s.nt q2.nb _ _
    (checkBody hl (k := q2.nb) (ido := s.nb) (e := e) (by omega) (Nat.le_refl _) g2)
    ⟨bk3, by rw [bx3 _ (by omega)]; exact bo2, rfl⟩ ov3 w3 (by omega) (by omega) (by omega) (by omega)
  rw [← hq3] at hc4
  refine W_rf g16 hc4 ?_
  have w5 : Wf (q4.setBox q2.nb .used) := w4.setBox _ _
  have ov5 : Over s (q4.setBox q2.nb .used) := Over.setBox ov4 (by omega) (by omega) _
  have bx5 : (q4.setBox q2.nb .used).box? s.nb = q4.box? s.nb := by rw [setBox_box? w4.b (by omega), if_neg (by omega)]
  have n5 : s.nb < (q4.setBox q2.nb .used).nb := by show s.nb < q4.nb; omega
  rcases hI4 with ⟨k1, k2, k3⟩ | ⟨⟨tm, ps, a, b, k1⟩, k2, k3⟩
  · refine ⟨_, _, _, _, _, _, k1, by decide, ?_⟩
    rw [List.length_map, List.take_length] at k3
    obtain ⟨e1, e2, e3⟩ := hput _ 0 0 w5 ov5 n5 (by rw [bx5]; exact k2)
    simp only [go_sem, W_cond, WO_guard2, WE_guard2, WQ_guard2, W_regD, KB_n, KB_x, Nat.reduceBEq, Nat.reduceAdd, Nat.reduceLT, Nat.reduceLeDiff, Nat.reduceEqDiff, reduceIte, Int.reduceEq, reduceCtorEq, g2, e1, e3, frz]
    exact KR_some e2 rfl (by rw [hc2, if_pos k3]; rfl)
  · refine ⟨_, _, _, _, _, _, k1, by decide, ?_⟩
    have lda := ld_box (s := q4.setBox q2.nb .used) (v := .i .i64 4) (off := 0) (by rw [bx5]; exact k2) rfl
    simp only [go_sem, W_cond, WO_guard2, WE_guard2, WQ_guard2, W_regD, KB_n, KB_x, Nat.reduceBEq, Nat.reduceAdd, Nat.reduceLT, Nat.reduceLeDiff, Nat.reduceEqDiff, reduceIte, Int.reduceEq, reduceCtorEq, g2, lda, frz]
    exact KR_some ov5 rfl (by rw [hc2, k3, if_neg (by simp)]; rfl)
end Go.Proofs.YtkkfjoiffcmpeaaDoor

/-
  probe.kind, and the questions of a test.
-/
set_option maxRecDepth 100000
set_option maxHeartbeats 2000000
set_option linter.unusedSimpArgs false
set_option linter.constructorNameAsVariable false
namespace Go.Proofs.YtkkfjoiffcmpeaaDoor
open Go.Proofs.YtkkfjoiffcmpeaaDoor.Am
attribute [local irreducible] W WO WE WQ WD Tr.get Tr.set
def kindW (n : ND) (find : Bool) (p : List Nat) : Nat := if checkL p = 0 then (walkP n find p).k else 0
def walkF (find : Bool) : Nat := if find then f_walk_Find else f_walk_Spot
theorem walkF_ok {n : ND} {id : Nat} {s : St} (hw : Wf s) (ht : Tre n id s) (find : Bool) (p : List Nat) (hp : Txt p) (hl : p.length < 2 ^ 32) :
    (lim prog).call (walkF find) [.ifc 28 (.p id 0), .s p] s = some ((walkP n find p).av, s) := by
  cases find
  · exact spot_ok2 hw ht p hp hl
  · exact find_ok2 hw ht p hp hl
theorem pkind_ok {n : ND} {id : Nat} {s : St} (hw : Wf s) (ht : Tre n id s) (find : Bool) (p : List Nat) (hp : Txt p) (hl : p.length < 2 ^ 32) :
    (lim prog).call f_probe_kind [.ifc 28 (.p id 0), .s p, .fn (walkF find) []] s = some (.i .u8 (kindW n find p : Nat), s) := by
  refine fn_W p_probe_kind rfl rfl ?_
  have h1 := pathCheck_ok p hp (by omega) s.enter hw.enter
  have h2 := walkF_ok (s := s.enter) hw.enter ⟨ht.ok, ht.well, ht.lt, ht.box⟩ find p hp hl
  rw [WR.av_eq] at h2
  have hz0 : wkZ c_probe_kind.cin [.ifc 28 (.p id 0), .s p, .fn (walkF find) []] = [.ifc 28 (.p id 0), .s p, .fn (walkF find) []] := by simp [c_probe_kind, wkZ, wk]
  rw [hz0]
  have z0 : ((0 : Int) ≠ 0) = False := by simp
  have cv : ∀ a b s, callV (lim prog) (.fn (walkF find) []) [a, b] s = (lim prog).call (walkF find) [a, b] s := fun a b s => rfl
  by_cases hc : checkL p = 0
  · rw [hc] at h1
    by_cases he : (walkP n find p).e = 0
    · have e1 : (((walkP n find p).e : Int) ≠ 0) = False := by simp [he]
      simp only [c_probe_kind, go_sem, W_cond2, WO_guard3, WE_guard3, WQ_guard3, KB_n, KB_x, Nat.reduceBEq, Nat.reduceAdd, Nat.reduceLT, Nat.reduceLeDiff, Nat.reduceEqDiff, reduceIte, Int.reduceEq, reduceCtorEq, h1, z0, cv, h2, e1]
      refine KR_some (Over.enter s) rfl ?_
      simp [tupOf, wkZ, wk, kindW, hc]
    · have e1 : (((walkP n find p).e : Int) ≠ 0) = True := by simp; omega
      have hk : (walkP n find p).k = 0 := by
        cases h : walkP n find p with
        | ok pl k => rw [h] at he; exact absurd rfl he
        | err e => rfl
      simp only [c_probe_kind, go_sem, W_cond2, WO_guard3, WE_guard3, WQ_guard3, KB_n, KB_x, Nat.reduceBEq, Nat.reduceAdd, Nat.reduceLT, Nat.reduceLeDiff, Nat.reduceEqDiff, reduceIte, Int.reduceEq, reduceCtorEq, h1, z0, cv, h2, e1]
      refine KR_some (Over.enter s) rfl ?_
      simp [tupOf, wkZ, wk, kindW, hc, hk]
  · have e1 : (checkL p ≠ 0) = True := by simp [hc]
    simp only [c_probe_kind, go_sem, W_cond2, WO_guard3, WE_guard3, WQ_guard3, KB_n, KB_x, Nat.reduceBEq, Nat.reduceAdd, Nat.reduceLT, Nat.reduceLeDiff, Nat.reduceEqDiff, reduceIte, Int.reduceEq, reduceCtorEq, h1, e1]
    refine KR_some (Over.enter s) rfl ?_
    simp [tupOf, wkZ, wk, kindW, hc]
inductive KQn where
  | any
  | just (k : Nat)
def KQn.holds : KQn → Nat → Bool
  | .any, k => decide (k ≠ 0)
  | .just w, k => decide (k = w)
def KQn.at (q : St) (v : AV) : KQn → Prop
  | .any => v = .fn f_probe_asks_5 []
  | .just w => ∃ j, v = .fn f_probe_asks_2_1 [.p j 0] ∧ j < q.nb ∧ q.box? j = some (.cells 5 [.i .u8 (w : Nat)])
theorem kq_ok {q : St} {v : AV} {Q : KQn} (hw : Wf q) (h : Q.at q v) (k : Nat) : callV (lim prog) v [.i .u8 (k : Nat)] q = some (.b (Q.holds k), q) := by
  cases Q with
  | any =>
    have h : v = .fn f_probe_asks_5 [] := h
    subst h
    show (lim prog).call f_probe_asks_5 [.i .u8 (k : Nat)] q = _
    refine fn_W p_probe_asks_5 rfl rfl ?_
    have e : ((k : Int) ≠ 0) = (k ≠ 0) := by simp
    simp only [c_probe_asks_5, go_sem, W_cond2, WO_guard3, WE_guard3, WQ_guard3, KB_n, KB_x, Nat.reduceBEq, Nat.reduceAdd, Nat.reduceLT, Nat.reduceLeDiff, Nat.reduceEqDiff, reduceIte, Int.reduceEq, reduceCtorEq, e]
    exact KR_some (Over.enter q) rfl rfl
  | just w =>
    obtain ⟨j, rfl, hj, hb⟩ := h
    show (lim prog).call f_probe_asks_2_1 [.i .u8 (k : Nat), .p j 0] q = _
    refine fn_W p_probe_asks_2_1 rfl rfl ?_
    have l := ld1_old (Over.enter q) (off := 0) (v := .i .u8 (w : Nat)) hj hb rfl
    have e : ((k : Int) = (w : Int)) = (k = w) := by simp only [eq_iff_iff]; omega
    simp only [c_probe_asks_2_1, go_sem, W_cond2, WO_guard3, WE_guard3, WQ_guard3, KB_n, KB_x, Nat.reduceBEq, Nat.reduceAdd, Nat.reduceLT, Nat.reduceLeDiff, Nat.reduceEqDiff, reduceIte, Int.reduceEq, reduceCtorEq, l, e]
    exact KR_some (Over.enter q) rfl rfl
structure AskAt (id : Nat) (q : St) (find : Bool) (Q : KQn) (v : AV) : Prop where
  ex : ∃ i1 i2 fb hv, v = .fn f_probe_asks_1_1 [.p i2 0, .p fb 0, .p i1 0] ∧ (i1 < q.nb ∧ q.box? i1 = some (.cells 88 [.fn (walkF find) []])) ∧ (i2 < q.nb ∧ q.box? i2 = some (.cells 89 [hv])) ∧ (fb < q.nb ∧ q.box? fb = some (.cells 57 [.ifc 28 (.p id 0)])) ∧ Q.at q hv
theorem ask_ok {n : ND} {id : Nat} {q : St} {find : Bool} {Q : KQn} {v : AV} (hw : Wf q) (ht : Tre n id q) (h : AskAt id q find Q v) (p : List Nat) (hp : Txt p) (hl : p.length < 2 ^ 32) : callV (lim prog) v [.s p] q = some (.b (Q.holds (kindW n find p)), q) := by
  obtain ⟨i1, i2, fb, hv, rfl, ⟨h1, b1⟩, ⟨h2, b2⟩, ⟨h3, b3⟩, hQ⟩ := h.ex
  show (lim prog).call f_probe_asks_1_1 [.s p, .p i2 0, .p fb 0, .p i1 0] q = _
  refine fn_W p_probe_asks_1_1 rfl rfl ?_
  have l1 := ld1_old (Over.enter q) (off := 0) (v := hv) h2 b2 rfl
  have l2 := ld1_old (Over.enter q) (off := 0) (v := .ifc 28 (.p id 0)) h3 b3 rfl
  have l3 := ld1_old (Over.enter q) (off := 0) (v := .fn (walkF find) []) h1 b1 rfl
  have k1 := pkind_ok (s := q.enter) hw.enter ⟨ht.ok, ht.well, ht.lt, ht.box⟩ find p hp hl
  have k2 := kq_ok (q := q.enter) (v := hv) (Q := Q) hw.enter (by cases Q <;> exact hQ) (kindW n find p)
  have hld : (∀ s, ldR s (some hv) = some (hv, s)) ∧ ldQ (some hv) = true ∧ still hv = true := by
    cases Q with
    | any => have : hv = _ := hQ; subst this; exact ⟨fun s => rfl, rfl, rfl⟩
    | just w => obtain ⟨j, rfl, _⟩ := hQ; exact ⟨fun s => rfl, rfl, by simp [still, beqA, beqAL]⟩
  simp only [c_probe_asks_1_1, go_sem, W_cond2, WO_guard3, WE_guard3, WQ_guard3, KB_n, KB_x, Nat.reduceBEq, Nat.reduceAdd, Nat.reduceLT, Nat.reduceLeDiff, Nat.reduceEqDiff, reduceIte, Int.reduceEq, reduceCtorEq]
  refine W_regE rfl ?_
  simp only [go_sem, W_cond2, WO_guard3, WE_guard3, WQ_guard3, KB_n, KB_x, Nat.reduceBEq, Nat.reduceAdd, Nat.reduceLT, Nat.reduceLeDiff, Nat.reduceEqDiff, reduceIte, Int.reduceEq, reduceCtorEq, l1, l2, l3, k1, k2, hld.1, hld.2.1]
  refine KW_ld rfl ?_ hld.2.2 ⟨⟨_, rfl, l1⟩, ⟨_, rfl, l1⟩, ⟨_, rfl, l1⟩, ⟨_, rfl, l1⟩, ⟨_, rfl, l1⟩, ⟨_, rfl, l1⟩, ⟨_, rfl, l1⟩, trivial⟩ (KW_end ?_)
  · simp only [go_sem, W_cond2, WO_guard3, WE_guard3, WQ_guard3, KB_n, KB_x, Nat.reduceBEq, Nat.reduceAdd, Nat.reduceLT, Nat.reduceLeDiff, Nat.reduceEqDiff, reduceIte, Int.reduceEq, reduceCtorEq]
  simp only [go_sem, W_cond2, WO_guard3, WE_guard3, WQ_guard3, KB_n, KB_x, Nat.reduceBEq, Nat.reduceAdd, Nat.reduceLT, Nat.reduceLeDiff, Nat.reduceEqDiff, reduceIte, Int.reduceEq, reduceCtorEq]
  exact KR_some (Over.enter q) rfl rfl
end Go.Proofs.YtkkfjoiffcmpeaaDoor

/-
  The questions of a test, all of them.
-/
set_option maxRecDepth 100000
set_option maxHeartbeats 2000000
set_option linter.unusedSimpArgs false
set_option linter.constructorNameAsVariable false
namespace Go.Proofs.YtkkfjoiffcmpeaaDoor
open Go.Proofs.YtkkfjoiffcmpeaaDoor.Am
attribute [local irreducible] W WO WE WQ WD Tr.get Tr.set
section
variable {s0 s : St} {en : En} {R : List RA} {B : List (Nat × Box)}
def JustP (k : Nat) (s0 : St) (en : En) (R : List RA) (B : List (Nat × Box)) (r : AV) (s' : St) : Prop := ∃ j, r = .fn f_probe_asks_2_1 [.p j 0] ∧ Hp s0 s' en R ((j, .cells 5 [.i .u8 (k : Nat)]) :: B)
theorem just_hp (H : Hp s0 s en R B) (k : Nat) : ∃ r s', (lim prog).call f_probe_asks_2 [.i .u8 (k : Nat)] s = some (r, s') ∧ JustP k s0 en R B r s' := by
  refine fn_G (Post := JustP k s0 en R B) p_probe_asks_2 rfl rfl ?_
  have H1 := H.enter.new (.cells 5 [.i .u8 (k : Nat)])
  generalize hq : s.enter.new (.cells 5 [.i .u8 (k : Nat)]) = q at H1
  generalize hm : s.enter.nb = m at H1
  simp only [c_probe_asks_2, go_sem, W_cond2, WO_guard3, WE_guard3, WQ_guard3, KB_n, KB_x, Nat.reduceBEq, Nat.reduceAdd, Nat.reduceLT, Nat.reduceLeDiff, Nat.reduceEqDiff, reduceIte, Int.reduceEq, reduceCtorEq, hq, hm]
  exact ⟨_, _, rfl, m, rfl, H.leaveR (n1 := s.en) H1 rfl⟩
def IsP (w h : AV) (fb : Nat) (s0 : St) (en : En) (R : List RA) (B : List (Nat × Box)) (r : AV) (s' : St) : Prop := ∃ i1 i2, r = .fn f_probe_asks_1_1 [.p i2 0, .p fb 0, .p i1 0] ∧ Hp s0 s' en R ((i2, .cells 89 [h]) :: (i1, .cells 88 [w]) :: B)
theorem is_hp (H : Hp s0 s en R B) (w : Nat) (f : Nat) (c : List AV) (fb : Nat) (hc : c = [] ∨ ∃ j, c = [.p j 0]) : ∃ r s', (lim prog).call f_probe_asks_1 [.fn w [], .fn f c, .p fb 0] s = some (r, s') ∧ IsP (.fn w []) (.fn f c) fb s0 en R B r s' := by
  refine fn_G (Post := IsP (.fn w []) (.fn f c) fb s0 en R B) p_probe_asks_1 rfl rfl ?_
  have H1 := (H.enter.new (.cells 88 [.fn w []])).new (.cells 89 [.fn f c])
  rw [new_nb] at H1
  generalize hq : (s.enter.new (.cells 88 [.fn w []])).new (.cells 89 [.fn f c]) = q at H1
  generalize hm : s.enter.nb = m at H1
  have hz0 : wkZ c_probe_asks_1.cin [.fn w [], .fn f c, .p fb 0] = [.fn w [], .fn f c, .p fb 0] := by rcases hc with rfl | ⟨j, rfl⟩ <;> simp [c_probe_asks_1, wkZ, wk]
  rw [hz0]
  simp only [c_probe_asks_1, go_sem, W_cond2, WO_guard3, WE_guard3, WQ_guard3, KB_n, KB_x, Nat.reduceBEq, Nat.reduceAdd, Nat.reduceLT, Nat.reduceLeDiff, Nat.reduceEqDiff, reduceIte, Int.reduceEq, reduceCtorEq, hq, hm]
  refine ⟨_, _, rfl, m, m + 1, ?_, H.leaveR (n1 := s.en) H1 rfl⟩
  simp [tupOf, wkZ, wk]
theorem Hp.ins (H : Hp s0 s en R B) (i : Nat) {m : Nat} {es : List (AV × AV)} (h : B[i]? = some (m, .map es)) (es' : List (AV × AV)) (v : AV) : ∃ s', Am.esc (s.setBox m (.map es')) m v = s' ∧ Hp s0 s' en R (B.set i (m, .map es')) ∧ s.box? m = some (.map es) := by
  have H1 := H.setBox h (.map es')
  have hb : (B.set i (m, Box.map es'))[i]? = some (m, .map es') := by
    rw [List.getElem?_set, if_pos rfl, if_pos (by rw [List.getElem?_eq_some_iff] at h; exact h.1)]
  exact ⟨_, rfl, (H1.esc hb v).1, (H.box h).1⟩
def AsksP (id : Nat) (s0 : St) (en : En) (R : List RA) (r : AV) (s' : St) : Prop := ∃ m v1 v2 v3 v4, r = .m m ∧ Wf s' ∧ Over s0 s' ∧
  s'.box? m = some (.map [(.s [45, 110], .fn f_probe_asks_3 []), (.s [45, 122], .fn f_probe_asks_4 []), (.s [45, 101], v1), (.s [45, 102], v2), (.s [45, 100], v3), (.s [45, 76], v4), (.s [45, 104], v4)]) ∧
  AskAt id s' true .any v1 ∧ AskAt id s' true (.just 1) v2 ∧ AskAt id s' true (.just 2) v3 ∧ AskAt id s' false (.just 3) v4
theorem asks_hp {id : Nat} (H : Hp s0 s en R B) : ∃ r s', (lim prog).call f_probe_asks [.ifc 28 (.p id 0)] s = some (r, s') ∧ AsksP id s0 en R r s' := by
  refine fn_G (Post := AsksP id s0 en R) p_probe_asks rfl rfl ?_
  have H1 := H.enter.new (.cells 57 [.ifc 28 (.p id 0)])
  generalize hq : s.enter.new (.cells 57 [.ifc 28 (.p id 0)]) = q at H1
  generalize hm : s.enter.nb = m at H1
  obtain ⟨_, q2, d2, j2, rfl, H2⟩ := just_hp H1 3
  obtain ⟨_, q3, d3, i1, i2, rfl, H3⟩ := is_hp H2 (walkF false) f_probe_asks_2_1 [.p j2 0] m (.inr ⟨j2, rfl⟩)
  have H4 := H3.new (.map [])
  generalize hq4 : q3.new (.map []) = q4 at H4
  generalize hm4 : q3.nb = m4 at H4
  obtain ⟨q5, e5, H5, b5⟩ := Hp.ins H4 0 rfl [(.s [45, 110], .fn f_probe_asks_3 [])] (.fn f_probe_asks_3 [])
  obtain ⟨q6, e6, H6, b6⟩ := Hp.ins H5 0 rfl [(.s [45, 110], .fn f_probe_asks_3 []), (.s [45, 122], .fn f_probe_asks_4 [])] (.fn f_probe_asks_4 [])
  obtain ⟨_, q7, d7, i71, i72, rfl, H7⟩ := is_hp H6 (walkF true) f_probe_asks_5 [] m (.inl rfl)
  obtain ⟨q8, e8, H8, b8⟩ := Hp.ins H7 2 rfl [(.s [45, 110], .fn f_probe_asks_3 []), (.s [45, 122], .fn f_probe_asks_4 []), (.s [45, 101], .fn f_probe_asks_1_1 [.p i72 0, .p m 0, .p i71 0])] (.fn f_probe_asks_1_1 [.p i72 0, .p m 0, .p i71 0])
  obtain ⟨_, qj, dj, jj, rfl, Hj⟩ := just_hp H8 1
  obtain ⟨_, q9, d9, i91, i92, rfl, H9⟩ := is_hp Hj (walkF true) f_probe_asks_2_1 [.p jj 0] m (.inr ⟨jj, rfl⟩)
  obtain ⟨q10, e10, H10, b10⟩ := Hp.ins H9 5 rfl [(.s [45, 110], .fn f_probe_asks_3 []), (.s [45, 122], .fn f_probe_asks_4 []), (.s [45, 101], .fn f_probe_asks_1_1 [.p i72 0, .p m 0, .p i71 0]), (.s [45, 102], .fn f_probe_asks_1_1 [.p i92 0, .p m 0, .p i91 0])] (.fn f_probe_asks_1_1 [.p i92 0, .p m 0, .p i91 0])
  obtain ⟨_, qk, dk, jk, rfl, Hk⟩ := just_hp H10 2
  obtain ⟨_, q12, d12, i121, i122, rfl, H12⟩ := is_hp Hk (walkF true) f_probe_asks_2_1 [.p jk 0] m (.inr ⟨jk, rfl⟩)
  obtain ⟨q13, e13, H13, b13⟩ := Hp.ins H12 8 rfl [(.s [45, 110], .fn f_probe_asks_3 []), (.s [45, 122], .fn f_probe_asks_4 []), (.s [45, 101], .fn f_probe_asks_1_1 [.p i72 0, .p m 0, .p i71 0]), (.s [45, 102], .fn f_probe_asks_1_1 [.p i92 0, .p m 0, .p i91 0]), (.s [45, 100], .fn f_probe_asks_1_1 [.p i122 0, .p m 0, .p i121 0])] (.fn f_probe_asks_1_1 [.p i122 0, .p m 0, .p i121 0])
  obtain ⟨q14, e14, H14, b14⟩ := Hp.ins H13 8 rfl [(.s [45, 110], .fn f_probe_asks_3 []), (.s [45, 122], .fn f_probe_asks_4 []), (.s [45, 101], .fn f_probe_asks_1_1 [.p i72 0, .p m 0, .p i71 0]), (.s [45, 102], .fn f_probe_asks_1_1 [.p i92 0, .p m 0, .p i91 0]), (.s [45, 100], .fn f_probe_asks_1_1 [.p i122 0, .p m 0, .p i121 0]), (.s [45, 76], .fn f_probe_asks_1_1 [.p i2 0, .p m 0, .p i1 0])] (.fn f_probe_asks_1_1 [.p i2 0, .p m 0, .p i1 0])
  obtain ⟨q15, e15, H15, b15⟩ := Hp.ins H14 8 rfl [(.s [45, 110], .fn f_probe_asks_3 []), (.s [45, 122], .fn f_probe_asks_4 []), (.s [45, 101], .fn f_probe_asks_1_1 [.p i72 0, .p m 0, .p i71 0]), (.s [45, 102], .fn f_probe_asks_1_1 [.p i92 0, .p m 0, .p i91 0]), (.s [45, 100], .fn f_probe_asks_1_1 [.p i122 0, .p m 0, .p i121 0]), (.s [45, 76], .fn f_probe_asks_1_1 [.p i2 0, .p m 0, .p i1 0]), (.s [45, 104], .fn f_probe_asks_1_1 [.p i2 0, .p m 0, .p i1 0])] (.fn f_probe_asks_1_1 [.p i2 0, .p m 0, .p i1 0])
  have u0 : updM 1 (.s [45, 110]) (.fn f_probe_asks_3 []) [] = some [(.s [45, 110], .fn f_probe_asks_3 [])] := rfl
  have u1 : updM 1 (.s [45, 122]) (.fn f_probe_asks_4 []) [(.s [45, 110], .fn f_probe_asks_3 [])] = some [(.s [45, 110], .fn f_probe_asks_3 []), (.s [45, 122], .fn f_probe_asks_4 [])] := rfl
  have u2 : updM 1 (.s [45, 101]) (.fn f_probe_asks_1_1 [.p i72 0, .p m 0, .p i71 0]) [(.s [45, 110], .fn f_probe_asks_3 []), (.s [45, 122], .fn f_probe_asks_4 [])] = some [(.s [45, 110], .fn f_probe_asks_3 []), (.s [45, 122], .fn f_probe_asks_4 []), (.s [45, 101], .fn f_probe_asks_1_1 [.p i72 0, .p m 0, .p i71 0])] := rfl
  have u3 : updM 1 (.s [45, 102]) (.fn f_probe_asks_1_1 [.p i92 0, .p m 0, .p i91 0]) [(.s [45, 110], .fn f_probe_asks_3 []), (.s [45, 122], .fn f_probe_asks_4 []), (.s [45, 101], .fn f_probe_asks_1_1 [.p i72 0, .p m 0, .p i71 0])] = some [(.s [45, 110], .fn f_probe_asks_3 []), (.s [45, 122], .fn f_probe_asks_4 []), (.s [45, 101], .fn f_probe_asks_1_1 [.p i72 0, .p m 0, .p i71 0]), (.s [45, 102], .fn f_probe_asks_1_1 [.p i92 0, .p m 0, .p i91 0])] := rfl
  have u4 : updM 1 (.s [45, 100]) (.fn f_probe_asks_1_1 [.p i122 0, .p m 0, .p i121 0]) [(.s [45, 110], .fn f_probe_asks_3 []), (.s [45, 122], .fn f_probe_asks_4 []), (.s [45, 101], .fn f_probe_asks_1_1 [.p i72 0, .p m 0, .p i71 0]), (.s [45, 102], .fn f_probe_asks_1_1 [.p i92 0, .p m 0, .p i91 0])] = some [(.s [45, 110], .fn f_probe_asks_3 []), (.s [45, 122], .fn f_probe_asks_4 []), (.s [45, 101], .fn f_probe_asks_1_1 [.p i72 0, .p m 0, .p i71 0]), (.s [45, 102], .fn f_probe_asks_1_1 [.p i92 0, .p m 0, .p i91 0]), (.s [45, 100], .fn f_probe_asks_1_1 [.p i122 0, .p m 0, .p i121 0])] := rfl
  have u5 : updM 1 (.s [45, 76]) (.fn f_probe_asks_1_1 [.p i2 0, .p m 0, .p i1 0]) [(.s [45, 110], .fn f_probe_asks_3 []), (.s [45, 122], .fn f_probe_asks_4 []), (.s [45, 101], .fn f_probe_asks_1_1 [.p i72 0, .p m 0, .p i71 0]), (.s [45, 102], .fn f_probe_asks_1_1 [.p i92 0, .p m 0, .p i91 0]), (.s [45, 100], .fn f_probe_asks_1_1 [.p i122 0, .p m 0, .p i121 0])] = some [(.s [45, 110], .fn f_probe_asks_3 []), (.s [45, 122], .fn f_probe_asks_4 []), (.s [45, 101], .fn f_probe_asks_1_1 [.p i72 0, .p m 0, .p i71 0]), (.s [45, 102], .fn f_probe_asks_1_1 [.p i92 0, .p m 0, .p i91 0]), (.s [45, 100], .fn f_probe_asks_1_1 [.p i122 0, .p m 0, .p i121 0]), (.s [45, 76], .fn f_probe_asks_1_1 [.p i2 0, .p m 0, .p i1 0])] := rfl
  have u6 : updM 1 (.s [45, 104]) (.fn f_probe_asks_1_1 [.p i2 0, .p m 0, .p i1 0]) [(.s [45, 110], .fn f_probe_asks_3 []), (.s [45, 122], .fn f_probe_asks_4 []), (.s [45, 101], .fn f_probe_asks_1_1 [.p i72 0, .p m 0, .p i71 0]), (.s [45, 102], .fn f_probe_asks_1_1 [.p i92 0, .p m 0, .p i91 0]), (.s [45, 100], .fn f_probe_asks_1_1 [.p i122 0, .p m 0, .p i121 0]), (.s [45, 76], .fn f_probe_asks_1_1 [.p i2 0, .p m 0, .p i1 0])] = some [(.s [45, 110], .fn f_probe_asks_3 []), (.s [45, 122], .fn f_probe_asks_4 []), (.s [45, 101], .fn f_probe_asks_1_1 [.p i72 0, .p m 0, .p i71 0]), (.s [45, 102], .fn f_probe_asks_1_1 [.p i92 0, .p m 0, .p i91 0]), (.s [45, 100], .fn f_probe_asks_1_1 [.p i122 0, .p m 0, .p i121 0]), (.s [45, 76], .fn f_probe_asks_1_1 [.p i2 0, .p m 0, .p i1 0]), (.s [45, 104], .fn f_probe_asks_1_1 [.p i2 0, .p m 0, .p i1 0])] := rfl
  have d3 : (lim prog).call f_probe_asks_1 [.fn f_walk_Spot [], .fn f_probe_asks_2_1 [.p j2 0], .p m 0] q2 = _ := d3
  have d7 : (lim prog).call f_probe_asks_1 [.fn f_walk_Find [], .fn f_probe_asks_5 [], .p m 0] q6 = _ := d7
  have d9 : (lim prog).call f_probe_asks_1 [.fn f_walk_Find [], .fn f_probe_asks_2_1 [.p jj 0], .p m 0] qj = _ := d9
  have d12 : (lim prog).call f_probe_asks_1 [.fn f_walk_Find [], .fn f_probe_asks_2_1 [.p jk 0], .p m 0] qk = _ := d12
  have cv : ∀ f c l s, callV (lim prog) (.fn f c) l s = (lim prog).call f (l ++ c) s := fun f c l s => rfl
  have d2 : (lim prog).call f_probe_asks_2 [.i .u8 3] q = _ := d2
  have dj : (lim prog).call f_probe_asks_2 [.i .u8 1] q8 = _ := dj
  have dk : (lim prog).call f_probe_asks_2 [.i .u8 2] q10 = _ := dk
  simp only [c_probe_asks, go_sem, W_cond2, WO_guard3, WE_guard3, WQ_guard3, KB_n, KB_x, Nat.reduceBEq, Nat.reduceAdd, Nat.reduceLT, Nat.reduceLeDiff, Nat.reduceEqDiff, reduceIte, Int.reduceEq, reduceCtorEq, hq, hm, cv, List.cons_append, List.nil_append, List.append_nil, d2, d3, hq4, hm4]
  simp only [go_sem, W_cond2, WO_guard3, WE_guard3, WQ_guard3, KB_n, KB_x, Nat.reduceBEq, Nat.reduceAdd, Nat.reduceLT, Nat.reduceLeDiff, Nat.reduceEqDiff, reduceIte, Int.reduceEq, reduceCtorEq, b5, u0, e5, b6, u1, e6, d7, cv, List.cons_append, List.nil_append, List.append_nil, b8, u2, e8, dj, d9, b10, u3, e10, dk, d12, b13, u4, e13, b14, u5, e14, b15, u6, e15, List.cons.injEq, false_and, and_true, and_false]
  have HL := H.leaveR (n1 := s.en) (v := .m m4) H15 rfl
  have bx : ∀ {i : Nat} {p : Nat × Box}, _ → p.1 < (Am.leave s q15 (.m m4)).nb ∧ (Am.leave s q15 (.m m4)).box? p.1 = some p.2 := @fun i p h => ⟨HL.boxLt (i := i) (p := p) h, (HL.box h).1⟩
  refine ⟨_, _, rfl, m4, _, _, _, _, rfl, HL.wf, HL.over, (HL.box (i := 8) rfl).1, ⟨i71, i72, m, _, rfl, bx (i := 7) rfl, bx (i := 6) rfl, bx (i := 12) rfl, rfl⟩, ⟨i91, i92, m, _, rfl, bx (i := 4) rfl, bx (i := 3) rfl, bx (i := 12) rfl, jj, rfl, bx (i := 5) rfl⟩,
    ⟨i121, i122, m, _, rfl, bx (i := 1) rfl, bx (i := 0) rfl, bx (i := 12) rfl, jk, rfl, bx (i := 2) rfl⟩, ⟨i1, i2, m, _, rfl, bx (i := 10) rfl, bx (i := 9) rfl, bx (i := 12) rfl, j2, rfl, bx (i := 11) rfl⟩⟩
end
end Go.Proofs.YtkkfjoiffcmpeaaDoor

/-
  probe.Holds.
-/
set_option maxRecDepth 100000
set_option maxHeartbeats 2000000
set_option linter.unusedSimpArgs false
set_option linter.constructorNameAsVariable false
namespace Go.Proofs.YtkkfjoiffcmpeaaDoor
open Go.Proofs.YtkkfjoiffcmpeaaDoor.Am
attribute [local irreducible] W WO WE WQ WD Tr.get Tr.set
def askN (n : ND) (w p : List Nat) : Option Bool :=
  if w = [45, 110] then some (decide (p ≠ [])) else if w = [45, 122] then some (decide (p = [])) else
  if w = [45, 101] then some (decide (kindW n true p ≠ 0)) else if w = [45, 102] then some (decide (kindW n true p = 1)) else
  if w = [45, 100] then some (decide (kindW n true p = 2)) else if w = [45, 76] then some (decide (kindW n false p = 3)) else
  if w = [45, 104] then some (decide (kindW n false p = 3)) else none
def negR (r : Bool × Bool) : Bool × Bool := (r.2 && !r.1, r.2)
def h1N (a : List Nat) : Bool × Bool := (decide (a ≠ []), true)
def h2N (n : ND) (a b : List Nat) : Bool × Bool := if a = [33] then negR (h1N b) else match askN n a b with
  | some x => (x, true)
  | none => (false, false)
def h3N (n : ND) (a b c : List Nat) : Bool × Bool := if b = [61] then (decide (a = c), true) else if b = [33, 61] then (decide (a ≠ c), true) else if a = [33] then negR (h2N n b c) else (false, false)
def holdsN (n : ND) : List (List Nat) → Bool × Bool
  | [] => (false, true)
  | [a] => h1N a
  | [a, b] => h2N n a b
  | [a, b, c] => h3N n a b c
  | [a, b, c, d] => if a = [33] then negR (h3N n b c d) else (false, false)
  | _ => (false, false)
def rr (r : Bool × Bool) : AV := .tup [.b r.1, .b r.2]
theorem q3_ok (p : List Nat) (s : St) : callV (lim prog) (.fn f_probe_asks_3 []) [.s p] s = some (.b (decide (p ≠ [])), s) := by
  show (lim prog).call f_probe_asks_3 [.s p] s = _
  refine fn_W p_probe_asks_3 rfl rfl ?_
  simp only [c_probe_asks_3, go_sem, W_cond2, WO_guard3, WE_guard3, WQ_guard3, KB_n, KB_x, Nat.reduceBEq, Nat.reduceAdd, Nat.reduceLT, Nat.reduceLeDiff, Nat.reduceEqDiff, reduceIte, Int.reduceEq, reduceCtorEq]
  exact KR_some (Over.enter s) rfl rfl
theorem q4_ok (p : List Nat) (s : St) : callV (lim prog) (.fn f_probe_asks_4 []) [.s p] s = some (.b (decide (p = [])), s) := by
  show (lim prog).call f_probe_asks_4 [.s p] s = _
  refine fn_W p_probe_asks_4 rfl rfl ?_
  simp only [c_probe_asks_4, go_sem, W_cond2, WO_guard3, WE_guard3, WQ_guard3, KB_n, KB_x, Nat.reduceBEq, Nat.reduceAdd, Nat.reduceLT, Nat.reduceLeDiff, Nat.reduceEqDiff, reduceIte, Int.reduceEq, reduceCtorEq]
  exact KR_some (Over.enter s) rfl rfl
section
variable {n : ND} {id : Nat} {s : St}
theorem holds0_ok (hw : Wf s) : (lim prog).call f_probe_Holds [.ifc 28 (.p id 0), tx []] s = some (.tup [.b false, .b true], s) := by
  refine fn_W p_probe_Holds rfl rfl ?_
  have hz0 : wkZ c_probe_Holds.cin [.ifc 28 (.p id 0), tx []] = [.ifc 28 (.p id 0), tx []] := by simp [c_probe_Holds, wkZ, wk, wkM]
  rw [hz0]
  have c0 : (((0 : Nat) : Int) = 0) = True := by simp
  simp only [c_probe_Holds, go_sem, W_cond2, WO_guard3, WE_guard3, WQ_guard3, KB_n, KB_x, Nat.reduceBEq, Nat.reduceAdd, Nat.reduceLT, Nat.reduceLeDiff, Nat.reduceEqDiff, reduceIte, Int.reduceEq, reduceCtorEq, List.map_nil, c0]
  exact KR_some (Over.enter s) rfl rfl
theorem holds1_ok (hw : Wf s) (a : List Nat) : (lim prog).call f_probe_Holds [.ifc 28 (.p id 0), tx [a]] s = some (rr (h1N a), s) := by
  refine fn_W p_probe_Holds rfl rfl ?_
  have hz0 : wkZ c_probe_Holds.cin [.ifc 28 (.p id 0), tx [a]] = [.ifc 28 (.p id 0), tx [a]] := by simp [c_probe_Holds, wkZ, wk, wkM]
  rw [hz0]
  have c0 : (((1 : Nat) : Int) = 0) = False := by simp
  have c1 : (((1 : Nat) : Int) = 1) = True := by simp
  have n0 : natOf (.i .i64 0) = some 0 := rfl
  simp only [c_probe_Holds, go_sem, W_cond2, WO_guard3, WE_guard3, WQ_guard3, KB_n, KB_x, Nat.reduceBEq, Nat.reduceAdd, Nat.reduceLT, Nat.reduceLeDiff, Nat.reduceEqDiff, reduceIte, Int.reduceEq, reduceCtorEq, List.map_nil, List.map_cons, c0, c1, n0, cells_s, ldA_1]
  exact KR_some (Over.enter s) rfl rfl
theorem holds2_ok (hw : Wf s) (ht : Tre n id s) (a b : List Nat) (hb : Txt b) (hl : b.length < 2 ^ 32) : (lim prog).call f_probe_Holds [.ifc 28 (.p id 0), tx [a, b]] s = some (rr (h2N n a b), s) := by
  refine fn_W p_probe_Holds rfl rfl ?_
  have hz0 : wkZ c_probe_Holds.cin [.ifc 28 (.p id 0), tx [a, b]] = [.ifc 28 (.p id 0), tx [a, b]] := by simp [c_probe_Holds, wkZ, wk, wkM]
  rw [hz0]
  have c0 : (((2 : Nat) : Int) = 0) = False := by simp
  have c1 : (((2 : Nat) : Int) = 1) = False := by simp
  have c2 : (((2 : Nat) : Int) = 2) = True := by simp
  have c3 : (((2 : Nat) : Int) = 3) = False := by simp
  have c4 : (((2 : Nat) : Int) ≤ 4) = True := by simp
  have n0 : natOf (.i .i64 0) = some 0 := rfl
  have n1 : natOf (.i .i64 1) = some 1 := rfl
  by_cases ha : a = [33]
  · have ea : (a = [33]) = True := by simp [ha]
    have hr : (lim prog).call f_probe_Holds [.ifc 28 (.p id 0), .ws false 1 [.s b]] s.enter = some (rr (h1N b), s.enter) := holds1_ok hw.enter b
    have hs : sliceA s.enter false 1 (tx [a, b]) (some (.i .i64 1)) none none = some (tx [b], s.enter) := by simp [sliceA, bounds, natOf]
    have hh : h2N n a b = negR (h1N b) := by simp [h2N, ha]
    rw [hh]
    cases hb1 : h1N b with
    | mk x y =>
    rw [hb1] at hr
    simp only [rr] at hr
    cases y
    all_goals
      simp only [c_probe_Holds, go_sem, W_cond2, WO_guard3, WE_guard3, WQ_guard3, KB_n, KB_x, Nat.reduceBEq, Nat.reduceAdd, Nat.reduceLT, Nat.reduceLeDiff, Nat.reduceEqDiff, reduceIte, Int.reduceEq, reduceCtorEq, List.map_nil, List.map_cons, c0, c1, c3, c4, n0, cells_s, ldA_1, ea, hs, hr]
      exact KR_some (Over.enter s) rfl rfl
  · have ea : (a = [33]) = False := by simp [ha]
    obtain ⟨_, q, d, m, v1, v2, v3, v4, rfl, hwq, hov, hbm, k1, k2, k3, k4⟩ := asks_hp (id := id) (Hp.begin hw)
    have htq : Tre n id q := ⟨ht.ok, ht.well, by have := hov.nb; have := ht.lt; omega, by rw [over_box hov ht.lt]; exact ht.box⟩
    have r1 := ask_ok hwq htq k1 b hb hl
    have r2 := ask_ok hwq htq k2 b hb hl
    have r3 := ask_ok hwq htq k3 b hb hl
    have r4 := ask_ok hwq htq k4 b hb hl
    simp only [KQn.holds] at r1 r2 r3 r4
    have hh : h2N n a b = match askN n a b with
      | some x => (x, true)
      | none => (false, false) := by simp [h2N, ha]
    rw [hh]
    simp only [c_probe_Holds, go_sem, W_cond2, WO_guard3, WE_guard3, WQ_guard3, KB_n, KB_x, Nat.reduceBEq, Nat.reduceAdd, Nat.reduceLT, Nat.reduceLeDiff, Nat.reduceEqDiff, reduceIte, Int.reduceEq, reduceCtorEq, List.map_nil, List.map_cons, c0, c1, c2, c3, c4, n0, cells_s, ldA_1, ea]
    refine W_regE rfl ?_
    have fin : ∀ x : Bool, KR s [.id, .id] (rr (x, true)) (some ([.b x, .b true], q)) := fun x => KR_some hov rfl rfl
    unfold askN
    by_cases w0 : a = [45, 110]
    · have f0 : (a = [45, 110]) = True := by simp [w0]
      rw [if_pos w0]
      simp only [go_sem, W_cond2, WO_guard3, WE_guard3, WQ_guard3, KB_n, KB_x, Nat.reduceBEq, Nat.reduceAdd, Nat.reduceLT, Nat.reduceLeDiff, Nat.reduceEqDiff, reduceIte, Int.reduceEq, reduceCtorEq, List.map_nil, List.map_cons, d, n0, cells_s, ldA_1, hbm, f0]
      refine KW_ld rfl ?_ (still_s _) ⟨⟨_, rfl, ldA_1 _ (.s a)⟩, ⟨_, rfl, ldA_1 _ (.s a)⟩, ⟨_, rfl, ldA_1 _ (.s a)⟩, ⟨_, rfl, ldA_1 _ (.s a)⟩, ⟨_, rfl, ldA_1 _ (.s a)⟩, trivial⟩ (KW_end ?_)
      · simp only [go_sem, W_cond2, WO_guard3, WE_guard3, WQ_guard3, KB_n, KB_x, Nat.reduceBEq, Nat.reduceAdd, Nat.reduceLT, Nat.reduceLeDiff, Nat.reduceEqDiff, reduceIte, Int.reduceEq, reduceCtorEq]
      simp only [go_sem, W_cond2, WO_guard3, WE_guard3, WQ_guard3, KB_n, KB_x, Nat.reduceBEq, Nat.reduceAdd, Nat.reduceLT, Nat.reduceLeDiff, Nat.reduceEqDiff, reduceIte, Int.reduceEq, reduceCtorEq, List.map_nil, List.map_cons, n1, cells_s, ldA_1, q3_ok]
      exact fin _
    have f0 : (a = [45, 110]) = False := by simp [w0]
    by_cases w1 : a = [45, 122]
    · have f1 : (a = [45, 122]) = True := by simp [w1]
      rw [if_neg w0]; rw [if_pos w1]
      simp only [go_sem, W_cond2, WO_guard3, WE_guard3, WQ_guard3, KB_n, KB_x, Nat.reduceBEq, Nat.reduceAdd, Nat.reduceLT, Nat.reduceLeDiff, Nat.reduceEqDiff, reduceIte, Int.reduceEq, reduceCtorEq, List.map_nil, List.map_cons, d, n0, cells_s, ldA_1, hbm, f0, f1]
      refine KW_ld rfl ?_ (still_s _) ⟨⟨_, rfl, ldA_1 _ (.s a)⟩, ⟨_, rfl, ldA_1 _ (.s a)⟩, ⟨_, rfl, ldA_1 _ (.s a)⟩, ⟨_, rfl, ldA_1 _ (.s a)⟩, ⟨_, rfl, ldA_1 _ (.s a)⟩, trivial⟩ (KW_end ?_)
      · simp only [go_sem, W_cond2, WO_guard3, WE_guard3, WQ_guard3, KB_n, KB_x, Nat.reduceBEq, Nat.reduceAdd, Nat.reduceLT, Nat.reduceLeDiff, Nat.reduceEqDiff, reduceIte, Int.reduceEq, reduceCtorEq]
      simp only [go_sem, W_cond2, WO_guard3, WE_guard3, WQ_guard3, KB_n, KB_x, Nat.reduceBEq, Nat.reduceAdd, Nat.reduceLT, Nat.reduceLeDiff, Nat.reduceEqDiff, reduceIte, Int.reduceEq, reduceCtorEq, List.map_nil, List.map_cons, n1, cells_s, ldA_1, q4_ok]
      exact fin _
    have f1 : (a = [45, 122]) = False := by simp [w1]
    by_cases w2 : a = [45, 101]
    · have f2 : (a = [45, 101]) = True := by simp [w2]
      rw [if_neg w0]; rw [if_neg w1]; rw [if_pos w2]
      simp only [go_sem, W_cond2, WO_guard3, WE_guard3, WQ_guard3, KB_n, KB_x, Nat.reduceBEq, Nat.reduceAdd, Nat.reduceLT, Nat.reduceLeDiff, Nat.reduceEqDiff, reduceIte, Int.reduceEq, reduceCtorEq, List.map_nil, List.map_cons, d, n0, cells_s, ldA_1, hbm, f0, f1, f2]
      refine KW_ld rfl ?_ (still_s _) ⟨⟨_, rfl, ldA_1 _ (.s a)⟩, ⟨_, rfl, ldA_1 _ (.s a)⟩, ⟨_, rfl, ldA_1 _ (.s a)⟩, ⟨_, rfl, ldA_1 _ (.s a)⟩, ⟨_, rfl, ldA_1 _ (.s a)⟩, trivial⟩ (KW_end ?_)
      · simp only [go_sem, W_cond2, WO_guard3, WE_guard3, WQ_guard3, KB_n, KB_x, Nat.reduceBEq, Nat.reduceAdd, Nat.reduceLT, Nat.reduceLeDiff, Nat.reduceEqDiff, reduceIte, Int.reduceEq, reduceCtorEq]
      simp only [go_sem, W_cond2, WO_guard3, WE_guard3, WQ_guard3, KB_n, KB_x, Nat.reduceBEq, Nat.reduceAdd, Nat.reduceLT, Nat.reduceLeDiff, Nat.reduceEqDiff, reduceIte, Int.reduceEq, reduceCtorEq, List.map_nil, List.map_cons, n1, cells_s, ldA_1, r1]
      exact fin _
    have f2 : (a = [45, 101]) = False := by simp [w2]
    by_cases w3 : a = [45, 102]
    · have f3 : (a = [45, 102]) = True := by simp [w3]
      rw [if_neg w0]; rw [if_neg w1]; rw [if_neg w2]; rw [if_pos w3]
      simp only [go_sem, W_cond2, WO_guard3, WE_guard3, WQ_guard3, KB_n, KB_x, Nat.reduceBEq, Nat.reduceAdd, Nat.reduceLT, Nat.reduceLeDiff, Nat.reduceEqDiff, reduceIte, Int.reduceEq, reduceCtorEq, List.map_nil, List.map_cons, d, n0, cells_s, ldA_1, hbm, f0, f1, f2, f3]
      refine KW_ld rfl ?_ (still_s _) ⟨⟨_, rfl, ldA_1 _ (.s a)⟩, ⟨_, rfl, ldA_1 _ (.s a)⟩, ⟨_, rfl, ldA_1 _ (.s a)⟩, ⟨_, rfl, ldA_1 _ (.s a)⟩, ⟨_, rfl, ldA_1 _ (.s a)⟩, trivial⟩ (KW_end ?_)
      · simp only [go_sem, W_cond2, WO_guard3, WE_guard3, WQ_guard3, KB_n, KB_x, Nat.reduceBEq, Nat.reduceAdd, Nat.reduceLT, Nat.reduceLeDiff, Nat.reduceEqDiff, reduceIte, Int.reduceEq, reduceCtorEq]
      simp only [go_sem, W_cond2, WO_guard3, WE_guard3, WQ_guard3, KB_n, KB_x, Nat.reduceBEq, Nat.reduceAdd, Nat.reduceLT, Nat.reduceLeDiff, Nat.reduceEqDiff, reduceIte, Int.reduceEq, reduceCtorEq, List.map_nil, List.map_cons, n1, cells_s, ldA_1, r2]
      exact fin _
    have f3 : (a = [45, 102]) = False := by simp [w3]
    by_cases w4 : a = [45, 100]
    · have f4 : (a = [45, 100]) = True := by simp [w4]
      rw [if_neg w0]; rw [if_neg w1]; rw [if_neg w2]; rw [if_neg w3]; rw [if_pos w4]
      simp only [go_sem, W_cond2, WO_guard3, WE_guard3, WQ_guard3, KB_n, KB_x, Nat.reduceBEq, Nat.reduceAdd, Nat.reduceLT, Nat.reduceLeDiff, Nat.reduceEqDiff, reduceIte, Int.reduceEq, reduceCtorEq, List.map_nil, List.map_cons, d, n0, cells_s, ldA_1, hbm, f0, f1, f2, f3, f4]
      refine KW_ld rfl ?_ (still_s _) ⟨⟨_, rfl, ldA_1 _ (.s a)⟩, ⟨_, rfl, ldA_1 _ (.s a)⟩, ⟨_, rfl, ldA_1 _ (.s a)⟩, ⟨_, rfl, ldA_1 _ (.s a)⟩, ⟨_, rfl, ldA_1 _ (.s a)⟩, trivial⟩ (KW_end ?_)
      · simp only [go_sem, W_cond2, WO_guard3, WE_guard3, WQ_guard3, KB_n, KB_x, Nat.reduceBEq, Nat.reduceAdd, Nat.reduceLT, Nat.reduceLeDiff, Nat.reduceEqDiff, reduceIte, Int.reduceEq, reduceCtorEq]
      simp only [go_sem, W_cond2, WO_guard3, WE_guard3, WQ_guard3, KB_n, KB_x, Nat.reduceBEq, Nat.reduceAdd, Nat.reduceLT, Nat.reduceLeDiff, Nat.reduceEqDiff, reduceIte, Int.reduceEq, reduceCtorEq, List.map_nil, List.map_cons, n1, cells_s, ldA_1, r3]
      exact fin _
    have f4 : (a = [45, 100]) = False := by simp [w4]
    by_cases w5 : a = [45, 76]
    · have f5 : (a = [45, 76]) = True := by simp [w5]
      rw [if_neg w0]; rw [if_neg w1]; rw [if_neg w2]; rw [if_neg w3]; rw [if_neg w4]; rw [if_pos w5]
      simp only [go_sem, W_cond2, WO_guard3, WE_guard3, WQ_guard3, KB_n, KB_x, Nat.reduceBEq, Nat.reduceAdd, Nat.reduceLT, Nat.reduceLeDiff, Nat.reduceEqDiff, reduceIte, Int.reduceEq, reduceCtorEq, List.map_nil, List.map_cons, d, n0, cells_s, ldA_1, hbm, f0, f1, f2, f3, f4, f5]
      refine KW_ld rfl ?_ (still_s _) ⟨⟨_, rfl, ldA_1 _ (.s a)⟩, ⟨_, rfl, ldA_1 _ (.s a)⟩, ⟨_, rfl, ldA_1 _ (.s a)⟩, ⟨_, rfl, ldA_1 _ (.s a)⟩, ⟨_, rfl, ldA_1 _ (.s a)⟩, trivial⟩ (KW_end ?_)
      · simp only [go_sem, W_cond2, WO_guard3, WE_guard3, WQ_guard3, KB_n, KB_x, Nat.reduceBEq, Nat.reduceAdd, Nat.reduceLT, Nat.reduceLeDiff, Nat.reduceEqDiff, reduceIte, Int.reduceEq, reduceCtorEq]
      simp only [go_sem, W_cond2, WO_guard3, WE_guard3, WQ_guard3, KB_n, KB_x, Nat.reduceBEq, Nat.reduceAdd, Nat.reduceLT, Nat.reduceLeDiff, Nat.reduceEqDiff, reduceIte, Int.reduceEq, reduceCtorEq, List.map_nil, List.map_cons, n1, cells_s, ldA_1, r4]
      exact fin _
    have f5 : (a = [45, 76]) = False := by simp [w5]
    by_cases w6 : a = [45, 104]
    · have f6 : (a = [45, 104]) = True := by simp [w6]
      rw [if_neg w0]; rw [if_neg w1]; rw [if_neg w2]; rw [if_neg w3]; rw [if_neg w4]; rw [if_neg w5]; rw [if_pos w6]
      simp only [go_sem, W_cond2, WO_guard3, WE_guard3, WQ_guard3, KB_n, KB_x, Nat.reduceBEq, Nat.reduceAdd, Nat.reduceLT, Nat.reduceLeDiff, Nat.reduceEqDiff, reduceIte, Int.reduceEq, reduceCtorEq, List.map_nil, List.map_cons, d, n0, cells_s, ldA_1, hbm, f0, f1, f2, f3, f4, f5, f6]
      refine KW_ld rfl ?_ (still_s _) ⟨⟨_, rfl, ldA_1 _ (.s a)⟩, ⟨_, rfl, ldA_1 _ (.s a)⟩, ⟨_, rfl, ldA_1 _ (.s a)⟩, ⟨_, rfl, ldA_1 _ (.s a)⟩, ⟨_, rfl, ldA_1 _ (.s a)⟩, trivial⟩ (KW_end ?_)
      · simp only [go_sem, W_cond2, WO_guard3, WE_guard3, WQ_guard3, KB_n, KB_x, Nat.reduceBEq, Nat.reduceAdd, Nat.reduceLT, Nat.reduceLeDiff, Nat.reduceEqDiff, reduceIte, Int.reduceEq, reduceCtorEq]
      simp only [go_sem, W_cond2, WO_guard3, WE_guard3, WQ_guard3, KB_n, KB_x, Nat.reduceBEq, Nat.reduceAdd, Nat.reduceLT, Nat.reduceLeDiff, Nat.reduceEqDiff, reduceIte, Int.reduceEq, reduceCtorEq, List.map_nil, List.map_cons, n1, cells_s, ldA_1, r4]
      exact fin _
    have f6 : (a = [45, 104]) = False := by simp [w6]
    rw [if_neg w0]; rw [if_neg w1]; rw [if_neg w2]; rw [if_neg w3]; rw [if_neg w4]; rw [if_neg w5]; rw [if_neg w6]
    simp only [go_sem, W_cond2, WO_guard3, WE_guard3, WQ_guard3, KB_n, KB_x, Nat.reduceBEq, Nat.reduceAdd, Nat.reduceLT, Nat.reduceLeDiff, Nat.reduceEqDiff, reduceIte, Int.reduceEq, reduceCtorEq, List.map_nil, List.map_cons, d, n0, cells_s, ldA_1, hbm, f0, f1, f2, f3, f4, f5, f6]
    refine KW_ld rfl ?_ (still_s _) ⟨⟨_, rfl, ldA_1 _ (.s a)⟩, ⟨_, rfl, ldA_1 _ (.s a)⟩, ⟨_, rfl, ldA_1 _ (.s a)⟩, ⟨_, rfl, ldA_1 _ (.s a)⟩, ⟨_, rfl, ldA_1 _ (.s a)⟩, trivial⟩ (KW_end ?_)
    · simp only [go_sem, W_cond2, WO_guard3, WE_guard3, WQ_guard3, KB_n, KB_x, Nat.reduceBEq, Nat.reduceAdd, Nat.reduceLT, Nat.reduceLeDiff, Nat.reduceEqDiff, reduceIte, Int.reduceEq, reduceCtorEq]
    simp only [go_sem, W_cond2, WO_guard3, WE_guard3, WQ_guard3, KB_n, KB_x, Nat.reduceBEq, Nat.reduceAdd, Nat.reduceLT, Nat.reduceLeDiff, Nat.reduceEqDiff, reduceIte, Int.reduceEq, reduceCtorEq]
    exact KR_some hov rfl rfl
theorem neg_rr (r : Bool × Bool) : rr (negR r) = .tup [.b (r.2 && !r.1), .b r.2] := rfl
theorem holds3_ok (hw : Wf s) (ht : Tre n id s) (a b c : List Nat) (hc : Txt c) (hl : c.length < 2 ^ 32) : (lim prog).call f_probe_Holds [.ifc 28 (.p id 0), tx [a, b, c]] s = some (rr (h3N n a b c), s) := by
  refine fn_W p_probe_Holds rfl rfl ?_
  have hz0 : wkZ c_probe_Holds.cin [.ifc 28 (.p id 0), tx [a, b, c]] = [.ifc 28 (.p id 0), tx [a, b, c]] := by simp [c_probe_Holds, wkZ, wk, wkM]
  rw [hz0]
  have c0 : (((3 : Nat) : Int) = 0) = False := by simp
  have c1 : (((3 : Nat) : Int) = 1) = False := by simp
  have c2 : (((3 : Nat) : Int) = 2) = False := by simp
  have c3 : (((3 : Nat) : Int) = 3) = True := by simp
  have c4 : (((3 : Nat) : Int) ≤ 4) = True := by simp
  have n0 : natOf (.i .i64 0) = some 0 := rfl
  have n1 : natOf (.i .i64 1) = some 1 := rfl
  have n2 : natOf (.i .i64 2) = some 2 := rfl
  unfold h3N
  by_cases h1 : b = [61]
  · have e1 : (b = [61]) = True := by simp [h1]
    rw [if_pos h1]
    simp only [c_probe_Holds, go_sem, W_cond2, WO_guard3, WE_guard3, WQ_guard3, KB_n, KB_x, Nat.reduceBEq, Nat.reduceAdd, Nat.reduceLT, Nat.reduceLeDiff, Nat.reduceEqDiff, reduceIte, Int.reduceEq, reduceCtorEq, List.map_nil, List.map_cons, c0, c1, c3, n0, n1, n2, cells_s, ldA_1, e1]
    exact KR_some (Over.enter s) rfl rfl
  have e1 : (b = [61]) = False := by simp [h1]
  rw [if_neg h1]
  by_cases h2 : b = [33, 61]
  · have e2 : (b = [33, 61]) = True := by simp [h2]
    rw [if_pos h2]
    simp only [c_probe_Holds, go_sem, W_cond2, WO_guard3, WE_guard3, WQ_guard3, KB_n, KB_x, Nat.reduceBEq, Nat.reduceAdd, Nat.reduceLT, Nat.reduceLeDiff, Nat.reduceEqDiff, reduceIte, Int.reduceEq, reduceCtorEq, List.map_nil, List.map_cons, c0, c1, c3, n0, n1, n2, cells_s, ldA_1, e1, e2]
    exact KR_some (Over.enter s) rfl rfl
  have e2 : (b = [33, 61]) = False := by simp [h2]
  rw [if_neg h2]
  by_cases h3 : a = [33]
  · have ea : (a = [33]) = True := by simp [h3]
    rw [if_pos h3, neg_rr]
    have hr : (lim prog).call f_probe_Holds [.ifc 28 (.p id 0), .ws false 1 [.s b, .s c]] s.enter = some (rr (h2N n b c), s.enter) := holds2_ok hw.enter ⟨ht.ok, ht.well, ht.lt, ht.box⟩ b c hc hl
    have hs : sliceA s.enter false 1 (tx [a, b, c]) (some (.i .i64 1)) none none = some (tx [b, c], s.enter) := by simp [sliceA, bounds, natOf]
    generalize h2N n b c = r at hr ⊢
    obtain ⟨x, y⟩ := r
    simp only [rr] at hr
    cases y
    all_goals
      simp only [c_probe_Holds, go_sem, W_cond2, WO_guard3, WE_guard3, WQ_guard3, KB_n, KB_x, Nat.reduceBEq, Nat.reduceAdd, Nat.reduceLT, Nat.reduceLeDiff, Nat.reduceEqDiff, reduceIte, Int.reduceEq, reduceCtorEq, List.map_nil, List.map_cons, c0, c1, c2, c3, c4, n0, n1, n2, cells_s, ldA_1, e1, e2, ea, hs, hr]
      exact KR_some (Over.enter s) rfl rfl
  · have ea : (a = [33]) = False := by simp [h3]
    rw [if_neg h3]
    simp only [c_probe_Holds, go_sem, W_cond2, WO_guard3, WE_guard3, WQ_guard3, KB_n, KB_x, Nat.reduceBEq, Nat.reduceAdd, Nat.reduceLT, Nat.reduceLeDiff, Nat.reduceEqDiff, reduceIte, Int.reduceEq, reduceCtorEq, List.map_nil, List.map_cons, c0, c1, c2, c3, c4, n0, n1, n2, cells_s, ldA_1, e1, e2, ea]
    exact KR_some (Over.enter s) rfl rfl
theorem holds4_ok (hw : Wf s) (ht : Tre n id s) (a b c d : List Nat) (hd : Txt d) (hl : d.length < 2 ^ 32) : (lim prog).call f_probe_Holds [.ifc 28 (.p id 0), tx [a, b, c, d]] s = some (rr (holdsN n [a, b, c, d]), s) := by
  refine fn_W p_probe_Holds rfl rfl ?_
  have hz0 : wkZ c_probe_Holds.cin [.ifc 28 (.p id 0), tx [a, b, c, d]] = [.ifc 28 (.p id 0), tx [a, b, c, d]] := by simp [c_probe_Holds, wkZ, wk, wkM]
  rw [hz0]
  have c0 : (((4 : Nat) : Int) = 0) = False := by simp
  have c1 : (((4 : Nat) : Int) = 1) = False := by simp
  have c2 : (((4 : Nat) : Int) = 2) = False := by simp
  have c3 : (((4 : Nat) : Int) = 3) = False := by simp
  have c4 : (((4 : Nat) : Int) ≤ 4) = True := by simp
  have n0 : natOf (.i .i64 0) = some 0 := rfl
  have n1 : natOf (.i .i64 1) = some 1 := rfl
  simp only [holdsN]
  by_cases h3 : a = [33]
  · have ea : (a = [33]) = True := by simp [h3]
    rw [if_pos h3, neg_rr]
    have hr : (lim prog).call f_probe_Holds [.ifc 28 (.p id 0), .ws false 1 [.s b, .s c, .s d]] s.enter = some (rr (h3N n b c d), s.enter) := holds3_ok hw.enter ⟨ht.ok, ht.well, ht.lt, ht.box⟩ b c d hd hl
    have hs : sliceA s.enter false 1 (tx [a, b, c, d]) (some (.i .i64 1)) none none = some (tx [b, c, d], s.enter) := by simp [sliceA, bounds, natOf]
    generalize h3N n b c d = r at hr ⊢
    obtain ⟨x, y⟩ := r
    simp only [rr] at hr
    cases y
    all_goals
      simp only [c_probe_Holds, go_sem, W_cond2, WO_guard3, WE_guard3, WQ_guard3, KB_n, KB_x, Nat.reduceBEq, Nat.reduceAdd, Nat.reduceLT, Nat.reduceLeDiff, Nat.reduceEqDiff, reduceIte, Int.reduceEq, reduceCtorEq, List.map_nil, List.map_cons, c0, c1, c2, c3, c4, n0, n1, cells_s, ldA_1, ea, hs, hr]
      exact KR_some (Over.enter s) rfl rfl
  · have ea : (a = [33]) = False := by simp [h3]
    rw [if_neg h3]
    simp only [c_probe_Holds, go_sem, W_cond2, WO_guard3, WE_guard3, WQ_guard3, KB_n, KB_x, Nat.reduceBEq, Nat.reduceAdd, Nat.reduceLT, Nat.reduceLeDiff, Nat.reduceEqDiff, reduceIte, Int.reduceEq, reduceCtorEq, List.map_nil, List.map_cons, c0, c1, c2, c3, c4, n0, n1, cells_s, ldA_1, ea]
    exact KR_some (Over.enter s) rfl rfl
theorem holdsM_ok (hw : Wf s) (l : List (List Nat)) (h5 : 5 ≤ l.length) : (lim prog).call f_probe_Holds [.ifc 28 (.p id 0), tx l] s = some (.tup [.b false, .b false], s) := by
  refine fn_W p_probe_Holds rfl rfl ?_
  have hz0 : wkZ c_probe_Holds.cin [.ifc 28 (.p id 0), tx l] = [.ifc 28 (.p id 0), tx l] := by simp [c_probe_Holds, wkZ, wk, wkM_s]
  rw [hz0]
  have c0 : ((l.length : Int) = 0) = False := by simp only [eq_iff_iff, iff_false]; omega
  have c1 : ((l.length : Int) = 1) = False := by simp only [eq_iff_iff, iff_false]; omega
  have c2 : ((l.length : Int) = 2) = False := by simp only [eq_iff_iff, iff_false]; omega
  have c3 : ((l.length : Int) = 3) = False := by simp only [eq_iff_iff, iff_false]; omega
  have c4 : ((l.length : Int) ≤ 4) = False := by simp only [eq_iff_iff, iff_false]; omega
  simp only [c_probe_Holds, go_sem, W_cond2, WO_guard3, WE_guard3, WQ_guard3, KB_n, KB_x, Nat.reduceBEq, Nat.reduceAdd, Nat.reduceLT, Nat.reduceLeDiff, Nat.reduceEqDiff, reduceIte, Int.reduceEq, reduceCtorEq, List.length_map, c0, c1, c2, c3, c4]
  exact KR_some (Over.enter s) rfl rfl
theorem holds_ok (hw : Wf s) (ht : Tre n id s) (l : List (List Nat)) (hl : ∀ x ∈ l, Txt x ∧ x.length < 2 ^ 32) : (lim prog).call f_probe_Holds [.ifc 28 (.p id 0), tx l] s = some (rr (holdsN n l), s) := by
  match l, hl with
  | [], _ => exact holds0_ok hw
  | [a], _ => exact holds1_ok hw a
  | [a, b], hl => exact holds2_ok hw ht a b (hl b (by simp)).1 (hl b (by simp)).2
  | [a, b, c], hl => exact holds3_ok hw ht a b c (hl c (by simp)).1 (hl c (by simp)).2
  | [a, b, c, d], hl => exact holds4_ok hw ht a b c d (hl d (by simp)).1 (hl d (by simp)).2
  | a :: b :: c :: d :: e :: l, _ => exact holdsM_ok hw _ (by simp)
end
end Go.Proofs.YtkkfjoiffcmpeaaDoor

/-
  touchstoneref07: what a tree is.
-/
set_option maxRecDepth 100000
set_option maxHeartbeats 4000000
set_option linter.unusedSimpArgs false
set_option linter.constructorNameAsVariable false
namespace Go.Proofs.YtkkfjoiffcmpeaaDoor
open Go.Proofs.YtkkfjoiffcmpeaaDoor.Am
attribute [local irreducible] W WO WE WQ WD Tr.get Tr.set
def textN (t : List Nat) : Bool := decide (t.length ≤ 256) && !t.contains 0
theorem ref7text_ok (t : List Nat) (hl : t.length < 2 ^ 62) (s : St) : (lim prog).call f_touchstoneref07_text [.s t] s = some (.b (textN t), s) := by
  refine fn_W p_touchstoneref07_text rfl rfl ?_
  simp only [c_touchstoneref07_text, go_sem, W_cond2, WO_guard3, WE_guard3, WQ_guard3, KB_n, KB_x, Nat.reduceBEq, Nat.reduceAdd, Nat.reduceLT, Nat.reduceLeDiff, Nat.reduceEqDiff, reduceIte, Int.reduceEq, reduceCtorEq]
  refine W_loop (fun x e q => ∃ i : Nat, i + x = t.length ∧ q = s.enter ∧ (t.take i).contains 0 = false ∧ e.get 0 = .s t ∧ e.get 3 = .i .i64 (i : Nat)) ?_ t.length _ _ ⟨0, by omega, rfl, by simp, by simp only [go_sem, W_cond2, WO_guard3, WE_guard3, WQ_guard3, KB_n, KB_x, Nat.reduceBEq, Nat.reduceAdd, Nat.reduceLT, Nat.reduceLeDiff, Nat.reduceEqDiff, reduceIte, Int.reduceEq, reduceCtorEq], by simp only [go_sem, W_cond2, WO_guard3, WE_guard3, WQ_guard3, KB_n, KB_x, Nat.reduceBEq, Nat.reduceAdd, Nat.reduceLT, Nat.reduceLeDiff, Nat.reduceEqDiff, reduceIte, Int.reduceEq, reduceCtorEq]; rfl⟩
  rintro x e q ⟨i, hi, rfl, hn, g0, g3⟩
  by_cases h : i < t.length
  · have e1 : ((i : Int) < (t.length : Int)) = True := by simp only [eq_iff_iff, iff_true]; omega
    have hw1 := wrap_succ (show i + 1 < 2 ^ 63 by omega)
    have hc : t[i]? = some t[i] := List.getElem?_eq_getElem h
    have htk : t.take (i + 1) = t.take i ++ [t[i]] := by rw [List.take_add_one, hc]; rfl
    by_cases h0 : t[i] = 0
    · have e2 : ((t[i] : Int) = 0) = True := by simp [h0]
      simp only [go_sem, W_cond2, WO_guard3, WE_guard3, WQ_guard3, KB_n, KB_x, Nat.reduceBEq, Nat.reduceAdd, Nat.reduceLT, Nat.reduceLeDiff, Nat.reduceEqDiff, reduceIte, Int.reduceEq, reduceCtorEq, g0, g3, e1, natOf_nat, hw1, hc, e2]
      refine KR_some (Over.enter s) rfl ?_
      have : textN t = false := by
        have : t.contains 0 = true := by rw [List.contains_iff_mem, ← h0]; exact List.getElem_mem h
        rw [textN, this]; simp
      rw [this]; rfl
    · have e2 : ((t[i] : Int) = 0) = False := by simp only [eq_iff_iff, iff_false]; omega
      simp only [go_sem, W_cond2, WO_guard3, WE_guard3, WQ_guard3, KB_n, KB_x, Nat.reduceBEq, Nat.reduceAdd, Nat.reduceLT, Nat.reduceLeDiff, Nat.reduceEqDiff, reduceIte, Int.reduceEq, reduceCtorEq, g0, g3, e1, natOf_nat, hw1, hc, e2]
      refine ⟨x - 1, by omega, i + 1, by omega, ?_, rfl⟩
      have hb : (0 == t[i]) = false := by simp only [beq_eq_false_iff_ne, ne_eq]; omega
      rw [htk]
      simp only [List.contains_append, hn, List.contains_cons, List.contains_nil, hb, Bool.or_self]
  · have e1 : ((i : Int) < (t.length : Int)) = False := by simp only [eq_iff_iff, iff_false]; omega
    have e2 : ((t.length : Int) ≤ 256) = (t.length ≤ 256) := by simp only [eq_iff_iff]; omega
    rw [List.take_of_length_le (by omega)] at hn
    simp only [go_sem, W_cond2, WO_guard3, WE_guard3, WQ_guard3, KB_n, KB_x, Nat.reduceBEq, Nat.reduceAdd, Nat.reduceLT, Nat.reduceLeDiff, Nat.reduceEqDiff, reduceIte, Int.reduceEq, reduceCtorEq, g0, g3, e1, e2]
    refine KR_some (Over.enter s) rfl ?_
    simp only [textN, hn, tupOf, wkZ, wk, Bool.not_false, Bool.and_true]
def W1 (n : ND) : Bool := decide (n.names.length = 0) && (decide (n.kids.length = 0) && (textN n.text && (decide (n.kind = 1) || decide (0 < n.text.length))))
theorem W1_eq (n : ND) : (decide (n.names = []) && (decide (n.kids.length = 0) && (decide (n.text.length ≤ 256) && (!n.text.contains 0 && (decide (n.kind = 1) || decide (n.text ≠ [])))))) = W1 n := by
  have h1 : decide (n.names = []) = decide (n.names.length = 0) := by simp
  have h2 : decide (n.text ≠ []) = decide (0 < n.text.length) := by simp [List.length_pos_iff]
  unfold W1 textN
  rw [h1, h2, Bool.and_assoc]
theorem ref7well_ok : ∀ n : ND, n.Ok → ∀ s, Wf s → (lim prog).call f_touchstoneref07_Well [.agg n.cells] s = some (.b (wellN n), s) := by
  refine ND.ind fun n ih ho s hw => ?_
  refine fn_W p_touchstoneref07_Well rfl rfl ?_
  have H1 := (Hp.begin hw).new (.cells 25 n.cells)
  generalize hq : s.enter.new (.cells 25 n.cells) = q at H1
  generalize hm : s.enter.nb = m at H1
  have l0 := H1.ld 0 (off := 0) (v := .i .u8 (n.kind : Nat)) rfl rfl
  have l1 := H1.ld 0 (off := 1) (v := .s n.text) rfl rfl
  have l2 := H1.ld 0 (off := 2) (v := tx n.names) rfl rfl
  have l3 := H1.ld 0 (off := 3) (v := .ws false 4 (n.kids.map ND.av)) rfl rfl
  have hz0 : wkZ c_touchstoneref07_Well.cin [.agg n.cells] = [.agg n.cells] := by simp [c_touchstoneref07_Well, wkZ, wk, ND.cells]
  have ht := ref7text_ok n.text ho.text.2 q
  rw [hz0, wellN_eq, W1_eq]
  have hbr : ∀ b, KR s [.id] (.b b) (some ([.b b], q)) := fun b => KR_some H1.over rfl rfl
  by_cases c1 : n.kind = 1 ∨ n.kind = 3
  · rw [if_pos c1]
    by_cases k1 : n.kind = 1
    · have e1 : ((n.kind : Int) = 1) = True := by simp only [eq_iff_iff, iff_true]; omega
      by_cases d1 : n.names.length = 0
      · have f1 : ((n.names.length : Int) = 0) = True := by simp only [eq_iff_iff, iff_true]; omega
        by_cases d2 : n.kids.length = 0
        · have f2 : ((n.kids.length : Int) = 0) = True := by simp only [eq_iff_iff, iff_true]; omega
          cases d3 : textN n.text
          · rw [d3] at ht
            simp only [c_touchstoneref07_Well, go_sem, W_cond2, WO_guard3, WE_guard3, WQ_guard3, KB_n, KB_x, Nat.reduceBEq, Nat.reduceAdd, Nat.reduceLT, Nat.reduceLeDiff, Nat.reduceEqDiff, reduceIte, Int.reduceEq, reduceCtorEq, cells4, hq, hm, l0, l1, l2, l3, Nat.zero_add, List.length_map, ht, e1, f1, f2]
            rw [show W1 n = false by simp [W1, d3]]
            exact hbr _
          · rw [d3] at ht
            simp only [c_touchstoneref07_Well, go_sem, W_cond2, WO_guard3, WE_guard3, WQ_guard3, KB_n, KB_x, Nat.reduceBEq, Nat.reduceAdd, Nat.reduceLT, Nat.reduceLeDiff, Nat.reduceEqDiff, reduceIte, Int.reduceEq, reduceCtorEq, cells4, hq, hm, l0, l1, l2, l3, Nat.zero_add, List.length_map, ht, e1, f1, f2]
            rw [show W1 n = true by simp [W1, d1, d2, d3, k1]]
            exact hbr _
        · have f2 : ((n.kids.length : Int) = 0) = False := by simp only [eq_iff_iff, iff_false]; omega
          simp only [c_touchstoneref07_Well, go_sem, W_cond2, WO_guard3, WE_guard3, WQ_guard3, KB_n, KB_x, Nat.reduceBEq, Nat.reduceAdd, Nat.reduceLT, Nat.reduceLeDiff, Nat.reduceEqDiff, reduceIte, Int.reduceEq, reduceCtorEq, cells4, hq, hm, l0, l1, l2, l3, Nat.zero_add, List.length_map, ht, e1, f1, f2]
          rw [show W1 n = false by simp [W1, d2]]
          exact hbr _
      · have f1 : ((n.names.length : Int) = 0) = False := by simp only [eq_iff_iff, iff_false]; omega
        simp only [c_touchstoneref07_Well, go_sem, W_cond2, WO_guard3, WE_guard3, WQ_guard3, KB_n, KB_x, Nat.reduceBEq, Nat.reduceAdd, Nat.reduceLT, Nat.reduceLeDiff, Nat.reduceEqDiff, reduceIte, Int.reduceEq, reduceCtorEq, cells4, hq, hm, l0, l1, l2, l3, Nat.zero_add, List.length_map, ht, e1, f1]
        rw [show W1 n = false by simp [W1, d1]]
        exact hbr _
    · have e1 : ((n.kind : Int) = 1) = False := by simp only [eq_iff_iff, iff_false]; omega
      have e3 : ((n.kind : Int) = 3) = True := by simp only [eq_iff_iff, iff_true]; omega
      by_cases d1 : n.names.length = 0
      · have f1 : ((n.names.length : Int) = 0) = True := by simp only [eq_iff_iff, iff_true]; omega
        by_cases d2 : n.kids.length = 0
        · have f2 : ((n.kids.length : Int) = 0) = True := by simp only [eq_iff_iff, iff_true]; omega
          cases d3 : textN n.text
          · rw [d3] at ht
            simp only [c_touchstoneref07_Well, go_sem, W_cond2, WO_guard3, WE_guard3, WQ_guard3, KB_n, KB_x, Nat.reduceBEq, Nat.reduceAdd, Nat.reduceLT, Nat.reduceLeDiff, Nat.reduceEqDiff, reduceIte, Int.reduceEq, reduceCtorEq, cells4, hq, hm, l0, l1, l2, l3, Nat.zero_add, List.length_map, ht, e1, e3, f1, f2]
            rw [show W1 n = false by simp [W1, d3]]
            exact hbr _
          · rw [d3] at ht
            by_cases d4 : 0 < n.text.length
            · have f4 : ((0 : Int) < (n.text.length : Int)) = True := by simp only [eq_iff_iff, iff_true]; omega
              simp only [c_touchstoneref07_Well, go_sem, W_cond2, WO_guard3, WE_guard3, WQ_guard3, KB_n, KB_x, Nat.reduceBEq, Nat.reduceAdd, Nat.reduceLT, Nat.reduceLeDiff, Nat.reduceEqDiff, reduceIte, Int.reduceEq, reduceCtorEq, cells4, hq, hm, l0, l1, l2, l3, Nat.zero_add, List.length_map, ht, e1, e3, f1, f2, f4]
              rw [show W1 n = true by simp [W1, d1, d2, d3, d4, k1]]
              exact hbr _
            · have f4 : ((0 : Int) < (n.text.length : Int)) = False := by simp only [eq_iff_iff, iff_false]; omega
              simp only [c_touchstoneref07_Well, go_sem, W_cond2, WO_guard3, WE_guard3, WQ_guard3, KB_n, KB_x, Nat.reduceBEq, Nat.reduceAdd, Nat.reduceLT, Nat.reduceLeDiff, Nat.reduceEqDiff, reduceIte, Int.reduceEq, reduceCtorEq, cells4, hq, hm, l0, l1, l2, l3, Nat.zero_add, List.length_map, ht, e1, e3, f1, f2, f4]
              rw [show W1 n = false by simp [W1, d1, d2, d3, d4, k1]]
              exact hbr _
        · have f2 : ((n.kids.length : Int) = 0) = False := by simp only [eq_iff_iff, iff_false]; omega
          simp only [c_touchstoneref07_Well, go_sem, W_cond2, WO_guard3, WE_guard3, WQ_guard3, KB_n, KB_x, Nat.reduceBEq, Nat.reduceAdd, Nat.reduceLT, Nat.reduceLeDiff, Nat.reduceEqDiff, reduceIte, Int.reduceEq, reduceCtorEq, cells4, hq, hm, l0, l1, l2, l3, Nat.zero_add, List.length_map, ht, e1, e3, f1, f2]
          rw [show W1 n = false by simp [W1, d2]]
          exact hbr _
      · have f1 : ((n.names.length : Int) = 0) = False := by simp only [eq_iff_iff, iff_false]; omega
        simp only [c_touchstoneref07_Well, go_sem, W_cond2, WO_guard3, WE_guard3, WQ_guard3, KB_n, KB_x, Nat.reduceBEq, Nat.reduceAdd, Nat.reduceLT, Nat.reduceLeDiff, Nat.reduceEqDiff, reduceIte, Int.reduceEq, reduceCtorEq, cells4, hq, hm, l0, l1, l2, l3, Nat.zero_add, List.length_map, ht, e1, e3, f1]
        rw [show W1 n = false by simp [W1, d1]]
        exact hbr _
  · rw [if_neg c1]
    have e1 : ((n.kind : Int) = 1) = False := by simp only [eq_iff_iff, iff_false]; omega
    have e3 : ((n.kind : Int) = 3) = False := by simp only [eq_iff_iff, iff_false]; omega
    by_cases c2 : n.kind = 2
    · rw [if_pos c2]
      have e2 : ((n.kind : Int) ≠ 2) = False := by simp [c2]
      by_cases d1 : n.text = []
      · have f1 : (n.text ≠ []) = False := by simp [d1]
        by_cases d2 : n.names.length = n.kids.length
        · have f2 : ((n.names.length : Int) ≠ (n.kids.length : Int)) = False := by simp only [ne_eq, eq_iff_iff, iff_false]; omega
          rw [decide_eq_true d1, decide_eq_true d2]
          simp only [c_touchstoneref07_Well, go_sem, W_cond2, WO_guard3, WE_guard3, WQ_guard3, KB_n, KB_x, Nat.reduceBEq, Nat.reduceAdd, Nat.reduceLT, Nat.reduceLeDiff, Nat.reduceEqDiff, reduceIte, Int.reduceEq, reduceCtorEq, cells4, hq, hm, l0, l1, l2, l3, Nat.zero_add, List.length_map, ht, e1, e2, e3, f1, f2]
          refine W_loop (fun x e q' => ∃ i : Nat, i + x = n.names.length ∧ q' = q ∧ wellL none (n.names.take i) (n.kids.take i) = true ∧ e.get 1 = .p m 0 ∧ e.get 3 = .i .i64 (i : Nat)) ?_ n.names.length _ _ ⟨0, by omega, rfl, by simp [wellL], by simp only [go_sem, W_cond2, WO_guard3, WE_guard3, WQ_guard3, KB_n, KB_x, Nat.reduceBEq, Nat.reduceAdd, Nat.reduceLT, Nat.reduceLeDiff, Nat.reduceEqDiff, reduceIte, Int.reduceEq, reduceCtorEq], by simp only [go_sem, W_cond2, WO_guard3, WE_guard3, WQ_guard3, KB_n, KB_x, Nat.reduceBEq, Nat.reduceAdd, Nat.reduceLT, Nat.reduceLeDiff, Nat.reduceEqDiff, reduceIte, Int.reduceEq, reduceCtorEq]; rfl⟩
          rintro x e q' ⟨i, hi, rfl, hwl, g1, g3⟩
          have hnl := ho.names.2
          by_cases h : i < n.names.length
          · have h1 : ((i : Int) < (n.names.length : Int)) = True := by simp only [eq_iff_iff, iff_true]; omega
            obtain ⟨y, hy⟩ : ∃ y, n.names[i]? = some y := ⟨_, List.getElem?_eq_getElem h⟩
            obtain ⟨k, hk⟩ : ∃ k, n.kids[i]? = some k := ⟨_, List.getElem?_eq_getElem (by omega)⟩
            have hy2 : (n.names.map AV.s)[i]? = some (.s y) := by rw [List.getElem?_map, hy]; rfl
            have hk2 := kid_get hk
            have hkm : k ∈ n.kids := List.mem_of_getElem? hk
            have hym : y ∈ n.names := List.mem_of_getElem? hy
            have hnm := refName_ok y (ho.names.1 y hym).len q'
            have hkc := ih k hkm (ho.kids.1 k hkm) q' H1.wf
            have hld : ldA q' true 4 (.ep k.cells 0 .shut) = some (.agg k.cells) := rfl
            have hw1 := wrap_succ (show i + 1 < 2 ^ 63 by omega)
            have htk : n.names.take (i + 1) = n.names.take i ++ [y] := by rw [List.take_add_one, hy]; rfl
            have htk2 : n.kids.take (i + 1) = n.kids.take i ++ [k] := by rw [List.take_add_one, hk]; rfl
            have hsn := wellL_snoc none (n.names.take i) (n.kids.take i) y k (by rw [List.length_take, List.length_take]; omega)
            rw [← htk, ← htk2, hwl, Bool.true_and] at hsn
            have hno : wellL none (n.names.take (i + 1)) (n.kids.take (i + 1)) = false → wellL none n.names n.kids = false := fun hf => by
              rw [Bool.eq_false_iff]
              intro ht
              rw [wellL_take n none n.names n.kids (i + 1) ht] at hf
              cases hf
            cases hn1 : nameP y with
            | false =>
              rw [hn1] at hnm hsn
              rw [hno hsn]
              simp only [go_sem, W_cond2, WO_guard3, WE_guard3, WQ_guard3, KB_n, KB_x, Nat.reduceBEq, Nat.reduceAdd, Nat.reduceLT, Nat.reduceLeDiff, Nat.reduceEqDiff, reduceIte, Int.reduceEq, reduceCtorEq, g1, g3, l2, List.length_map, h1, natOf_nat, hy2, cells_s, ldA_1, hnm, Nat.zero_add]
              exact hbr _
            | true =>
            rw [hn1] at hnm hsn
            cases i with
            | zero =>
              have h2 : ((0 : Int) < ((0 : Nat) : Int)) = False := by simp
              have hsn : wellL none (n.names.take (0 + 1)) (n.kids.take (0 + 1)) = wellN k := by rw [hsn]; simp
              cases hwk : wellN k with
              | false =>
                rw [hwk] at hkc hsn
                rw [hno hsn]
                simp only [go_sem, W_cond2, WO_guard3, WE_guard3, WQ_guard3, KB_n, KB_x, Nat.reduceBEq, Nat.reduceAdd, Nat.reduceLT, Nat.reduceLeDiff, Nat.reduceEqDiff, reduceIte, Int.reduceEq, reduceCtorEq, g1, g3, l2, List.length_map, h1, natOf_nat, hy2, cells_s, ldA_1, hnm, h2, l3, hk2, hld, pub_cells, hkc, Nat.zero_add]
                exact ⟨rfl, hbr _⟩
              | true =>
                rw [hwk] at hkc hsn
                simp only [go_sem, W_cond2, WO_guard3, WE_guard3, WQ_guard3, KB_n, KB_x, Nat.reduceBEq, Nat.reduceAdd, Nat.reduceLT, Nat.reduceLeDiff, Nat.reduceEqDiff, reduceIte, Int.reduceEq, reduceCtorEq, g1, g3, l2, List.length_map, h1, natOf_nat, hy2, cells_s, ldA_1, hnm, h2, l3, hk2, hld, pub_cells, hkc, hw1, Nat.zero_add]
                exact ⟨rfl, x - 1, by omega, 0 + 1, by omega, hsn, by first | trivial | rfl⟩
            | succ i =>
              have h2 : ((0 : Int) < ((i + 1 : Nat) : Int)) = True := by simp only [eq_iff_iff, iff_true]; omega
              obtain ⟨z, hz⟩ : ∃ z, n.names[i]? = some z := ⟨_, List.getElem?_eq_getElem (by omega)⟩
              have hz2 : (n.names.map AV.s)[i]? = some (.s z) := by rw [List.getElem?_map, hz]; rfl
              have hsb : IntKind.i64.wrap (((i + 1 : Nat) : Int) - 1) = (i : Int) := by
                rw [show ((i + 1 : Nat) : Int) - 1 = (i : Int) by omega]; exact wrap_nat (by omega)
              rw [getLast_take hz] at hsn
              have hsn : wellL none (n.names.take (i + 1 + 1)) (n.kids.take (i + 1 + 1)) = (ltN z y && wellN k) := by rw [hsn]; simp
              have hle : (ltN y z || beqN y z) = !ltN z y := ltN_total y z
              cases hzy : ltN z y with
              | false =>
                rw [hzy] at hle hsn
                rw [hno hsn]
                simp only [go_sem, W_cond2, WO_guard3, WE_guard3, WQ_guard3, KB_n, KB_x, Nat.reduceBEq, Nat.reduceAdd, Nat.reduceLT, Nat.reduceLeDiff, Nat.reduceEqDiff, reduceIte, Int.reduceEq, reduceCtorEq, g1, g3, List.length_map, h1, natOf_nat, hy2, cells_s, ldA_1, hnm, h2, l2, hsb, hz2, bs_leq, hle, Nat.zero_add]
                exact hbr _
              | true =>
                rw [hzy] at hle hsn
                cases hwk : wellN k with
                | false =>
                  rw [hwk] at hkc hsn
                  rw [hno hsn]
                  simp only [go_sem, W_cond2, WO_guard3, WE_guard3, WQ_guard3, KB_n, KB_x, Nat.reduceBEq, Nat.reduceAdd, Nat.reduceLT, Nat.reduceLeDiff, Nat.reduceEqDiff, reduceIte, Int.reduceEq, reduceCtorEq, g1, g3, List.length_map, h1, natOf_nat, hy2, cells_s, ldA_1, hnm, h2, l2, hsb, hz2, bs_leq, hle, l3, hk2, hld, pub_cells, hkc, Nat.zero_add]
                  exact ⟨rfl, hbr _⟩
                | true =>
                  rw [hwk] at hkc hsn
                  simp only [go_sem, W_cond2, WO_guard3, WE_guard3, WQ_guard3, KB_n, KB_x, Nat.reduceBEq, Nat.reduceAdd, Nat.reduceLT, Nat.reduceLeDiff, Nat.reduceEqDiff, reduceIte, Int.reduceEq, reduceCtorEq, g1, g3, List.length_map, h1, natOf_nat, hy2, cells_s, ldA_1, hnm, h2, l2, hsb, hz2, bs_leq, hle, l3, hk2, hld, pub_cells, hkc, hw1, Nat.zero_add]
                  exact ⟨rfl, x - 1, by omega, i + 1 + 1, by omega, hsn, by first | trivial | rfl⟩
          · have h1 : ((i : Int) < (n.names.length : Int)) = False := by simp only [eq_iff_iff, iff_false]; omega
            rw [List.take_of_length_le (by omega), List.take_of_length_le (by omega)] at hwl
            rw [hwl]
            simp only [go_sem, W_cond2, WO_guard3, WE_guard3, WQ_guard3, KB_n, KB_x, Nat.reduceBEq, Nat.reduceAdd, Nat.reduceLT, Nat.reduceLeDiff, Nat.reduceEqDiff, reduceIte, Int.reduceEq, reduceCtorEq, g1, g3, l2, List.length_map, h1, Nat.zero_add]
            exact hbr _
        · have f2 : ((n.names.length : Int) ≠ (n.kids.length : Int)) = True := by simp only [ne_eq, eq_iff_iff, iff_true]; omega
          rw [decide_eq_true d1, decide_eq_false d2]
          simp only [c_touchstoneref07_Well, go_sem, W_cond2, WO_guard3, WE_guard3, WQ_guard3, KB_n, KB_x, Nat.reduceBEq, Nat.reduceAdd, Nat.reduceLT, Nat.reduceLeDiff, Nat.reduceEqDiff, reduceIte, Int.reduceEq, reduceCtorEq, cells4, hq, hm, l0, l1, l2, l3, Nat.zero_add, List.length_map, ht, e1, e2, e3, f1, f2]
          exact hbr _
      · have f1 : (n.text ≠ []) = True := by simp [d1]
        rw [decide_eq_false d1]
        simp only [c_touchstoneref07_Well, go_sem, W_cond2, WO_guard3, WE_guard3, WQ_guard3, KB_n, KB_x, Nat.reduceBEq, Nat.reduceAdd, Nat.reduceLT, Nat.reduceLeDiff, Nat.reduceEqDiff, reduceIte, Int.reduceEq, reduceCtorEq, cells4, hq, hm, l0, l1, l2, l3, Nat.zero_add, List.length_map, ht, e1, e2, e3, f1]
        exact hbr _
    · rw [if_neg c2]
      have e2 : ((n.kind : Int) ≠ 2) = True := by simp only [ne_eq, eq_iff_iff, iff_true]; omega
      simp only [c_touchstoneref07_Well, go_sem, W_cond2, WO_guard3, WE_guard3, WQ_guard3, KB_n, KB_x, Nat.reduceBEq, Nat.reduceAdd, Nat.reduceLT, Nat.reduceLeDiff, Nat.reduceEqDiff, reduceIte, Int.reduceEq, reduceCtorEq, cells4, hq, hm, l0, l1, l2, l3, Nat.zero_add, List.length_map, ht, e1, e2, e3]
      exact hbr _
theorem ref7nodes_ok : ∀ n : ND, n.Ok → nodesN n < 2 ^ 62 → ∀ s, Wf s → (lim prog).call f_touchstoneref07_Nodes [.agg n.cells] s = some (.i .i64 (nodesN n : Nat), s) := by
  refine ND.ind fun n ih ho hb s hw => ?_
  refine fn_W p_touchstoneref07_Nodes rfl rfl ?_
  have H1 := (Hp.begin hw).new (.cells 25 n.cells)
  generalize hq : s.enter.new (.cells 25 n.cells) = q at H1
  generalize hm : s.enter.nb = m at H1
  have l3 := H1.ld 0 (off := 3) (v := .ws false 4 (n.kids.map ND.av)) rfl rfl
  have hN := nodesN_eq n
  have hkl := ho.kids.2
  have hz0 : wkZ c_touchstoneref07_Nodes.cin [.agg n.cells] = [.agg n.cells] := by simp [c_touchstoneref07_Nodes, wkZ, wk, ND.cells]
  rw [hz0]
  simp only [c_touchstoneref07_Nodes, go_sem, W_cond2, WO_guard3, WE_guard3, WQ_guard3, KB_n, KB_x, Nat.reduceBEq, Nat.reduceAdd, Nat.reduceLT, Nat.reduceLeDiff, Nat.reduceEqDiff, reduceIte, Int.reduceEq, reduceCtorEq, cells4, hq, hm]
  refine W_loop (fun x e q' => ∃ i : Nat, i + x = n.kids.length ∧ q' = q ∧ e.get 1 = .p m 0 ∧ e.get 3 = .i .i64 ((1 + ((n.kids.take i).map nodesN).sum : Nat) : Int) ∧ e.get 4 = .i .i64 (i : Nat)) ?_ n.kids.length _ _ ⟨0, by omega, rfl, by simp only [go_sem, W_cond2, WO_guard3, WE_guard3, WQ_guard3, KB_n, KB_x, Nat.reduceBEq, Nat.reduceAdd, Nat.reduceLT, Nat.reduceLeDiff, Nat.reduceEqDiff, reduceIte, Int.reduceEq, reduceCtorEq], by simp only [go_sem, W_cond2, WO_guard3, WE_guard3, WQ_guard3, KB_n, KB_x, Nat.reduceBEq, Nat.reduceAdd, Nat.reduceLT, Nat.reduceLeDiff, Nat.reduceEqDiff, reduceIte, Int.reduceEq, reduceCtorEq]; rfl, by simp only [go_sem, W_cond2, WO_guard3, WE_guard3, WQ_guard3, KB_n, KB_x, Nat.reduceBEq, Nat.reduceAdd, Nat.reduceLT, Nat.reduceLeDiff, Nat.reduceEqDiff, reduceIte, Int.reduceEq, reduceCtorEq]; rfl⟩
  rintro x e q' ⟨i, hi, rfl, g1, g3, g4⟩
  by_cases h : i < n.kids.length
  · have e1 : ((i : Int) < (n.kids.length : Int)) = True := by simp only [eq_iff_iff, iff_true]; omega
    obtain ⟨k, hk1⟩ : ∃ k, n.kids[i]? = some k := ⟨_, List.getElem?_eq_getElem h⟩
    have hmem : k ∈ n.kids := List.mem_of_getElem? hk1
    have hget := kid_get hk1
    have hle := sum_mem_le (f := nodesN) hmem
    have hts := sum_take_succ nodesN hk1
    have htl := sum_take_le nodesN n.kids (i + 1)
    have hc := ih k hmem (ho.kids.1 k hmem) (by omega) q' H1.wf
    have hsum : IntKind.i64.wrap (((1 + ((n.kids.take i).map nodesN).sum : Nat) : Int) + ((nodesN k : Nat) : Int)) = ((1 + ((n.kids.take (i + 1)).map nodesN).sum : Nat) : Int) := by
      rw [hts, show ((1 + ((n.kids.take i).map nodesN).sum : Nat) : Int) + ((nodesN k : Nat) : Int) = ((1 + (((n.kids.take i).map nodesN).sum + nodesN k) : Nat) : Int) by omega]
      exact wrap_nat (by omega)
    have hw1 := wrap_succ (show i + 1 < 2 ^ 63 by omega)
    have hld : ldA q' true 4 (.ep k.cells 0 .shut) = some (.agg k.cells) := rfl
    simp only [go_sem, W_cond2, WO_guard3, WE_guard3, WQ_guard3, KB_n, KB_x, Nat.reduceBEq, Nat.reduceAdd, Nat.reduceLT, Nat.reduceLeDiff, Nat.reduceEqDiff, reduceIte, Int.reduceEq, reduceCtorEq, g1, g3, g4, l3, List.length_map, e1, natOf_nat, hget, hld, pub_cells, hc, hsum, hw1, Nat.zero_add]
    exact ⟨x - 1, by omega, i + 1, by omega, rfl, rfl⟩
  · have e1 : ((i : Int) < (n.kids.length : Int)) = False := by simp only [eq_iff_iff, iff_false]; omega
    obtain rfl : i = n.kids.length := by omega
    simp only [go_sem, W_cond2, WO_guard3, WE_guard3, WQ_guard3, KB_n, KB_x, Nat.reduceBEq, Nat.reduceAdd, Nat.reduceLT, Nat.reduceLeDiff, Nat.reduceEqDiff, reduceIte, Int.reduceEq, reduceCtorEq, g1, g3, g4, l3, List.length_map, e1, Nat.zero_add]
    refine KR_some H1.over rfl ?_
    rw [hN, List.take_length]; rfl
theorem ref7deep_ok : ∀ n : ND, n.Ok → nodesN n < 2 ^ 62 → ∀ s, Wf s → (lim prog).call f_touchstoneref07_deep [.agg n.cells] s = some (.i .i64 (deepN n : Nat), s) := by
  refine ND.ind fun n ih ho hb s hw => ?_
  refine fn_W p_touchstoneref07_deep rfl rfl ?_
  have H1 := (Hp.begin hw).new (.cells 25 n.cells)
  generalize hq : s.enter.new (.cells 25 n.cells) = q at H1
  generalize hm : s.enter.nb = m at H1
  have l3 := H1.ld 0 (off := 3) (v := .ws false 4 (n.kids.map ND.av)) rfl rfl
  have hN := nodesN_eq n
  have hkl := ho.kids.2
  have hz0 : wkZ c_touchstoneref07_deep.cin [.agg n.cells] = [.agg n.cells] := by simp [c_touchstoneref07_deep, wkZ, wk, ND.cells]
  rw [hz0]
  simp only [c_touchstoneref07_deep, go_sem, W_cond2, WO_guard3, WE_guard3, WQ_guard3, KB_n, KB_x, Nat.reduceBEq, Nat.reduceAdd, Nat.reduceLT, Nat.reduceLeDiff, Nat.reduceEqDiff, reduceIte, Int.reduceEq, reduceCtorEq, cells4, hq, hm]
  refine W_loop (fun x e q' => ∃ i : Nat, i + x = n.kids.length ∧ q' = q ∧ e.get 1 = .p m 0 ∧ e.get 3 = .i .i64 ((((n.kids.take i).map fun k => 1 + deepN k).foldr max 0 : Nat) : Int) ∧ e.get 4 = .i .i64 (i : Nat)) ?_ n.kids.length _ _ ⟨0, by omega, rfl, by simp only [go_sem, W_cond2, WO_guard3, WE_guard3, WQ_guard3, KB_n, KB_x, Nat.reduceBEq, Nat.reduceAdd, Nat.reduceLT, Nat.reduceLeDiff, Nat.reduceEqDiff, reduceIte, Int.reduceEq, reduceCtorEq], by simp only [go_sem, W_cond2, WO_guard3, WE_guard3, WQ_guard3, KB_n, KB_x, Nat.reduceBEq, Nat.reduceAdd, Nat.reduceLT, Nat.reduceLeDiff, Nat.reduceEqDiff, reduceIte, Int.reduceEq, reduceCtorEq]; rfl, by simp only [go_sem, W_cond2, WO_guard3, WE_guard3, WQ_guard3, KB_n, KB_x, Nat.reduceBEq, Nat.reduceAdd, Nat.reduceLT, Nat.reduceLeDiff, Nat.reduceEqDiff, reduceIte, Int.reduceEq, reduceCtorEq]; rfl⟩
  rintro x e q' ⟨i, hi, rfl, g1, g3, g4⟩
  by_cases h : i < n.kids.length
  · have e1 : ((i : Int) < (n.kids.length : Int)) = True := by simp only [eq_iff_iff, iff_true]; omega
    obtain ⟨k, hk1⟩ : ∃ k, n.kids[i]? = some k := ⟨_, List.getElem?_eq_getElem h⟩
    have hmem : k ∈ n.kids := List.mem_of_getElem? hk1
    have hget := kid_get hk1
    have hle := sum_mem_le (f := nodesN) hmem
    have hdn := deep_nodes k
    have hmt := max_take (fun k => 1 + deepN k) hk1
    have hc := ih k hmem (ho.kids.1 k hmem) (by omega) q' H1.wf
    have hsum : IntKind.i64.wrap (((deepN k : Nat) : Int) + 1) = ((1 + deepN k : Nat) : Int) := by
      rw [show ((deepN k : Nat) : Int) + 1 = ((1 + deepN k : Nat) : Int) by omega]
      exact wrap_nat (by omega)
    have hmx : (if ((1 + deepN k : Nat) : Int) > ((((n.kids.take i).map fun k => 1 + deepN k).foldr max 0 : Nat) : Int) then ((1 + deepN k : Nat) : Int) else ((((n.kids.take i).map fun k => 1 + deepN k).foldr max 0 : Nat) : Int)) = ((((n.kids.take (i + 1)).map fun k => 1 + deepN k).foldr max 0 : Nat) : Int) := by
      rw [hmt]
      split <;> omega
    have hw1 := wrap_succ (show i + 1 < 2 ^ 63 by omega)
    have hld : ldA q' true 4 (.ep k.cells 0 .shut) = some (.agg k.cells) := rfl
    simp only [go_sem, W_cond2, WO_guard3, WE_guard3, WQ_guard3, KB_n, KB_x, Nat.reduceBEq, Nat.reduceAdd, Nat.reduceLT, Nat.reduceLeDiff, Nat.reduceEqDiff, reduceIte, Int.reduceEq, reduceCtorEq, g1, g3, g4, l3, List.length_map, e1, natOf_nat, hget, hld, pub_cells, hc, hsum, hmx, hw1, Nat.zero_add]
    exact ⟨x - 1, by omega, i + 1, by omega, rfl, rfl⟩
  · have e1 : ((i : Int) < (n.kids.length : Int)) = False := by simp only [eq_iff_iff, iff_false]; omega
    obtain rfl : i = n.kids.length := by omega
    simp only [go_sem, W_cond2, WO_guard3, WE_guard3, WQ_guard3, KB_n, KB_x, Nat.reduceBEq, Nat.reduceAdd, Nat.reduceLT, Nat.reduceLeDiff, Nat.reduceEqDiff, reduceIte, Int.reduceEq, reduceCtorEq, g1, g3, g4, l3, List.length_map, e1, Nat.zero_add]
    refine KR_some H1.over rfl ?_
    rw [deepN_eq, List.take_length]; rfl
theorem ref7may_ok (n : ND) (ho : n.Ok) (hb : nodesN n < 2 ^ 62) (s : St) (hw : Wf s) : (lim prog).call f_touchstoneref07_May [.agg n.cells] s = some (.b (mayN n), s) := by
  refine fn_W p_touchstoneref07_May rfl rfl ?_
  have H1 := (Hp.begin hw).new (.cells 25 n.cells)
  generalize hq : s.enter.new (.cells 25 n.cells) = q at H1
  generalize hm : s.enter.nb = m at H1
  have l0 := H1.ld 0 (off := 0) (v := .i .u8 (n.kind : Nat)) rfl rfl
  have lw := H1.ldw 0 (m := 4) rfl rfl
  have h1 := ref7well_ok n ho q H1.wf
  have h2 := ref7nodes_ok n ho hb q H1.wf
  have h3 := ref7deep_ok n ho hb q H1.wf
  have hbr : ∀ b, KR s [.id] (.b b) (some ([.b b], q)) := fun b => KR_some H1.over rfl rfl
  have hz0 : wkZ c_touchstoneref07_May.cin [.agg n.cells] = [.agg n.cells] := by simp [c_touchstoneref07_May, wkZ, wk, ND.cells]
  rw [hz0]
  unfold mayN
  have e4 : ((deepN n : Int) ≤ 24) = (deepN n ≤ 24) := by simp only [eq_iff_iff]; omega
  by_cases c1 : n.kind = 2
  · have e1 : ((n.kind : Int) = 2) = True := by simp only [eq_iff_iff, iff_true]; omega
    rw [decide_eq_true c1]
    cases c2 : wellN n with
    | false =>
      rw [c2] at h1
      simp only [c_touchstoneref07_May, go_sem, W_cond2, WO_guard3, WE_guard3, WQ_guard3, KB_n, KB_x, Nat.reduceBEq, Nat.reduceAdd, Nat.reduceLT, Nat.reduceLeDiff, Nat.reduceEqDiff, reduceIte, Int.reduceEq, reduceCtorEq, cells4, hq, hm, l0, lw, pub_cells, Nat.zero_add, e1, h1]
      exact hbr _
    | true =>
      rw [c2] at h1
      by_cases c3 : nodesN n ≤ 1024
      · have e3 : ((nodesN n : Int) ≤ 1024) = True := by simp only [eq_iff_iff, iff_true]; omega
        rw [decide_eq_true c3]
        simp only [c_touchstoneref07_May, go_sem, W_cond2, WO_guard3, WE_guard3, WQ_guard3, KB_n, KB_x, Nat.reduceBEq, Nat.reduceAdd, Nat.reduceLT, Nat.reduceLeDiff, Nat.reduceEqDiff, reduceIte, Int.reduceEq, reduceCtorEq, cells4, hq, hm, l0, lw, pub_cells, Nat.zero_add, e1, h1, h2, h3, e3, e4]
        exact hbr _
      · have e3 : ((nodesN n : Int) ≤ 1024) = False := by simp only [eq_iff_iff, iff_false]; omega
        rw [decide_eq_false c3]
        simp only [c_touchstoneref07_May, go_sem, W_cond2, WO_guard3, WE_guard3, WQ_guard3, KB_n, KB_x, Nat.reduceBEq, Nat.reduceAdd, Nat.reduceLT, Nat.reduceLeDiff, Nat.reduceEqDiff, reduceIte, Int.reduceEq, reduceCtorEq, cells4, hq, hm, l0, lw, pub_cells, Nat.zero_add, e1, h1, h2, h3, e3]
        exact hbr _
  · have e1 : ((n.kind : Int) = 2) = False := by simp only [eq_iff_iff, iff_false]; omega
    rw [decide_eq_false c1]
    simp only [c_touchstoneref07_May, go_sem, W_cond2, WO_guard3, WE_guard3, WQ_guard3, KB_n, KB_x, Nat.reduceBEq, Nat.reduceAdd, Nat.reduceLT, Nat.reduceLeDiff, Nat.reduceEqDiff, reduceIte, Int.reduceEq, reduceCtorEq, cells4, hq, hm, l0, Nat.zero_add, e1]
    exact hbr _
end Go.Proofs.YtkkfjoiffcmpeaaDoor

/-
  The questions of WalkReal: links in a node, a node's weight.
-/
set_option maxRecDepth 100000
set_option maxHeartbeats 2000000
set_option linter.unusedSimpArgs false
set_option linter.constructorNameAsVariable false
namespace Go.Proofs.YtkkfjoiffcmpeaaDoor
open Go.Proofs.YtkkfjoiffcmpeaaDoor.Am
attribute [local irreducible] W WO WE WQ WD Tr.get Tr.set
mutual
def bulkN : ND → Nat
  | .mk _ t ns ks => 4 + t.length + (ns.map fun l => 1 + l.length).sum + bulkS ks
def bulkS : List ND → Nat
  | [] => 0
  | k :: ks => bulkN k + bulkS ks
end
theorem bulkS_sum : ∀ l : List ND, bulkS l = (l.map bulkN).sum
  | [] => by simp [bulkS]
  | k :: l => by simp only [bulkS, bulkS_sum l, List.map_cons, List.sum_cons]
theorem bulkN_eq (n : ND) : bulkN n = 4 + n.text.length + (n.names.map fun l => 1 + l.length).sum + (n.kids.map bulkN).sum := by
  cases n with
  | mk a t ns ks => simp only [bulkN, bulkS_sum, ND.kids, ND.text, ND.names]
theorem nodes_bulk : ∀ n : ND, nodesN n ≤ bulkN n := by
  refine ND.ind fun n ih => ?_
  rw [nodesN_eq, bulkN_eq]
  have : ∀ l : List ND, (∀ k ∈ l, nodesN k ≤ bulkN k) → (l.map nodesN).sum ≤ (l.map bulkN).sum := by
    intro l
    induction l with
    | nil => intro _; exact Nat.le_refl _
    | cons a l il =>
      intro h
      have h1 := h a (by simp)
      have h2 := il fun k hk => h k (by simp [hk])
      simp only [List.map_cons, List.sum_cons]
      omega
  have := this n.kids ih
  omega
end Go.Proofs.YtkkfjoiffcmpeaaDoor

/-
  The laws of probe: what both ask.
-/
set_option maxRecDepth 100000
set_option maxHeartbeats 4000000
set_option linter.unusedSimpArgs false
set_option linter.constructorNameAsVariable false
namespace Go.Proofs.YtkkfjoiffcmpeaaDoor
open Go.Proofs.YtkkfjoiffcmpeaaDoor.Am
attribute [local irreducible] W WO WE WQ WD Tr.get Tr.set
def longB (n : ND) (l : List (List Nat)) : Bool := !mayN n || (decide (200 < nodesN n) || (decide (100 < l.length) || l.any fun x => decide (600 < x.length)))
theorem long14_ok (n : ND) (ho : n.Ok) (hb : nodesN n < 2 ^ 62) (l : List (List Nat)) (s : St) (hw : Wf s) : (lim prog).call f_touchstonelaw14_long [.agg n.cells, tx l] s = some (.b (longB n l), s) := by
  refine fn_W p_touchstonelaw14_long rfl rfl ?_
  have H1 := (Hp.begin hw).new (.cells 25 n.cells)
  generalize hq : s.enter.new (.cells 25 n.cells) = q at H1
  generalize hm : s.enter.nb = m at H1
  have lw := H1.ldw 0 (m := 4) rfl rfl
  have h1 := ref7may_ok n ho hb q H1.wf
  have h2 := ref7nodes_ok n ho hb q H1.wf
  have hbr : ∀ b, KR s [.id] (.b b) (some ([.b b], q)) := fun b => KR_some H1.over rfl rfl
  have hz0 : wkZ c_touchstonelaw14_long.cin [.agg n.cells, tx l] = [.agg n.cells, tx l] := by simp [c_touchstonelaw14_long, wkZ, wk, ND.cells, wkM_s]
  rw [hz0]
  unfold longB
  cases c1 : mayN n with
  | false =>
    rw [c1] at h1
    simp only [c_touchstonelaw14_long, go_sem, W_cond2, WO_guard3, WE_guard3, WQ_guard3, KB_n, KB_x, Nat.reduceBEq, Nat.reduceAdd, Nat.reduceLT, Nat.reduceLeDiff, Nat.reduceEqDiff, reduceIte, Int.reduceEq, reduceCtorEq, cells4, hq, hm, lw, pub_cells, h1]
    exact hbr _
  | true =>
  rw [c1] at h1
  by_cases c2 : 200 < nodesN n
  · have e2 : ((200 : Int) < (nodesN n : Int)) = True := by simp only [eq_iff_iff, iff_true]; omega
    rw [decide_eq_true c2]
    simp only [c_touchstonelaw14_long, go_sem, W_cond2, WO_guard3, WE_guard3, WQ_guard3, KB_n, KB_x, Nat.reduceBEq, Nat.reduceAdd, Nat.reduceLT, Nat.reduceLeDiff, Nat.reduceEqDiff, reduceIte, Int.reduceEq, reduceCtorEq, cells4, hq, hm, lw, pub_cells, h1, h2, e2]
    exact hbr _
  have e2 : ((200 : Int) < (nodesN n : Int)) = False := by simp only [eq_iff_iff, iff_false]; omega
  rw [decide_eq_false c2]
  by_cases c3 : 100 < l.length
  · have e3 : ((100 : Int) < (l.length : Int)) = True := by simp only [eq_iff_iff, iff_true]; omega
    rw [decide_eq_true c3]
    simp only [c_touchstonelaw14_long, go_sem, W_cond2, WO_guard3, WE_guard3, WQ_guard3, KB_n, KB_x, Nat.reduceBEq, Nat.reduceAdd, Nat.reduceLT, Nat.reduceLeDiff, Nat.reduceEqDiff, reduceIte, Int.reduceEq, reduceCtorEq, cells4, hq, hm, lw, pub_cells, h1, h2, e2, List.length_map, e3]
    exact hbr _
  have e3 : ((100 : Int) < (l.length : Int)) = False := by simp only [eq_iff_iff, iff_false]; omega
  rw [decide_eq_false c3]
  simp only [c_touchstonelaw14_long, go_sem, W_cond2, WO_guard3, WE_guard3, WQ_guard3, KB_n, KB_x, Nat.reduceBEq, Nat.reduceAdd, Nat.reduceLT, Nat.reduceLeDiff, Nat.reduceEqDiff, reduceIte, Int.reduceEq, reduceCtorEq, cells4, hq, hm, lw, pub_cells, h1, h2, e2, List.length_map, e3]
  refine W_loop (fun x e q' => ∃ i : Nat, i + x = l.length ∧ q' = q ∧ ((l.take i).any fun x => decide (600 < x.length)) = false ∧ e.get 1 = tx l ∧ e.get 5 = .i .i64 (i : Nat)) ?_ l.length _ _ ⟨0, by omega, rfl, by simp, by simp only [go_sem, W_cond2, WO_guard3, WE_guard3, WQ_guard3, KB_n, KB_x, Nat.reduceBEq, Nat.reduceAdd, Nat.reduceLT, Nat.reduceLeDiff, Nat.reduceEqDiff, reduceIte, Int.reduceEq, reduceCtorEq], by simp only [go_sem, W_cond2, WO_guard3, WE_guard3, WQ_guard3, KB_n, KB_x, Nat.reduceBEq, Nat.reduceAdd, Nat.reduceLT, Nat.reduceLeDiff, Nat.reduceEqDiff, reduceIte, Int.reduceEq, reduceCtorEq]; rfl⟩
  rintro x e q' ⟨i, hi, rfl, hn, g1, g5⟩
  by_cases h : i < l.length
  · have e1 : ((i : Int) < (l.length : Int)) = True := by simp only [eq_iff_iff, iff_true]; omega
    obtain ⟨y, hy⟩ : ∃ y, l[i]? = some y := ⟨_, List.getElem?_eq_getElem h⟩
    have hy2 : (l.map AV.s)[i]? = some (.s y) := by rw [List.getElem?_map, hy]; rfl
    have hym : y ∈ l := List.mem_of_getElem? hy
    have hw1 := wrap_succ (show i + 1 < 2 ^ 63 by omega)
    by_cases c4 : 600 < y.length
    · have e4 : ((600 : Int) < (y.length : Int)) = True := by simp only [eq_iff_iff, iff_true]; omega
      simp only [go_sem, W_cond2, WO_guard3, WE_guard3, WQ_guard3, KB_n, KB_x, Nat.reduceBEq, Nat.reduceAdd, Nat.reduceLT, Nat.reduceLeDiff, Nat.reduceEqDiff, reduceIte, Int.reduceEq, reduceCtorEq, g1, g5, List.length_map, e1, natOf_nat, hy2, cells_s, ldA_1, e4]
      have : (l.any fun x => decide (600 < x.length)) = true := List.any_eq_true.2 ⟨y, hym, by simp [c4]⟩
      rw [this]
      exact hbr _
    · have e4 : ((600 : Int) < (y.length : Int)) = False := by simp only [eq_iff_iff, iff_false]; omega
      simp only [go_sem, W_cond2, WO_guard3, WE_guard3, WQ_guard3, KB_n, KB_x, Nat.reduceBEq, Nat.reduceAdd, Nat.reduceLT, Nat.reduceLeDiff, Nat.reduceEqDiff, reduceIte, Int.reduceEq, reduceCtorEq, g1, g5, List.length_map, e1, natOf_nat, hy2, cells_s, ldA_1, e4, hw1]
      refine ⟨x - 1, by omega, i + 1, by omega, ?_, rfl⟩
      rw [List.take_add_one, hy, List.any_append, hn]
      simp [c4]
  · have e1 : ((i : Int) < (l.length : Int)) = False := by simp only [eq_iff_iff, iff_false]; omega
    rw [List.take_of_length_le (by omega)] at hn
    rw [hn]
    simp only [go_sem, W_cond2, WO_guard3, WE_guard3, WQ_guard3, KB_n, KB_x, Nat.reduceBEq, Nat.reduceAdd, Nat.reduceLT, Nat.reduceLeDiff, Nat.reduceEqDiff, reduceIte, Int.reduceEq, reduceCtorEq, g1, g5, List.length_map, e1]
    exact hbr _
theorem long_not {n : ND} {l : List (List Nat)} (h : longB n l = false) : mayN n = true ∧ l.length ≤ 100 ∧ ∀ x ∈ l, x.length ≤ 600 := by
  simp only [longB, Bool.or_eq_false_iff, Bool.not_eq_false', decide_eq_false_iff_not, List.any_eq_false, decide_eq_true_eq] at h
  exact ⟨h.1, by omega, fun x hx => by have := h.2.2.2 x hx; omega⟩
theorem awake14_ok (s : St) : (lim prog).call f_touchstonelaw14_awake [] s = some (.b true, s) := prim_call p_touchstonelaw14_awake rfl rfl
end Go.Proofs.YtkkfjoiffcmpeaaDoor

/-
  The law ProbeNot.
-/
set_option maxRecDepth 100000
set_option maxHeartbeats 4000000
set_option linter.unusedSimpArgs false
set_option linter.constructorNameAsVariable false
namespace Go.Proofs.YtkkfjoiffcmpeaaDoor
open Go.Proofs.YtkkfjoiffcmpeaaDoor.Am
attribute [local irreducible] W WO WE WQ WD Tr.get Tr.set
theorem call_wkN {f : Nat} {fn : Fun} {args args' : List AV} {s : St} (hp : prog f = some fn) (hpr : fn.prim = none) (hk : fn.keep = false) (hl : args.length = args'.length) (hw : wkZ fn.cin args = wkZ fn.cin args') :
    (lim prog).call f args s = (lim prog).call f args' s := by
  rw [lim_call, lim_call]
  unfold callF
  have hb : ∀ l, both fn l = none := fun l => by unfold both; rw [hk]
  simp only [hp, hpr, hb, hl, hw]
theorem holdsW {id : Nat} {a : AV} {l : List (List Nat)} (h : Told1 1 a (l.map .s)) (s : St) : (lim prog).call f_probe_Holds [.ifc 28 (.p id 0), a] s = (lim prog).call f_probe_Holds [.ifc 28 (.p id 0), tx l] s := by
  refine call_wkN p_probe_Holds rfl rfl rfl ?_
  simp only [c_probe_Holds, wkZ, h.wk (wkM_s _), (Told1.ws : Told1 1 (tx l) (l.map .s)).wk (wkM_s _)]
theorem kindW_le {n : ND} (ho : n.Ok) (hw : wellN n = true) (hT : n.kind = 2) (p : List Nat) : kindW n true p ≤ 2 := by
  unfold kindW
  split
  · cases h : walkP n true p with
    | err e => simp [WR.k]
    | ok pl k =>
      have h3 := walk_notlink 8 _ _ _ h
      have hg := walk_good hT true 8 (stepsL p) [] (dirP p) (by exact hT) (fun s hs => (stepsL_mem hs).1) (fun s hs => by cases hs) h
      have := kind_le ho hw pl
      rw [hg.kind] at this
      simp only [WR.k]
      omega
  · omega
theorem not_plain (n : ND) (l : List (List Nat)) (h1 : 1 ≤ l.length) (h3 : l.length ≤ 3) (h2 : ∀ a b, l = [a, b] → a ≠ [61] ∧ a ≠ [33, 61]) : holdsN n ([33] :: l) = negR (holdsN n l) := by
  match l, h1, h3, h2 with
  | [a], _, _, _ => simp [holdsN, h2N]
  | [a, b], _, _, h2 =>
    obtain ⟨k1, k2⟩ := h2 a b rfl
    simp only [holdsN, h3N]
    rw [if_neg k1, if_neg k2]
    simp
  | [a, b, c], _, _, _ => simp [holdsN]
theorem not_ok (n : ND) (ho : n.Ok) (hb : bulkN n < 2 ^ 60) (l : List (List Nat)) (hl : ∀ x ∈ l, Txt x) (p : List Nat) (hp : Txt p) (s : St) (hw : Wf s) :
    (lim prog).call f_touchstonelaw14_ProbeNot [.agg n.cells, tx l, .s p] s = some (.b true, s) := by
  refine fn_W p_touchstonelaw14_ProbeNot rfl rfl ?_
  have H0 := (Hp.begin hw).new (.cells 25 n.cells)
  generalize hq : s.enter.new (.cells 25 n.cells) = q at H0
  generalize hm0 : s.enter.nb = m0 at H0
  have l0 := H0.ldw 0 (m := 4) rfl rfl
  have hnb := nodes_bulk n
  have hlong := long14_ok n ho (by omega) l q H0.wf
  have hbr : ∀ b : Bool, ∀ q', Over s q' → KR s [.id] (.b b) (some ([.b b], q')) := fun b q' h => KR_some h rfl rfl
  have hz0 : wkZ c_touchstonelaw14_ProbeNot.cin [.agg n.cells, tx l, .s p] = [.agg n.cells, tx l, .s p] := by simp [c_touchstonelaw14_ProbeNot, wkZ, wk, ND.cells, wkM_s]
  have W1 := awake14_ok
  rw [hz0]
  cases hlg : longB n l with
  | true =>
    rw [hlg] at hlong
    simp only [c_touchstonelaw14_ProbeNot, go_sem, W_cond2, WO_guard3, WE_guard3, WQ_guard3, KB_n, KB_x, Nat.reduceBEq, Nat.reduceAdd, Nat.reduceLT, Nat.reduceLeDiff, Nat.reduceEqDiff, reduceIte, Int.reduceEq, reduceCtorEq, cells4, hq, hm0, l0, pub_cells, hlong, W1]
    exact hbr _ _ H0.over
  | false =>
  rw [hlg] at hlong
  obtain ⟨hmay, hll, hlx⟩ := long_not hlg
  by_cases hpl : 600 < p.length
  · have e1 : ((600 : Int) < (p.length : Int)) = True := by simp only [eq_iff_iff, iff_true]; omega
    simp only [c_touchstonelaw14_ProbeNot, go_sem, W_cond2, WO_guard3, WE_guard3, WQ_guard3, KB_n, KB_x, Nat.reduceBEq, Nat.reduceAdd, Nat.reduceLT, Nat.reduceLeDiff, Nat.reduceEqDiff, reduceIte, Int.reduceEq, reduceCtorEq, cells4, hq, hm0, l0, pub_cells, hlong, W1, e1]
    exact hbr _ _ H0.over
  have e1 : ((600 : Int) < (p.length : Int)) = False := by simp only [eq_iff_iff, iff_false]; omega
  obtain ⟨_, q1, hnew, id, rfl, H1⟩ := new_hp H0 n ho (by omega) hmay
  have hid := H1.boxLt (i := 0) rfl
  have hwl : wellN n = true := by simp only [mayN, Bool.and_eq_true] at hmay; exact hmay.2.1
  have hk2 : n.kind = 2 := by simp only [mayN, Bool.and_eq_true, decide_eq_true_eq] at hmay; exact hmay.1
  have ht : Tre n id q1 := ⟨ho, hwl, hid, (H1.box (i := 0) rfl).1⟩
  have hask : ∀ w : List Nat, w ≠ [33] → ∀ b, askN n w p = some b → (lim prog).call f_probe_Holds [.ifc 28 (.p id 0), .sl 1 [.s w, .s p] .full] q1 = some (.tup [.b b, .b true], q1) := fun w hw b hb => by
    have h1 := holds2_ok (id := id) H1.wf ht w p hp (by omega)
    have h2 := holdsW (id := id) (a := .sl 1 [.s w, .s p] .full) (l := [w, p]) (.inr (.inr (.inl rfl))) q1
    rw [h2, h1]
    simp only [h2N]
    rw [if_neg hw, hb]
    rfl
  obtain ⟨a, c, f, ha, hc, hf, hacf⟩ : ∃ a c f : Bool, (lim prog).call f_probe_Holds [.ifc 28 (.p id 0), .sl 1 [.s [45, 101], .s p] .full] q1 = some (.tup [.b a, .b true], q1) ∧
      (lim prog).call f_probe_Holds [.ifc 28 (.p id 0), .sl 1 [.s [45, 102], .s p] .full] q1 = some (.tup [.b c, .b true], q1) ∧
      (lim prog).call f_probe_Holds [.ifc 28 (.p id 0), .sl 1 [.s [45, 100], .s p] .full] q1 = some (.tup [.b f, .b true], q1) ∧
      ((a = false ∧ c = false ∧ f = false) ∨ (a = true ∧ c = true ∧ f = false) ∨ (a = true ∧ c = false ∧ f = true)) := by
    refine ⟨_, _, _, hask [45, 101] (by decide) _ rfl, hask [45, 102] (by decide) _ rfl, hask [45, 100] (by decide) _ rfl, ?_⟩
    have hk := kindW_le ho hwl hk2 p
    generalize kindW n true p = k at hk ⊢
    have : k = 0 ∨ k = 1 ∨ k = 2 := by omega
    rcases this with rfl | rfl | rfl <;> simp
  have z0 : ((0 : Int) ≠ 0) = False := by simp
  have al2 : ∀ x y : List Nat, allLen 1 [.s x, .s y] = true := fun x y => rfl
  have n0 : natOf (.i .i64 0) = some 0 := rfl
  -- the words
  have hw1 := holds_ok (id := id) H1.wf ht l (fun x hx => ⟨hl x hx, by have := hlx x hx; omega⟩)
  obtain ⟨r, q2, d2, H2, n2, p2⟩ := H1.appN (es := 1) 9 (a := .sl 1 [.s [33]] .full) (y := tx l) (ys := l.map .s) (.inr (.inr (.inl rfl))) rfl (by simp only [List.length_map, List.length_cons, List.length_nil]; omega)
  obtain ⟨r', q3, d3, t3, H3, n3⟩ := H2.pub 0 rfl
  have ht3 : Tre n id q3 := ⟨ho, hwl, by have := H3.boxLt (i := 0) rfl; exact this, (H3.box (i := 0) rfl).1⟩
  have h33 : [AV.s [33]] ++ l.map AV.s = ([33] :: l).map .s := rfl
  simp only [h33] at t3
  have hw2 : (lim prog).call f_probe_Holds [.ifc 28 (.p id 0), r'] q3 = some (rr (holdsN n ([33] :: l)), q3) := by
    rw [holdsW t3]
    refine holds_ok H3.wf ht3 _ fun x hx => ?_
    rcases List.mem_cons.1 hx with rfl | hx
    · exact ⟨⟨by decide, by decide⟩, by decide⟩
    · exact ⟨hl x hx, by have := hlx x hx; omega⟩
  rcases hacf with ⟨rfl, rfl, rfl⟩ | ⟨rfl, rfl, rfl⟩ | ⟨rfl, rfl, rfl⟩
  all_goals
    by_cases m1 : l.length < 1
    · have f1 : ((l.length : Int) < 1) = True := by simp only [eq_iff_iff, iff_true]; omega
      simp only [c_touchstonelaw14_ProbeNot, go_sem, W_cond2, WO_guard3, WE_guard3, WQ_guard3, KB_n, KB_x, Nat.reduceBEq, Nat.reduceAdd, Nat.reduceLT, Nat.reduceLeDiff, Nat.reduceEqDiff, reduceIte, Int.reduceEq, reduceCtorEq, cells4, hq, hm0, l0, pub_cells, hlong, W1, e1, hnew, z0, al1w, al2, le11s, ha, hc, hf, List.length_map, f1]
      exact hbr _ _ H1.over
    have f1 : ((l.length : Int) < 1) = False := by simp only [eq_iff_iff, iff_false]; omega
    by_cases m3 : 3 < l.length
    · have f3 : ((3 : Int) < (l.length : Int)) = True := by simp only [eq_iff_iff, iff_true]; omega
      simp only [c_touchstonelaw14_ProbeNot, go_sem, W_cond2, WO_guard3, WE_guard3, WQ_guard3, KB_n, KB_x, Nat.reduceBEq, Nat.reduceAdd, Nat.reduceLT, Nat.reduceLeDiff, Nat.reduceEqDiff, reduceIte, Int.reduceEq, reduceCtorEq, cells4, hq, hm0, l0, pub_cells, hlong, W1, e1, hnew, z0, al1w, al2, le11s, ha, hc, hf, List.length_map, f1, f3]
      exact hbr _ _ H1.over
    have f3 : ((3 : Int) < (l.length : Int)) = False := by simp only [eq_iff_iff, iff_false]; omega
    have fin : (∀ a b, l = [a, b] → a ≠ [61] ∧ a ≠ [33, 61]) → holdsN n ([33] :: l) = negR (holdsN n l) := not_plain n l (by omega) (by omega)
    by_cases m2 : l.length = 2
    · have f2 : ((l.length : Int) = 2) = True := by simp only [eq_iff_iff, iff_true]; omega
      obtain ⟨x, y, hxy⟩ : ∃ x y, l = [x, y] := by
        match l, m2 with
        | [x, y], _ => exact ⟨x, y, rfl⟩
      have hg : (l.map AV.s)[0]? = some (.s x) := by rw [hxy]; rfl
      by_cases x1 : x = [61]
      · have g1 : (x = [61]) = True := by simp [x1]
        simp only [c_touchstonelaw14_ProbeNot, go_sem, W_cond2, WO_guard3, WE_guard3, WQ_guard3, KB_n, KB_x, Nat.reduceBEq, Nat.reduceAdd, Nat.reduceLT, Nat.reduceLeDiff, Nat.reduceEqDiff, reduceIte, Int.reduceEq, reduceCtorEq, cells4, hq, hm0, l0, pub_cells, hlong, W1, e1, hnew, z0, al1w, al2, le11s, ha, hc, hf, List.length_map, f1, f2, f3, n0, hg, cells_s, ldA_1, g1]
        exact hbr _ _ H1.over
      have g1 : (x = [61]) = False := by simp [x1]
      by_cases x2 : x = [33, 61]
      · have g2 : (x = [33, 61]) = True := by simp [x2]
        simp only [c_touchstonelaw14_ProbeNot, go_sem, W_cond2, WO_guard3, WE_guard3, WQ_guard3, KB_n, KB_x, Nat.reduceBEq, Nat.reduceAdd, Nat.reduceLT, Nat.reduceLeDiff, Nat.reduceEqDiff, reduceIte, Int.reduceEq, reduceCtorEq, cells4, hq, hm0, l0, pub_cells, hlong, W1, e1, hnew, z0, al1w, al2, le11s, ha, hc, hf, List.length_map, f1, f2, f3, n0, hg, cells_s, ldA_1, g1, g2]
        exact hbr _ _ H1.over
      have g2 : (x = [33, 61]) = False := by simp [x2]
      have hn := fin fun a b h => by rw [hxy] at h; cases h; exact ⟨x1, x2⟩
      rw [hn] at hw2
      generalize holdsN n l = h at hw1 hw2
      obtain ⟨u, v⟩ := h
      simp only [rr, negR] at hw1 hw2
      cases u <;> cases v
      all_goals
        simp only [c_touchstonelaw14_ProbeNot, go_sem, W_cond2, WO_guard3, WE_guard3, WQ_guard3, KB_n, KB_x, Nat.reduceBEq, Nat.reduceAdd, Nat.reduceLT, Nat.reduceLeDiff, Nat.reduceEqDiff, reduceIte, Int.reduceEq, reduceCtorEq, cells4, hq, hm0, l0, pub_cells, hlong, W1, e1, hnew, z0, al1w, al2, le11s, ha, hc, hf, List.length_map, f1, f2, f3, n0, hg, cells_s, ldA_1, g1, g2, hw1, d2, d3, hw2]
        exact hbr _ _ H3.over
    have f2 : ((l.length : Int) = 2) = False := by simp only [eq_iff_iff, iff_false]; omega
    have hn := fin fun a b h => by rw [h] at m2; exact absurd rfl m2
    rw [hn] at hw2
    generalize holdsN n l = h at hw1 hw2
    obtain ⟨u, v⟩ := h
    simp only [rr, negR] at hw1 hw2
    cases u <;> cases v
    all_goals
      simp only [c_touchstonelaw14_ProbeNot, go_sem, W_cond2, WO_guard3, WE_guard3, WQ_guard3, KB_n, KB_x, Nat.reduceBEq, Nat.reduceAdd, Nat.reduceLT, Nat.reduceLeDiff, Nat.reduceEqDiff, reduceIte, Int.reduceEq, reduceCtorEq, cells4, hq, hm0, l0, pub_cells, hlong, W1, e1, hnew, z0, al1w, al2, le11s, ha, hc, hf, List.length_map, f1, f2, f3, hw1, d2, d3, hw2]
      exact hbr _ _ H3.over
end Go.Proofs.YtkkfjoiffcmpeaaDoor
