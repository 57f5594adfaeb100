/-
  Reckoning forwards: what must hold ahead of a piece of code for something to hold behind it.
-/
import Derived.Test.YtfaodjpibdhdjaaDoorAmSimp
set_option linter.all false
set_option linter.unusedVariables false
set_option linter.unusedSimpArgs false
set_option linter.unusedSectionVars false
set_option linter.constructorNameAsVariable false
namespace Go.Proofs.YtfaodjpibdhdjaaDoor.Am

section
variable {σ : Self} {e : Tr} {s : St}

def W (σ : Self) (c : C) (e : Tr) (s : St) (Q : Ex → Tr → St → Prop) : Prop := match evC σ c e s with
  | some (x, e', s') => Q x e' s'
  | none => False
def WO (σ : Self) (l : List Op) (e : Tr) (s : St) (Q : Tr → St → Prop) : Prop := match evOps σ l e s with
  | some (e', s') => Q e' s'
  | none => False
/-- An answer with a state behind it. -/
def WS (o : Option (AV × St)) (K : AV → St → Prop) : Prop := match o with
  | some (v, s') => K v s'
  | none => False
/-- A test. -/
def CP (v : AV) (A B : Prop) : Prop := match v with
  | .b true => A
  | .b false => B
  | _ => False

/-! ### What goes on behind -/
def KS (σ : Self) (b : C) (Q : Ex → Tr → St → Prop) : Ex → Tr → St → Prop
  | .n, e, s => W σ b e s Q
  | .x i, e, s => Q (.x i) e s
  | .r, e, s => Q .r e s
def KB (id : Nat) (Q : Ex → Tr → St → Prop) : Ex → Tr → St → Prop
  | .x j, e, s => if j = id then Q .n e s else Q (.x j) e s
  | .n, e, s => Q .n e s
  | .r, e, s => Q .r e s
def KN (Q : Ex → Tr → St → Prop) : Tr → St → Prop := fun e s => Q .n e s
def KO (σ : Self) (d : Option Nat) (l : List Op) (e : Tr) (Q : Tr → St → Prop) : AV → St → Prop := fun v s => WO σ l (put e d v) s Q
def KL (I : Nat → Tr → St → Prop) (n : Nat) (Q : Ex → Tr → St → Prop) : Ex → Tr → St → Prop
  | .n, e, s => ∃ m, m < n ∧ I m e s
  | .x i, e, s => Q (.x i) e s
  | .r, e, s => Q .r e s

theorem KS_n (b : C) (Q : Ex → Tr → St → Prop) : KS σ b Q .n e s ↔ W σ b e s Q := Iff.rfl
theorem KS_x (b : C) (Q : Ex → Tr → St → Prop) (i : Nat) : KS σ b Q (.x i) e s ↔ Q (.x i) e s := Iff.rfl
theorem KS_r (b : C) (Q : Ex → Tr → St → Prop) : KS σ b Q .r e s ↔ Q .r e s := Iff.rfl
theorem KB_n (id : Nat) (Q : Ex → Tr → St → Prop) : KB id Q .n e s ↔ Q .n e s := Iff.rfl
theorem KB_x (id : Nat) (Q : Ex → Tr → St → Prop) (j : Nat) : KB id Q (.x j) e s ↔ if j = id then Q .n e s else Q (.x j) e s := Iff.rfl
theorem KB_r (id : Nat) (Q : Ex → Tr → St → Prop) : KB id Q .r e s ↔ Q .r e s := Iff.rfl
theorem KN_ap (Q : Ex → Tr → St → Prop) : KN Q e s ↔ Q .n e s := Iff.rfl
theorem KO_ap (d : Option Nat) (l : List Op) (e0 : Tr) (Q : Tr → St → Prop) (v : AV) : KO σ d l e0 Q v s ↔ WO σ l (put e0 d v) s Q := Iff.rfl
theorem KL_n (I : Nat → Tr → St → Prop) (n : Nat) (Q : Ex → Tr → St → Prop) : KL I n Q .n e s ↔ ∃ m, m < n ∧ I m e s := Iff.rfl
theorem KL_x (I : Nat → Tr → St → Prop) (n : Nat) (Q : Ex → Tr → St → Prop) (i : Nat) : KL I n Q (.x i) e s ↔ Q (.x i) e s := Iff.rfl
theorem KL_r (I : Nat → Tr → St → Prop) (n : Nat) (Q : Ex → Tr → St → Prop) : KL I n Q .r e s ↔ Q .r e s := Iff.rfl

/-! ### Where the laws of simp may go -/
@[congr] theorem W_congr {c : C} {e e' : Tr} {s s' : St} {Q : Ex → Tr → St → Prop} (h1 : e = e') (h2 : s = s') : W σ c e s Q = W σ c e' s' Q := by rw [h1, h2]
@[congr] theorem WO_congr {l : List Op} {e e' : Tr} {s s' : St} {Q : Tr → St → Prop} (h1 : e = e') (h2 : s = s') : WO σ l e s Q = WO σ l e' s' Q := by rw [h1, h2]
@[congr] theorem WS_congr {o o' : Option (AV × St)} {K : AV → St → Prop} (h : o = o') : WS o K = WS o' K := by rw [h]
@[congr] theorem CP_congr {v v' : AV} {A B : Prop} (h : v = v') : CP v A B = CP v' A B := by rw [h]
@[congr] theorem KS_congr {b : C} {Q : Ex → Tr → St → Prop} {x : Ex} {e e' : Tr} {s s' : St} (h1 : e = e') (h2 : s = s') : KS σ b Q x e s = KS σ b Q x e' s' := by rw [h1, h2]
@[congr] theorem KB_congr {id : Nat} {Q : Ex → Tr → St → Prop} {x : Ex} {e e' : Tr} {s s' : St} (h1 : e = e') (h2 : s = s') : KB id Q x e s = KB id Q x e' s' := by rw [h1, h2]
@[congr] theorem KN_congr {Q : Ex → Tr → St → Prop} {e e' : Tr} {s s' : St} (h1 : e = e') (h2 : s = s') : KN Q e s = KN Q e' s' := by rw [h1, h2]
@[congr] theorem KO_congr {d : Option Nat} {l : List Op} {e0 e0' : Tr} {Q : Tr → St → Prop} {v v' : AV} {s s' : St} (h0 : e0 = e0') (h1 : v = v') (h2 : s = s') : KO σ d l e0 Q v s = KO σ d l e0' Q v' s' := by rw [h0, h1, h2]
@[congr] theorem KL_congr {I : Nat → Tr → St → Prop} {n : Nat} {Q : Ex → Tr → St → Prop} {x : Ex} {e e' : Tr} {s s' : St} (h1 : e = e') (h2 : s = s') : KL I n Q x e s = KL I n Q x e' s' := by rw [h1, h2]

/-! ### Code -/
variable {Q : Ex → Tr → St → Prop}

theorem W_skip : W σ .skip e s Q ↔ Q .n e s := Iff.rfl
theorem W_exit (i : Nat) : W σ (.exit i) e s Q ↔ Q (.x i) e s := Iff.rfl
theorem W_ret : W σ .ret e s Q ↔ Q .r e s := Iff.rfl
theorem W_reg (l : List Op) : W σ (.reg l) e s Q ↔ WO σ l e s (KN Q) := by
  unfold W WO KN
  simp only [evC]
  cases evOps σ l e s <;> exact Iff.rfl
theorem W_seq (a b : C) : W σ (.seq a b) e s Q ↔ W σ a e s (KS σ b Q) := by
  unfold W
  simp only [evC]
  cases evC σ a e s with
  | none => exact Iff.rfl
  | some r =>
    obtain ⟨x, e1, s1⟩ := r
    cases x <;> exact Iff.rfl
theorem W_cond (c : X) (a b : C) : W σ (.cond c a b) e s Q ↔ CP (c.ev e) (W σ a e s Q) (W σ b e s Q) := by
  unfold W CP
  simp only [evC]
  cases c.ev e with
  | b x => cases x <;> exact Iff.rfl
  | _ => exact Iff.rfl
theorem W_blk (i : Nat) (b : C) : W σ (.blk i b) e s Q ↔ W σ b e s (KB i Q) := by
  unfold W
  simp only [evC]
  cases evC σ b e s with
  | none => exact Iff.rfl
  | some r =>
    obtain ⟨x, e1, s1⟩ := r
    cases x with
    | n => exact Iff.rfl
    | r => exact Iff.rfl
    | x j =>
      simp only [KB]
      by_cases hj : j = i
      · rw [if_pos hj, if_pos hj]
      · rw [if_neg hj, if_neg hj]

theorem W_loop {prog : Nat → Option Fun} {b : C} (I : Nat → Tr → St → Prop) (h : ∀ n e s, I n e s → W (lim prog) b e s (KL I n Q)) : ∀ n e s, I n e s → W (lim prog) (.loop b) e s Q := by
  intro n
  induction n using Nat.strongRecOn with
  | _ n ih =>
    intro e s hI
    have h1 := h n e s hI
    unfold W at h1 ⊢
    simp only [evC]
    cases hc : evC (lim prog) b e s with
    | none => rw [hc] at h1; exact h1
    | some r =>
      obtain ⟨x, e1, s1⟩ := r
      rw [hc] at h1
      cases x with
      | n =>
        obtain ⟨m, hm, hI1⟩ := h1
        have := ih m hm e1 s1 hI1
        unfold W at this
        rw [← lim_code] at this
        exact this
      | x i => exact h1
      | r => exact h1

/-! ### Operations -/
variable {R : Tr → St → Prop}
theorem WO_nil : WO σ [] e s R ↔ R e s := Iff.rfl
theorem WO_cons (d : Option Nat) (op : AOp) (l : List Op) : WO σ (⟨d, op, none⟩ :: l) e s R ↔ WS (evOp σ e s op) (KO σ d l e R) := by
  unfold WO WS KO
  simp only [evOps, wants, if_true]
  cases evOp σ e s op <;> exact Iff.rfl
theorem WO_guard (d : Option Nat) (op : AOp) (l : List Op) (t : Nat) (w : Bool) : WO σ (⟨d, op, some (t, w)⟩ :: l) e s R ↔
    if wants e (some (t, w)) = true then WS (evOp σ e s op) (KO σ d l e R) else WO σ l (put e d undef) s R := by
  unfold WO WS KO
  simp only [evOps]
  by_cases h : wants e (some (t, w)) = true
  · rw [if_pos h, if_pos h]
    cases evOp σ e s op <;> exact Iff.rfl
  · rw [if_neg h, if_neg h]
theorem WS_some (v : AV) (s : St) (K : AV → St → Prop) : WS (some (v, s)) K ↔ K v s := Iff.rfl
theorem WS_none (K : AV → St → Prop) : WS none K ↔ False := Iff.rfl

theorem CP_true (A B : Prop) : CP (.b true) A B ↔ A := Iff.rfl
theorem CP_false (A B : Prop) : CP (.b false) A B ↔ B := Iff.rfl
theorem CP_of {b : Bool} {A B : Prop} (h1 : b = true → A) (h2 : b = false → B) : CP (.b b) A B := by
  cases b with
  | true => exact h1 rfl
  | false => exact h2 rfl
theorem CP_dec {p : Prop} [Decidable p] {A B : Prop} (h1 : p → A) (h2 : ¬ p → B) : CP (.b (decide p)) A B :=
  CP_of (fun h => h1 (of_decide_eq_true h)) (fun h => h2 (of_decide_eq_false h))

/-! ### Regions that draw -/
/-- As WO, where what only reads must leave the state as it is. -/
def WD (σ : Self) (l : List Op) (e : Tr) (s : St) (tr : List (Tr × St)) (Q : List (Tr × St) → Tr → St → Prop) : Prop := match traceD σ l e s with
  | some r => match lastD r with
    | some (e', s') => Q (tr ++ r) e' s'
    | none => False
  | none => False
def KD (σ : Self) (d : Option Nat) (l : List Op) (e : Tr) (tr : List (Tr × St)) (Q : List (Tr × St) → Tr → St → Prop) : AV → St → Prop := fun v s => WD σ l (put e d v) s tr Q
def KC (σ : Self) (ops : List Op) (wins : List (Nat × Nat × Nat)) (Q : Ex → Tr → St → Prop) : List (Tr × St) → Tr → St → Prop := fun tr e s => chkD σ ops tr wins = true ∧ Q .n e s
theorem KD_ap (d : Option Nat) (l : List Op) (e0 : Tr) (tr : List (Tr × St)) (Q : List (Tr × St) → Tr → St → Prop) (v : AV) : KD σ d l e0 tr Q v s ↔ WD σ l (put e0 d v) s tr Q := Iff.rfl
theorem KC_nil (ops : List Op) (tr : List (Tr × St)) : KC σ ops [] Q tr e s ↔ Q .n e s := by simp [KC, chkD]
theorem KC_ap (ops : List Op) (w : List (Nat × Nat × Nat)) (tr : List (Tr × St)) : KC σ ops w Q tr e s ↔ chkD σ ops tr w = true ∧ Q .n e s := Iff.rfl
@[congr] theorem WD_congr {l : List Op} {e e' : Tr} {s s' : St} {tr tr' : List (Tr × St)} {Q : List (Tr × St) → Tr → St → Prop} (h1 : e = e') (h2 : s = s') (h3 : tr = tr') : WD σ l e s tr Q = WD σ l e' s' tr' Q := by rw [h1, h2, h3]
@[congr] theorem KD_congr {d : Option Nat} {l : List Op} {e0 e0' : Tr} {tr tr' : List (Tr × St)} {Q : List (Tr × St) → Tr → St → Prop} {v v' : AV} {s s' : St} (h0 : e0 = e0') (h1 : v = v') (h2 : s = s') (h3 : tr = tr') : KD σ d l e0 tr Q v s = KD σ d l e0' tr' Q v' s' := by rw [h0, h1, h2, h3]
@[congr] theorem KC_congr {ops : List Op} {w : List (Nat × Nat × Nat)} {Q : Ex → Tr → St → Prop} {tr tr' : List (Tr × St)} {e e' : Tr} {s s' : St} (h1 : tr = tr') (h2 : e = e') (h3 : s = s') : KC σ ops w Q tr e s = KC σ ops w Q tr' e' s' := by rw [h1, h2, h3]

theorem lastD_cons {x : Tr × St} {r : List (Tr × St)} (h : r ≠ []) : lastD (x :: r) = lastD r := by
  cases r with
  | nil => exact absurd rfl h
  | cons y r => rfl
theorem traceD_ne : ∀ {l : List Op} {e : Tr} {s : St} {r : List (Tr × St)}, traceD σ l e s = some r → r ≠ []
  | [], e, s, r, h => by simp only [traceD] at h; cases h; simp
  | o :: l, e, s, r, h => by
    simp only [traceD] at h
    split at h <;> try (cases h; done)
    split at h <;> try (cases h; done)
    cases h; simp

theorem W_regD (l : List Op) (w : List (Nat × Nat × Nat)) : W σ (.regD l w) e s Q ↔ WD σ l e s [] (KC σ l w Q) := by
  unfold W WD KC
  simp only [evC, evD]
  cases h : traceD σ l e s with
  | none => exact Iff.rfl
  | some r =>
    simp only [List.nil_append]
    by_cases hc : chkD σ l r w = true
    · rw [if_pos hc]
      cases hl : lastD r with
      | none => exact Iff.rfl
      | some t => obtain ⟨e1, s1⟩ := t; simp [hc]
    · rw [if_neg hc]
      cases hl : lastD r with
      | none => exact Iff.rfl
      | some t => obtain ⟨e1, s1⟩ := t; simp [hc]

theorem WD_nil {Q : List (Tr × St) → Tr → St → Prop} (tr : List (Tr × St)) : WD σ [] e s tr Q ↔ Q (tr ++ [(e, s)]) e s := Iff.rfl

theorem WD_step {Q : List (Tr × St) → Tr → St → Prop} (o : Op) (l : List Op) (tr : List (Tr × St)) :
    WD σ (o :: l) e s tr Q ↔ (match evD1 σ o e s with | some (e1, s1) => WD σ l e1 s1 (tr ++ [(e, s)]) Q | none => False) := by
  unfold WD
  simp only [traceD]
  cases h : evD1 σ o e s with
  | none => exact Iff.rfl
  | some r =>
    obtain ⟨e1, s1⟩ := r
    simp only
    cases ht : traceD σ l e1 s1 with
    | none => exact Iff.rfl
    | some r =>
      simp only [lastD_cons (traceD_ne ht), List.append_assoc, List.cons_append, List.nil_append]

theorem WD_cons {Q : List (Tr × St) → Tr → St → Prop} (d : Option Nat) (op : AOp) (l : List Op) (tr : List (Tr × St)) :
    WD σ (⟨d, op, none⟩ :: l) e s tr Q ↔ (Nat.beq op.cls 2 || quiet e s op) = true ∧ WS (evOp σ e s op) (KD σ d l e (tr ++ [(e, s)]) Q) := by
  rw [WD_step]
  unfold WS KD
  simp only [evD1, wants, if_true]
  by_cases hq : (Nat.beq op.cls 2 || quiet e s op) = true
  · rw [if_pos hq]
    simp only [hq, true_and]
    cases evOp σ e s op <;> exact Iff.rfl
  · rw [if_neg hq]
    simp [hq]
theorem WD_guard {Q : List (Tr × St) → Tr → St → Prop} (d : Option Nat) (op : AOp) (l : List Op) (tr : List (Tr × St)) (t : Nat) (w : Bool) :
    WD σ (⟨d, op, some (t, w)⟩ :: l) e s tr Q ↔ if wants e (some (t, w)) = true then (Nat.beq op.cls 2 || quiet e s op) = true ∧ WS (evOp σ e s op) (KD σ d l e (tr ++ [(e, s)]) Q) else WD σ l (put e d undef) s (tr ++ [(e, s)]) Q := by
  rw [WD_step]
  unfold WS KD
  simp only [evD1]
  by_cases hw : wants e (some (t, w)) = true
  · rw [if_pos hw, if_pos hw]
    by_cases hq : (Nat.beq op.cls 2 || quiet e s op) = true
    · rw [if_pos hq]
      simp only [hq, true_and]
      cases evOp σ e s op <;> exact Iff.rfl
    · rw [if_neg hq]
      simp [hq]
  · rw [if_neg hw, if_neg hw]
end

/-! ### Functions -/
def St.enter (s : St) : St := { s with lo := s.nb }

/-- Above an older state. -/
structure Over (s s1 : St) : Prop where
  nb : s.nb ≤ s1.nb
  boxes : s1.boxes.drop (s1.nb - s.nb) = s.boxes
  nt : s.nt ≤ s1.nt
  toks : s1.toks.drop (s1.nt - s.nt) = s.toks
  lo : s.nb ≤ s1.lo

def St.withTok (s : St) (t : Tok) : St := { s with nt := s.nt + 1, toks := some t :: s.toks }

section over
variable {s s1 : St}
theorem Over.enter (s : St) : Over s s.enter := ⟨Nat.le_refl _, by simp [St.enter], Nat.le_refl _, by simp [St.enter], Nat.le_refl _⟩
theorem Over.new (h : Over s s1) (B : Box) : Over s (s1.new B) := by
  refine ⟨Nat.le_succ_of_le h.nb, ?_, h.nt, h.toks, h.lo⟩
  have := h.nb
  simp only [St.new]
  rw [show s1.nb + 1 - s.nb = (s1.nb - s.nb) + 1 by omega]
  exact h.boxes
theorem Over.withTok (h : Over s s1) (t : Tok) : Over s (s1.withTok t) := by
  refine ⟨h.nb, h.boxes, Nat.le_succ_of_le h.nt, ?_, h.lo⟩
  have := h.nt
  simp only [St.withTok]
  rw [show s1.nt + 1 - s.nt = (s1.nt - s.nt) + 1 by omega]
  exact h.toks
theorem Over.setBox (h : Over s s1) {id : Nat} (hid : s.nb ≤ id) (h2 : id < s1.nb) (B : Box) : Over s (s1.setBox id B) := by
  refine ⟨h.nb, ?_, h.nt, h.toks, h.lo⟩
  simp only [St.setBox]
  rw [List.drop_set_of_lt (by omega)]
  exact h.boxes
theorem Over.setTok (h : Over s s1) {k : Nat} (hk : s.nt ≤ k) (h2 : k < s1.nt) (t : Tok) : Over s (s1.setTok k t) := by
  refine ⟨h.nb, h.boxes, h.nt, ?_, h.lo⟩
  simp only [St.setTok]
  rw [List.drop_set_of_lt (by omega)]
  exact h.toks
theorem Over.esc (h : Over s s1) {id : Nat} (hid : s.nb ≤ id) (v : AV) : Over s (esc s1 id v) := by
  unfold Am.esc
  split
  · exact ⟨h.nb, h.boxes, h.nt, h.toks, by simp only; have := h.lo; omega⟩
  · exact h
theorem Over.leave (h : Over s s1) {v : AV} (hv : v.refs = false) : leave s s1 v = s := by
  unfold Am.leave
  rw [hv, show Nat.ble s.nb s1.lo = true by rw [Nat.ble_eq]; exact h.lo]
  simp only [Bool.not_false, Bool.and_self, if_true]
  rw [h.boxes, h.toks]
end over

/-- What a function's end must come to. -/
def KF (s : St) (res : List (Nat × Option (Bool × Nat))) (cout : List CT) (r : AV) : Ex → Tr → St → Prop
  | .x _, _, _ => False
  | .n, e, s1 => ∃ vs s2, resOf e s1 res = some (vs, s2) ∧ Over s s2 ∧ (tupOf vs).refs = false ∧ tupOf (wkZ cout vs) = r
  | .r, e, s1 => ∃ vs s2, resOf e s1 res = some (vs, s2) ∧ Over s s2 ∧ (tupOf vs).refs = false ∧ tupOf (wkZ cout vs) = r
def KR (s : St) (cout : List CT) (r : AV) (o : Option (List AV × St)) : Prop := ∃ vs s2, o = some (vs, s2) ∧ Over s s2 ∧ (tupOf vs).refs = false ∧ tupOf (wkZ cout vs) = r
theorem KF_n (s : St) (res : List (Nat × Option (Bool × Nat))) (cout : List CT) (r : AV) (e : Tr) (s1 : St) : KF s res cout r .n e s1 ↔ KR s cout r (resOf e s1 res) := Iff.rfl
theorem KF_r (s : St) (res : List (Nat × Option (Bool × Nat))) (cout : List CT) (r : AV) (e : Tr) (s1 : St) : KF s res cout r .r e s1 ↔ KR s cout r (resOf e s1 res) := Iff.rfl
@[congr] theorem KF_congr {s : St} {res : List (Nat × Option (Bool × Nat))} {cout : List CT} {r : AV} {x : Ex} {e e' : Tr} {s1 s1' : St} (h1 : e = e') (h2 : s1 = s1') : KF s res cout r x e s1 = KF s res cout r x e' s1' := by rw [h1, h2]
@[congr] theorem KR_congr {s : St} {cout : List CT} {r : AV} {o o' : Option (List AV × St)} (h : o = o') : KR s cout r o = KR s cout r o' := by rw [h]
theorem KR_some {s : St} {cout : List CT} {r : AV} {vs : List AV} {s2 : St} (h1 : Over s s2) (h2 : (tupOf vs).refs = false) (h3 : tupOf (wkZ cout vs) = r) : KR s cout r (some (vs, s2)) := ⟨vs, s2, rfl, h1, h2, h3⟩

theorem fn_W {prog : Nat → Option Fun} {f : Nat} {fn : Fun} {args : List AV} {s : St} {r : AV} (hp : prog f = some fn) (hk : fn.keep = false) (hn : Nat.ble args.length fn.ntmps = true)
    (h : W (lim prog) fn.body (initT 0 (wkZ fn.cin args) .e) s.enter (KF s fn.res fn.cout r)) (hpr : fn.prim = none := by rfl) : (lim prog).call f args s = some (r, s) := by
  rw [lim_call]
  unfold callF
  have hb : ∀ l, both fn l = none := fun l => by unfold both; rw [hk]
  simp only [hp, hpr, hn, hb]
  unfold callB
  unfold W St.enter at h
  cases hc : evC (lim prog) fn.body (initT 0 (wkZ fn.cin args) .e) { s with lo := s.nb } with
  | none => rw [hc] at h; exact h.elim
  | some t =>
  obtain ⟨x, e, s1⟩ := t
  rw [hc] at h
  have h2 := h
  cases x with
  | x i => exact h2.elim
  | n =>
    obtain ⟨vs, s2, k1, k2, k3, k4⟩ := h2
    simp only [hk]
    rw [k1]
    simp only
    rw [k4, k2.leave k3]
  | r =>
    obtain ⟨vs, s2, k1, k2, k3, k4⟩ := h2
    simp only [hk]
    rw [k1]
    simp only
    rw [k4, k2.leave k3]
/-! Lean choices: of an unknown only the test is looked at. -/
def sel (c : Bool) (a b : AV) : AV := cond c a b
@[congr] theorem sel_congr {c c' : Bool} {a b : AV} (h : c = c') : sel c a b = sel c' a b := by rw [h]
theorem sel_t (a b : AV) : sel true a b = a := rfl
theorem sel_f (a b : AV) : sel false a b = b := rfl
theorem get_set2 (e : Tr) (d : Nat) (v : AV) (t : Nat) (h : d < 1000) : (e.set 10 d v).get t = sel (t == d) v (e.get t) := by
  rw [get_set10 e d v t h]
  by_cases h : t = d
  · subst h; simp [sel]
  · have : (t == d) = false := by simpa using h
    simp [sel, h, this]
def wantV (v : AV) (w : Bool) : AV := match v with
  | .b x => .b (x == w)
  | _ => .b false
theorem wantV_b (x w : Bool) : wantV (.b x) w = .b (x == w) := rfl
theorem wants_CP {e : Tr} {t : Nat} {w : Bool} {A B : Prop} : (if wants e (some (t, w)) = true then A else B) ↔ CP (wantV (e.get t) w) A B := by
  rw [show wants e (some (t, w)) = (match e.get t with | .b x => x == w | _ => false) from rfl]
  generalize e.get t = v
  cases v <;> simp only [wantV, Bool.false_eq_true, if_false, CP]
  rename_i x
  cases x <;> cases w <;> simp
theorem bq_tt : (true == true) = true := rfl
theorem bq_ft : (false == true) = false := rfl
theorem bq_tf : (true == false) = false := rfl
theorem bq_ff : (false == false) = true := rfl
section
variable {σ : Self} {e : Tr} {s : St}
theorem WO_guard2 {R : Tr → St → Prop} (d : Option Nat) (op : AOp) (l : List Op) (t : Nat) (w : Bool) : WO σ (⟨d, op, some (t, w)⟩ :: l) e s R ↔
    CP (wantV (e.get t) w) (WS (evOp σ e s op) (KO σ d l e R)) (WO σ l (put e d undef) s R) := (WO_guard d op l t w).trans wants_CP
theorem WD_guard2 {Q : List (Tr × St) → Tr → St → Prop} (d : Option Nat) (op : AOp) (l : List Op) (tr : List (Tr × St)) (t : Nat) (w : Bool) :
    WD σ (⟨d, op, some (t, w)⟩ :: l) e s tr Q ↔ CP (wantV (e.get t) w) ((Nat.beq op.cls 2 || quiet e s op) = true ∧ WS (evOp σ e s op) (KD σ d l e (tr ++ [(e, s)]) Q)) (WD σ l (put e d undef) s (tr ++ [(e, s)]) Q) := (WD_guard d op l tr t w).trans wants_CP
theorem WS_cut {o : Option (AV × St)} {d : Option Nat} {l : List Op} {R : Tr → St → Prop} (F : Tr → Prop) (hF : F e) (h : ∀ e, F e → WS o (KO σ d l e R)) : WS o (KO σ d l e R) := h e hF
theorem W_cut {c : C} {Q : Ex → Tr → St → Prop} (F : Tr → Prop) (hF : F e) (h : ∀ e, F e → W σ c e s Q) : W σ c e s Q := h e hF
end
theorem prim_call {prog : Nat → Option Fun} {f : Nat} {fn : Fun} {args : List AV} {s : St} {r : AV} {p : List AV → Option AV} (hp : prog f = some fn) (hq : fn.prim = some p) (h : p args = some r) : (lim prog).call f args s = some (r, s) := by
  rw [lim_call]
  unfold callF
  simp only [hp, hq, h, ret1]
end Go.Proofs.YtfaodjpibdhdjaaDoor.Am
