/-
  Range over functions: what an iterator's frames do, and contracts of iterators.
-/
import Derived.Test.YtfaodjpibdhdjaaDoorAmRows
set_option linter.all false
set_option linter.unusedVariables false
set_option linter.unusedSimpArgs false
set_option linter.unusedSectionVars false
set_option linter.constructorNameAsVariable false
namespace Go.Proofs.YtfaodjpibdhdjaaDoor.Am

/-- A frame's own doings: what lies under h, but for the boxes O, is as it was. -/
structure Fr (O : Nat → Prop) (h tB : Nat) (q q' : St) : Prop where
  nb : h ≤ q'.nb
  box : ∀ j, j < h → ¬ O j → q'.box? j = q.box? j
  lo : q.lo < h → q'.lo ≤ q.lo
  tok : (q.nt ≤ q'.nt ∧ ∀ k, k < q.nt → q'.tok? k = q.tok? k) ∨ (h ≤ q.lo ∧ tB ≤ q'.nt ∧ ∀ k, k < q'.nt → q'.tok? k = q.tok? k)
/-- .. ahead of the first round. -/
structure Fr0 (O : Nat → Prop) (h : Nat) (q q' : St) : Prop where
  nb : h ≤ q'.nb
  box : ∀ j, j < h → ¬ O j → q'.box? j = q.box? j
  tok : q.nt ≤ q'.nt ∧ ∀ k, k < q.nt → q'.tok? k = q.tok? k
section
variable {O O1 : Nat → Prop} {h h1 tB : Nat} {q q' s s0 : St}

theorem Fr.weaken (hh : h ≤ h1) (hO : ∀ j, j < h → O1 j → O j) (f : Fr O1 h1 tB q q') : Fr O h tB q q' :=
  ⟨by have := f.nb; omega, fun j hj hn => f.box j (by omega) fun h1 => hn (hO j hj h1), fun hl => f.lo (by omega), f.tok.imp_right fun ⟨a, b⟩ => ⟨by omega, b⟩⟩
theorem Fr0.weaken (hh : h ≤ h1) (hO : ∀ j, j < h → O1 j → O j) (f : Fr0 O1 h1 q q') : Fr0 O h q q' :=
  ⟨by have := f.nb; omega, fun j hj hn => f.box j (by omega) fun h1 => hn (hO j hj h1), f.tok⟩
theorem Fr0.refl (hq : h ≤ q.nb) : Fr0 O h q q := ⟨hq, fun _ _ _ => rfl, Nat.le_refl _, fun _ _ => rfl⟩
theorem Fr0.trans {q2 : St} (f : Fr0 O h q q') (g : Fr0 O h q' q2) : Fr0 O h q q2 :=
  ⟨g.nb, fun j hj hn => (g.box j hj hn).trans (f.box j hj hn), Nat.le_trans f.tok.1 g.tok.1, fun k hk => (g.tok.2 k (by have := f.tok.1; omega)).trans (f.tok.2 k hk)⟩
theorem Fr.to0 (f : Fr O h tB q q') (ht : q.nt ≤ q'.nt) : Fr0 O h q q' :=
  ⟨f.nb, f.box, ht, fun k hk => f.tok.elim (fun t => t.2 k hk) fun t => t.2.2 k (by omega)⟩
theorem Fr.new (hq : h ≤ q.nb) (B : Box) : Fr O h tB q (q.new B) :=
  ⟨by simp [St.new]; omega, fun j hj _ => new_box_lt (by omega), fun _ => Nat.le_refl _, .inl ⟨Nat.le_refl _, fun _ _ => rfl⟩⟩
theorem Fr.setBox (hw : Wf q) (hq : h ≤ q.nb) {id : Nat} (hid : h ≤ id ∨ O id) (h2 : id < q.nb) (B : Box) : Fr O h tB q (q.setBox id B) :=
  ⟨hq, fun j hj hn => by
    rw [setBox_box? hw.b h2, if_neg]
    rintro rfl
    rcases hid with hid | hid
    · omega
    · exact hn hid, fun _ => Nat.le_refl _, .inl ⟨Nat.le_refl _, fun _ _ => rfl⟩⟩
theorem Fr0.enter (hq : h ≤ q.nb) : Fr0 O h q q.enter := ⟨hq, fun _ _ _ => rfl, Nat.le_refl _, fun _ _ => rfl⟩
theorem Fr0.lo (hq : h ≤ q.nb) (n : Nat) : Fr0 O h q { q with lo := n } := ⟨hq, fun _ _ _ => rfl, Nat.le_refl _, fun _ _ => rfl⟩

theorem box_drop {q : St} (hw : Wf q) {n : Nat} (hn : n ≤ q.nb) {x : List (Option Tok)} {a b : Nat} {j : Nat} (hj : j < n) : ({ nb := n, boxes := q.boxes.drop (q.nb - n), nt := a, toks := x, lo := b } : St).box? j = q.box? j := by
  unfold St.box?
  have h1 : Nat.blt j n = true := by rw [Nat.blt_eq]; exact hj
  have h2 : Nat.blt j q.nb = true := by rw [Nat.blt_eq]; omega
  simp only [h1, h2, cond_true, List.getElem?_drop]
  congr 1
  omega
theorem tok_drop {q : St} (hw : Wf q) {n : Nat} (hn : n ≤ q.nt) {x : List Box} {a b : Nat} {j : Nat} (hj : j < n) : ({ nb := a, boxes := x, nt := n, toks := q.toks.drop (q.nt - n), lo := b } : St).tok? j = q.tok? j := by
  unfold St.tok?
  have h1 : Nat.blt j n = true := by rw [Nat.blt_eq]; exact hj
  have h2 : Nat.blt j q.nt = true := by rw [Nat.blt_eq]; omega
  simp only [h1, h2, cond_true, List.getElem?_drop]
  congr 2
  omega

/-- The end of a call: what was under its frame stays. -/
theorem leave_fr (hw : Wf q) (hs : h ≤ s.nb) (hn : s.nb ≤ q.nb) (ht : s.nt ≤ q.nt) (hb : tB ≤ s.nt) {v : AV} (hv : v.refs = false) : Fr O h tB q (leave s q v) ∧ Wf (leave s q v) ∧ s.nb ≤ (leave s q v).nb ∧ s.nt ≤ (leave s q v).nt ∧
    ∀ s0 : St, Over s0 s → Over s0 q → Over s0 (leave s q v) := by
  unfold Am.leave
  rw [hv]
  by_cases hl : s.nb ≤ q.lo
  · have : Nat.ble s.nb q.lo = true := by rw [Nat.ble_eq]; exact hl
    rw [this]
    simp only [Bool.not_false, Bool.and_self, if_true]
    refine ⟨⟨hs, fun j hj _ => box_drop hw hn (by omega), fun hh => by omega, .inr ⟨by omega, hb, fun k hk => tok_drop hw ht hk⟩⟩, ⟨by simp [hw.b]; omega, by simp [hw.t]; omega⟩, Nat.le_refl _, Nat.le_refl _, fun s0 h0 h1 => ⟨h0.nb, ?_, h0.nt, ?_, h0.lo⟩⟩
    · have a := h1.boxes
      have b := h0.nb
      simp only [List.drop_drop]
      rw [show q.nb - s.nb + (s.nb - s0.nb) = q.nb - s0.nb by omega]
      exact a
    · have a := h1.toks
      have b := h0.nt
      simp only [List.drop_drop]
      rw [show q.nt - s.nt + (s.nt - s0.nt) = q.nt - s0.nt by omega]
      exact a
  · have : Nat.ble s.nb q.lo = false := by
      cases hc : Nat.ble s.nb q.lo with
      | false => rfl
      | true => rw [Nat.ble_eq] at hc; exact absurd hc hl
    rw [this]
    simp only [Bool.false_and, Bool.false_eq_true, if_false]
    refine ⟨⟨by show h ≤ q.nb; omega, fun _ _ _ => rfl, fun _ => Nat.min_le_right _ _, .inl ⟨Nat.le_refl _, fun _ _ => rfl⟩⟩, hw.lo _, hn, ht, fun s0 h0 h1 => ⟨h1.nb, h1.boxes, h1.nt, h1.toks, ?_⟩⟩
    show s0.nb ≤ min s.lo q.lo
    have := h0.lo
    have := h1.lo
    omega
end

/-- A piece of code: the way to it. -/
def subC : C → List Nat → C
  | .seq a _, 0 :: p => subC a p
  | .seq _ b, 1 :: p => subC b p
  | .cond _ a _, 0 :: p => subC a p
  | .cond _ _ b, 1 :: p => subC b p
  | .blk _ b, 0 :: p => subC b p
  | .loop b, 0 :: p => subC b p
  | .rf _ _ a _, 0 :: p => subC a p
  | .rf _ _ _ b, 1 :: p => subC b p
  | c, _ => c

theorem W_seq_cut {σ : Self} {a b : C} {e : Tr} {s : St} {Q : Ex → Tr → St → Prop} (P : Tr → St → Prop) (h1 : W σ a e s (fun x e s => x = .n ∧ P e s)) (h2 : ∀ e s, P e s → W σ b e s Q) : W σ (.seq a b) e s Q := by
  rw [W_seq]
  unfold W at h1 ⊢
  cases h : evC σ a e s with
  | none => rw [h] at h1; exact h1
  | some r =>
    obtain ⟨x, e1, s1⟩ := r
    rw [h] at h1
    obtain ⟨rfl, h3⟩ := h1
    exact h2 e1 s1 h3

/-- What a loop's body must do: each round is told one of L. -/
structure Body (prog : Nat → Option Fun) (O : Nat → Prop) (s0 : St) (h tB : Nat) (y : AV) (L : List AV) (I : Nat → St → Prop) (R : St → Prop) : Prop where
  stab : ∀ j q q', I j q → Fr O h tB q q' → I j q'
  stab0 : ∀ q q', I 0 q → Fr0 O h q q' → I 0 q'
  stabR : ∀ q q', R q → Fr O h tB q q' → R q'
  step : ∀ (j : Nat) (hj : j < L.length) q, I j q → Over s0 q → Wf q → h ≤ q.nb → tB ≤ q.nt → ∃ b q', callV (lim prog) y [L[j]] q = some (.b b, q') ∧ (b = true → I (j + 1) q') ∧ (b = false → R q') ∧
    Over s0 q' ∧ Wf q' ∧ q.nb ≤ q'.nb ∧ q.nt ≤ q'.nt ∧ ∀ i, (O i ∨ h ≤ i) → i < q.nb → q'.box? i = q.box? i

/-- A function that tells each of L, in this order, until it is told to stop. -/
def IterOk (prog : Nat → Option Fun) (O : Nat → Prop) (m : Nat) (g : Nat) (caps : List AV) (L : List AV) (s : St) : Prop :=
  ∀ (s0 : St) (h tB ky : Nat) (I : Nat → St → Prop) (R : St → Prop), Body prog O s0 h tB (.yld ky) L I R → I 0 s → Over s0 s → Wf s → h ≤ s.nb → tB ≤ s.nt → s0.nb ≤ h → s0.nb ≤ m →
    ∃ s', (lim prog).call g (.yld ky :: caps) s = some (.tup [], s') ∧ Over s0 s' ∧ Wf s' ∧ s.nb ≤ s'.nb ∧ s.nt ≤ s'.nt ∧ (I L.length s' ∨ R s')

section
variable {prog : Nat → Option Fun}
/-- What the end of a round must come to. -/
def YK (k : Nat) (K : Option C → St → Prop) : Ex → Tr → St → Prop := fun x _ q => ∃ tm ps a b, q.box? k = some (.loop 1 none tm ps a b) ∧
  match x with
  | .n => K none (q.setBox k (.loop 0 none tm ps a b))
  | .x i => K (some (.exit i)) (q.setBox k (.loop 2 (some (.exit i)) tm ps a b))
  | .r => K (some .ret) (q.setBox k (.loop 2 (some .ret) tm ps a b))
theorem lim_codeE (c : C) (e : Tr) (s : St) : (lim prog).code c e s = evC (lim prog) c e s := by rw [lim_code]
theorem callY_W {k : Nat} {tm t : Tr} {ps : List Nat} {a b : C} {args : List AV} {q : St} {K : Option C → St → Prop} (hb : q.box? k = some (.loop 0 none tm ps a b)) (hp : putL ps args tm = some t)
    (h : W (lim prog) a t q (fun x t1 q1 => x = .n ∧ ∃ tm' ps' a' b', q1.box? k = some (.loop 0 none tm' ps' a' b') ∧ W (lim prog) b t1 (q1.setBox k (.loop 1 none tm' ps' a' b')) (YK k K))) :
    ∃ o q', callV (lim prog) (.yld k) args q = some (.b o.isNone, q') ∧ K o q' := by
  unfold callV
  simp only [hb, hp]
  rw [lim_codeE]
  unfold W at h
  cases hc : evC (lim prog) a t q with
  | none => rw [hc] at h; exact h.elim
  | some r =>
    obtain ⟨x, t1, q1⟩ := r
    rw [hc] at h
    obtain ⟨rfl, tm', ps', a', b', h1, h2⟩ := h
    simp only [h1]
    rw [lim_codeE]
    cases hc2 : evC (lim prog) b t1 (q1.setBox k (.loop 1 none tm' ps' a' b')) with
    | none => rw [hc2] at h2; exact h2.elim
    | some r =>
      obtain ⟨x2, t2, q2⟩ := r
      rw [hc2] at h2
      obtain ⟨tm2, ps2, a2, b2, h3, h4⟩ := h2
      cases x2 with
      | n => exact ⟨none, _, by simp only [endY, h3]; rfl, h4⟩
      | x i => exact ⟨some (.exit i), _, by simp only [endY, h3]; rfl, h4⟩
      | r => exact ⟨some .ret, _, by simp only [endY, h3]; rfl, h4⟩

/-- A loop over a function. -/
theorem W_rf {f : X} {ps : List Nat} {a b : C} {e : Tr} {s : St} {Q : Ex → Tr → St → Prop} {g : Nat} {caps : List AV} {r : AV} {s' : St} (hf : f.ev e = .fn g caps)
    (hc : (lim prog).call g (.yld s.nb :: caps) (s.new (.loop 0 none e ps a b)) = some (r, s'))
    (h : ∃ st p tm ps' a' b', s'.box? s.nb = some (.loop st p tm ps' a' b') ∧ st ≠ 1 ∧ match p with
      | none => Q .n e (s'.setBox s.nb .used)
      | some (.exit i) => Q (.x i) e (s'.setBox s.nb .used)
      | some .ret => Q .r e (s'.setBox s.nb .used)
      | _ => False) : W (lim prog) (.rf f ps a b) e s Q := by
  unfold W
  simp only [evC, hf, hc, endR]
  obtain ⟨st, p, tm, ps', a', b', h1, h2, h3⟩ := h
  simp only [h1, if_neg h2]
  cases p with
  | none => exact h3
  | some c => cases c <;> first | exact h3 | exact h3.elim
end

/-- What one round comes to. -/
def RoundK (O : Nat → Prop) (h : Nat) (s0 q : St) (I' R' : St → Prop) (o : Option C) (q' : St) : Prop :=
  (o = none → I' q') ∧ (o ≠ none → R' q') ∧ Over s0 q' ∧ Wf q' ∧ q.nb ≤ q'.nb ∧ q.nt ≤ q'.nt ∧ ∀ i, (O i ∨ h ≤ i) → i < q.nb → q'.box? i = q.box? i
theorem round_step {O : Nat → Prop} {h : Nat} {s0 q : St} {I' R' : St → Prop} {r : Option (AV × St)} (hk : ∃ o q', r = some (.b o.isNone, q') ∧ RoundK O h s0 q I' R' o q') :
    ∃ b q', r = some (.b b, q') ∧ (b = true → I' q') ∧ (b = false → R' q') ∧ Over s0 q' ∧ Wf q' ∧ q.nb ≤ q'.nb ∧ q.nt ≤ q'.nt ∧ ∀ i, (O i ∨ h ≤ i) → i < q.nb → q'.box? i = q.box? i := by
  obtain ⟨o, q', h1, h2, h3, h4⟩ := hk
  exact ⟨_, _, h1, fun ho => h2 (by cases o with | none => rfl | some c => simp at ho), fun ho => h3 (by rintro rfl; simp at ho), h4⟩
/-- The end of a round. -/
theorem round_end {O : Nat → Prop} {k : Nat} {s0 q q2 : St} {I' R' : St → Prop} {x : Ex} {e tm : Tr} {ps : List Nat} {a b : C} (hb : q2.box? k = some (.loop 1 none tm ps a b)) (hk : k < q2.nb) (hw : Wf q2) (hov : Over s0 q2) (h0 : s0.nb ≤ k) (h1 : q.nb ≤ q2.nb) (h2 : q.nt ≤ q2.nt)
    (hO : ¬ O k) (keep : ∀ i, (O i ∨ k + 1 ≤ i) → i < q.nb → q2.box? i = q.box? i) (hI : x = .n → I' (q2.setBox k (.loop 0 none tm ps a b))) (hR : x = .r → R' (q2.setBox k (.loop 2 (some .ret) tm ps a b))) (hX : ∀ i, x = .x i → R' (q2.setBox k (.loop 2 (some (.exit i)) tm ps a b))) :
    YK k (RoundK O (k + 1) s0 q I' R') x e q2 := by
  have key : ∀ B, Over s0 (q2.setBox k B) ∧ Wf (q2.setBox k B) ∧ q.nb ≤ (q2.setBox k B).nb ∧ q.nt ≤ (q2.setBox k B).nt ∧ ∀ i, (O i ∨ k + 1 ≤ i) → i < q.nb → (q2.setBox k B).box? i = q.box? i := fun B =>
    ⟨Over.setBox hov h0 hk _, hw.setBox _ _, h1, h2, fun i hi hlt => by
      rw [setBox_box? hw.b hk, if_neg]
      · exact keep i hi hlt
      · rintro rfl
        rcases hi with hi | hi
        · exact hO hi
        · omega⟩
  refine ⟨tm, ps, a, b, hb, ?_⟩
  cases x with
  | n => exact ⟨fun _ => hI rfl, fun hh => absurd rfl hh, key _⟩
  | x i => exact ⟨fun hh => by simp at hh, fun _ => hX i rfl, key _⟩
  | r => exact ⟨fun hh => by simp at hh, fun _ => hR rfl, key _⟩

/-- A row of es cells a part in a box of its own. -/
def RB (es h tB t0 T Tb id : Nat) (xs : List AV) (q : St) : Prop := ∃ a, q.box? id = some (.cells Tb [a]) ∧ RowE es t0 q T a xs ∧ ∀ k, rowTok a = some k → k < tB ∨ q.lo < h
theorem RB.fr {O : Nat → Prop} {es h tB t0 T Tb id : Nat} {xs : List AV} {q q' : St} (r : RB es h tB t0 T Tb id xs q) (hid : id < h) (hO : ¬ O id) (f : Fr O h tB q q') : RB es h tB t0 T Tb id xs q' := by
  obtain ⟨a, h1, h2, h3⟩ := r
  refine ⟨a, by rw [f.box id hid hO]; exact h1, ?_, fun k hk => (h3 k hk).imp_right fun hl => by have := f.lo hl; omega⟩
  rcases h2 with h2 | ⟨k, v, t, rfl, k1, k2, k3, k4⟩
  · exact .inl h2
  · have hk3 := h3 k rfl
    refine .inr ⟨k, v, t, rfl, k1, ?_, ?_, k4⟩
    · rcases f.tok with ⟨h4, _⟩ | ⟨h4, h5, _⟩
      · omega
      · rcases hk3 with hk3 | hk3 <;> omega
    · rcases f.tok with ⟨h4, h5⟩ | ⟨h4, h5, h6⟩
      · rw [h5 k k2]; exact k3
      · rw [h6 k (by rcases hk3 with hk3 | hk3 <;> omega)]; exact k3
theorem RB.fr0 {O : Nat → Prop} {es h tB t0 T Tb id : Nat} {xs : List AV} {q q' : St} (r : RB es h tB t0 T Tb id xs q) (ht : ∀ a k, q.box? id = some (.cells Tb [a]) → rowTok a = some k → k < tB) (hid : id < h) (hO : ¬ O id) (f : Fr0 O h q q') : RB es h tB t0 T Tb id xs q' := by
  obtain ⟨a, h1, h2, h3⟩ := r
  refine ⟨a, by rw [f.box id hid hO]; exact h1, ?_, fun k hk => .inl (ht a k h1 hk)⟩
  exact h2.mono f.tok.1 fun k hk => f.tok.2 k (h2.tok_lt hk)

/-- A row of parts of es cells each, of which nothing was told: it may be empty. -/
def RowP (es t0 : Nat) (s : St) (T : Nat) (a : AV) (xs : List AV) : Prop :=
  (a = .nsl ∧ xs = []) ∨ ∃ k v t, a = .sl es xs (.tok k v) ∧ t0 ≤ k ∧ k < s.nt ∧ s.tok? k = some t ∧ t.ver = v ∧ t.front = xs.length ∧ t.ty = some T ∧ t.pub = 0
section
variable {es t0 T : Nat} {a y : AV} {xs ys : List AV} {s s' : St}
theorem RowP.tok_lt (h : RowP es t0 s T a xs) {k : Nat} (hk : rowTok a = some k) : k < s.nt := by
  rcases h with ⟨rfl, _⟩ | ⟨k', v, t, rfl, _, h2, _⟩
  · simp [rowTok] at hk
  · simp only [rowTok, Option.some.injEq] at hk; omega
theorem RowP.mono (h : RowP es t0 s T a xs) (hn : s.nt ≤ s'.nt) (ht : ∀ k, rowTok a = some k → s'.tok? k = s.tok? k) : RowP es t0 s' T a xs := by
  rcases h with h | ⟨k, v, t, rfl, h1, h2, h3, h4⟩
  · exact .inl h
  · exact .inr ⟨k, v, t, rfl, h1, by omega, by rw [ht k rfl]; exact h3, h4⟩
theorem app_rowP (hw : Wf s) (ht0 : t0 ≤ s.nt) (hr : RowP es t0 s T a xs) (hy : elems s es y = some ys) (h1 : 1 ≤ ys.length) (hsz : (xs.length + ys.length) * es < 2 ^ 38) :
    ∃ a' s', appA s es T a y = some (a', s') ∧ RowP es t0 s' T a' (xs ++ ys) ∧ Grew t0 s s' a a' ∧ a'.refs = true ∧ a'.cells = [a'] ∧ ones [a'] = true := by
  cases ys with
  | nil => simp at h1
  | cons y0 ys =>
  rcases hr with ⟨rfl, rfl⟩ | ⟨k, v, t, rfl, k1, k2, k3, k4, k5, k6, k7⟩
  · refine ⟨.sl es (y0 :: ys) (.tok s.nt 0), s.newTok (y0 :: ys).length (some T), ?_, ?_, ?_, rfl, rfl, rfl⟩
    · unfold appA
      rw [hy]
      simp only
      rw [if_pos (by simpa using hsz)]
    · exact .inr ⟨s.nt, 0, ⟨(y0 :: ys).length, 0, 0, some T⟩, rfl, ht0, by simp [St.newTok], by rw [newTok_tok?, if_pos rfl], rfl, rfl, rfl, rfl⟩
    · exact { nb := rfl, boxes := rfl, lo := rfl, nt := by simp [St.newTok], over := fun s0 _ _ h => h.withTok _, wf := fun h => h.newTok _ _, toks := fun j hj _ => ⟨by rw [newTok_tok?, if_neg (by omega)], by simp [rowTok]; omega⟩ }
  · refine ⟨.sl es (xs ++ y0 :: ys) (.tok k v), s.setTok k { t with front := xs.length + (y0 :: ys).length }, ?_, ?_, ?_, rfl, rfl, rfl⟩
    · unfold appA
      rw [hy]
      simp only [k3]
      rw [if_pos ⟨trivial, k4, k5, by rw [k6]; simp [tyOk], by simpa using hsz⟩]
    · refine .inr ⟨k, v, { t with front := xs.length + (y0 :: ys).length }, rfl, k1, k2, by rw [setTok_tok? hw.t k2, if_pos rfl], k4, by simp, k6, k7⟩
    · exact { nb := rfl, boxes := rfl, lo := rfl, nt := Nat.le_refl _, over := fun s0 h0 _ h => h.setTok (by omega) k2 _, wf := fun h => h.setTok _ _, toks := fun j hj hne => ⟨by rw [setTok_tok? hw.t k2, if_neg (fun hh => hne (by simp [rowTok, hh]))], by simpa [rowTok] using hne⟩ }
theorem pop_rowP (hw : Wf s) (hr : RowP es t0 s T a xs) (h1 : 1 ≤ xs.length) :
    ∃ a' s', sliceA s true es a none (some (.i .i64 ((xs.length - 1 : Nat) : Int))) none = some (a', s') ∧ RowP es t0 s' T a' xs.dropLast ∧ Grew t0 s s' a a' ∧ a'.refs = true ∧ a'.cells = [a'] ∧ ones [a'] = true := by
  rcases hr with ⟨rfl, rfl⟩ | ⟨k, v, t, rfl, k1, k2, k3, k4, k5, k6, k7⟩
  · simp at h1
  · have hb : bounds xs.length none (some (.i .i64 ((xs.length - 1 : Nat) : Int))) = some (0, xs.length - 1) := by
      unfold bounds
      simp [natOf]
    refine ⟨.sl es xs.dropLast (.tok k (v + 1)), s.setTok k ⟨xs.length - 1, v + 1, t.pub, t.ty⟩, ?_, ?_, ?_, rfl, rfl, rfl⟩
    · unfold sliceA
      have hne : ¬ (True ∧ xs.length - 1 = xs.length) := by omega
      have hc : (true && Nat.beq 0 0 && Nat.beq t.front xs.length && Nat.ble t.pub (xs.length - 1)) = true := by rw [k5, k7]; simp
      simp only [if_true, hb, k3, k4, hc, List.drop_zero, Nat.sub_zero]
      rw [if_neg hne, List.dropLast_eq_take]
    · refine .inr ⟨k, v + 1, ⟨xs.length - 1, v + 1, t.pub, t.ty⟩, rfl, k1, k2, by rw [setTok_tok? hw.t k2, if_pos rfl], rfl, by simp, k6, k7⟩
    · exact { nb := rfl, boxes := rfl, lo := rfl, nt := Nat.le_refl _, over := fun s0 h0 _ h => h.setTok (by omega) k2 _, wf := fun h => h.setTok _ _, toks := fun j hj hne => ⟨by rw [setTok_tok? hw.t k2, if_neg (fun hh => hne (by simp [rowTok, hh]))], by simpa [rowTok] using hne⟩ }
theorem RowP.cells (h : RowP es t0 s T a xs) : a.cells = [a] ∧ ones [a] = true := by
  rcases h with ⟨rfl, _⟩ | ⟨k, v, t, rfl, _⟩ <;> exact ⟨rfl, rfl⟩
end
/-- .. in a box of its own. -/
def RP (es h tB t0 T Tb id : Nat) (xs : List AV) (q : St) : Prop := ∃ a, q.box? id = some (.cells Tb [a]) ∧ RowP es t0 q T a xs ∧ ∀ k, rowTok a = some k → k < tB ∨ q.lo < h
theorem RP.fr {O : Nat → Prop} {es h tB t0 T Tb id : Nat} {xs : List AV} {q q' : St} (r : RP es h tB t0 T Tb id xs q) (hid : id < h) (hO : ¬ O id) (f : Fr O h tB q q') : RP es h tB t0 T Tb id xs q' := by
  obtain ⟨a, h1, h2, h3⟩ := r
  refine ⟨a, by rw [f.box id hid hO]; exact h1, ?_, fun k hk => (h3 k hk).imp_right fun hl => by have := f.lo hl; omega⟩
  rcases h2 with h2 | ⟨k, v, t, rfl, k1, k2, k3, k4⟩
  · exact .inl h2
  · have hk3 := h3 k rfl
    refine .inr ⟨k, v, t, rfl, k1, ?_, ?_, k4⟩
    · rcases f.tok with ⟨h4, _⟩ | ⟨h4, h5, _⟩
      · omega
      · rcases hk3 with hk3 | hk3 <;> omega
    · rcases f.tok with ⟨h4, h5⟩ | ⟨h4, h5, h6⟩
      · rw [h5 k k2]; exact k3
      · rw [h6 k (by rcases hk3 with hk3 | hk3 <;> omega)]; exact k3
theorem RP.fr0 {O : Nat → Prop} {es h tB t0 T Tb id : Nat} {xs : List AV} {q q' : St} (r : RP es h tB t0 T Tb id xs q) (ht : ∀ a k, q.box? id = some (.cells Tb [a]) → rowTok a = some k → k < tB) (hid : id < h) (hO : ¬ O id) (f : Fr0 O h q q') : RP es h tB t0 T Tb id xs q' := by
  obtain ⟨a, h1, h2, h3⟩ := r
  refine ⟨a, by rw [f.box id hid hO]; exact h1, ?_, fun k hk => .inl (ht a k h1 hk)⟩
  exact h2.mono f.tok.1 fun k hk => f.tok.2 k (h2.tok_lt hk)
/-- A row is stored into its box. -/
theorem RP.store {es h tB t0 T Tb id : Nat} {a a' : AV} {xs : List AV} {q q2 : St} (hb : q.box? id = some (.cells Tb [a])) (hg : Grew t0 q q2 a a') (hr : RowP es t0 q2 T a' xs) (hc : a'.cells = [a'] ∧ ones [a'] = true) (href : a'.refs = true) (hw : Wf q) (hid : id < h) (hq : id < q.nb) :
    ∃ q3, stA q2 1 (.p id 0) a' = some q3 ∧ RP es h tB t0 T Tb id xs q3 ∧ q3.nb = q.nb ∧ q.nt ≤ q3.nt ∧ Wf q3 ∧ (∀ i, i ≠ id → q3.box? i = q.box? i) ∧ ∀ s0 : St, s0.nb ≤ id → s0.nt ≤ t0 → s0.nt ≤ q.nt → Over s0 q → Over s0 q3 := by
  have hb2 : q2.box? id = some (.cells Tb [a]) := by rw [← hb]; simp [St.box?, hg.nb, hg.boxes]
  have w2 := hg.wf hw
  have e := st_box (s := q2) (v := a') (off := 0) hb2 hc.1 hc.2 (by simp)
  obtain ⟨n, e1, e2, e3⟩ := esc_eq (q2.setBox id (.cells Tb ([a].set 0 a'))) id a'
  have hset : ([a].set 0 a') = [a'] := rfl
  rw [hset] at e e1 e2
  have hbx : ∀ i, ({ q2.setBox id (.cells Tb [a']) with lo := n } : St).box? i = if i = id then some (.cells Tb [a']) else q2.box? i := fun i => setBox_box? w2.b (by rw [hg.nb]; exact hq) i
  rw [e1] at e
  refine ⟨_, e, ⟨a', by rw [hbx, if_pos rfl], ?_, fun k _ => .inr (by have := e3 href; show n < h; omega)⟩, hg.nb, hg.nt, (w2.setBox _ _).lo n, fun i hi => by rw [hbx, if_neg hi]; simp [St.box?, hg.nb, hg.boxes], fun s0 h1 h2 h3 h4 => Over.setLo (Over.setBox (hg.over s0 h2 h3 h4) h1 (by rw [hg.nb]; exact hq) _) ?_⟩
  · exact hr.mono (Nat.le_refl _) fun k _ => rfl
  · have hlo := h4.lo
    have : esc (q2.setBox id (.cells Tb [a'])) id a' = ({ q2.setBox id (.cells Tb [a']) with lo := n } : St) := e1
    have h5 : n = (esc (q2.setBox id (.cells Tb [a'])) id a').lo := by rw [this]
    rw [h5]
    unfold Am.esc
    split <;> first
      | (show s0.nb ≤ min q2.lo id; rw [hg.lo]; omega)
      | (show s0.nb ≤ q2.lo; rw [hg.lo]; omega)
end Go.Proofs.YtfaodjpibdhdjaaDoor.Am
